-- Out of the kit's print, with contracts of mine among it (myprint.py).
import Derived.Test.YtkmcnjpgamaljaaGreatDoorPFnFilesx0
import Derived.Test.YtkmcnjpgamaljaaGreatDoorPFnFilesx2
import Derived.Test.YtkmcnjpgamaljaaGreatDoorPFnFilesx3
import Derived.Test.YtkmcnjpgamaljaaGreatDoorPFnFilesx8
import Derived.Test.YtkmcnjpgamaljaaGreatDoorPFnFilesx11
import Derived.Test.YtkmcnjpgamaljaaGreatDoorPFnFilesx17
namespace Go.Proofs.YtkmcnjpgamaljaaGreatDoor.PFnFiles
open Go.RowKit Go.Proofs.YtkmcnjpgamaljaaGreatDoorW.PrintWords Go.Proofs.YtkmcnjpgamaljaaGreatDoorW.PrintLast Go.Proofs.YtkmcnjpgamaljaaGreatDoorW.PrintMore
attribute [local go_sem] max2_int min2_int max_two min_two max_three min_three max_four min_four   -- for this text's walks alone
set_option linter.unusedVariables false
set_option linter.unusedSimpArgs false

/-! ### spec_ReadFiles: function 11 -/
abbrev bt0_18 : Array Bool := #[false, false, false, false, false, false, false, false, false]
abbrev bt1_18 : Array Bool := #[true, false, false, false, false, false, false, false, false]
abbrev bt2_18 : Array Bool := #[true, true, false, false, false, false, false, false, false]
abbrev bt3_18 : Array Bool := #[true, true, true, false, false, false, false, false, false]
abbrev bt4_18 : Array Bool := #[true, true, true, true, false, false, false, false, false]
mutual
def spec_ReadFiles.j0 : Nat → ByteArray → List (S33) → List Int → Int → Bool → Option ((List (S33)) × Bool)
 | 0, _, _, _, _, _ => none
 | k + 1, x0, x4, x5, x6, x24 => if x24 = true then (some (x4, false)) else (spec_ReadFiles.l0 k x0 x4 x5 x6 0)
def spec_ReadFiles.l0 : Nat → ByteArray → List (S33) → List Int → Int → Int → Option ((List (S33)) × Bool)
 | 0, _, _, _, _, _ => none
 | k + 1, x0, x4, x5, x6, x7 => if 0 < (x5.length : Int) then (if x7 < (rd x5 0) then ((spec_l12Take.f k x0 x6).bind fun bt511 => ((spec_l12Take.f k x0 bt511.2).bind fun bt513 => (if bt513.2 < 0 then (some ((([] : List (S33))), false)) else (if x4.length < 4398046511104 then (spec_ReadFiles.l0 k x0 (x4 ++ [(⟨bt511.1, bt513.1⟩ : S33)]) x5 bt513.2 (wrap64 (x7 + 1))) else (none))))) else ((spec_ShowFiles.f k x4).bind fun t507 => (if t507.toList = x0.toList then (some (x4, true)) else (some ((([] : List (S33))), false))))) else (none)
end
def spec_ReadFiles.f (k : Nat) (a0 : ByteArray) : Option ((List (S33)) × Bool) := (some (([] : List (S33)) : List (S33))).bind fun y498 => ((spec_l12Vars.f k a0 1 1).bind fun bt501 => (if bt501.2 < 0 then (spec_ReadFiles.j0 k a0 y498 bt501.1 bt501.2 true) else (if 0 < (bt501.1.length : Int) then (spec_ReadFiles.j0 k a0 y498 bt501.1 bt501.2 (decide ((rd bt501.1 0) > 8))) else (none))))
theorem spec_ReadFiles.mono_l : ∀ k, (∀ y0 y1 y2 y3 y4, LeO (spec_ReadFiles.j0 k y0 y1 y2 y3 y4) (spec_ReadFiles.j0 (k + 1) y0 y1 y2 y3 y4)) ∧ (∀ y0 y1 y2 y3 y4, LeO (spec_ReadFiles.l0 k y0 y1 y2 y3 y4) (spec_ReadFiles.l0 (k + 1) y0 y1 y2 y3 y4))
 | 0 => ⟨fun _ _ _ _ _ r h => by simp [spec_ReadFiles.j0] at h, fun _ _ _ _ _ r h => by simp [spec_ReadFiles.l0] at h⟩
 | k + 1 => by
  obtain ⟨ih0, ih1⟩ := spec_ReadFiles.mono_l k
  refine ⟨?_, ?_⟩
  ·intro y0 y1 y2 y3 y4
   unfold spec_ReadFiles.j0
   repeat' (first | (with_reducible first | exact ih0 _ _ _ _ _ | exact ih1 _ _ _ _ _ | exact spec_ShowFiles.mono _ _ | exact spec_l12Take.mono _ _ _ | exact spec_l12Vars.mono _ _ _ _ | exact LeO.refl _ | exact LeO.none _ | refine LeO.ite ?_ ?_ | refine LeO.bind ?_ (fun _ => ?_)) | exact LeO.none _ | refine LeO.ite ?_ ?_ | refine LeO.bind ?_ (fun _ => ?_))
  ·intro y0 y1 y2 y3 y4
   unfold spec_ReadFiles.l0
   repeat' (first | (with_reducible first | exact ih0 _ _ _ _ _ | exact ih1 _ _ _ _ _ | exact spec_ShowFiles.mono _ _ | exact spec_l12Take.mono _ _ _ | exact spec_l12Vars.mono _ _ _ _ | exact LeO.refl _ | exact LeO.none _ | refine LeO.ite ?_ ?_ | refine LeO.bind ?_ (fun _ => ?_)) | exact LeO.none _ | refine LeO.ite ?_ ?_ | refine LeO.bind ?_ (fun _ => ?_))
theorem spec_ReadFiles.mono : ∀ a0 k, LeO (spec_ReadFiles.f k a0) (spec_ReadFiles.f (k + 1) a0) := by
 intro a0 k
 obtain ⟨ih0, ih1⟩ := spec_ReadFiles.mono_l k
 unfold spec_ReadFiles.f
 repeat' (first | (with_reducible first | exact ih0 _ _ _ _ _ | exact ih1 _ _ _ _ _ | exact spec_ShowFiles.mono _ _ | exact spec_l12Take.mono _ _ _ | exact spec_l12Vars.mono _ _ _ _ | exact LeO.refl _ | exact LeO.none _ | refine LeO.ite ?_ ?_ | refine LeO.bind ?_ (fun _ => ?_)) | exact LeO.none _ | refine LeO.ite ?_ ?_ | refine LeO.bind ?_ (fun _ => ?_))
set_option maxHeartbeats 8000000 in
set_option maxRecDepth 100000 in
theorem spec_ReadFiles.calls (k : Nat) (a0 : ByteArray) (r1 : List (S33)) (r2 : Bool) (w : World) (h : spec_ReadFiles.f k a0 = some (r1, r2)) :
  Calls Tryz.prog 11 #[.string a0] w fun e w' => ∃ v0_ : Value, e = .returned (.tuple #[v0_, .bool r2]) ∧ Kd.R k33 33 w' w.heap.size (fun _ => True) v0_ r1 ∧ Below w.heap.size w w' := by
 have hu33 := Tryz.underlying33
 have HB := Aside0.mk (Below.refl w.heap.size w)
 try unfold spec_ReadFiles.f at h
 have H := h
 clear h
 replace H := bsm H
 obtain ⟨y498, hy498, H⟩ := H
 try dsimp only at H
 have Ny498 := Aside0.mk hy498
 clear hy498
 replace H := bnd H
 obtain ⟨⟨t501, t502⟩, A2, H⟩ := H
 try dsimp only at H
 have HC3 := Aside0.mk H
 clear H
 go_enter Tryz.func11, Tryz.ntmps11
 go_upto_region 3 with (first | ((with_reducible refine gate_dst (N := 11) rfl ?_); refine Kd.R_lit k33 _ 33 ?hg (N := 11) ?hd (xs := ([] : List (S33))) (inner := []) (ok := fun _ => True) (okp := fun _ => True) ?hr ?hp (fun _ hk => hk) trivial (Below.refl _ _) (Nat.le_refl _) (by simp) ?_; (case hd => rfl); (case hg => rfl); (case hr => first | (go_simp; done) | (go_simp; rfl)); (case hp => exact (Reps.none _ _)); intro v499 w4 ho5 hb hg_ hnew_; clear hg_ hnew_; (first | rw [← Ny498.out] at ho5 | (simp only [Int.reduceToNat] at ho5; rw [← Ny498.out] at ho5)); have n0_ := Aside0.mk (Kd.R_lower ho5 (below_size zt3)); have n1_ := Aside0.mk (below_step zt3 hb); clear HB; have HO500 := n0_; have HB := n1_; clear n0_ n1_; clear hb ho5) | ((with_reducible refine gate_callee (f := 32) rfl ?_); refine goesL_ (some 14) rfl rfl Tryz.func32 (by kernel_rfl) rfl #[.string a0, .int .i64 1, .int .i64 1] rfl zt7 ?_; (with_reducible refine (spec_l12Vars.calls k a0 1 1 t501 t502 _ A2.out).mono ?_); rintro e w6 ⟨v503, rfl, ho0, hb⟩; refine ⟨_, rfl, ?_⟩; have n0_ := Aside0.mk (Kd.R_below (rz HO500.out) hb); have n1_ := Aside0.mk (Kd.R_lower ho0 (below_size zt3)); have n2_ := Aside0.mk (below_step zt3 hb); clear HO500; clear HB; have HO500 := n0_; have HO504 := n1_; have HB := n2_; clear n0_ n1_ n2_; (try clear hb); (try clear hb2); (try clear hk); (try clear hi); (try clear ho0)))
 (try simp only [Act.put, List.setIfInBounds_toArray, List.set_cons_zero, List.set_cons_succ])
 go_cut [24] (fun v24 wc => ∃ (kq : Nat) (x24_2 : Bool), v24 = .bool x24_2 ∧ Aside0 (spec_ReadFiles.j0 kq a0 y498 t501 t502 x24_2 = some (r1, r2)) ∧ Aside0 (kq ≤ k) ∧ Aside0 (Kd.R k33 33 wc w.heap.size (fun _ => True) v499 y498) ∧ Aside0 (Kd.R (Kd.int .i64) 3 wc w.heap.size (fun _ => True) v503 t501) ∧ Aside0 (Below w.heap.size w wc))
 case first =>
  have H := HC3.out
  clear HC3
  by_cases c7 : t502 < 0
  rw [if_pos c7] at H
  have c7b0 : decide (t502 < 0) = true := decide_eq_true c7
  clear c7
  (first | rw [c7b0] | (simp only [i64_w, i32_w]; rw [c7b0]) | skip)
  have H' := Aside0.mk H
  clear H
  rotate_left
  rw [if_neg c7] at H
  have c7b0 : decide (t502 < 0) = false := decide_eq_false c7
  clear c7
  (first | rw [c7b0] | (simp only [i64_w, i32_w]; rw [c7b0]) | skip)
  replace H := it0 H
  obtain ⟨c8, H⟩ := H
  have c8b0 := decide_eq_true c8
  have c8b1 : decide (0 < t501.length) = true := decide_eq_true (by omega)
  clear c8
  have H' := Aside0.mk H
  clear H
  obtain ⟨Ao9, co9, eo9⟩ := Kd.R_slice HO504.out
  subst eo9
  have p505 : 0 ≤ (0 : Int) := (by omega)
  have q505 : 0 < (t501.length : Int) := of_decide_eq_true zt8
  obtain ⟨ad505, e505, hx505_0⟩ := Kd.at_int (Kd.R_reads' HO504.out).2.2 0 p505 q505
  cases e505
  have qi505 : (0 < t501.length) = True := eq_true (by omega)
  (try rw [show ((0 : Int)).toNat = 0 from rfl] at hx505_0)
  (try rw [Addr.add_zero'] at hx505_0)
  replace p505 := eq_true p505
  replace q505 := eq_true q505
  rotate_left
  all_goals
   repeat (go_wp2; first | go_quiet (fail) | (go_meet; (case rel => exact ⟨_, (true), zt12, H', ⟨by first | omega | exact Nat.le_refl _⟩, ⟨by (with_reducible repeat (first | apply Kd.R_alloc | apply Kd.R_drewN | apply Kd.R_drew)); (first | exact HO500.out | exact Kd.R_mono HO500.out (fun k_ h_ => by first | exact h_ | (simpa [Value.ownBlock] using h_) | (have e_ : ∀ (A : Option Addr) (n m c : Nat), (Value.slice A n c).ownBlock = (Value.slice A m c).ownBlock := (fun A n m c => by cases A <;> rfl); rw [e_ _ _ 0 _] at h_ ⊢; exact h_)))⟩, ⟨by (with_reducible repeat (first | apply Kd.R_alloc | apply Kd.R_drewN | apply Kd.R_drew)); (first | exact HO504.out | exact Kd.R_mono HO504.out (fun k_ h_ => by first | exact h_ | (simpa [Value.ownBlock] using h_) | (have e_ : ∀ (A : Option Addr) (n m c : Nat), (Value.slice A n c).ownBlock = (Value.slice A m c).ownBlock := (fun A n m c => by cases A <;> rfl); rw [e_ _ _ 0 _] at h_ ⊢; exact h_)))⟩, ⟨zt3⟩⟩)) | (go_meet; (case rel => exact ⟨_, (decide ((rd t501 0) > 8)), zt12, H', ⟨by first | omega | exact Nat.le_refl _⟩, ⟨by (with_reducible repeat (first | apply Kd.R_alloc | apply Kd.R_drewN | apply Kd.R_drew)); (first | exact HO500.out | exact Kd.R_mono HO500.out (fun k_ h_ => by first | exact h_ | (simpa [Value.ownBlock] using h_) | (have e_ : ∀ (A : Option Addr) (n m c : Nat), (Value.slice A n c).ownBlock = (Value.slice A m c).ownBlock := (fun A n m c => by cases A <;> rfl); rw [e_ _ _ 0 _] at h_ ⊢; exact h_)))⟩, ⟨by (with_reducible repeat (first | apply Kd.R_alloc | apply Kd.R_drewN | apply Kd.R_drew)); (first | exact HO504.out | exact Kd.R_mono HO504.out (fun k_ h_ => by first | exact h_ | (simpa [Value.ownBlock] using h_) | (have e_ : ∀ (A : Option Addr) (n m c : Nat), (Value.slice A n c).ownBlock = (Value.slice A m c).ownBlock := (fun A n m c => by cases A <;> rfl); rw [e_ _ _ 0 _] at h_ ⊢; exact h_)))⟩, ⟨zt3⟩⟩)))
 case rest =>
  clear HC3
  try clear c1
  try clear p2
  try clear c3
  try clear p5
  try clear q5
  try clear hx5
  try clear qi5
  try clear c7
  try clear c7b0
  try clear c8
  try clear c8b0
  try clear c8b1
  try clear hx505_0
  try clear p505
  try clear q505
  obtain ⟨kq, x24_2, rfl, HA, HJ2, HO_4, HO_5, HB⟩ := hcut
  cases kq with
  | zero => exact absurd HA.out (by simp [spec_ReadFiles.j0])
  | succ kj2 =>
   have H := HA.out
   clear HA
   simp only [spec_ReadFiles.j0] at H
   by_cases c10 : x24_2 = true
   ·subst c10
    rw [if_pos rfl] at H
    simp only [Option.some.injEq, Prod.mk.injEq] at H
    obtain ⟨rfl, rfl⟩ := H
    go_wp2
    go_ret2
    exact ⟨_, zt10, zt38, zt3⟩
   ·replace c10 := Bool.eq_false_iff.mpr c10
    subst c10
    rw [if_neg (show ¬ (false = true) by decide)] at H
    have H' := Aside0.mk H
    clear H
    go_wp2
    go_loopg [4, 6, 7] kj2 (fun kq v4 v6 v7 w' => ∃ (x4_2 : List (S33)) (x6_2 : Int) (x7_2 : Int), v6 = .int .i64 x6_2 ∧ v7 = .int .i64 x7_2 ∧ Aside0 (spec_ReadFiles.l0 kq a0 x4_2 t501 x6_2 x7_2 = some (r1, r2)) ∧ Aside0 (kq ≤ kj2) ∧ Aside0 (Kd.R k33 33 w' w.heap.size (fun _ => True) v4 x4_2) ∧ Aside0 (Kd.R (Kd.int .i64) 3 w' w.heap.size (fun _ => True) v503 t501) ∧ Aside0 (Below w.heap.size w w'))
    case atStart => exact ⟨(y498), (t502), (0), zt12, zt12, H', ⟨Nat.le_refl _⟩, ⟨zt38⟩, ⟨by (with_reducible repeat (first | apply Kd.R_alloc | apply Kd.R_drewN | apply Kd.R_drew)); exact HO_5.out⟩, ⟨zt3⟩⟩
    case round =>
     clear H'
     try clear c1
     try clear p2
     try clear c3
     try clear p5
     try clear q5
     try clear hx5
     try clear qi5
     try clear c7
     try clear c7b0
     try clear c8
     try clear c8b0
     try clear c8b1
     try clear c10
     try clear hx505_0
     try clear p2
     try clear p5
     try clear p505
     try clear q5
     try clear q505
     obtain ⟨x4_2, x6_2, x7_2, rfl, rfl, HA, HK2, HO_4, HO_5, HB⟩ := hrel
     cases gk with
     | zero => exact absurd HA.out (by simp [spec_ReadFiles.l0])
     | succ k2 =>
      have H := HA.out
      clear HA
      simp only [spec_ReadFiles.l0] at H
      replace H := it0 H
      obtain ⟨c11, H⟩ := H
      have c11b0 := decide_eq_true c11
      have c11b1 : decide (0 < t501.length) = true := decide_eq_true (by omega)
      clear c11
      by_cases c12 : x7_2 < (rd t501 0)
      rw [if_pos c12] at H
      have c12b0 := decide_eq_true c12
      clear c12
      replace H := bnd H
      obtain ⟨⟨t511, t512⟩, A13, H⟩ := H
      try dsimp only at H
      replace H := bnd H
      obtain ⟨⟨t513, t514⟩, A14, H⟩ := H
      try dsimp only at H
      by_cases c15 : t514 < 0
      rw [if_pos c15] at H
      have c15b0 : decide (t514 < 0) = true := decide_eq_true c15
      clear c15
      obtain ⟨y515, hy515⟩ : ∃ y_ : List (S33), y_ = (([] : List (S33))) := ⟨_, rfl⟩
      replace H : (some (y515, false)) = some (r1, r2) := by first | (rw [hy515]; with_reducible exact H) | (have H2_ := (Option.bind_some _ _).symm.trans H; rw [hy515]; with_reducible exact H2_) | (have H2_ := (Option.bind_some _ _).symm.trans H; with_reducible exact H2_) | with_reducible exact H | (rw [hy515]; exact H) | exact H
      have Ny515 := Aside0.mk hy515
      clear hy515
      simp only [Option.some.injEq, Prod.mk.injEq] at H
      obtain ⟨rfl, rfl⟩ := H
      obtain ⟨Ao16, co16, eo16⟩ := Kd.R_slice HO_5.out
      subst eo16
      have p506 : 0 ≤ (0 : Int) := (by omega)
      have q506 : 0 < (t501.length : Int) := of_decide_eq_true zt8
      obtain ⟨ad506, e506, hx506_0⟩ := Kd.at_int (Kd.R_reads' HO_5.out).2.2 0 p506 q506
      cases e506
      have qi506 : (0 < t501.length) = True := eq_true (by omega)
      (try rw [show ((0 : Int)).toNat = 0 from rfl] at hx506_0)
      (try rw [Addr.add_zero'] at hx506_0)
      replace p506 := eq_true p506
      replace q506 := eq_true q506
      rotate_left
      rw [if_neg c15] at H
      have c15b0 : decide (t514 < 0) = false := decide_eq_false c15
      clear c15
      replace H := it0 H
      obtain ⟨c21, H⟩ := H
      have LMc21 := Aside0.mk c21
      clear c21
      obtain ⟨y518, hy518⟩ : ∃ y_ : List (S33), y_ = (x4_2 ++ [(⟨t511, t513⟩ : S33)]) := ⟨_, rfl⟩
      replace H : (spec_ReadFiles.l0 k2 a0 y518 t501 t514 (wrap64 (x7_2 + 1))) = some (r1, r2) := by first | (rw [hy518]; with_reducible exact H) | (have H2_ := (Option.bind_some _ _).symm.trans H; rw [hy518]; with_reducible exact H2_) | (have H2_ := (Option.bind_some _ _).symm.trans H; with_reducible exact H2_) | with_reducible exact H | (rw [hy518]; exact H) | exact H
      have Ny518 := Aside0.mk hy518
      clear hy518
      have H' := Aside0.mk H
      clear H
      obtain ⟨Ao22, co22, eo22⟩ := Kd.R_slice HO_5.out
      subst eo22
      have p506 : 0 ≤ (0 : Int) := (by omega)
      have q506 : 0 < (t501.length : Int) := of_decide_eq_true zt8
      obtain ⟨ad506, e506, hx506_0⟩ := Kd.at_int (Kd.R_reads' HO_5.out).2.2 0 p506 q506
      cases e506
      have qi506 : (0 < t501.length) = True := eq_true (by omega)
      (try rw [show ((0 : Int)).toNat = 0 from rfl] at hx506_0)
      (try rw [Addr.add_zero'] at hx506_0)
      replace p506 := eq_true p506
      replace q506 := eq_true q506
      rotate_left
      rw [if_neg c12] at H
      have c12b0 := decide_eq_false c12
      clear c12
      replace H := bnd H
      obtain ⟨t507, A26, H⟩ := H
      try dsimp only at H
      by_cases c27 : t507.toList = a0.toList
      rw [if_pos c27] at H
      have c27b0 := beq_iff_eq.mpr c27
      have c27b1 := bne_eq_false_iff_eq.mpr c27
      clear c27
      simp only [Option.some.injEq, Prod.mk.injEq] at H
      obtain ⟨rfl, rfl⟩ := H
      obtain ⟨Ao28, co28, eo28⟩ := Kd.R_slice HO_5.out
      subst eo28
      have p506 : 0 ≤ (0 : Int) := (by omega)
      have q506 : 0 < (t501.length : Int) := of_decide_eq_true zt8
      obtain ⟨ad506, e506, hx506_0⟩ := Kd.at_int (Kd.R_reads' HO_5.out).2.2 0 p506 q506
      cases e506
      have qi506 : (0 < t501.length) = True := eq_true (by omega)
      (try rw [show ((0 : Int)).toNat = 0 from rfl] at hx506_0)
      (try rw [Addr.add_zero'] at hx506_0)
      replace p506 := eq_true p506
      replace q506 := eq_true q506
      obtain ⟨Ao29, co29, eo29⟩ := Kd.R_slice HO_4.out
      subst eo29
      rotate_left
      rw [if_neg c27] at H
      have c27b0 := beq_eq_false_iff_ne.mpr c27
      have c27b1 := bne_iff_ne.mpr c27
      obtain ⟨y508, hy508⟩ : ∃ y_ : List (S33), y_ = (([] : List (S33))) := ⟨_, rfl⟩
      replace H : (some (y508, false)) = some (r1, r2) := by first | (rw [hy508]; with_reducible exact H) | (have H2_ := (Option.bind_some _ _).symm.trans H; rw [hy508]; with_reducible exact H2_) | (have H2_ := (Option.bind_some _ _).symm.trans H; with_reducible exact H2_) | with_reducible exact H | (rw [hy508]; exact H) | exact H
      have Ny508 := Aside0.mk hy508
      clear hy508
      simp only [Option.some.injEq, Prod.mk.injEq] at H
      obtain ⟨rfl, rfl⟩ := H
      obtain ⟨Ao31, co31, eo31⟩ := Kd.R_slice HO_5.out
      subst eo31
      have p506 : 0 ≤ (0 : Int) := (by omega)
      have q506 : 0 < (t501.length : Int) := of_decide_eq_true zt8
      obtain ⟨ad506, e506, hx506_0⟩ := Kd.at_int (Kd.R_reads' HO_5.out).2.2 0 p506 q506
      cases e506
      have qi506 : (0 < t501.length) = True := eq_true (by omega)
      (try rw [show ((0 : Int)).toNat = 0 from rfl] at hx506_0)
      (try rw [Addr.add_zero'] at hx506_0)
      replace p506 := eq_true p506
      replace q506 := eq_true q506
      obtain ⟨Ao32, co32, eo32⟩ := Kd.R_slice HO_4.out
      subst eo32
      rotate_left
      all_goals
       repeat (go_wp2_with (first | ((with_reducible refine gate_builtin (b := .append) (xs := #[.tmp 48, .tmp 52]) rfl ?_); at_builtin; refine Kd.R_append k33 (w0 := w) w.heap.size rfl (.tmp 48) (.tmp 52) 24 33 (.agg #[(.string ⟨#[]⟩), (.string ⟨#[]⟩)]) 32 rfl Tryz.underlying24 info33 rfl (by decide) (by omega) u4 x4_2 (⟨t511, t513⟩ : S33) [.string t511, .string t513] (fun _ => True) (fun _ => False) rfl rfl ?aP (fun _ hk => hk.elim) ?aF ?aO ?aB ?aS ?aL ?_; (case aP => exact k33_mkM _ _ _ (⟨t511, t513⟩ : S33)); (case aB => exact zt3); (case aF => exact (fun _ _ => trivial)); (case aO => exact (rz HO_4.out)); (case aS => exact (below_size zt3)); (case aL => have := LMc21.out; omega); intro v7002 w7003 ho hb hg hat; rw [← Ny518.out] at ho; have n0_ := Aside0.mk (Kd.R_over' (rz HO_5.out) (Kd.R_typed (rz HO_4.out)) (by decide) hg); have n1_ := Aside0.mk (hb); have n2_ := Aside0.mk (ho); clear HO_5; clear HB; clear HO_4; have HO_5 := n0_; have HB := n1_; have HO7004 := n2_; clear n0_ n1_ n2_; clear ho hb hg hat) | ((with_reducible refine gate_dst (N := 47) rfl ?_); refine Kd.R_lit k33 _ 33 ?hg (N := 47) ?hd (xs := ([] : List (S33))) (inner := []) (ok := fun _ => True) (okp := fun _ => True) ?hr ?hp (fun _ hk => hk) trivial (Below.refl _ _) (Nat.le_refl _) (by simp) ?_; (case hd => rfl); (case hg => rfl); (case hr => first | (go_simp; done) | (go_simp; rfl)); (case hp => exact (Reps.none _ _)); intro v7002 w7003 ho7004 hb hg_ hnew_; clear hg_ hnew_; (first | rw [← Ny515.out] at ho7004 | (simp only [Int.reduceToNat] at ho7004; rw [← Ny515.out] at ho7004)); have n0_ := Aside0.mk (Kd.R_elder' (rz HO_4.out) (Kd.R_base ho7004) hb); have n1_ := Aside0.mk (Kd.R_below (rz HO_5.out) hb); have n2_ := Aside0.mk (Kd.R_lower (Kd.R_new' ho7004 (Kd.R_lt (rz HO_4.out))) (below_size zt3)); have n3_ := Aside0.mk (below_step zt3 hb); clear HO_4; clear HO_5; clear HB; have HO_4 := n0_; have HO_5 := n1_; have HO7005 := n2_; have HB := n3_; clear n0_ n1_ n2_ n3_; clear hb ho7004) | ((with_reducible refine gate_dst (N := 59) rfl ?_); refine Kd.R_lit k33 _ 33 ?hg (N := 59) ?hd (xs := ([] : List (S33))) (inner := []) (ok := fun _ => True) (okp := fun _ => True) ?hr ?hp (fun _ hk => hk) trivial (Below.refl _ _) (Nat.le_refl _) (by simp) ?_; (case hd => rfl); (case hg => rfl); (case hr => first | (go_simp; done) | (go_simp; rfl)); (case hp => exact (Reps.none _ _)); intro v7001 w7002 ho7003 hb hg_ hnew_; clear hg_ hnew_; (first | rw [← Ny508.out] at ho7003 | (simp only [Int.reduceToNat] at ho7003; rw [← Ny508.out] at ho7003)); have n0_ := Aside0.mk (Kd.R_elder' (rz HO_4.out) (Kd.R_base ho7003) hb); have n1_ := Aside0.mk (Kd.R_below (rz HO_5.out) hb); have n2_ := Aside0.mk (Kd.R_lower (Kd.R_new' ho7003 (Kd.R_lt (rz HO_4.out))) (below_size zt3)); have n3_ := Aside0.mk (below_step zt3 hb); clear HO_4; clear HO_5; clear HB; have HO_4 := n0_; have HO_5 := n1_; have HO7004 := n2_; have HB := n3_; clear n0_ n1_ n2_ n3_; clear hb ho7003) | ((with_reducible refine gate_callee (f := 28) rfl ?_); refine goesL_ (some 56) rfl rfl Tryz.func28 (by kernel_rfl) rfl #[.slice Ao29 x4_2.length co29] rfl zt7 ?_; (with_reducible refine (spec_ShowFiles.calls k2 _ _ x4_2 t507 _ ?side1 ?side2 A26.out).mono ?_); (case side1 => exact cz (Kd.R_reads' HO_4.out).2.2); (case side2 => exact (Kd.R_reads' HO_4.out).2.1); rintro e w7000 ⟨rfl, hb⟩; refine ⟨_, rfl, ?_⟩; have n0_ := Aside0.mk (Kd.R_below (rz HO_4.out) hb); have n1_ := Aside0.mk (Kd.R_below (rz HO_5.out) hb); have n2_ := Aside0.mk (below_step zt3 hb); clear HO_4; clear HO_5; clear HB; have HO_4 := n0_; have HO_5 := n1_; have HB := n2_; clear n0_ n1_ n2_; (try clear hb); (try clear hb2); (try clear hk); (try clear hi)) | ((with_reducible refine gate_callee (f := 28) rfl ?_); refine goesL_ (some 56) rfl rfl Tryz.func28 (by kernel_rfl) rfl #[.slice Ao32 x4_2.length co32] rfl zt7 ?_; (with_reducible refine (spec_ShowFiles.calls k2 _ _ x4_2 t507 _ ?side1 ?side2 A26.out).mono ?_); (case side1 => exact cz (Kd.R_reads' HO_4.out).2.2); (case side2 => exact (Kd.R_reads' HO_4.out).2.1); rintro e w7000 ⟨rfl, hb⟩; refine ⟨_, rfl, ?_⟩; have n0_ := Aside0.mk (Kd.R_below (rz HO_4.out) hb); have n1_ := Aside0.mk (Kd.R_below (rz HO_5.out) hb); have n2_ := Aside0.mk (below_step zt3 hb); clear HO_4; clear HO_5; clear HB; have HO_4 := n0_; have HO_5 := n1_; have HB := n2_; clear n0_ n1_ n2_; (try clear hb); (try clear hb2); (try clear hk); (try clear hi)) | ((with_reducible refine gate_callee (f := 33) rfl ?_); refine goesL_ (some 36) rfl rfl Tryz.func33 (by kernel_rfl) rfl #[.string a0, .int .i64 x6_2] rfl zt7 ?_; (with_reducible refine (spec_l12Take.calls k2 a0 x6_2 t511 t512 _ A13.out).mono ?_); rintro e w7000 ⟨rfl, hb⟩; refine ⟨_, rfl, ?_⟩; have n0_ := Aside0.mk (Kd.R_below (rz HO_4.out) hb); have n1_ := Aside0.mk (Kd.R_below (rz HO_5.out) hb); have n2_ := Aside0.mk (below_step zt3 hb); clear HO_4; clear HO_5; clear HB; have HO_4 := n0_; have HO_5 := n1_; have HB := n2_; clear n0_ n1_ n2_; (try clear hb); (try clear hb2); (try clear hk); (try clear hi)) | ((with_reducible refine gate_callee (f := 33) rfl ?_); refine goesL_ (some 42) rfl rfl Tryz.func33 (by kernel_rfl) rfl #[.string a0, .int .i64 t512] rfl zt7 ?_; (with_reducible refine (spec_l12Take.calls k2 a0 t512 t513 t514 _ A14.out).mono ?_); rintro e w7001 ⟨rfl, hb⟩; refine ⟨_, rfl, ?_⟩; have n0_ := Aside0.mk (Kd.R_below (rz HO_4.out) hb); have n1_ := Aside0.mk (Kd.R_below (rz HO_5.out) hb); have n2_ := Aside0.mk (below_step zt3 hb); clear HO_4; clear HO_5; clear HB; have HO_4 := n0_; have HO_5 := n1_; have HB := n2_; clear n0_ n1_ n2_; (try clear hb); (try clear hb2); (try clear hk); (try clear hi))); first | go_quiet (fail) | (go_ret2; exact ⟨_, zt10, by (with_reducible repeat (first | apply Kd.R_alloc | apply Kd.R_drewN | apply Kd.R_drew)); exact Kd.R_mono HO7005.out (fun _ hk => trivial), zt3⟩) | (go_roundg k2; (case measure => have := HJ2.out; have := HK2.out; omega); (case rel => exact ⟨(y518), (t514), (wrap64 (x7_2 + 1)), zt12, zt12, H', ⟨by have := HJ2.out; have := HK2.out; omega⟩, ⟨by (with_reducible repeat (first | apply Kd.R_alloc | apply Kd.R_drewN | apply Kd.R_drew)); (first | exact HO7004.out | exact Kd.R_mono HO7004.out (fun k_ h_ => by first | exact h_ | (simpa [Value.ownBlock] using h_) | (have e_ : ∀ (A : Option Addr) (n m c : Nat), (Value.slice A n c).ownBlock = (Value.slice A m c).ownBlock := (fun A n m c => by cases A <;> rfl); rw [e_ _ _ 0 _] at h_ ⊢; exact h_)))⟩, ⟨zt17⟩, ⟨zt3⟩⟩)) | (go_ret2; exact ⟨_, zt10, zt38, zt3⟩) | (go_ret2; exact ⟨_, zt10, by (with_reducible repeat (first | apply Kd.R_alloc | apply Kd.R_drewN | apply Kd.R_drew)); exact Kd.R_mono HO7004.out (fun _ hk => trivial), zt3⟩))

/-! ### spec_DrawPutFile: function 12 -/
def spec_DrawPutFile.f (k : Nat) (l0 : List Int) : Option ((List (S33)) × ByteArray × ByteArray) := (spec_l1New.f k l0).bind fun bt522 => ((spec_l2Some.f bt522.1 bt522.2.1 bt522.2.2).bind fun bt526 => ((spec_l1Text.f k bt522.1 bt526.2.1 bt526.2.2 4).bind fun bt529 => ((spec_l1Once.f bt522.1 bt529.2.1 bt529.2.2 2).bind fun bt533 => (if bt533.1 = true then ((spec_Clean.f k bt526.1).bind fun t536 => (if 0 ≤ (wrap64 ((l0.length : Int) / 2)) then (if (wrap64 ((l0.length : Int) / 2)) ≤ (l0.length : Int) then ((spec_DrawFilesOk.f k (l0.drop ((wrap64 ((l0.length : Int) / 2)) : Int).toNat)).bind fun t538 => (some (t538, t536, bt529.1))) else (none)) else (none))) else (if 0 ≤ (wrap64 ((l0.length : Int) / 2)) then (if (wrap64 ((l0.length : Int) / 2)) ≤ (l0.length : Int) then ((spec_DrawFilesOk.f k (l0.drop ((wrap64 ((l0.length : Int) / 2)) : Int).toNat)).bind fun t542 => (some (t542, bt526.1, bt529.1))) else (none)) else (none))))))
theorem spec_DrawPutFile.mono : ∀ a0 k, LeO (spec_DrawPutFile.f k a0) (spec_DrawPutFile.f (k + 1) a0) := by
 intro a0 k
 unfold spec_DrawPutFile.f
 repeat' (first | (with_reducible first | exact spec_Clean.mono _ _ | exact spec_DrawFilesOk.mono _ _ | exact spec_l1New.mono _ _ | exact spec_l1Text.mono _ _ _ _ _ | exact LeO.refl _ | exact LeO.none _ | refine LeO.ite ?_ ?_ | refine LeO.bind ?_ (fun _ => ?_)) | exact LeO.none _ | refine LeO.ite ?_ ?_ | refine LeO.bind ?_ (fun _ => ?_))
def spec_DrawPutFile.T5 : Bool × List (List Nat × List Nat) := (true, [([], []), ([], []), ([1], [1]), ([2], [2]), ([0, 3], [0, 3]), ([4], [4]), ([], []), ([5, 5, 0, 1, 2, 3, 4, 5], [5]), ([6, 7, 0, 1, 2, 3, 4, 5, 6, 7], [6])])
def spec_DrawPutFile.B5 : List Nat := [0, 0, 2, 6, 15, 31, 0, 63, 255]
theorem spec_DrawPutFile.tab5 : rtab .any (opsOf Tryz.f12 5) = spec_DrawPutFile.T5 := by kernel_rfl
theorem spec_DrawPutFile.bits5 : waitsOk spec_DrawPutFile.T5.2 spec_DrawPutFile.B5 = true := by kernel_rfl
set_option maxHeartbeats 8000000 in
set_option maxRecDepth 100000 in
theorem spec_DrawPutFile.calls (k : Nat) (A0 : Option Addr) (c0 : Nat) (l0 : List Int) (r1 : List (S33)) (r2 : ByteArray) (r3 : ByteArray) (w : World) (hr0 : Kd.C (Kd.int .u8) w A0 l0.length l0) (hc0 : l0.length ≤ c0) (h : spec_DrawPutFile.f k l0 = some (r1, r2, r3)) :
  Calls Tryz.prog 12 #[.slice A0 l0.length c0] w fun e w' => ∃ v0_ : Value, e = .returned (.tuple #[v0_, .agg #[.string r2, .string r3]]) ∧ Kd.R k33 33 w' w.heap.size (fun _ => True) v0_ r1 ∧ Below w.heap.size w w' := by
 have hu33 := Tryz.underlying33
 have HR0 := Aside0.mk hr0
 have HC0 := Aside0.mk hc0
 clear hr0 hc0
 have HB := Aside0.mk (Below.refl w.heap.size w)
 try unfold spec_DrawPutFile.f at h
 have H := h
 clear h
 replace H := bnd H
 obtain ⟨⟨t522, t523, t524⟩, A2, H⟩ := H
 try dsimp only at H
 replace H := bnd H
 obtain ⟨⟨t526, t527, t528⟩, A3, H⟩ := H
 try dsimp only at H
 replace H := bnd H
 obtain ⟨⟨t529, t530, t531⟩, A4, H⟩ := H
 try dsimp only at H
 replace H := bnd H
 obtain ⟨⟨t533, t534, t535⟩, A5, H⟩ := H
 try dsimp only at H
 by_cases c6 : t533 = true
 ·subst c6
  rw [if_pos rfl] at H
  replace H := bnd H
  obtain ⟨t536, A7, H⟩ := H
  try dsimp only at H
  obtain ⟨ji8, hji8⟩ : ∃ j_ : Int, (wrap64 ((l0.length : Int) / 2)) = j_ := ⟨_, rfl⟩
  replace H : (if 0 ≤ (ji8) then (if (ji8) ≤ (l0.length : Int) then ((spec_DrawFilesOk.f k (l0.drop ((ji8) : Int).toNat)).bind fun t538 => (some (t538, t536, t529))) else (none)) else (none)) = some (r1, r2, r3) := by first | (rw [hji8] at H; exact H) | (simp only [hji8] at H ⊢; exact H)
  (try rw [hji8] at A2)
  (try rw [hji8] at A3)
  (try rw [hji8] at A4)
  (try rw [hji8] at A5)
  (try rw [hji8] at A7)
  have hji8w : (IntKind.i64.wrap ((l0.length : Int) / 2)) = ji8 := (i64_w _).trans hji8
  replace H := it0 H
  obtain ⟨c9, H⟩ := H
  have c9b0 := eq_true c9
  have c9b1 : decide (0 ≤ (ji8)) = true := decide_eq_true c9
  clear c9
  replace H := it0 H
  obtain ⟨c10, H⟩ := H
  have c10b0 := eq_true c10
  have c10b1 := decide_eq_true c10
  clear c10
  replace H := bnd H
  obtain ⟨t538, A11, H⟩ := H
  try dsimp only at H
  simp only [Option.some.injEq, Prod.mk.injEq] at H
  obtain ⟨rfl, rfl, rfl⟩ := H
  go_enter Tryz.func12, Tryz.ntmps12
  try go_wp2_with (first | ((with_reducible refine gate_dst (N := 3) rfl ?_); refine box_event ?hg (N := 3) ?hd (cs := #[.string (⟨#[]⟩ : ByteArray), .string (⟨#[]⟩ : ByteArray)]) (t := 33) ?hr ?_; (case hd => rfl); (case hg => rfl); (case hr => first | (go_simp; done) | (go_simp; rfl)); intro gb521 hg w12 hbox hb; have n0_ := Aside0.mk (below_step zt3 hb); have n1_ := Aside0.mk (hbox); have n2_ := Aside0.mk ((zt13 : w.heap.size ≤ gb521)); have n3_ := Aside0.mk ((zt13 : w.heap.size ≤ gb521)); clear HB; have HB := n0_; have BK521 := n1_; have GW521 := n2_; have GE521 := n3_; clear n0_ n1_ n2_ n3_; clear hb hbox hg) | ((with_reducible refine gate_callee (f := 27) rfl ?_); refine goesL_ (some 7) rfl rfl Tryz.func27 (by kernel_rfl) rfl #[.slice A0 l0.length c0] rfl zt7 ?_; (with_reducible refine (spec_l1New.calls k _ _ l0 t522 t523 t524 w _ ?side1 ?side2 ?side3 A2.out).mono ?_); (case side1 => repeat (first | (with_reducible first | exact HB.out | apply below_alloc | apply pw_below_drewN | apply below_drew1 | refine below_set ?_ GE521.out) | exact HB.out)); (case side2 => exact HR0.out); (case side3 => exact HC0.out); rintro e w13 ⟨g525, rfl, hi, hb, hb2⟩; refine ⟨_, rfl, ?_⟩; have n0_ := Aside0.mk (blk_below (g := gb521) (o := .cells #[.string (⟨#[]⟩ : ByteArray), .string (⟨#[]⟩ : ByteArray)] 33 (0, 0)) (oz BK521.out) hb2); have n1_ := Aside0.mk (hb); have n2_ := Aside0.mk (hi); have n3_ := Aside0.mk (IsS77.ne_blk hi (blk_below (g := gb521) (o := .cells #[.string (⟨#[]⟩ : ByteArray), .string (⟨#[]⟩ : ByteArray)] 33 (0, 0)) (oz BK521.out) hb2) (by decide)); have n4_ := Aside0.mk (Ne.symm (IsS77.ne_blk hi (blk_below (g := gb521) (o := .cells #[.string (⟨#[]⟩ : ByteArray), .string (⟨#[]⟩ : ByteArray)] 33 (0, 0)) (oz BK521.out) hb2) (by decide))); clear BK521; clear HB; have BK521 := n0_; have HB := n1_; have HI525 := n2_; have NB525_521 := n3_; have NB521_525 := n4_; clear n0_ n1_ n2_ n3_ n4_; (try clear hb); (try clear hb2); (try clear hk); (try clear hi)) | ((with_reducible refine gate_callee (f := 34) rfl ?_); refine goesL_ (some 9) rfl rfl Tryz.func34 (by kernel_rfl) rfl #[.pointer (some ⟨g525, 0, none⟩)] rfl zt7 ?_; (with_reducible refine (spec_l2Some.calls g525 t522 t523 t524 t526 t527 t528 w _ ?side1 ?side2 A3.out).mono ?_); (case side1 => exact zt20); (case side2 => exact zt21); rintro e w14 ⟨rfl, hi, hb, hk⟩; refine ⟨_, rfl, ?_⟩; have n0_ := Aside0.mk (KeepBut.blk hk (g' := gb521) (o := .cells #[.string (⟨#[]⟩ : ByteArray), .string (⟨#[]⟩ : ByteArray)] 33 (0, 0)) (oz BK521.out) NB521_525.out (by simp)); have n1_ := Aside0.mk (hb); have n2_ := Aside0.mk (hi); clear BK521; clear HB; clear HI525; have BK521 := n0_; have HB := n1_; have HI525 := n2_; clear n0_ n1_ n2_; (try clear hb); (try clear hb2); (try clear hk); (try clear hi)) | ((with_reducible refine gate_callee (f := 35) rfl ?_); refine goesL_ (some 11) rfl rfl Tryz.func35 (by kernel_rfl) rfl #[.pointer (some ⟨g525, 0, none⟩), .int .i64 4] rfl zt7 ?_; (with_reducible refine (spec_l1Text.calls k g525 t522 t527 t528 4 t529 t530 t531 w _ ?side1 ?side2 A4.out).mono ?_); (case side1 => exact zt20); (case side2 => exact zt21); rintro e w15 ⟨rfl, hi, hb, hk⟩; refine ⟨_, rfl, ?_⟩; have n0_ := Aside0.mk (KeepBut.blk hk (g' := gb521) (o := .cells #[.string (⟨#[]⟩ : ByteArray), .string (⟨#[]⟩ : ByteArray)] 33 (0, 0)) (oz BK521.out) NB521_525.out (by simp)); have n1_ := Aside0.mk (hb); have n2_ := Aside0.mk (hi); clear BK521; clear HB; clear HI525; have BK521 := n0_; have HB := n1_; have HI525 := n2_; clear n0_ n1_ n2_; (try clear hb); (try clear hb2); (try clear hk); (try clear hi)) | ((with_reducible refine gate_dst (N := 5) rfl ?_); refine box_event ?hg (N := 5) ?hd (cs := #[.string (⟨#[]⟩ : ByteArray), .string (⟨#[]⟩ : ByteArray)]) (t := 33) ?hr ?_; (case hd => rfl); (case hg => rfl); (case hr => first | (go_simp; done) | (go_simp; rfl)); intro gb532 hg w16 hbox hb; have n0_ := Aside0.mk (blk_below (g := gb521) (o := .cells #[.string (⟨#[]⟩ : ByteArray), .string (⟨#[]⟩ : ByteArray)] 33 (0, 0)) (oz BK521.out) hb); have n1_ := Aside0.mk (IsS77.below zt20 hb); have n2_ := Aside0.mk (below_step zt21 hb); have n3_ := Aside0.mk (hbox); have n4_ := Aside0.mk ((zt33 : w.heap.size ≤ gb532)); have n5_ := Aside0.mk ((zt33 : w.heap.size ≤ gb532)); have n6_ := Aside0.mk ((by rw [hg]; exact Nat.ne_of_lt (blk_lt (g := gb521) (o := .cells #[.string (⟨#[]⟩ : ByteArray), .string (⟨#[]⟩ : ByteArray)] 33 (0, 0)) (oz BK521.out)) : gb521 ≠ gb532)); have n7_ := Aside0.mk ((by rw [hg]; exact Nat.ne_of_gt (blk_lt (g := gb521) (o := .cells #[.string (⟨#[]⟩ : ByteArray), .string (⟨#[]⟩ : ByteArray)] 33 (0, 0)) (oz BK521.out)) : gb532 ≠ gb521)); have n8_ := Aside0.mk ((by rw [hg]; exact Nat.ne_of_lt (IsS77.lt (show IsS77 w _ g525 t522 t530 t531 from zt20)) : g525 ≠ gb532)); have n9_ := Aside0.mk ((by rw [hg]; exact Nat.ne_of_gt (IsS77.lt (show IsS77 w _ g525 t522 t530 t531 from zt20)) : gb532 ≠ g525)); clear BK521; clear HI525; clear HB; have BK521 := n0_; have HI525 := n1_; have HB := n2_; have BK532 := n3_; have GW532 := n4_; have GE532 := n5_; have NB521_532 := n6_; have NB532_521 := n7_; have NB525_532 := n8_; have NB532_525 := n9_; clear n0_ n1_ n2_ n3_ n4_ n5_ n6_ n7_ n8_ n9_; clear hb hbox hg; have hnb17 := NB532_521.out; have hnc17 := NB521_532.out; have hnb18 := NB532_525.out; have hnc18 := NB525_532.out; have hcz19_0 : w16.cell? ⟨gb532, 0, none⟩ = some (.string (⟨#[]⟩ : ByteArray)) := (blk_cell BK532.out 0).trans rfl; have hcz19_1 : w16.cell? ⟨gb532, 1, none⟩ = some (.string (⟨#[]⟩ : ByteArray)) := (blk_cell BK532.out 1).trans rfl; have hfz19_0 := blk_frozen BK532.out 0; have hfz19_1 := blk_frozen BK532.out 1) | ((with_reducible refine gate_callee (f := 30) rfl ?_); refine goesL_ (some 14) rfl rfl Tryz.func30 (by kernel_rfl) rfl #[.pointer (some ⟨g525, 0, none⟩), .int .i64 2] rfl zt7 ?_; (with_reducible refine (spec_l1Once.calls g525 t522 t530 t531 2 true t534 t535 w _ ?side1 ?side2 A5.out).mono ?_); (case side1 => exact zt26); (case side2 => exact zt18); rintro e w20 ⟨rfl, hi, hb, hk⟩; refine ⟨_, rfl, ?_⟩; have n0_ := Aside0.mk (KeepBut.blk hk (g' := gb521) (o := .cells #[.string (⟨#[]⟩ : ByteArray), .string (⟨#[]⟩ : ByteArray)] 33 (0, 0)) (by (with_reducible repeat (first | refine blk_drewN ?_ _ | refine blk_drew ?_ | refine blk_alloc ?_ _)); refine blk_far ?_ NB521_532.out _; (with_reducible repeat (first | refine blk_drewN ?_ _ | refine blk_drew ?_ | refine blk_alloc ?_ _)); refine blk_far ?_ NB521_532.out _; (with_reducible repeat (first | refine blk_drewN ?_ _ | refine blk_drew ?_ | refine blk_alloc ?_ _)); exact BK521.out) NB521_525.out (by simp)); have n1_ := Aside0.mk (KeepBut.blk hk (g' := gb532) (o := .cells #[.string t526, .string t529] 33 (0, 0)) (by (with_reducible repeat (first | refine blk_drewN ?_ _ | refine blk_drew ?_ | refine blk_alloc ?_ _)); refine blk_put (cs := #[.string t526, .string (⟨#[]⟩ : ByteArray)]) ?_ 1 _ rfl; (with_reducible repeat (first | refine blk_drewN ?_ _ | refine blk_drew ?_ | refine blk_alloc ?_ _)); refine blk_put (cs := #[.string (⟨#[]⟩ : ByteArray), .string (⟨#[]⟩ : ByteArray)]) ?_ 0 _ rfl; (with_reducible repeat (first | refine blk_drewN ?_ _ | refine blk_drew ?_ | refine blk_alloc ?_ _)); exact BK532.out) NB532_525.out (by simp)); have n2_ := Aside0.mk (hb); have n3_ := Aside0.mk (hi); clear BK521; clear BK532; clear HB; clear HI525; have BK521 := n0_; have BK532 := n1_; have HB := n2_; have HI525 := n3_; clear n0_ n1_ n2_ n3_; (try clear hb); (try clear hb2); (try clear hk); (try clear hi); have hcz21_0 : w20.cell? ⟨gb532, 0, none⟩ = some (.string t526) := (blk_cell BK532.out 0).trans rfl; have hcz21_1 : w20.cell? ⟨gb532, 1, none⟩ = some (.string t529) := (blk_cell BK532.out 1).trans rfl; have hfz21_0 := blk_frozen BK532.out 0; have hfz21_1 := blk_frozen BK532.out 1) | ((with_reducible refine gate_callee (f := 26) rfl ?_); refine goesL_ (some 17) rfl rfl Tryz.func26 (by kernel_rfl) rfl #[.string t526] rfl zt7 ?_; (with_reducible refine (spec_Clean.calls k t526 t536 _ A7.out).mono ?_); rintro e w22 ⟨rfl, hb⟩; refine ⟨_, rfl, ?_⟩; have n0_ := Aside0.mk (blk_below (g := gb521) (o := .cells #[.string (⟨#[]⟩ : ByteArray), .string (⟨#[]⟩ : ByteArray)] 33 (0, 0)) (oz BK521.out) hb); have n1_ := Aside0.mk (IsS77.below zt26 hb); have n2_ := Aside0.mk (blk_below (g := gb532) (o := .cells #[.string t526, .string t529] 33 (0, 0)) (oz BK532.out) hb); have n3_ := Aside0.mk (below_step zt18 hb); clear BK521; clear HI525; clear BK532; clear HB; have BK521 := n0_; have HI525 := n1_; have BK532 := n2_; have HB := n3_; clear n0_ n1_ n2_ n3_; (try clear hb); (try clear hb2); (try clear hk); (try clear hi); have hcz23_0 : w22.cell? ⟨gb532, 0, none⟩ = some (.string t526) := (blk_cell BK532.out 0).trans rfl; have hcz23_1 : w22.cell? ⟨gb532, 1, none⟩ = some (.string t529) := (blk_cell BK532.out 1).trans rfl; have hfz23_0 := blk_frozen BK532.out 0; have hfz23_1 := blk_frozen BK532.out 1))
  have n0_ : Aside0 ((w22.setCell ⟨gb532, 0, none⟩ (.string t536)).heap[gb521]? = some (.cells #[.string (⟨#[]⟩ : ByteArray), .string (⟨#[]⟩ : ByteArray)] 33 (0, 0))) := ⟨by (with_reducible repeat (first | refine blk_drewN ?_ _ | refine blk_drew ?_ | refine blk_alloc ?_ _)); refine blk_far ?_ NB521_532.out _; (with_reducible repeat (first | refine blk_drewN ?_ _ | refine blk_drew ?_ | refine blk_alloc ?_ _)); exact BK521.out⟩
  have n1_ : Aside0 ((w22.setCell ⟨gb532, 0, none⟩ (.string t536)).heap[gb532]? = some (.cells #[.string t536, .string t529] 33 (0, 0))) := ⟨by (with_reducible repeat (first | refine blk_drewN ?_ _ | refine blk_drew ?_ | refine blk_alloc ?_ _)); refine blk_put (cs := #[.string t526, .string t529]) ?_ 0 _ rfl; (with_reducible repeat (first | refine blk_drewN ?_ _ | refine blk_drew ?_ | refine blk_alloc ?_ _)); exact BK532.out⟩
  have n2_ : Aside0 (IsS77 w (w22.setCell ⟨gb532, 0, none⟩ (.string t536)) g525 t522 t534 t535) := ⟨zt26⟩
  have n3_ : Aside0 (Below w.heap.size w (w22.setCell ⟨gb532, 0, none⟩ (.string t536))) := ⟨zt18⟩
  (try clear BK521)
  (try clear BK532)
  (try clear HI525)
  (try clear HB)
  generalize (w22.setCell ⟨gb532, 0, none⟩ (.string t536)) = w24 at n0_ n1_ n2_ n3_ ⊢
  have BK521 := n0_
  have BK532 := n1_
  have HI525 := n2_
  have HB := n3_
  clear n0_ n1_ n2_ n3_
  have n0_ := Aside0.mk (blk_drew BK521.out)
  have n1_ := Aside0.mk (blk_drew BK532.out)
  have n2_ := Aside0.mk (IsS77.drew HI525.out)
  have n3_ := Aside0.mk (below_drew1 HB.out)
  clear BK521
  clear BK532
  clear HI525
  clear HB
  have BK521 := n0_
  have BK532 := n1_
  have HI525 := n2_
  have HB := n3_
  clear n0_ n1_ n2_ n3_
  obtain ⟨i026, hi026, _, hsz26, _⟩ := info_parts info5
  obtain ⟨A26, hcut26, hA26, hC26⟩ := print_drop_of (P := Tryz.prog) (Value.int .u8) 0 22 5 .i64 Tryz.underlying22 hi026 hsz26 A0 c0 l0 (ji8) (of_decide_eq_true zt8) (of_decide_eq_true zt8) HC0.out
  have HR537 := Aside0.mk (Kd.C_of_reads (h1 := fun _ => rfl) (hA26 _ (Kd.reads_of_C HR0.out)))
  have HC537 := Aside0.mk hC26
  clear hA26 hC26 hi026 hsz26
  refine start_ (n := 9) (S := fun w' => w'.cell? ⟨gb532, 0, none⟩ = some (.string t536) ∧ w'.cell? ⟨gb532, 1, none⟩ = some (.string t529)) (ds := []) bt0_18 (by kernel_rfl) rfl rfl ⟨(blk_cell BK532.out 0).trans rfl, (blk_cell BK532.out 1).trans rfl⟩ (fun hHeld => ?_); refine with_tabW spec_DrawPutFile.tab5 spec_DrawPutFile.bits5 (fun HT_ HW_ => ?_)
  generalize w24.drew = w25 at BK521 BK532 HI525 HB HR537 hHeld ⊢
  refine pure_ (i := 0) (N := some 19) (v := ?_) (a' := ?_) bt1_18 rfl rfl (any_of HT_.out (by kernel_rfl)) (fun _ _ _ h => h) (Or.inl ⟨by rfl, ?_⟩) ?_ ?_
  rotate_left
  ·intro w'
   go_simp
   with_reducible rfl
  rotate_left
  ·simp only [Act.put, List.setIfInBounds_toArray, List.set_cons_zero, List.set_cons_succ, i64_w, i32_w]
   rfl
  refine pure_ (i := 1) (N := some 20) (v := ?_) (a' := ?_) bt2_18 rfl rfl (any_of HT_.out (by kernel_rfl)) (fun _ _ _ h => h) (Or.inl ⟨by rfl, ?_⟩) ?_ ?_
  rotate_left
  ·intro w'
   go_simp
   with_reducible rfl
  rotate_left
  ·simp only [Act.put, List.setIfInBounds_toArray, List.set_cons_zero, List.set_cons_succ, i64_w, i32_w]
   rfl
  refine pure_ (i := 2) (N := some 21) (v := ?_) (a' := ?_) bt3_18 rfl rfl (any_of HT_.out (by kernel_rfl)) (fun _ _ _ h => h) (Or.inl ⟨by rfl, ?_⟩) ?_ ?_
  rotate_left
  ·intro w'
   go_simp
   with_reducible rfl
  rotate_left
  ·simp only [Act.put, List.setIfInBounds_toArray, List.set_cons_zero, List.set_cons_succ, i64_w, i32_w]
   rfl
  refine pure_ (i := 3) (N := some 22) (v := ?_) (a' := ?_) bt4_18 rfl rfl (any_of HT_.out (by kernel_rfl)) (fun _ _ _ h => h) (Or.inl ⟨by rfl, ?_⟩) ?_ ?_
  rotate_left
  ·intro w'
   go_simp
   with_reducible rfl
  rotate_left
  ·simp only [Act.put, List.setIfInBounds_toArray, List.set_cons_zero, List.set_cons_succ, i64_w, i32_w]
   rfl
  refine pure_ (i := 4) (N := some 23) (v := ?_) (a' := ?_) #[true, true, true, true, true, false, false, false, false] rfl rfl (any_of HT_.out (by kernel_rfl)) (fun _ _ _ h => h) (Or.inl ⟨by rfl, ?_⟩) ?_ ?_
  rotate_left
  ·intro w'
   go_simp
   with_reducible rfl
  rotate_left
  ·simp only [Act.put, List.setIfInBounds_toArray, List.set_cons_zero, List.set_cons_succ, i64_w, i32_w]
   rfl
  refine take_ (i := 6) (N := some 25) (v := ?_) (a' := ?_) #[true, true, true, true, true, false, true, false, false] rfl rfl (take_ofW HT_.out HW_.out (by kernel_rfl)) (fun _ _ _ h => h) (Or.inl ⟨by rfl, ?_⟩) hHeld ?_ ?_
  rotate_left
  ·rintro w' ⟨s0, s1⟩
   go_simp
   with_reducible rfl
  rotate_left
  ·simp only [Act.put, List.setIfInBounds_toArray, List.set_cons_zero, List.set_cons_succ, i64_w, i32_w]
   rfl
  refine one_ (i := 5) (N := some 24) #[true, true, true, true, true, true, true, false, false] rfl rfl (one_of HT_.out (by kernel_rfl)) (by decide) (fun K hK => ?_)
  refine goes_ Tryz.func18 (by kernel_rfl) rfl #[.slice A26 (l0.drop ((ji8) : Int).toNat).length (c0 - (ji8).toNat)] (by rfl) rfl rfl (by (try simp only [List.map_toArray, List.map_cons, List.map_nil]); first | done | (rw [show (l0.drop ((ji8) : Int).toNat).length = (l0.length - (ji8).toNat) from List.length_drop] <;> rfl) | (simp only [hji8]; rfl) | rfl | (simp only [List.length_drop, List.length_take]; rfl)) ?_
  with_reducible refine (spec_DrawFilesOk.calls k _ _ (l0.drop ((ji8) : Int).toNat) t538 _ ?side1 ?side2 A11.out).mono ?_
  (case side1 => exact cz (Kd.C_below HR537.out HB.out))
  (case side2 => exact HC537.out)
  rintro e w27 ⟨v539, rfl, ho0, hb⟩
  refine ⟨_, rfl, ?_⟩
  have n0_ := Aside0.mk (Kd.R_lower (Kd.R_newB (Kd.R_newB ho0 (g := gb521) (o := .cells #[.string (⟨#[]⟩ : ByteArray), .string (⟨#[]⟩ : ByteArray)] 33 (0, 0)) (oz BK521.out)) (g := gb532) (o := .cells #[.string t536, .string t529] 33 (0, 0)) (oz BK532.out)) (below_size zt18))
  have n1_ := Aside0.mk (blk_below (g := gb521) (o := .cells #[.string (⟨#[]⟩ : ByteArray), .string (⟨#[]⟩ : ByteArray)] 33 (0, 0)) (oz BK521.out) hb)
  have n2_ := Aside0.mk (IsS77.below zt26 hb)
  have n3_ := Aside0.mk (blk_below (g := gb532) (o := .cells #[.string t536, .string t529] 33 (0, 0)) (oz BK532.out) hb)
  have n4_ := Aside0.mk (below_step zt18 hb)
  clear BK521
  clear HI525
  clear BK532
  clear HB
  have HO540 := n0_
  have BK521 := n1_
  have HI525 := n2_
  have BK532 := n3_
  have HB := n4_
  clear n0_ n1_ n2_ n3_ n4_
  (try clear hb)
  (try clear hb2)
  (try clear hk)
  (try clear hi)
  (try clear ho0)
  refine hK.out _ _ ⟨(blk_cell BK532.out 0).trans rfl, (blk_cell BK532.out 1).trans rfl⟩ (fun hHeld => ?_)
  clear hK K
  refine norm_ (a' := ?_) ?_ ?_
  rotate_left
  ·show Act.put _ (some 24) _ = _
   simp only [Act.put, List.setIfInBounds_toArray, List.set_cons_zero, List.set_cons_succ, i64_w, i32_w]
   rfl
  refine pure_ (i := 7) (N := some 2) (v := ?_) (a' := ?_) #[true, true, true, true, true, true, true, true, false] rfl rfl (any_of HT_.out (by kernel_rfl)) (fun _ _ _ h => h) (Or.inl ⟨by rfl, ?_⟩) ?_ ?_
  rotate_left
  ·intro w'
   go_simp
   with_reducible rfl
  rotate_left
  ·simp only [Act.put, List.setIfInBounds_toArray, List.set_cons_zero, List.set_cons_succ, i64_w, i32_w]
   rfl
  refine one_ (i := 8) (N := none) #[true, true, true, true, true, true, true, true, true] rfl rfl (one_of HT_.out (by kernel_rfl)) (by decide) (fun K hK => ?_)
  have hs28 : w27.cell? ⟨gb521, 0, none⟩ = some (.string (⟨#[]⟩ : ByteArray)) := (blk_cell BK521.out 0).trans rfl
  have hfs28 := blk_frozen BK521.out 0
  have hns28_1 := NB532_521.out
  have hms28_1 := NB521_532.out
  have hs29 : w27.cell? ⟨gb521, 1, none⟩ = some (.string (⟨#[]⟩ : ByteArray)) := (blk_cell BK521.out 1).trans rfl
  have hfs29 := blk_frozen BK521.out 1
  have hns29_1 := NB532_521.out
  have hms29_1 := NB521_532.out
  refine skip_ (w1 := ?_) (by rfl) rfl ?_ ?_
  rotate_left
  ·go_simp
   rfl
  refine hK.out _ _ ⟨((cell_far (p := ⟨gb521, _, none⟩) NB532_521.out _).trans (((cell_far (p := ⟨gb521, _, none⟩) NB532_521.out _).trans (hHeld.1)))), ((cell_far (p := ⟨gb521, _, none⟩) NB532_521.out _).trans (((cell_far (p := ⟨gb521, _, none⟩) NB532_521.out _).trans (hHeld.2))))⟩ (fun hHeld => ?_)
  clear hK K
  refine done_ (done_of HT_.out (by kernel_rfl)) ?_
  try go_wp2
  refine bodyPost_ret (results_tc rfl _ _ gb521 33 #[.string t536, .string t529] (0, 0) _ rfl (by (with_reducible repeat (first | refine blk_drewN ?_ _ | refine blk_drew ?_ | refine blk_alloc ?_ _)); refine blk_put (cs := #[.string t536, .string (⟨#[]⟩ : ByteArray)]) ?_ 1 _ rfl; (with_reducible repeat (first | refine blk_drewN ?_ _ | refine blk_drew ?_ | refine blk_alloc ?_ _)); refine blk_put (cs := #[.string (⟨#[]⟩ : ByteArray), .string (⟨#[]⟩ : ByteArray)]) ?_ 0 _ rfl; (with_reducible repeat (first | refine blk_drewN ?_ _ | refine blk_drew ?_ | refine blk_alloc ?_ _)); exact BK521.out) Tryz.underlying33 rfl (by kernel_rfl)) rfl ?_
  exact ⟨_, by first | rfl | (simp [errW_none, errW_some] <;> rfl) | (simp only [← hji8]; first | rfl | (simp [errW_none, errW_some] <;> rfl)) | (simp [*, errW_none, errW_some] <;> rfl), by (with_reducible repeat (first | apply Kd.R_alloc | apply Kd.R_drewN | apply Kd.R_drew)); exact Kd.R_mono (Kd.R_far (p := ⟨gb521, 1, none⟩) (Kd.R_far (p := ⟨gb521, 0, none⟩) (Kd.R_mono HO540.out (fun k_ hk => (⟨hk, hk.1.2⟩ : _ ∧ k_ ≠ gb521))) (fun _ hk => hk.2) (.string t536)) (fun _ hk => hk.2) (.string t529)) (fun _ hk => trivial), zt18⟩
 ·replace c6 := Bool.eq_false_iff.mpr c6
  subst c6
  rw [if_neg (show ¬ (false = true) by decide)] at H
  obtain ⟨ji30, hji30⟩ : ∃ j_ : Int, (wrap64 ((l0.length : Int) / 2)) = j_ := ⟨_, rfl⟩
  replace H : (if 0 ≤ (ji30) then (if (ji30) ≤ (l0.length : Int) then ((spec_DrawFilesOk.f k (l0.drop ((ji30) : Int).toNat)).bind fun t542 => (some (t542, t526, t529))) else (none)) else (none)) = some (r1, r2, r3) := by first | (rw [hji30] at H; exact H) | (simp only [hji30] at H ⊢; exact H)
  (try rw [hji30] at A2)
  (try rw [hji30] at A3)
  (try rw [hji30] at A4)
  (try rw [hji30] at A5)
  have hji30w : (IntKind.i64.wrap ((l0.length : Int) / 2)) = ji30 := (i64_w _).trans hji30
  replace H := it0 H
  obtain ⟨c31, H⟩ := H
  have c31b0 := eq_true c31
  have c31b1 := decide_eq_true c31
  clear c31
  replace H := it0 H
  obtain ⟨c32, H⟩ := H
  have c32b0 := eq_true c32
  have c32b1 := decide_eq_true c32
  clear c32
  replace H := bnd H
  obtain ⟨t542, A33, H⟩ := H
  try dsimp only at H
  simp only [Option.some.injEq, Prod.mk.injEq] at H
  obtain ⟨rfl, rfl, rfl⟩ := H
  go_enter Tryz.func12, Tryz.ntmps12
  try go_wp2_with (first | ((with_reducible refine gate_dst (N := 3) rfl ?_); refine box_event ?hg (N := 3) ?hd (cs := #[.string (⟨#[]⟩ : ByteArray), .string (⟨#[]⟩ : ByteArray)]) (t := 33) ?hr ?_; (case hd => rfl); (case hg => rfl); (case hr => first | (go_simp; done) | (go_simp; rfl)); intro gb521 hg w34 hbox hb; have n0_ := Aside0.mk (below_step zt3 hb); have n1_ := Aside0.mk (hbox); have n2_ := Aside0.mk ((zt13 : w.heap.size ≤ gb521)); have n3_ := Aside0.mk ((zt13 : w.heap.size ≤ gb521)); clear HB; have HB := n0_; have BK521 := n1_; have GW521 := n2_; have GE521 := n3_; clear n0_ n1_ n2_ n3_; clear hb hbox hg) | ((with_reducible refine gate_callee (f := 27) rfl ?_); refine goesL_ (some 7) rfl rfl Tryz.func27 (by kernel_rfl) rfl #[.slice A0 l0.length c0] rfl zt7 ?_; (with_reducible refine (spec_l1New.calls k _ _ l0 t522 t523 t524 w _ ?side1 ?side2 ?side3 A2.out).mono ?_); (case side1 => repeat (first | (with_reducible first | exact HB.out | apply below_alloc | apply pw_below_drewN | apply below_drew1 | refine below_set ?_ GE521.out) | exact HB.out)); (case side2 => exact HR0.out); (case side3 => exact HC0.out); rintro e w35 ⟨g525, rfl, hi, hb, hb2⟩; refine ⟨_, rfl, ?_⟩; have n0_ := Aside0.mk (blk_below (g := gb521) (o := .cells #[.string (⟨#[]⟩ : ByteArray), .string (⟨#[]⟩ : ByteArray)] 33 (0, 0)) (oz BK521.out) hb2); have n1_ := Aside0.mk (hb); have n2_ := Aside0.mk (hi); have n3_ := Aside0.mk (IsS77.ne_blk hi (blk_below (g := gb521) (o := .cells #[.string (⟨#[]⟩ : ByteArray), .string (⟨#[]⟩ : ByteArray)] 33 (0, 0)) (oz BK521.out) hb2) (by decide)); have n4_ := Aside0.mk (Ne.symm (IsS77.ne_blk hi (blk_below (g := gb521) (o := .cells #[.string (⟨#[]⟩ : ByteArray), .string (⟨#[]⟩ : ByteArray)] 33 (0, 0)) (oz BK521.out) hb2) (by decide))); clear BK521; clear HB; have BK521 := n0_; have HB := n1_; have HI525 := n2_; have NB525_521 := n3_; have NB521_525 := n4_; clear n0_ n1_ n2_ n3_ n4_; (try clear hb); (try clear hb2); (try clear hk); (try clear hi)) | ((with_reducible refine gate_callee (f := 34) rfl ?_); refine goesL_ (some 9) rfl rfl Tryz.func34 (by kernel_rfl) rfl #[.pointer (some ⟨g525, 0, none⟩)] rfl zt7 ?_; (with_reducible refine (spec_l2Some.calls g525 t522 t523 t524 t526 t527 t528 w _ ?side1 ?side2 A3.out).mono ?_); (case side1 => exact zt20); (case side2 => exact zt21); rintro e w36 ⟨rfl, hi, hb, hk⟩; refine ⟨_, rfl, ?_⟩; have n0_ := Aside0.mk (KeepBut.blk hk (g' := gb521) (o := .cells #[.string (⟨#[]⟩ : ByteArray), .string (⟨#[]⟩ : ByteArray)] 33 (0, 0)) (oz BK521.out) NB521_525.out (by simp)); have n1_ := Aside0.mk (hb); have n2_ := Aside0.mk (hi); clear BK521; clear HB; clear HI525; have BK521 := n0_; have HB := n1_; have HI525 := n2_; clear n0_ n1_ n2_; (try clear hb); (try clear hb2); (try clear hk); (try clear hi)) | ((with_reducible refine gate_callee (f := 35) rfl ?_); refine goesL_ (some 11) rfl rfl Tryz.func35 (by kernel_rfl) rfl #[.pointer (some ⟨g525, 0, none⟩), .int .i64 4] rfl zt7 ?_; (with_reducible refine (spec_l1Text.calls k g525 t522 t527 t528 4 t529 t530 t531 w _ ?side1 ?side2 A4.out).mono ?_); (case side1 => exact zt20); (case side2 => exact zt21); rintro e w37 ⟨rfl, hi, hb, hk⟩; refine ⟨_, rfl, ?_⟩; have n0_ := Aside0.mk (KeepBut.blk hk (g' := gb521) (o := .cells #[.string (⟨#[]⟩ : ByteArray), .string (⟨#[]⟩ : ByteArray)] 33 (0, 0)) (oz BK521.out) NB521_525.out (by simp)); have n1_ := Aside0.mk (hb); have n2_ := Aside0.mk (hi); clear BK521; clear HB; clear HI525; have BK521 := n0_; have HB := n1_; have HI525 := n2_; clear n0_ n1_ n2_; (try clear hb); (try clear hb2); (try clear hk); (try clear hi)) | ((with_reducible refine gate_dst (N := 5) rfl ?_); refine box_event ?hg (N := 5) ?hd (cs := #[.string (⟨#[]⟩ : ByteArray), .string (⟨#[]⟩ : ByteArray)]) (t := 33) ?hr ?_; (case hd => rfl); (case hg => rfl); (case hr => first | (go_simp; done) | (go_simp; rfl)); intro gb532 hg w38 hbox hb; have n0_ := Aside0.mk (blk_below (g := gb521) (o := .cells #[.string (⟨#[]⟩ : ByteArray), .string (⟨#[]⟩ : ByteArray)] 33 (0, 0)) (oz BK521.out) hb); have n1_ := Aside0.mk (IsS77.below zt20 hb); have n2_ := Aside0.mk (below_step zt21 hb); have n3_ := Aside0.mk (hbox); have n4_ := Aside0.mk ((zt33 : w.heap.size ≤ gb532)); have n5_ := Aside0.mk ((zt33 : w.heap.size ≤ gb532)); have n6_ := Aside0.mk ((by rw [hg]; exact Nat.ne_of_lt (blk_lt (g := gb521) (o := .cells #[.string (⟨#[]⟩ : ByteArray), .string (⟨#[]⟩ : ByteArray)] 33 (0, 0)) (oz BK521.out)) : gb521 ≠ gb532)); have n7_ := Aside0.mk ((by rw [hg]; exact Nat.ne_of_gt (blk_lt (g := gb521) (o := .cells #[.string (⟨#[]⟩ : ByteArray), .string (⟨#[]⟩ : ByteArray)] 33 (0, 0)) (oz BK521.out)) : gb532 ≠ gb521)); have n8_ := Aside0.mk ((by rw [hg]; exact Nat.ne_of_lt (IsS77.lt (show IsS77 w _ g525 t522 t530 t531 from zt20)) : g525 ≠ gb532)); have n9_ := Aside0.mk ((by rw [hg]; exact Nat.ne_of_gt (IsS77.lt (show IsS77 w _ g525 t522 t530 t531 from zt20)) : gb532 ≠ g525)); clear BK521; clear HI525; clear HB; have BK521 := n0_; have HI525 := n1_; have HB := n2_; have BK532 := n3_; have GW532 := n4_; have GE532 := n5_; have NB521_532 := n6_; have NB532_521 := n7_; have NB525_532 := n8_; have NB532_525 := n9_; clear n0_ n1_ n2_ n3_ n4_ n5_ n6_ n7_ n8_ n9_; clear hb hbox hg; have hnb39 := NB532_521.out; have hnc39 := NB521_532.out; have hnb40 := NB532_525.out; have hnc40 := NB525_532.out; have hcz41_0 : w38.cell? ⟨gb532, 0, none⟩ = some (.string (⟨#[]⟩ : ByteArray)) := (blk_cell BK532.out 0).trans rfl; have hcz41_1 : w38.cell? ⟨gb532, 1, none⟩ = some (.string (⟨#[]⟩ : ByteArray)) := (blk_cell BK532.out 1).trans rfl; have hfz41_0 := blk_frozen BK532.out 0; have hfz41_1 := blk_frozen BK532.out 1) | ((with_reducible refine gate_callee (f := 30) rfl ?_); refine goesL_ (some 14) rfl rfl Tryz.func30 (by kernel_rfl) rfl #[.pointer (some ⟨g525, 0, none⟩), .int .i64 2] rfl zt7 ?_; (with_reducible refine (spec_l1Once.calls g525 t522 t530 t531 2 false t534 t535 w _ ?side1 ?side2 A5.out).mono ?_); (case side1 => exact zt26); (case side2 => exact zt18); rintro e w42 ⟨rfl, hi, hb, hk⟩; refine ⟨_, rfl, ?_⟩; have n0_ := Aside0.mk (KeepBut.blk hk (g' := gb521) (o := .cells #[.string (⟨#[]⟩ : ByteArray), .string (⟨#[]⟩ : ByteArray)] 33 (0, 0)) (by (with_reducible repeat (first | refine blk_drewN ?_ _ | refine blk_drew ?_ | refine blk_alloc ?_ _)); refine blk_far ?_ NB521_532.out _; (with_reducible repeat (first | refine blk_drewN ?_ _ | refine blk_drew ?_ | refine blk_alloc ?_ _)); refine blk_far ?_ NB521_532.out _; (with_reducible repeat (first | refine blk_drewN ?_ _ | refine blk_drew ?_ | refine blk_alloc ?_ _)); exact BK521.out) NB521_525.out (by simp)); have n1_ := Aside0.mk (KeepBut.blk hk (g' := gb532) (o := .cells #[.string t526, .string t529] 33 (0, 0)) (by (with_reducible repeat (first | refine blk_drewN ?_ _ | refine blk_drew ?_ | refine blk_alloc ?_ _)); refine blk_put (cs := #[.string t526, .string (⟨#[]⟩ : ByteArray)]) ?_ 1 _ rfl; (with_reducible repeat (first | refine blk_drewN ?_ _ | refine blk_drew ?_ | refine blk_alloc ?_ _)); refine blk_put (cs := #[.string (⟨#[]⟩ : ByteArray), .string (⟨#[]⟩ : ByteArray)]) ?_ 0 _ rfl; (with_reducible repeat (first | refine blk_drewN ?_ _ | refine blk_drew ?_ | refine blk_alloc ?_ _)); exact BK532.out) NB532_525.out (by simp)); have n2_ := Aside0.mk (hb); have n3_ := Aside0.mk (hi); clear BK521; clear BK532; clear HB; clear HI525; have BK521 := n0_; have BK532 := n1_; have HB := n2_; have HI525 := n3_; clear n0_ n1_ n2_ n3_; (try clear hb); (try clear hb2); (try clear hk); (try clear hi)))
  have n0_ := Aside0.mk (blk_drew BK521.out)
  have n1_ := Aside0.mk (blk_drew BK532.out)
  have n2_ := Aside0.mk (IsS77.drew HI525.out)
  have n3_ := Aside0.mk (below_drew1 HB.out)
  clear BK521
  clear BK532
  clear HI525
  clear HB
  have BK521 := n0_
  have BK532 := n1_
  have HI525 := n2_
  have HB := n3_
  clear n0_ n1_ n2_ n3_
  obtain ⟨i044, hi044, _, hsz44, _⟩ := info_parts info5
  obtain ⟨A44, hcut44, hA44, hC44⟩ := print_drop_of (P := Tryz.prog) (Value.int .u8) 0 22 5 .i64 Tryz.underlying22 hi044 hsz44 A0 c0 l0 (ji30) (of_decide_eq_true zt8) (of_decide_eq_true zt8) HC0.out
  have HR541 := Aside0.mk (Kd.C_of_reads (h1 := fun _ => rfl) (hA44 _ (Kd.reads_of_C HR0.out)))
  have HC541 := Aside0.mk hC44
  clear hA44 hC44 hi044 hsz44
  refine start_ (n := 9) (S := fun w' => w'.cell? ⟨gb532, 0, none⟩ = some (.string t526) ∧ w'.cell? ⟨gb532, 1, none⟩ = some (.string t529)) (ds := []) bt0_18 (by kernel_rfl) rfl rfl ⟨(blk_cell BK532.out 0).trans rfl, (blk_cell BK532.out 1).trans rfl⟩ (fun hHeld => ?_); refine with_tabW spec_DrawPutFile.tab5 spec_DrawPutFile.bits5 (fun HT_ HW_ => ?_)
  generalize w42.drew = w43 at BK521 BK532 HI525 HB HR541 hHeld ⊢
  refine pure_ (i := 0) (N := some 19) (v := ?_) (a' := ?_) bt1_18 rfl rfl (any_of HT_.out (by kernel_rfl)) (fun _ _ _ h => h) (Or.inl ⟨by rfl, ?_⟩) ?_ ?_
  rotate_left
  ·intro w'
   go_simp
   with_reducible rfl
  rotate_left
  ·simp only [Act.put, List.setIfInBounds_toArray, List.set_cons_zero, List.set_cons_succ, i64_w, i32_w]
   rfl
  refine pure_ (i := 1) (N := some 20) (v := ?_) (a' := ?_) bt2_18 rfl rfl (any_of HT_.out (by kernel_rfl)) (fun _ _ _ h => h) (Or.inl ⟨by rfl, ?_⟩) ?_ ?_
  rotate_left
  ·intro w'
   go_simp
   with_reducible rfl
  rotate_left
  ·simp only [Act.put, List.setIfInBounds_toArray, List.set_cons_zero, List.set_cons_succ, i64_w, i32_w]
   rfl
  refine pure_ (i := 2) (N := some 21) (v := ?_) (a' := ?_) bt3_18 rfl rfl (any_of HT_.out (by kernel_rfl)) (fun _ _ _ h => h) (Or.inl ⟨by rfl, ?_⟩) ?_ ?_
  rotate_left
  ·intro w'
   go_simp
   with_reducible rfl
  rotate_left
  ·simp only [Act.put, List.setIfInBounds_toArray, List.set_cons_zero, List.set_cons_succ, i64_w, i32_w]
   rfl
  refine pure_ (i := 3) (N := some 22) (v := ?_) (a' := ?_) bt4_18 rfl rfl (any_of HT_.out (by kernel_rfl)) (fun _ _ _ h => h) (Or.inl ⟨by rfl, ?_⟩) ?_ ?_
  rotate_left
  ·intro w'
   go_simp
   with_reducible rfl
  rotate_left
  ·simp only [Act.put, List.setIfInBounds_toArray, List.set_cons_zero, List.set_cons_succ, i64_w, i32_w]
   rfl
  refine pure_ (i := 4) (N := some 23) (v := ?_) (a' := ?_) #[true, true, true, true, true, false, false, false, false] rfl rfl (any_of HT_.out (by kernel_rfl)) (fun _ _ _ h => h) (Or.inl ⟨by rfl, ?_⟩) ?_ ?_
  rotate_left
  ·intro w'
   go_simp
   with_reducible rfl
  rotate_left
  ·simp only [Act.put, List.setIfInBounds_toArray, List.set_cons_zero, List.set_cons_succ, i64_w, i32_w]
   rfl
  refine take_ (i := 6) (N := some 25) (v := ?_) (a' := ?_) #[true, true, true, true, true, false, true, false, false] rfl rfl (take_ofW HT_.out HW_.out (by kernel_rfl)) (fun _ _ _ h => h) (Or.inl ⟨by rfl, ?_⟩) hHeld ?_ ?_
  rotate_left
  ·rintro w' ⟨s0, s1⟩
   go_simp
   with_reducible rfl
  rotate_left
  ·simp only [Act.put, List.setIfInBounds_toArray, List.set_cons_zero, List.set_cons_succ, i64_w, i32_w]
   rfl
  refine one_ (i := 5) (N := some 24) #[true, true, true, true, true, true, true, false, false] rfl rfl (one_of HT_.out (by kernel_rfl)) (by decide) (fun K hK => ?_)
  refine goes_ Tryz.func18 (by kernel_rfl) rfl #[.slice A44 (l0.drop ((ji30) : Int).toNat).length (c0 - (ji30).toNat)] (by rfl) rfl rfl (by (try simp only [List.map_toArray, List.map_cons, List.map_nil]); first | done | (rw [show (l0.drop ((ji30) : Int).toNat).length = (l0.length - (ji30).toNat) from List.length_drop] <;> rfl) | (simp only [hji30]; rfl) | rfl | (simp only [List.length_drop, List.length_take]; rfl)) ?_
  with_reducible refine (spec_DrawFilesOk.calls k _ _ (l0.drop ((ji30) : Int).toNat) t542 _ ?side1 ?side2 A33.out).mono ?_
  (case side1 => exact cz (Kd.C_below HR541.out HB.out))
  (case side2 => exact HC541.out)
  rintro e w45 ⟨v543, rfl, ho0, hb⟩
  refine ⟨_, rfl, ?_⟩
  have n0_ := Aside0.mk (Kd.R_lower (Kd.R_newB (Kd.R_newB ho0 (g := gb521) (o := .cells #[.string (⟨#[]⟩ : ByteArray), .string (⟨#[]⟩ : ByteArray)] 33 (0, 0)) (oz BK521.out)) (g := gb532) (o := .cells #[.string t526, .string t529] 33 (0, 0)) (oz BK532.out)) (below_size zt18))
  have n1_ := Aside0.mk (blk_below (g := gb521) (o := .cells #[.string (⟨#[]⟩ : ByteArray), .string (⟨#[]⟩ : ByteArray)] 33 (0, 0)) (oz BK521.out) hb)
  have n2_ := Aside0.mk (IsS77.below zt26 hb)
  have n3_ := Aside0.mk (blk_below (g := gb532) (o := .cells #[.string t526, .string t529] 33 (0, 0)) (oz BK532.out) hb)
  have n4_ := Aside0.mk (below_step zt18 hb)
  clear BK521
  clear HI525
  clear BK532
  clear HB
  have HO544 := n0_
  have BK521 := n1_
  have HI525 := n2_
  have BK532 := n3_
  have HB := n4_
  clear n0_ n1_ n2_ n3_ n4_
  (try clear hb)
  (try clear hb2)
  (try clear hk)
  (try clear hi)
  (try clear ho0)
  refine hK.out _ _ ⟨(blk_cell BK532.out 0).trans rfl, (blk_cell BK532.out 1).trans rfl⟩ (fun hHeld => ?_)
  clear hK K
  refine norm_ (a' := ?_) ?_ ?_
  rotate_left
  ·show Act.put _ (some 24) _ = _
   simp only [Act.put, List.setIfInBounds_toArray, List.set_cons_zero, List.set_cons_succ, i64_w, i32_w]
   rfl
  refine pure_ (i := 7) (N := some 2) (v := ?_) (a' := ?_) #[true, true, true, true, true, true, true, true, false] rfl rfl (any_of HT_.out (by kernel_rfl)) (fun _ _ _ h => h) (Or.inl ⟨by rfl, ?_⟩) ?_ ?_
  rotate_left
  ·intro w'
   go_simp
   with_reducible rfl
  rotate_left
  ·simp only [Act.put, List.setIfInBounds_toArray, List.set_cons_zero, List.set_cons_succ, i64_w, i32_w]
   rfl
  refine one_ (i := 8) (N := none) #[true, true, true, true, true, true, true, true, true] rfl rfl (one_of HT_.out (by kernel_rfl)) (by decide) (fun K hK => ?_)
  have hs46 : w45.cell? ⟨gb521, 0, none⟩ = some (.string (⟨#[]⟩ : ByteArray)) := (blk_cell BK521.out 0).trans rfl
  have hfs46 := blk_frozen BK521.out 0
  have hns46_1 := NB532_521.out
  have hms46_1 := NB521_532.out
  have hs47 : w45.cell? ⟨gb521, 1, none⟩ = some (.string (⟨#[]⟩ : ByteArray)) := (blk_cell BK521.out 1).trans rfl
  have hfs47 := blk_frozen BK521.out 1
  have hns47_1 := NB532_521.out
  have hms47_1 := NB521_532.out
  refine skip_ (w1 := ?_) (by rfl) rfl ?_ ?_
  rotate_left
  ·go_simp
   rfl
  refine hK.out _ _ ⟨((cell_far (p := ⟨gb521, _, none⟩) NB532_521.out _).trans (((cell_far (p := ⟨gb521, _, none⟩) NB532_521.out _).trans (hHeld.1)))), ((cell_far (p := ⟨gb521, _, none⟩) NB532_521.out _).trans (((cell_far (p := ⟨gb521, _, none⟩) NB532_521.out _).trans (hHeld.2))))⟩ (fun hHeld => ?_)
  clear hK K
  refine done_ (done_of HT_.out (by kernel_rfl)) ?_
  try go_wp2
  refine bodyPost_ret (results_tc rfl _ _ gb521 33 #[.string t526, .string t529] (0, 0) _ rfl (by (with_reducible repeat (first | refine blk_drewN ?_ _ | refine blk_drew ?_ | refine blk_alloc ?_ _)); refine blk_put (cs := #[.string t526, .string (⟨#[]⟩ : ByteArray)]) ?_ 1 _ rfl; (with_reducible repeat (first | refine blk_drewN ?_ _ | refine blk_drew ?_ | refine blk_alloc ?_ _)); refine blk_put (cs := #[.string (⟨#[]⟩ : ByteArray), .string (⟨#[]⟩ : ByteArray)]) ?_ 0 _ rfl; (with_reducible repeat (first | refine blk_drewN ?_ _ | refine blk_drew ?_ | refine blk_alloc ?_ _)); exact BK521.out) Tryz.underlying33 rfl (by kernel_rfl)) rfl ?_
  exact ⟨_, by first | rfl | (simp [errW_none, errW_some] <;> rfl) | (simp only [← hji30]; first | rfl | (simp [errW_none, errW_some] <;> rfl)) | (simp [*, errW_none, errW_some] <;> rfl), by (with_reducible repeat (first | apply Kd.R_alloc | apply Kd.R_drewN | apply Kd.R_drew)); exact Kd.R_mono (Kd.R_far (p := ⟨gb521, 1, none⟩) (Kd.R_far (p := ⟨gb521, 0, none⟩) (Kd.R_mono HO544.out (fun k_ hk => (⟨hk, hk.1.2⟩ : _ ∧ k_ ≠ gb521))) (fun _ hk => hk.2) (.string t526)) (fun _ hk => hk.2) (.string t529)) (fun _ hk => trivial), zt18⟩

/-! ### impl_File_36: function 36 (a contract of mine) -/
def impl_File_36.f (l0 : List S33) : Option (List S33) := if l0.length * 32 ≤ 140737488355328 then some l0 else none
theorem impl_File_36.none_ {w : World} {l0 : List S33} (h : Kd.C k33 w none l0.length l0) : l0 = [] := by
 cases l0 with
 | nil => rfl
 | cons x r =>
  obtain ⟨ad, c, e, _⟩ := Kd.C_get h x 0 (Int.le_refl _) (by simp only [List.length_cons]; omega)
  cases e
set_option maxHeartbeats 4000000 in
set_option maxRecDepth 100000 in
theorem impl_File_36.calls (A0 : Option Addr) (c0 : Nat) (l0 : List S33) (r : List S33) (w : World) (hr0 : Kd.C k33 w A0 l0.length l0) (hc0 : l0.length ≤ c0) (h : impl_File_36.f l0 = some r) :
  Calls Tryz.prog 36 #[.slice A0 l0.length c0] w fun e w' => ∃ v0_ : Value, e = .returned (v0_) ∧ Kd.R k33 33 w' w.heap.size (fun _ => True) v0_ r ∧ Below w.heap.size w w' := by
 unfold impl_File_36.f at h
 by_cases c : l0.length * 32 ≤ 140737488355328
 case neg => rw [if_neg c] at h; cases h
 rw [if_pos c] at h
 obtain rfl := Option.some.inj h
 clear h
 have hq : ∀ (w : World) (a : Option Addr) (n c n' c' : Nat), (binOp .eql 24 (.slice a n c) (.slice none n' c')).run Tryz.prog w = .ok (.bool a.isNone) w := fun w a n c n' c' => Lib.run_eql_slice_nil w _ _ a n c n' c' Tryz.underlying24
 cases A0 with
 | none =>
  obtain rfl := impl_File_36.none_ hr0
  clear hr0 hc0 c
  go_enter Tryz.func36, Tryz.ntmps36
  go_wp2
  go_ret
  exact ⟨_, rfl, Kd.R_nil _ _ _ _ _, Below.refl _ _⟩
 | some ad =>
  have HR := Aside0.mk hr0
  have HC := Aside0.mk hc0
  have HL := Aside0.mk c
  clear hr0 hc0 c
  go_enter Tryz.func36, Tryz.ntmps36
  go_wp2_with (first
   | ((with_reducible refine gate_dst (N := 5) rfl ?_); refine Kd.R_lit k33 _ 33 ?hg (N := 5) ?hd (xs := ([] : List S33)) (inner := []) (ok := fun _ => True) (okp := fun _ => True) ?hr ?hp (fun _ hk => hk) trivial (Below.refl _ _) (Nat.le_refl _) (by simp) ?_; (case hd => rfl); (case hg => rfl); (case hr => first | (go_simp; done) | (go_simp; rfl)); (case hp => exact (Reps.none _ _)); intro v5 w1 ho1 hb1 hg_ hnew_; clear hg_ hnew_; have HO1 := Aside0.mk (show Kd.R k33 33 w1 w.heap.size (fun _ => True) v5 ([] : List S33) from ho1); have HB1 := Aside0.mk hb1; clear ho1 hb1)
   | ((with_reducible refine gate_builtin (b := .append) (xs := #[.tmp 5, .tmp 6]) rfl ?_); at_builtin; refine Kd.R_append_rows k33 (w0 := w) w.heap.size rfl (.tmp 5) (.tmp 6) 24 33 (.agg #[(.string ⟨#[]⟩), (.string ⟨#[]⟩)]) 32 rfl Tryz.underlying24 info33 rfl (by decide) (by omega) v5 ([] : List S33) l0 _ _ _ (fun _ => True) (fun _ => False) rfl rfl ?aO ?aR (fun _ _ h => h) (fun _ h => h.elim) ?aF ?aB ?aS ?aL ?_; (case aO => (with_reducible repeat (first | apply Kd.R_alloc | apply Kd.R_drewN | apply Kd.R_drew)); exact HO1.out); (case aR => exact cz (Kd.C_below HR.out HB1.out)); (case aF => exact fun _ _ => trivial); (case aB => repeat (first | (with_reducible first | exact HB1.out | apply below_alloc | apply pw_below_drewN | apply below_drew1) | exact HB1.out)); (case aS => exact HB1.out.size); (case aL => have := HL.out; simp only [List.length_nil]; omega); intro v7 w2 ho2 hb2 hg2 hat2; have HO2 := Aside0.mk ho2; have HB2 := Aside0.mk hb2; clear ho2 hb2 hg2 hat2))
  go_ret
  exact ⟨_, rfl, HO2.out, HB2.out⟩

/-! ### impl_fileAt: function 37 (a contract of mine) -/
def impl_fileAt.f (l0 : List S33) (a1 : ByteArray) : Option Int :=
 if l0.length ≤ 140737488355328 then some (Lib.idxBy (fun _ (y : S33) => y.f0.toList == a1.toList) l0 z33) else none
def impl_fileAt.enc (x : S33) : List Value := [.string x.f0, .string x.f1]
theorem impl_fileAt.pred (s : ByteArray) (B : Nat) (w : World) (hB : B < w.heap.size) (hcell : w.cell? ⟨B, 0, none⟩ = some (.string s)) :
  PredBelow Tryz.prog 55 #[.pointer (some ⟨B, 0, none⟩)] (fun x => .agg (impl_fileAt.enc x).toArray) (fun x => x.f0.toList == s.toList) w := fun W x hb => by
 have hc : W.cell? ⟨B, 0, none⟩ = some (.string s) := (hb.cell (p := ⟨B, 0, none⟩) hB).trans hcell
 have hBW : B < W.heap.size := Nat.lt_of_lt_of_le hB hb.size
 have hne : B ≠ W.heap.size := by omega
 show Calls Tryz.prog 55 #[.agg #[.string x.f0, .string x.f1], .pointer (some ⟨B, 0, none⟩)] W _
 go_enter Tryz.func55, Tryz.ntmps55
 go_wp2
 all_goals (go_ret; exact ⟨by simp_all, hb.alloc hb.size _⟩)
theorem impl_fileAt.empty (A : Option Addr) (c : Nat) (fv : Value) (w : World) :
  Calls Tryz.prog 54 #[.slice A 0 c, fv] w fun e w' => e = .returned (.int .i64 (-1)) ∧ w' = w := by
 go_enter Tryz.func54, Tryz.ntmps54
 go_wp2
 go_loopg [5, 8] 0 (fun _ _ s8 wr => s8 = .int .i64 0 ∧ wr = w)
 case atStart => exact ⟨rfl, rfl⟩
 case round =>
  obtain ⟨rfl, rfl⟩ := hrel
  go_wp2
  go_ret
  exact ⟨rfl, rfl⟩
set_option maxHeartbeats 1000000 in
theorem impl_fileAt.calls (A0 : Option Addr) (c0 : Nat) (l0 : List S33) (a1 : ByteArray) (r : Int) (w : World) (hr0 : Kd.C k33 w A0 l0.length l0) (hc0 : l0.length ≤ c0) (h : impl_fileAt.f l0 a1 = some r) :
  Calls Tryz.prog 37 #[.slice A0 l0.length c0, .string a1] w fun e w' => e = .returned (.int .i64 r) ∧ Below w.heap.size w w' := by
 unfold impl_fileAt.f at h
 by_cases c : l0.length ≤ 140737488355328
 case neg => rw [if_neg c] at h; cases h
 rw [if_pos c] at h
 obtain rfl := Option.some.inj h
 by_cases hn : l0 = []
 ·subst hn
  have hcon := impl_fileAt.empty A0 c0 (.func (.func 55) #[] #[.pointer (some ⟨w.heap.size, 0, none⟩)]) (w.alloc (.cells #[.string a1] 9))
  go_enter Tryz.func37, Tryz.ntmps37
  go_wp2_with (go_at_call 54; refine hcon.mono ?_; rintro e w' ⟨rfl, rfl⟩)
  go_ret
  exact ⟨rfl, (Below.refl _ w).alloc (Nat.le_refl _) _⟩
 ·have hp := List.length_pos_iff.2 hn
  obtain ⟨ad, e0, h00, h01⟩ := at_T33 hr0 0 (Int.le_refl _) (by omega)
  subst e0
  obtain ⟨b, o, s⟩ := ad
  have hs : s = none := by
   cases s with
   | none => rfl
   | some q =>
    exfalso
    simp only [Int.toNat_zero, Nat.zero_mul, Addr.add, if_true, World.cell?] at h00
    split at h00 <;> simp at h00
  subst hs
  have hb : b < w.heap.size := World.block_lt_of_cell? w _ (by simpa only [Int.toNat_zero, Nat.zero_mul, Addr.add, if_true] using h00)
  have cells : ∀ j, j < l0.length → w.cell? ⟨b, o + j * 2, none⟩ = some (.string (l0.getD j z33).f0) ∧ w.cell? ⟨b, o + j * 2 + 1, none⟩ = some (.string (l0.getD j z33).f1) := by
   intro j hj
   obtain ⟨ad, e1, h1, h2⟩ := at_T33 hr0 (j : Int) (by omega) (by omega)
   obtain rfl := Option.some.inj e1
   rw [Int.toNat_natCast] at h1 h2
   by_cases hj0 : j = 0
   ·subst hj0
    simp only [Nat.zero_mul, Addr.add, if_true, Nat.add_zero] at h1 h2 ⊢
    exact ⟨h1, h2⟩
   ·have hj2 : ¬ j * 2 = 0 := by omega
    simp only [Addr.add, if_neg hj2] at h1 h2
    exact ⟨h1, h2⟩
  haveI : Inhabited S33 := ⟨z33⟩
  have eg : ∀ args w, (callFunc 55 args).run Tryz.prog w = .ok (.enter 55 args) w := enters_of Tryz.func55 (by kernel_rfl) rfl
  have hcon := AnyQ.slices_IndexFunc Tryz.laysIF 2 Tryz.isAgg33 Tryz.sizeOf33 impl_fileAt.enc (fun _ => rfl) (fun x => x.f0.toList == a1.toList) 55 #[.pointer (some ⟨w.heap.size, 0, none⟩)] eg b o l0.length c0 l0 (w.alloc (.cells #[.string a1] 9))
   (impl_fileAt.pred a1 w.heap.size _ (by simp) (by simp)) (Nat.le_refl _) (by omega) (by simp; omega) (fun j hj i v hi => by
    refine Lib.cell?_alloc_some _ ?_
    have h1 := cells j hj
    have ej : l0[j]! = l0.getD j z33 := by rw [getElem!_pos l0 j hj, List.getD_eq_getElem?_getD, List.getElem?_eq_getElem hj]; rfl
    rw [ej] at hi
    generalize l0.getD j z33 = y at hi h1
    match i, hi with
    | 0, hi => simp [impl_fileAt.enc] at hi; rw [← hi]; exact h1.1
    | 1, hi => simp [impl_fileAt.enc] at hi; rw [← hi]; exact h1.2
    | i + 2, hi => simp [impl_fileAt.enc] at hi)
  change Calls Tryz.prog 54 _ _ _ at hcon
  rw [List.take_length] at hcon
  clear cells h00 h01 hr0
  have hd : ∀ z' : S33, Lib.idxBy (fun _ (y : S33) => y.f0.toList == a1.toList) l0 z' = Lib.idxBy (fun _ (y : S33) => y.f0.toList == a1.toList) l0 z33 := by
   intro z'
   unfold Lib.idxBy
   generalize 0 = k
   clear hn hp hc0 c h hcon
   induction l0 generalizing k with
   | nil => rfl
   | cons x r ih => simp only [Lib.idxByFrom, ih]
  rw [hd] at hcon
  generalize Lib.idxBy (fun _ (y : S33) => y.f0.toList == a1.toList) l0 z33 = r at hcon ⊢
  go_enter Tryz.func37, Tryz.ntmps37
  go_wp2_with (go_at_call 54; refine hcon.mono ?_; rintro e w' ⟨rfl, hb'⟩)
  go_ret
  exact ⟨rfl, ((Below.refl _ w).alloc (Nat.le_refl _) _).trans (hb'.mono (by simp))⟩

end Go.Proofs.YtkmcnjpgamaljaaGreatDoor.PFnFiles

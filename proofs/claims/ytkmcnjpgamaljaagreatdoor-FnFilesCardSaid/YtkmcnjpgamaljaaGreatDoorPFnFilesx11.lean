-- Out of the kit's print, with contracts of mine among it (myprint.py).
import Derived.Lib.QuietBelow
import Derived.Test.YtkmcnjpgamaljaaGreatDoorPFnFilesx0
import Derived.Test.YtkmcnjpgamaljaaGreatDoorPFnFilesx6
import Derived.Test.YtkmcnjpgamaljaaGreatDoorPFnFilesx10
namespace Go.Proofs.YtkmcnjpgamaljaaGreatDoor.PFnFiles
open Go.RowKit Go.Proofs.YtkmcnjpgamaljaaGreatDoorW.PrintWords Go.Proofs.YtkmcnjpgamaljaaGreatDoorW.PrintLast Go.Proofs.YtkmcnjpgamaljaaGreatDoorW.PrintMore
attribute [local go_sem] max2_int min2_int max_two min_two max_three min_three max_four min_four   -- for this text's walks alone
set_option linter.unusedVariables false
set_option linter.unusedSimpArgs false

attribute [local go_sem high] eqA33
/-! ### laws_sameFiles: function 9 -/
def laws_sameFiles.l0 : Nat → List (S33) → List (S33) → Int → Option (Bool)
 | 0, _, _, _ => none
 | k + 1, x0, x1, x5 => if x5 < (x0.length : Int) then (if 0 ≤ x5 then (if x5 < (x1.length : Int) then (if (!((((rd_T33 x0 x5).f0).toList) == (((rd_T33 x1 x5).f0).toList)) || (!((((rd_T33 x0 x5).f1).toList) == (((rd_T33 x1 x5).f1).toList)))) = true then (some false) else (laws_sameFiles.l0 k x0 x1 (wrap64 (x5 + 1)))) else (none)) else (none)) else (some true)
def laws_sameFiles.f (k : Nat) (l0 : List (S33)) (l1 : List (S33)) : Option (Bool) := if (l0.length : Int) = (l1.length : Int) then (laws_sameFiles.l0 k l0 l1 0) else (some false)
theorem laws_sameFiles.mono_l : ∀ k, (∀ y0 y1 y2, LeO (laws_sameFiles.l0 k y0 y1 y2) (laws_sameFiles.l0 (k + 1) y0 y1 y2))
 | 0 => fun _ _ _ r h => by simp [laws_sameFiles.l0] at h
 | k + 1 => by
  have ih0 := laws_sameFiles.mono_l k
  ·intro y0 y1 y2
   unfold laws_sameFiles.l0
   repeat' (first | (with_reducible first | exact ih0 _ _ _ | exact LeO.refl _ | exact LeO.none _ | refine LeO.ite ?_ ?_ | refine LeO.bind ?_ (fun _ => ?_)) | exact LeO.none _ | refine LeO.ite ?_ ?_ | refine LeO.bind ?_ (fun _ => ?_))
theorem laws_sameFiles.mono : ∀ a0 a1 k, LeO (laws_sameFiles.f k a0 a1) (laws_sameFiles.f (k + 1) a0 a1) := by
 intro a0 a1 k
 have ih0 := laws_sameFiles.mono_l k
 unfold laws_sameFiles.f
 repeat' (first | (with_reducible first | exact ih0 _ _ _ | exact LeO.refl _ | exact LeO.none _ | refine LeO.ite ?_ ?_ | refine LeO.bind ?_ (fun _ => ?_)) | exact LeO.none _ | refine LeO.ite ?_ ?_ | refine LeO.bind ?_ (fun _ => ?_))
set_option maxHeartbeats 8000000 in
set_option maxRecDepth 100000 in
theorem laws_sameFiles.calls (k : Nat) (A0 : Option Addr) (c0 : Nat) (l0 : List (S33)) (A1 : Option Addr) (c1 : Nat) (l1 : List (S33)) (r : Bool) (w : World) (hr0 : Kd.C k33 w A0 l0.length l0) (hc0 : l0.length ≤ c0) (hr1 : Kd.C k33 w A1 l1.length l1) (hc1 : l1.length ≤ c1) (h : laws_sameFiles.f k l0 l1 = some r) :
  Calls Tryz.prog 9 #[.slice A0 l0.length c0, .slice A1 l1.length c1] w fun e w' => e = .returned (.bool r) ∧ Drawn0 w w' := by
 have hu33 := Tryz.underlying33
 have HR0 := Aside0.mk hr0
 have HC0 := Aside0.mk hc0
 clear hr0 hc0
 have HR1 := Aside0.mk hr1
 have HC1 := Aside0.mk hc1
 clear hr1 hc1
 try unfold laws_sameFiles.f at h
 have H := h
 clear h
 by_cases c3 : (l0.length : Int) = (l1.length : Int)
 ·rw [if_pos c3] at H
  have c3b0 := beq_iff_eq.mpr c3
  have c3b1 := bne_eq_false_iff_eq.mpr c3
  have c3b2 : (l0.length == l1.length) = true := by first | simpa using c3 | (simp at c3 ⊢; omega)
  clear c3
  have H' := Aside0.mk H
  clear H
  go_enter Tryz.func9, Tryz.ntmps9
  go_wp2
  repeat (go_quiet (fail); try go_wp2)
  go_loopg [5] k (fun kq v5 w' => ∃ (x5_1 : Int), v5 = .int .i64 x5_1 ∧ Aside0 (laws_sameFiles.l0 kq l0 l1 x5_1 = some r) ∧ Aside0 (kq ≤ k) ∧ Drawn0 w w')
  case atStart => exact ⟨(0), zt12, H', ⟨Nat.le_refl _⟩, zt29⟩
  case round =>
   clear H'
   try clear c1
   try clear p2
   try clear c3
   try clear c3b0
   try clear c3b1
   try clear c3b2
   obtain ⟨x5_1, rfl, HA, HK1, ⟨m1, rfl⟩⟩ := hrel
   cases gk with
   | zero => exact absurd HA.out (by simp [laws_sameFiles.l0])
   | succ k1 =>
    have H := HA.out
    clear HA
    simp only [laws_sameFiles.l0] at H
    by_cases c4 : x5_1 < (l0.length : Int)
    rw [if_pos c4] at H
    have c4b0 := decide_eq_true c4
    clear c4
    replace H := it0 H
    obtain ⟨c5, H⟩ := H
    have c5b0 : decide (0 ≤ x5_1) = true := decide_eq_true c5
    clear c5
    replace H := it0 H
    obtain ⟨c6, H⟩ := H
    have c6b0 := decide_eq_true c6
    clear c6
    by_cases c7 : (!((((rd_T33 l0 x5_1).f0).toList) == (((rd_T33 l1 x5_1).f0).toList)) || (!((((rd_T33 l0 x5_1).f1).toList) == (((rd_T33 l1 x5_1).f1).toList)))) = true
    rw [if_pos c7] at H
    have c7b0 : (!((((rd_T33 l0 x5_1).f0).toList) == (((rd_T33 l1 x5_1).f0).toList)) || (!((((rd_T33 l0 x5_1).f1).toList) == (((rd_T33 l1 x5_1).f1).toList)))) = true := c7
    clear c7
    obtain rfl := Option.some.inj H
    have p261 : 0 ≤ (x5_1 : Int) := of_decide_eq_true zt8
    have q261 : x5_1 < (l0.length : Int) := of_decide_eq_true zt8
    obtain ⟨ad261, e261, hx261_0, hx261_1⟩ := at_T33 HR0.out x5_1 p261 q261
    cases e261
    replace p261 := eq_true p261
    replace q261 := eq_true q261
    have p262 : 0 ≤ (x5_1 : Int) := of_decide_eq_true zt8
    have q262 : x5_1 < (l1.length : Int) := of_decide_eq_true zt8
    obtain ⟨ad262, e262, hx262_0, hx262_1⟩ := at_T33 HR1.out x5_1 p262 q262
    cases e262
    replace p262 := eq_true p262
    replace q262 := eq_true q262
    rotate_left
    rw [if_neg c7] at H
    have c7b0 : (!((((rd_T33 l0 x5_1).f0).toList) == (((rd_T33 l1 x5_1).f0).toList)) || (!((((rd_T33 l0 x5_1).f1).toList) == (((rd_T33 l1 x5_1).f1).toList)))) = false := by simpa using c7
    clear c7
    have H' := Aside0.mk H
    clear H
    have p261 : 0 ≤ (x5_1 : Int) := of_decide_eq_true zt8
    have q261 : x5_1 < (l0.length : Int) := of_decide_eq_true zt8
    obtain ⟨ad261, e261, hx261_0, hx261_1⟩ := at_T33 HR0.out x5_1 p261 q261
    cases e261
    replace p261 := eq_true p261
    replace q261 := eq_true q261
    have p262 : 0 ≤ (x5_1 : Int) := of_decide_eq_true zt8
    have q262 : x5_1 < (l1.length : Int) := of_decide_eq_true zt8
    obtain ⟨ad262, e262, hx262_0, hx262_1⟩ := at_T33 HR1.out x5_1 p262 q262
    cases e262
    replace p262 := eq_true p262
    replace q262 := eq_true q262
    rotate_left
    rw [if_neg c4] at H
    have c4b0 := decide_eq_false c4
    clear c4
    obtain rfl := Option.some.inj H
    rotate_left
    all_goals
     repeat (go_wp2; first | go_quiet (fail) | (go_ret; exact ⟨zt12, zt29⟩) | (go_roundg k1; (case measure => have := HK1.out; omega); (case rel => exact ⟨(wrap64 (x5_1 + 1)), zt12, H', ⟨by have := HK1.out; omega⟩, zt29⟩)))
 ·rw [if_neg c3] at H
  have c3b0 := beq_eq_false_iff_ne.mpr c3
  have c3b1 := bne_iff_ne.mpr c3
  have c3b2 : (l0.length == l1.length) = false := by first | simpa using c3 | (simp at c3 ⊢; omega)
  obtain rfl := Option.some.inj H
  go_enter Tryz.func9, Tryz.ntmps9
  go_wp2
  repeat (go_quiet (fail); try go_wp2)
  go_ret
  exact ⟨zt12, zt29⟩

/-! ### spec_Var: function 46 -/
def spec_Var.l0 : Nat → Int → List Int → Option (ByteArray)
 | 0, _, _ => none
 | k + 1, x0, x3 => if x0 ≥ 128 then (if x3.length < 140737488355328 then (spec_Var.l0 k (wrap64 (Int.tdiv x0 128)) (x3 ++ [(wrap64 (128 + (Int.tmod x0 128))) % 256])) else (none)) else (if x3.length < 140737488355328 then (some (strOfNums (x3 ++ [(x0) % 256]))) else (none))
def spec_Var.f (k : Nat) (a0 : Int) : Option (ByteArray) := (spec_l1In.f a0 0 562949953421311).bind fun t263 => (if t263 = true then (spec_Var.l0 k a0 (([] : List Int))) else (some (⟨#[]⟩ : ByteArray)))
theorem spec_Var.mono_l : ∀ k, (∀ y0 y1, LeO (spec_Var.l0 k y0 y1) (spec_Var.l0 (k + 1) y0 y1))
 | 0 => fun _ _ r h => by simp [spec_Var.l0] at h
 | k + 1 => by
  have ih0 := spec_Var.mono_l k
  ·intro y0 y1
   unfold spec_Var.l0
   repeat' (first | (with_reducible first | exact ih0 _ _ | exact LeO.refl _ | exact LeO.none _ | refine LeO.ite ?_ ?_ | refine LeO.bind ?_ (fun _ => ?_)) | exact LeO.none _ | refine LeO.ite ?_ ?_ | refine LeO.bind ?_ (fun _ => ?_))
theorem spec_Var.mono : ∀ a0 k, LeO (spec_Var.f k a0) (spec_Var.f (k + 1) a0) := by
 intro a0 k
 have ih0 := spec_Var.mono_l k
 unfold spec_Var.f
 repeat' (first | (with_reducible first | exact ih0 _ _ | exact LeO.refl _ | exact LeO.none _ | refine LeO.ite ?_ ?_ | refine LeO.bind ?_ (fun _ => ?_)) | exact LeO.none _ | refine LeO.ite ?_ ?_ | refine LeO.bind ?_ (fun _ => ?_))
set_option maxHeartbeats 8000000 in
set_option maxRecDepth 100000 in
theorem spec_Var.calls (k : Nat) (a0 : Int) (r : ByteArray) (w : World) (h : spec_Var.f k a0 = some r) :
  Calls Tryz.prog 46 #[.int .i64 a0] w fun e w' => e = .returned (.string r) ∧ Below w.heap.size w w' := by
 have HB := Aside0.mk (Below.refl w.heap.size w)
 try unfold spec_Var.f at h
 have H := h
 clear h
 replace H := bnd H
 obtain ⟨t263, A2, H⟩ := H
 try dsimp only at H
 by_cases c3 : t263 = true
 ·subst c3
  rw [if_pos rfl] at H
  obtain ⟨y264, hy264⟩ : ∃ y_ : List Int, y_ = (([] : List Int)) := ⟨_, rfl⟩
  replace H : (spec_Var.l0 k a0 y264) = some r := by first | (rw [hy264]; with_reducible exact H) | (have H2_ := (Option.bind_some _ _).symm.trans H; rw [hy264]; with_reducible exact H2_) | (have H2_ := (Option.bind_some _ _).symm.trans H; with_reducible exact H2_) | with_reducible exact H | (rw [hy264]; exact H) | exact H
  have Ny264 := Aside0.mk hy264
  clear hy264
  have H' := Aside0.mk H
  clear H
  go_enter Tryz.func46, Tryz.ntmps46
  go_wp2_with (first | ((with_reducible refine gate_callee (f := 64) rfl ?_); refine goesL_ (some 5) rfl rfl Tryz.func64 (by kernel_rfl) rfl #[.int .i64 a0, .int .i64 0, .int .i64 562949953421311] rfl zt7 ?_; (with_reducible refine (spec_l1In.calls a0 0 562949953421311 true _ A2.out).mono ?_); rintro e w' ⟨rfl, ⟨nd, rfl⟩⟩; refine ⟨_, rfl, ?_⟩) | ((with_reducible refine gate_dst (N := 7) rfl ?_); refine Kd.R_lit (Kd.int .u8) _ 5 ?hg (N := 7) ?hd (xs := ([] : List Int)) (inner := []) (ok := fun _ => True) (okp := fun _ => True) ?hr ?hp (fun _ hk => hk) trivial (Below.refl _ _) (Nat.le_refl _) (by simp) ?_; (case hd => rfl); (case hg => rfl); (case hr => first | (go_simp; done) | (go_simp; rfl)); (case hp => exact (Reps.none _ _)); intro v265 w4 ho5 hb hg_ hnew_; clear hg_ hnew_; (first | rw [← Ny264.out] at ho5 | (simp only [Int.reduceToNat] at ho5; rw [← Ny264.out] at ho5)); have n0_ := Aside0.mk (Kd.R_lower ho5 (below_size zt3)); have n1_ := Aside0.mk (below_step zt3 hb); clear HB; have HO266 := n0_; have HB := n1_; clear n0_ n1_; clear hb ho5))
  go_loopg [0, 3] k (fun kq v0 v3 w' => ∃ (x0_1 : Int) (x3_1 : List Int), v0 = .int .i64 x0_1 ∧ Aside0 (spec_Var.l0 kq x0_1 x3_1 = some r) ∧ Aside0 (kq ≤ k) ∧ Aside0 (Kd.R (Kd.int .u8) 5 w' w.heap.size (fun _ => True) v3 x3_1) ∧ Aside0 (Below w.heap.size w w'))
  case atStart => exact ⟨(a0), (y264), zt12, H', ⟨Nat.le_refl _⟩, ⟨by (with_reducible repeat (first | apply Kd.R_alloc | apply Kd.R_drewN | apply Kd.R_drew)); exact HO266.out⟩, ⟨zt3⟩⟩
  case round =>
   clear H'
   try clear p2
   try clear c3
   try clear c4
   obtain ⟨x0_1, x3_1, rfl, HA, HK1, HO_3, HB⟩ := hrel
   cases gk with
   | zero => exact absurd HA.out (by simp [spec_Var.l0])
   | succ k1 =>
    have H := HA.out
    clear HA
    simp only [spec_Var.l0] at H
    by_cases c6 : x0_1 ≥ 128
    rw [if_pos c6] at H
    have c6b0 : decide (128 ≤ x0_1) = true := decide_eq_true c6
    clear c6
    replace H := it0 H
    obtain ⟨c7, H⟩ := H
    have LMc7 := Aside0.mk c7
    clear c7
    obtain ⟨y267, hy267⟩ : ∃ y_ : List Int, y_ = (x3_1 ++ [(wrap64 (128 + (Int.tmod x0_1 128))) % 256]) := ⟨_, rfl⟩
    replace H : (spec_Var.l0 k1 (wrap64 (Int.tdiv x0_1 128)) y267) = some r := by first | (rw [hy267]; with_reducible exact H) | (have H2_ := (Option.bind_some _ _).symm.trans H; rw [hy267]; with_reducible exact H2_) | (have H2_ := (Option.bind_some _ _).symm.trans H; with_reducible exact H2_) | with_reducible exact H | (rw [hy267]; exact H) | exact H
    have Ny267 := Aside0.mk hy267
    clear hy267
    have H' := Aside0.mk H
    clear H
    rotate_left
    rw [if_neg c6] at H
    have c6b0 : decide (128 ≤ x0_1) = false := decide_eq_false c6
    clear c6
    replace H := it0 H
    obtain ⟨c9, H⟩ := H
    have LMc9 := Aside0.mk c9
    clear c9
    obtain ⟨y270, hy270⟩ : ∃ y_ : List Int, y_ = (x3_1 ++ [(x0_1) % 256]) := ⟨_, rfl⟩
    replace H : (some (strOfNums y270)) = some r := by first | (rw [hy270]; with_reducible exact H) | (have H2_ := (Option.bind_some _ _).symm.trans H; rw [hy270]; with_reducible exact H2_) | (have H2_ := (Option.bind_some _ _).symm.trans H; with_reducible exact H2_) | with_reducible exact H | (rw [hy270]; exact H) | exact H
    have Ny270 := Aside0.mk hy270
    clear hy270
    obtain rfl := Option.some.inj H
    rotate_left
    all_goals
     repeat (go_wp2_with (first | ((with_reducible refine gate_builtin (b := .append) (xs := #[.tmp 19, .tmp 22]) rfl ?_); at_builtin; refine Kd.R_append (Kd.int .u8) (w0 := w) w.heap.size rfl (.tmp 19) (.tmp 22) 22 5 (.int .u8 0) 1 rfl Tryz.underlying22 info5 rfl (by decide) (by omega) u3 x3_1 ((x0_1) % 256) [.int .u8 ((x0_1) % 256)] (fun _ => True) (fun _ => False) rfl rfl ?aP (fun _ hk => hk.elim) ?aF ?aO ?aB ?aS ?aL ?_; (case aP => exact rfl); (case aB => exact zt3); (case aF => exact (fun _ _ => trivial)); (case aO => exact (rz HO_3.out)); (case aS => exact (below_size zt3)); (case aL => have := LMc9.out; omega); intro v7000 w7001 ho hb hg hat; rw [← Ny270.out] at ho; have n0_ := Aside0.mk (hb); have n1_ := Aside0.mk (ho); clear HB; clear HO_3; have HB := n0_; have HO7002 := n1_; clear n0_ n1_; clear ho hb hg hat; have hcv7003 := own_string (P := Tryz.prog) Tryz.underlying22 Tryz.underlying5 Tryz.underlying9 (Kd.own_of_R HO7002.out)) | ((with_reducible refine gate_builtin (b := .append) (xs := #[.tmp 10, .tmp 15]) rfl ?_); at_builtin; refine Kd.R_append (Kd.int .u8) (w0 := w) w.heap.size rfl (.tmp 10) (.tmp 15) 22 5 (.int .u8 0) 1 rfl Tryz.underlying22 info5 rfl (by decide) (by omega) u3 x3_1 ((wrap64 (128 + (Int.tmod x0_1 128))) % 256) [.int .u8 ((wrap64 (128 + (Int.tmod x0_1 128))) % 256)] (fun _ => True) (fun _ => False) rfl rfl ?aP (fun _ hk => hk.elim) ?aF ?aO ?aB ?aS ?aL ?_; (case aP => exact rfl); (case aB => exact zt3); (case aF => exact (fun _ _ => trivial)); (case aO => exact (rz HO_3.out)); (case aS => exact (below_size zt3)); (case aL => have := LMc7.out; omega); intro v7000 w7001 ho hb hg hat; rw [← Ny267.out] at ho; have n0_ := Aside0.mk (hb); have n1_ := Aside0.mk (ho); clear HB; clear HO_3; have HB := n0_; have HO7002 := n1_; clear n0_ n1_; clear ho hb hg hat)); first | go_quiet (fail) | (go_roundg k1; (case measure => have := HK1.out; omega); (case rel => exact ⟨(wrap64 (Int.tdiv x0_1 128)), (y267), zt12, H', ⟨by have := HK1.out; omega⟩, ⟨zt23⟩, ⟨zt3⟩⟩)) | (go_ret; exact ⟨zt10, zt3⟩))
 ·replace c3 := Bool.eq_false_iff.mpr c3
  subst c3
  rw [if_neg (show ¬ (false = true) by decide)] at H
  obtain rfl := Option.some.inj H
  go_enter Tryz.func46, Tryz.ntmps46
  go_wp2_with (first | ((with_reducible refine gate_callee (f := 64) rfl ?_); refine goesL_ (some 5) rfl rfl Tryz.func64 (by kernel_rfl) rfl #[.int .i64 a0, .int .i64 0, .int .i64 562949953421311] rfl zt7 ?_; (with_reducible refine (spec_l1In.calls a0 0 562949953421311 false _ A2.out).mono ?_); rintro e w' ⟨rfl, ⟨nd, rfl⟩⟩; refine ⟨_, rfl, ?_⟩))
  go_ret
  exact ⟨zt10, zt3⟩

/-! ### spec_l12Piece: function 47 -/
def spec_l12Piece.f (k : Nat) (a0 : ByteArray) : Option (ByteArray) := (spec_Var.f k (a0.size : Int)).bind fun t273 => (if t273.size + a0.size ≤ 9223372036854775807 then (some (t273 ++ a0)) else (none))
theorem spec_l12Piece.mono : ∀ a0 k, LeO (spec_l12Piece.f k a0) (spec_l12Piece.f (k + 1) a0) := by
 intro a0 k
 unfold spec_l12Piece.f
 repeat' (first | (with_reducible first | exact spec_Var.mono _ _ | exact LeO.refl _ | exact LeO.none _ | refine LeO.ite ?_ ?_ | refine LeO.bind ?_ (fun _ => ?_)) | exact LeO.none _ | refine LeO.ite ?_ ?_ | refine LeO.bind ?_ (fun _ => ?_))
set_option maxHeartbeats 8000000 in
set_option maxRecDepth 100000 in
theorem spec_l12Piece.calls (k : Nat) (a0 : ByteArray) (r : ByteArray) (w : World) (h : spec_l12Piece.f k a0 = some r) :
  Calls Tryz.prog 47 #[.string a0] w fun e w' => e = .returned (.string r) ∧ Below w.heap.size w w' := by
 have HB := Aside0.mk (Below.refl w.heap.size w)
 try unfold spec_l12Piece.f at h
 have H := h
 clear h
 replace H := bnd H
 obtain ⟨t273, A2, H⟩ := H
 try dsimp only at H
 replace H := it0 H
 obtain ⟨c3, H⟩ := H
 obtain ⟨c3b0, c3b1, c3b2⟩ := szf c3
 obtain rfl := Option.some.inj H
 go_enter Tryz.func47, Tryz.ntmps47
 go_wp2_with (first | ((with_reducible refine gate_callee (f := 46) rfl ?_); refine goesL_ (some 5) rfl rfl Tryz.func46 (by kernel_rfl) rfl #[.int .i64 (a0.size : Int)] rfl zt7 ?_; (with_reducible refine (spec_Var.calls k (a0.size : Int) t273 _ A2.out).mono ?_); rintro e w4 ⟨rfl, hb⟩; refine ⟨_, rfl, ?_⟩; have n0_ := Aside0.mk (below_step zt3 hb); clear HB; have HB := n0_; clear n0_; (try clear hb); (try clear hb2); (try clear hk); (try clear hi)))
 go_ret
 exact ⟨zt10, zt3⟩

/-! ### spec_ShowFiles: function 28 -/
def spec_ShowFiles.l0 : Nat → List (S33) → ByteArray → Int → Option (ByteArray)
 | 0, _, _, _ => none
 | k + 1, x0, x3, x4 => if x4 < (x0.length : Int) then (if 0 ≤ x4 then ((spec_l12Piece.f k ((rd_T33 x0 x4).f0)).bind fun t277 => (if x3.size + t277.size ≤ 9223372036854775807 then ((spec_l12Piece.f k ((rd_T33 x0 x4).f1)).bind fun t279 => (if (x3 ++ t277).size + t279.size ≤ 9223372036854775807 then (spec_ShowFiles.l0 k x0 ((x3 ++ t277) ++ t279) (wrap64 (x4 + 1))) else (none))) else (none))) else (none)) else (some x3)
def spec_ShowFiles.f (k : Nat) (l0 : List (S33)) : Option (ByteArray) := (spec_FilesOk.f k l0).bind fun t274 => (if t274 = true then ((spec_Var.f k (l0.length : Int)).bind fun t275 => (if 1 + t275.size ≤ 9223372036854775807 then (spec_ShowFiles.l0 k l0 ((⟨#[102]⟩ : ByteArray) ++ t275) 0) else (none))) else (some (⟨#[]⟩ : ByteArray)))
theorem spec_ShowFiles.mono_l : ∀ k, (∀ y0 y1 y2, LeO (spec_ShowFiles.l0 k y0 y1 y2) (spec_ShowFiles.l0 (k + 1) y0 y1 y2))
 | 0 => fun _ _ _ r h => by simp [spec_ShowFiles.l0] at h
 | k + 1 => by
  have ih0 := spec_ShowFiles.mono_l k
  ·intro y0 y1 y2
   unfold spec_ShowFiles.l0
   repeat' (first | (with_reducible first | exact ih0 _ _ _ | exact spec_FilesOk.mono _ _ | exact spec_Var.mono _ _ | exact spec_l12Piece.mono _ _ | exact LeO.refl _ | exact LeO.none _ | refine LeO.ite ?_ ?_ | refine LeO.bind ?_ (fun _ => ?_)) | exact LeO.none _ | refine LeO.ite ?_ ?_ | refine LeO.bind ?_ (fun _ => ?_))
theorem spec_ShowFiles.mono : ∀ a0 k, LeO (spec_ShowFiles.f k a0) (spec_ShowFiles.f (k + 1) a0) := by
 intro a0 k
 have ih0 := spec_ShowFiles.mono_l k
 unfold spec_ShowFiles.f
 repeat' (first | (with_reducible first | exact ih0 _ _ _ | exact spec_FilesOk.mono _ _ | exact spec_Var.mono _ _ | exact spec_l12Piece.mono _ _ | exact LeO.refl _ | exact LeO.none _ | refine LeO.ite ?_ ?_ | refine LeO.bind ?_ (fun _ => ?_)) | exact LeO.none _ | refine LeO.ite ?_ ?_ | refine LeO.bind ?_ (fun _ => ?_))
set_option maxHeartbeats 8000000 in
set_option maxRecDepth 100000 in
theorem spec_ShowFiles.calls (k : Nat) (A0 : Option Addr) (c0 : Nat) (l0 : List (S33)) (r : ByteArray) (w : World) (hr0 : Kd.C k33 w A0 l0.length l0) (hc0 : l0.length ≤ c0) (h : spec_ShowFiles.f k l0 = some r) :
  Calls Tryz.prog 28 #[.slice A0 l0.length c0] w fun e w' => e = .returned (.string r) ∧ Below w.heap.size w w' := by
 have HR0 := Aside0.mk hr0
 have HC0 := Aside0.mk hc0
 clear hr0 hc0
 have HB := Aside0.mk (Below.refl w.heap.size w)
 try unfold spec_ShowFiles.f at h
 have H := h
 clear h
 replace H := bnd H
 obtain ⟨t274, A2, H⟩ := H
 try dsimp only at H
 by_cases c3 : t274 = true
 ·subst c3
  rw [if_pos rfl] at H
  replace H := bnd H
  obtain ⟨t275, A4, H⟩ := H
  try dsimp only at H
  replace H := it0 H
  obtain ⟨c5, H⟩ := H
  obtain ⟨c5b0, c5b1, c5b2⟩ := szf c5
  have H' := Aside0.mk H
  clear H
  try simp only [ByteArray.size_append, lsz, List.length_cons, List.length_nil, Nat.reduceAdd] at *
  go_enter Tryz.func28, Tryz.ntmps28
  go_wp2_with (first | ((with_reducible refine gate_callee (f := 8) rfl ?_); refine goesL_ (some 6) rfl rfl Tryz.func8 (by kernel_rfl) rfl #[.slice A0 l0.length c0] rfl zt7 ?_; (with_reducible refine (spec_FilesOk.calls k _ _ l0 true _ ?side1 ?side2 A2.out).mono ?_); (case side1 => exact cz HR0.out); (case side2 => exact HC0.out); rintro e w6 ⟨rfl, hb⟩; refine ⟨_, rfl, ?_⟩; have n0_ := Aside0.mk (below_step zt3 hb); clear HB; have HB := n0_; clear n0_; (try clear hb); (try clear hb2); (try clear hk); (try clear hi)) | ((with_reducible refine gate_callee (f := 46) rfl ?_); refine goesL_ (some 10) rfl rfl Tryz.func46 (by kernel_rfl) rfl #[.int .i64 (l0.length : Int)] rfl zt7 ?_; (with_reducible refine (spec_Var.calls k (l0.length : Int) t275 _ A4.out).mono ?_); rintro e w7 ⟨rfl, hb⟩; refine ⟨_, rfl, ?_⟩; have n0_ := Aside0.mk (below_step zt3 hb); clear HB; have HB := n0_; clear n0_; (try clear hb); (try clear hb2); (try clear hk); (try clear hi)))
  go_loopg [3, 4] k (fun kq v3 v4 w' => ∃ (x3_1 : ByteArray) (x4_1 : Int), v3 = .string x3_1 ∧ v4 = .int .i64 x4_1 ∧ Aside0 (spec_ShowFiles.l0 kq l0 x3_1 x4_1 = some r) ∧ Aside0 (kq ≤ k) ∧ Aside0 (Below w.heap.size w w'))
  case atStart => exact ⟨((⟨#[102]⟩ : ByteArray) ++ t275), (0), zt12, zt12, H', ⟨Nat.le_refl _⟩, ⟨zt3⟩⟩
  case round =>
   clear H'
   try clear c2
   try clear p2
   try clear c3
   try clear c4
   try clear c5
   try clear c5b0
   try clear c5b1
   try clear c5b2
   obtain ⟨x3_1, x4_1, rfl, rfl, HA, HK1, HB⟩ := hrel
   cases gk with
   | zero => exact absurd HA.out (by simp [spec_ShowFiles.l0])
   | succ k1 =>
    have H := HA.out
    clear HA
    simp only [spec_ShowFiles.l0] at H
    by_cases c8 : x4_1 < (l0.length : Int)
    ·rw [if_pos c8] at H
     have c8b0 := decide_eq_true c8
     clear c8
     replace H := it0 H
     obtain ⟨c9, H⟩ := H
     have c9b0 : decide (0 ≤ x4_1) = true := decide_eq_true c9
     clear c9
     replace H := bnd H
     obtain ⟨t277, A10, H⟩ := H
     try dsimp only at H
     replace H := it0 H
     obtain ⟨c11, H⟩ := H
     obtain ⟨c11b0, c11b1, c11b2⟩ := szf c11
     replace H := bnd H
     obtain ⟨t279, A12, H⟩ := H
     try dsimp only at H
     replace H := it0 H
     obtain ⟨c13, H⟩ := H
     obtain ⟨c13b0, c13b1, c13b2⟩ := szf c13
     try have c13b4 : (9223372036854775807 < (x3_1.size + t277.size) + t279.size) = False := by simpa [ByteArray.size_append] using c13b2
     have H' := Aside0.mk H
     clear H
     try go_wp2
     have n0_ := Aside0.mk (below_drew1 HB.out)
     clear HB
     have HB := n0_
     clear n0_
     have p276 : 0 ≤ (x4_1 : Int) := of_decide_eq_true zt8
     have q276 : x4_1 < (l0.length : Int) := of_decide_eq_true zt8
     obtain ⟨ad276, e276, hx276_0, hx276_1⟩ := at_T33 HR0.out x4_1 p276 q276
     have hw276_1 := hx276_1
     have hw276_0 := hx276_0
     cases e276
     replace hx276_0 := (HB.out.cell (World.block_lt_of_cell? w _ hx276_0)).trans hx276_0
     replace hx276_1 := (HB.out.cell (World.block_lt_of_cell? w _ hx276_1)).trans hx276_1
     replace p276 := eq_true p276
     replace q276 := eq_true q276
     have p278 : 0 ≤ (x4_1 : Int) := of_decide_eq_true zt8
     have q278 : x4_1 < (l0.length : Int) := of_decide_eq_true zt8
     obtain ⟨ad278, e278, hx278_0, hx278_1⟩ := at_T33 HR0.out x4_1 p278 q278
     have hw278_1 := hx278_1
     have hw278_0 := hx278_0
     obtain rfl : ad276 = ad278 := (by injection e278)
     replace hx278_0 := (HB.out.cell (World.block_lt_of_cell? w _ hx278_0)).trans hx278_0
     replace hx278_1 := (HB.out.cell (World.block_lt_of_cell? w _ hx278_1)).trans hx278_1
     replace p278 := eq_true p278
     replace q278 := eq_true q278
     refine wp_quiet_drew (by kernel_rfl) (by kernel_rfl) ?_
     generalize wr.drew = w14 at HB hx276_0 hx276_1 hx278_0 hx278_1 ⊢
     have hS_ : (fun w' => w'.cell? (ad276.add ((x4_1).toNat * 2)) = some (.string ((rd_T33 l0 x4_1).f0)) ∧ w'.cell? ⟨(ad276.add ((x4_1).toNat * 2)).block, (ad276.add ((x4_1).toNat * 2)).off + 1, none⟩ = some (.string ((rd_T33 l0 x4_1).f1)) ∧ w'.cell? (ad276.add ((x4_1).toNat * 2)) = some (.string ((rd_T33 l0 x4_1).f0)) ∧ w'.cell? ⟨(ad276.add ((x4_1).toNat * 2)).block, (ad276.add ((x4_1).toNat * 2)).off + 1, none⟩ = some (.string ((rd_T33 l0 x4_1).f1))) w14 := ⟨((HB.out.cell (World.block_lt_of_cell? w _ hw276_0)).trans hw276_0), ((HB.out.cell (World.block_lt_of_cell? w _ hw276_1)).trans hw276_1), ((HB.out.cell (World.block_lt_of_cell? w _ hw278_0)).trans hw278_0), ((HB.out.cell (World.block_lt_of_cell? w _ hw278_1)).trans hw278_1)⟩
     obtain ⟨hq0_, hq1_, hq2_, hq3_⟩ := hS_
     replace hq0_ := cell_regrown hq0_
     replace hq1_ := cell_regrown hq1_
     replace hq2_ := cell_regrown hq2_
     replace hq3_ := cell_regrown hq3_
     repeat (first | go_big_quiet_skip | quiet_step (first | (go_at_call 47; exact Calls.regrown_of (spec_l12Piece.calls k1 ((rd_T33 l0 x4_1).f0) t277 _ A10.out)) | (go_at_call 47; exact Calls.regrown_of (spec_l12Piece.calls k1 ((rd_T33 l0 x4_1).f1) t279 _ A12.out))))
     refine wpQuiet_nil ?_
     intro _ hw'
     obtain ⟨⟨nq, osq⟩, hw''⟩ := hw'
     subst hw''
     have hb := below_regrown w14 nq osq
     generalize Sort.grow (redrawn w14 nq) osq = w15 at hb ⊢
     have n0_ := Aside0.mk (below_step zt3 hb)
     clear HB
     have HB := n0_
     clear n0_
     clear hb hq0_ hq1_ hq2_ hq3_
     try go_wp2
     go_roundg k1
     case measure => have := HK1.out; omega
     case rel => exact ⟨((x3_1 ++ t277) ++ t279), (wrap64 (x4_1 + 1)), zt12, zt12, H', ⟨by have := HK1.out; omega⟩, ⟨zt3⟩⟩
    ·rw [if_neg c8] at H
     have c8b0 := decide_eq_false c8
     clear c8
     obtain rfl := Option.some.inj H
     try simp only [ByteArray.size_append, lsz, List.length_cons, List.length_nil, Nat.reduceAdd] at *
     go_wp2
     go_ret
     exact ⟨zt10, zt3⟩
 ·replace c3 := Bool.eq_false_iff.mpr c3
  subst c3
  rw [if_neg (show ¬ (false = true) by decide)] at H
  obtain rfl := Option.some.inj H
  try simp only [ByteArray.size_append, lsz, List.length_cons, List.length_nil, Nat.reduceAdd] at *
  go_enter Tryz.func28, Tryz.ntmps28
  go_wp2_with (first | ((with_reducible refine gate_callee (f := 8) rfl ?_); refine goesL_ (some 6) rfl rfl Tryz.func8 (by kernel_rfl) rfl #[.slice A0 l0.length c0] rfl zt7 ?_; (with_reducible refine (spec_FilesOk.calls k _ _ l0 false _ ?side1 ?side2 A2.out).mono ?_); (case side1 => exact cz HR0.out); (case side2 => exact HC0.out); rintro e w17 ⟨rfl, hb⟩; refine ⟨_, rfl, ?_⟩; have n0_ := Aside0.mk (below_step zt3 hb); clear HB; have HB := n0_; clear n0_; (try clear hb); (try clear hb2); (try clear hk); (try clear hi)))
  go_ret
  exact ⟨zt10, zt3⟩

/-! ### spec_Dec: function 50 -/
def spec_Dec.l0 : Nat → Int → ByteArray → Bool → Option (ByteArray)
 | 0, _, _, _ => none
 | k + 1, x0, x3, x4 => if x0 = 0 then (if x4 = true then (if 1 + x3.size ≤ 9223372036854775807 then (some ((⟨#[45]⟩ : ByteArray) ++ x3)) else (none)) else (some x3)) else (if (Int.tmod x0 10) < 0 then ((some (([(wrap64 (48 + (wrap64 (-(Int.tmod x0 10))))) % 256] : List Int) : List Int)).bind fun y280 => (if (strOfNums y280).size + x3.size ≤ 9223372036854775807 then (spec_Dec.l0 k (wrap64 (Int.tdiv x0 10)) ((strOfNums y280) ++ x3) x4) else (none))) else ((some (([(wrap64 (48 + (Int.tmod x0 10))) % 256] : List Int) : List Int)).bind fun y283 => (if (strOfNums y283).size + x3.size ≤ 9223372036854775807 then (spec_Dec.l0 k (wrap64 (Int.tdiv x0 10)) ((strOfNums y283) ++ x3) x4) else (none))))
def spec_Dec.f (k : Nat) (a0 : Int) : Option (ByteArray) := if a0 = 0 then (some (⟨#[48]⟩ : ByteArray)) else (spec_Dec.l0 k a0 (⟨#[]⟩ : ByteArray) (decide (a0 < 0)))
theorem spec_Dec.mono_l : ∀ k, (∀ y0 y1 y2, LeO (spec_Dec.l0 k y0 y1 y2) (spec_Dec.l0 (k + 1) y0 y1 y2))
 | 0 => fun _ _ _ r h => by simp [spec_Dec.l0] at h
 | k + 1 => by
  have ih0 := spec_Dec.mono_l k
  ·intro y0 y1 y2
   unfold spec_Dec.l0
   repeat' (first | (with_reducible first | exact ih0 _ _ _ | exact LeO.refl _ | exact LeO.none _ | refine LeO.ite ?_ ?_ | refine LeO.bind ?_ (fun _ => ?_)) | exact LeO.none _ | refine LeO.ite ?_ ?_ | refine LeO.bind ?_ (fun _ => ?_))
theorem spec_Dec.mono : ∀ a0 k, LeO (spec_Dec.f k a0) (spec_Dec.f (k + 1) a0) := by
 intro a0 k
 have ih0 := spec_Dec.mono_l k
 unfold spec_Dec.f
 repeat' (first | (with_reducible first | exact ih0 _ _ _ | exact LeO.refl _ | exact LeO.none _ | refine LeO.ite ?_ ?_ | refine LeO.bind ?_ (fun _ => ?_)) | exact LeO.none _ | refine LeO.ite ?_ ?_ | refine LeO.bind ?_ (fun _ => ?_))
set_option maxHeartbeats 8000000 in
set_option maxRecDepth 100000 in
theorem spec_Dec.calls (k : Nat) (a0 : Int) (r : ByteArray) (w : World) (h : spec_Dec.f k a0 = some r) :
  Calls Tryz.prog 50 #[.int .i64 a0] w fun e w' => e = .returned (.string r) ∧ Below w.heap.size w w' := by
 have HB := Aside0.mk (Below.refl w.heap.size w)
 try unfold spec_Dec.f at h
 have H := h
 clear h
 by_cases c2 : a0 = 0
 ·rw [if_pos c2] at H
  have c2b0 : (a0 == 0) = true := beq_iff_eq.mpr c2
  have c2b1 : (a0 != 0) = false := bne_eq_false_iff_eq.mpr c2
  clear c2
  obtain rfl := Option.some.inj H
  go_enter Tryz.func50, Tryz.ntmps50
  go_wp2
  go_ret
  exact ⟨zt10, zt3⟩
 ·rw [if_neg c2] at H
  have c2b0 : (a0 == 0) = false := beq_eq_false_iff_ne.mpr c2
  have c2b1 : (a0 != 0) = true := bne_iff_ne.mpr c2
  have H' := Aside0.mk H
  clear H
  go_enter Tryz.func50, Tryz.ntmps50
  go_wp2
  go_loopg [0, 3] k (fun kq v0 v3 w' => ∃ (x0_1 : Int) (x3_1 : ByteArray), v0 = .int .i64 x0_1 ∧ v3 = .string x3_1 ∧ Aside0 (spec_Dec.l0 kq x0_1 x3_1 (decide (a0 < 0)) = some r) ∧ Aside0 (kq ≤ k) ∧ Aside0 (Below w.heap.size w w'))
  case atStart => exact ⟨(a0), ((⟨#[]⟩ : ByteArray)), zt12, zt12, H', ⟨Nat.le_refl _⟩, ⟨zt3⟩⟩
  case round =>
   clear H'
   try clear c2
   try clear c2b0
   try clear c2b1
   try clear p2
   obtain ⟨x0_1, x3_1, rfl, rfl, HA, HK1, HB⟩ := hrel
   cases gk with
   | zero => exact absurd HA.out (by simp [spec_Dec.l0])
   | succ k1 =>
    have H := HA.out
    clear HA
    simp only [spec_Dec.l0] at H
    by_cases c3 : x0_1 = 0
    rw [if_pos c3] at H
    have c3b0 : (x0_1 == 0) = true := beq_iff_eq.mpr c3
    have c3b1 : (x0_1 != 0) = false := bne_eq_false_iff_eq.mpr c3
    clear c3
    by_cases c4 : (decide (a0 < 0)) = true
    rw [if_pos c4] at H
    have c4b0 : (decide (a0 < 0)) = true := c4
    clear c4
    (first | rw [c4b0] | skip)
    replace H := it0 H
    obtain ⟨c5, H⟩ := H
    obtain ⟨c5b0, c5b1, c5b2⟩ := szf c5
    obtain rfl := Option.some.inj H
    rotate_left
    rw [if_neg c4] at H
    have c4b0 : (decide (a0 < 0)) = false := by simpa using c4
    clear c4
    (first | rw [c4b0] | skip)
    obtain rfl := Option.some.inj H
    rotate_left
    rw [if_neg c3] at H
    have c3b0 : (x0_1 == 0) = false := beq_eq_false_iff_ne.mpr c3
    have c3b1 : (x0_1 != 0) = true := bne_iff_ne.mpr c3
    by_cases c6 : (Int.tmod x0_1 10) < 0
    rw [if_pos c6] at H
    have c6b0 := decide_eq_true c6
    clear c6
    obtain ⟨y280, hy280⟩ : ∃ y_ : List Int, y_ = (([(wrap64 (48 + (wrap64 (-(Int.tmod x0_1 10))))) % 256] : List Int)) := ⟨_, rfl⟩
    rw [← hy280] at H
    have Ny280 := Aside0.mk hy280
    clear hy280
    replace H := it0 H
    obtain ⟨c7, H⟩ := H
    obtain ⟨c7b0, c7b1, c7b2⟩ := szf c7
    have H' := Aside0.mk H
    clear H
    rotate_left
    rw [if_neg c6] at H
    have c6b0 := decide_eq_false c6
    clear c6
    obtain ⟨y283, hy283⟩ : ∃ y_ : List Int, y_ = (([(wrap64 (48 + (Int.tmod x0_1 10))) % 256] : List Int)) := ⟨_, rfl⟩
    rw [← hy283] at H
    have Ny283 := Aside0.mk hy283
    clear hy283
    replace H := it0 H
    obtain ⟨c11, H⟩ := H
    obtain ⟨c11b0, c11b1, c11b2⟩ := szf c11
    have H' := Aside0.mk H
    clear H
    rotate_left
    all_goals
     repeat (go_wp2_with (first | ((with_reducible refine gate_dst (N := 21) rfl ?_); refine Kd.R_lit (Kd.int .u8) _ 5 ?hg (N := 21) ?hd (xs := ([(wrap64 (48 + (wrap64 (-(Int.tmod x0_1 10))))) % 256] : List Int)) (inner := [.int .u8 ((wrap64 (48 + (wrap64 (-(Int.tmod x0_1 10))))) % 256)]) (ok := fun _ => True) (okp := fun _ => True) ?hr ?hp (fun _ hk => hk) trivial (Below.refl _ _) (Nat.le_refl _) (by simp) ?_; (case hd => rfl); (case hg => rfl); (case hr => first | (go_simp; done) | (go_simp; rfl)); (case hp => exact (Reps.one (show Kd.M (Kd.int .u8) _ _ _ ((wrap64 (48 + (wrap64 (-(Int.tmod x0_1 10))))) % 256) [.int .u8 ((wrap64 (48 + (wrap64 (-(Int.tmod x0_1 10))))) % 256)] from rfl) (Reps.none _ _))); intro v7000 w7001 ho7002 hb hg_ hnew_; clear hg_ hnew_; (first | rw [← Ny280.out] at ho7002 | (simp only [Int.reduceToNat] at ho7002; rw [← Ny280.out] at ho7002)); have n0_ := Aside0.mk (Kd.R_lower ho7002 (below_size zt3)); have n1_ := Aside0.mk (below_step zt3 hb); clear HB; have HO7003 := n0_; have HB := n1_; clear n0_ n1_; clear hb ho7002; have hcv7004 := own_string (P := Tryz.prog) Tryz.underlying22 Tryz.underlying5 Tryz.underlying9 (Kd.own_of_R HO7003.out)) | ((with_reducible refine gate_dst (N := 21) rfl ?_); refine Kd.R_lit (Kd.int .u8) _ 5 ?hg (N := 21) ?hd (xs := ([(wrap64 (48 + (Int.tmod x0_1 10))) % 256] : List Int)) (inner := [.int .u8 ((wrap64 (48 + (Int.tmod x0_1 10))) % 256)]) (ok := fun _ => True) (okp := fun _ => True) ?hr ?hp (fun _ hk => hk) trivial (Below.refl _ _) (Nat.le_refl _) (by simp) ?_; (case hd => rfl); (case hg => rfl); (case hr => first | (go_simp; done) | (go_simp; rfl)); (case hp => exact (Reps.one (show Kd.M (Kd.int .u8) _ _ _ ((wrap64 (48 + (Int.tmod x0_1 10))) % 256) [.int .u8 ((wrap64 (48 + (Int.tmod x0_1 10))) % 256)] from rfl) (Reps.none _ _))); intro v7000 w7001 ho7002 hb hg_ hnew_; clear hg_ hnew_; (first | rw [← Ny283.out] at ho7002 | (simp only [Int.reduceToNat] at ho7002; rw [← Ny283.out] at ho7002)); have n0_ := Aside0.mk (Kd.R_lower ho7002 (below_size zt3)); have n1_ := Aside0.mk (below_step zt3 hb); clear HB; have HO7003 := n0_; have HB := n1_; clear n0_ n1_; clear hb ho7002; have hcv7004 := own_string (P := Tryz.prog) Tryz.underlying22 Tryz.underlying5 Tryz.underlying9 (Kd.own_of_R HO7003.out))); first | go_quiet (fail) | (go_ret; exact ⟨zt10, zt3⟩) | (go_roundg k1; (case measure => have := HK1.out; omega); (case rel => exact ⟨(wrap64 (Int.tdiv x0_1 10)), ((strOfNums y280) ++ x3_1), zt12, zt12, H', ⟨by have := HK1.out; omega⟩, ⟨zt3⟩⟩)) | (go_roundg k1; (case measure => have := HK1.out; omega); (case rel => exact ⟨(wrap64 (Int.tdiv x0_1 10)), ((strOfNums y283) ++ x3_1), zt12, zt12, H', ⟨by have := HK1.out; omega⟩, ⟨zt3⟩⟩)))

end Go.Proofs.YtkmcnjpgamaljaaGreatDoor.PFnFiles

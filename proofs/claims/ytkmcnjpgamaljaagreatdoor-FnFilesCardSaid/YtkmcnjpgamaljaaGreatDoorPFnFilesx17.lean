-- Out of the kit's print, with contracts of mine among it (myprint.py).
import Derived.Lib.QuietBelow
import Derived.Test.YtkmcnjpgamaljaaGreatDoorPFnFilesx0
import Derived.Test.YtkmcnjpgamaljaaGreatDoorPFnFilesx11
namespace Go.Proofs.YtkmcnjpgamaljaaGreatDoor.PFnFiles
open Go.RowKit Go.Proofs.YtkmcnjpgamaljaaGreatDoorW.PrintWords Go.Proofs.YtkmcnjpgamaljaaGreatDoorW.PrintLast Go.Proofs.YtkmcnjpgamaljaaGreatDoorW.PrintMore
attribute [local go_sem] max2_int min2_int max_two min_two max_three min_three max_four min_four   -- for this text's walks alone
set_option linter.unusedVariables false
set_option linter.unusedSimpArgs false

/-! ### spec_ReadVar: function 52 -/
mutual
def spec_ReadVar.l0 : Nat → ByteArray → Int → Option (Int × Int)
 | 0, _, _ => none
 | k + 1, x0, x4 => if x4 ≤ 7 then (spec_ReadVar.j1 k x0 x4 (decide (x4 ≤ (x0.size : Int)))) else (spec_ReadVar.j1 k x0 x4 false)
def spec_ReadVar.j1 : Nat → ByteArray → Int → Bool → Option (Int × Int)
 | 0, _, _, _ => none
 | k + 1, x0, x4, x14 => if x14 = true then (spec_ReadVar.l1 k x0 x4 0 (wrap64 (x4 - 1))) else (some (0, 0))
def spec_ReadVar.l1 : Nat → ByteArray → Int → Int → Int → Option (Int × Int)
 | 0, _, _, _, _ => none
 | k + 1, x0, x4, x5, x6 => if x6 ≥ 0 then (if 0 ≤ x6 then (if x6 < (x0.size : Int) then (spec_ReadVar.l1 k x0 x4 (wrap64 ((wrap64 (x5 * 128)) + (Int.tmod (wrap64 (bt x0 x6)) 128))) (wrap64 (x6 - 1))) else (none)) else (none)) else ((spec_Var.f k x5).bind fun t482 => (if 0 ≤ x4 then (if x4 ≤ (x0.size : Int) then (if t482.toList = (x0.extract 0 (x4 : Int).toNat).toList then (some (x5, x4)) else (spec_ReadVar.l0 k x0 (wrap64 (x4 + 1)))) else (none)) else (none)))
end
def spec_ReadVar.f (k : Nat) (a0 : ByteArray) : Option (Int × Int) := spec_ReadVar.l0 k a0 1
theorem spec_ReadVar.mono_l : ∀ k, (∀ y0 y1, LeO (spec_ReadVar.l0 k y0 y1) (spec_ReadVar.l0 (k + 1) y0 y1)) ∧ (∀ y0 y1 y2, LeO (spec_ReadVar.j1 k y0 y1 y2) (spec_ReadVar.j1 (k + 1) y0 y1 y2)) ∧ (∀ y0 y1 y2 y3, LeO (spec_ReadVar.l1 k y0 y1 y2 y3) (spec_ReadVar.l1 (k + 1) y0 y1 y2 y3))
 | 0 => ⟨fun _ _ r h => by simp [spec_ReadVar.l0] at h, fun _ _ _ r h => by simp [spec_ReadVar.j1] at h, fun _ _ _ _ r h => by simp [spec_ReadVar.l1] at h⟩
 | k + 1 => by
  obtain ⟨ih0, ih1, ih2⟩ := spec_ReadVar.mono_l k
  refine ⟨?_, ?_, ?_⟩
  ·intro y0 y1
   unfold spec_ReadVar.l0
   repeat' (first | (with_reducible first | exact ih0 _ _ | exact ih1 _ _ _ | exact ih2 _ _ _ _ | exact spec_Var.mono _ _ | exact LeO.refl _ | exact LeO.none _ | refine LeO.ite ?_ ?_ | refine LeO.bind ?_ (fun _ => ?_)) | exact LeO.none _ | refine LeO.ite ?_ ?_ | refine LeO.bind ?_ (fun _ => ?_))
  ·intro y0 y1 y2
   unfold spec_ReadVar.j1
   repeat' (first | (with_reducible first | exact ih0 _ _ | exact ih1 _ _ _ | exact ih2 _ _ _ _ | exact spec_Var.mono _ _ | exact LeO.refl _ | exact LeO.none _ | refine LeO.ite ?_ ?_ | refine LeO.bind ?_ (fun _ => ?_)) | exact LeO.none _ | refine LeO.ite ?_ ?_ | refine LeO.bind ?_ (fun _ => ?_))
  ·intro y0 y1 y2 y3
   unfold spec_ReadVar.l1
   repeat' (first | (with_reducible first | exact ih0 _ _ | exact ih1 _ _ _ | exact ih2 _ _ _ _ | exact spec_Var.mono _ _ | exact LeO.refl _ | exact LeO.none _ | refine LeO.ite ?_ ?_ | refine LeO.bind ?_ (fun _ => ?_)) | exact LeO.none _ | refine LeO.ite ?_ ?_ | refine LeO.bind ?_ (fun _ => ?_))
theorem spec_ReadVar.mono : ∀ a0 k, LeO (spec_ReadVar.f k a0) (spec_ReadVar.f (k + 1) a0) := by
 intro a0 k
 obtain ⟨ih0, ih1, ih2⟩ := spec_ReadVar.mono_l k
 unfold spec_ReadVar.f
 repeat' (first | (with_reducible first | exact ih0 _ _ | exact ih1 _ _ _ | exact ih2 _ _ _ _ | exact spec_Var.mono _ _ | exact LeO.refl _ | exact LeO.none _ | refine LeO.ite ?_ ?_ | refine LeO.bind ?_ (fun _ => ?_)) | exact LeO.none _ | refine LeO.ite ?_ ?_ | refine LeO.bind ?_ (fun _ => ?_))
set_option maxHeartbeats 8000000 in
set_option maxRecDepth 100000 in
theorem spec_ReadVar.calls (k : Nat) (a0 : ByteArray) (r1 : Int) (r2 : Int) (w : World) (h : spec_ReadVar.f k a0 = some (r1, r2)) :
  Calls Tryz.prog 52 #[.string a0] w fun e w' => e = .returned (.tuple #[.int .i64 r1, .int .i64 r2]) ∧ Below w.heap.size w w' := by
 have HB := Aside0.mk (Below.refl w.heap.size w)
 try unfold spec_ReadVar.f at h
 have H := h
 clear h
 have H' := Aside0.mk H
 clear H
 go_enter Tryz.func52, Tryz.ntmps52
 go_wp2
 go_loopg [4] k (fun kq v4 w' => ∃ (x4_1 : Int), v4 = .int .i64 x4_1 ∧ Aside0 (spec_ReadVar.l0 kq a0 x4_1 = some (r1, r2)) ∧ Aside0 (kq ≤ k) ∧ Aside0 (Below w.heap.size w w'))
 case atStart => exact ⟨(1), zt12, H', ⟨Nat.le_refl _⟩, ⟨zt3⟩⟩
 case round =>
  clear H'
  obtain ⟨x4_1, rfl, HA, HK1, HB⟩ := hrel
  cases gk with
  | zero => exact absurd HA.out (by simp [spec_ReadVar.l0])
  | succ k1 =>
   have H := HA.out
   clear HA
   simp only [spec_ReadVar.l0] at H
   have HC2 := Aside0.mk H
   clear H
   go_upto_region 2 with (fail)
   go_cut [14] (fun v14 wc => ∃ (kq : Nat) (x14_1 : Bool), v14 = .bool x14_1 ∧ Aside0 (spec_ReadVar.j1 kq a0 x4_1 x14_1 = some (r1, r2)) ∧ Aside0 (kq ≤ k1) ∧ Aside0 (Below w.heap.size w wc))
   case first =>
    have H := HC2.out
    clear HC2
    by_cases c3 : x4_1 ≤ 7
    rw [if_pos c3] at H
    have c3b0 : decide (x4_1 ≤ 7) = true := decide_eq_true c3
    clear c3
    (first | rw [c3b0] | (simp only [i64_w, i32_w]; rw [c3b0]) | skip)
    have H' := Aside0.mk H
    clear H
    rotate_left
    rw [if_neg c3] at H
    have c3b0 : decide (x4_1 ≤ 7) = false := decide_eq_false c3
    clear c3
    (first | rw [c3b0] | (simp only [i64_w, i32_w]; rw [c3b0]) | skip)
    have H' := Aside0.mk H
    clear H
    rotate_left
    all_goals
     repeat (go_wp2; first | go_quiet (fail) | (go_meet; (case rel => exact ⟨_, (decide (x4_1 ≤ (a0.size : Int))), zt12, H', ⟨zt34⟩, ⟨zt3⟩⟩)) | (go_meet; (case rel => exact ⟨_, (false), zt12, H', ⟨zt34⟩, ⟨zt3⟩⟩)))
   case rest =>
    clear HC2
    try clear p2
    try clear c3
    try clear c3b0
    obtain ⟨kq, x14_1, rfl, HA, HJ1, HB⟩ := hcut
    cases kq with
    | zero => exact absurd HA.out (by simp [spec_ReadVar.j1])
    | succ kj1 =>
     have H := HA.out
     clear HA
     simp only [spec_ReadVar.j1] at H
     by_cases c4 : x14_1 = true
     ·subst c4
      rw [if_pos rfl] at H
      have H' := Aside0.mk H
      clear H
      go_wp2
      go_loopg [5, 6] kj1 (fun kq v5 v6 w' => ∃ (x5_3 : Int) (x6_3 : Int), v5 = .int .i64 x5_3 ∧ v6 = .int .i64 x6_3 ∧ Aside0 (spec_ReadVar.l1 kq a0 x4_1 x5_3 x6_3 = some (r1, r2)) ∧ Aside0 (kq ≤ kj1) ∧ Aside0 (Below w.heap.size w w'))
      case atStart => exact ⟨(0), (wrap64 (x4_1 - 1)), zt12, zt12, H', ⟨Nat.le_refl _⟩, ⟨zt3⟩⟩
      case round =>
       clear H'
       try clear p2
       try clear c3
       try clear c3b0
       try clear c4
       try clear p2
       obtain ⟨x5_3, x6_3, rfl, rfl, HA, HK3, HB⟩ := hrel
       cases gk with
       | zero => exact absurd HA.out (by simp [spec_ReadVar.l1])
       | succ k3 =>
        have H := HA.out
        clear HA
        simp only [spec_ReadVar.l1] at H
        by_cases c5 : x6_3 ≥ 0
        rw [if_pos c5] at H
        have c5b0 : decide (0 ≤ x6_3) = true := decide_eq_true c5
        clear c5
        replace H := it0 H
        obtain ⟨c6, H⟩ := H
        have c6b0 : decide (0 ≤ x6_3) = true := decide_eq_true c6
        clear c6
        replace H := it0 H
        obtain ⟨c7, H⟩ := H
        have c7b0 := decide_eq_true c7
        clear c7
        have H' := Aside0.mk H
        clear H
        have p8 : 0 ≤ (x6_3 : Int) := of_decide_eq_true zt8
        have q8 : x6_3 < (a0.size : Int) := of_decide_eq_true zt8
        have hx8 := bt_at a0 x6_3
        replace p8 := eq_true p8
        replace q8 := eq_true q8
        rotate_left
        rw [if_neg c5] at H
        have c5b0 : decide (0 ≤ x6_3) = false := decide_eq_false c5
        clear c5
        replace H := bnd H
        obtain ⟨t482, A9, H⟩ := H
        try dsimp only at H
        replace H := it0 H
        obtain ⟨c10, H⟩ := H
        have c10b0 := eq_true c10
        have c10b1 : decide (0 ≤ x4_1) = true := decide_eq_true c10
        clear c10
        replace H := it0 H
        obtain ⟨c11, H⟩ := H
        have c11b0 := eq_true c11
        have c11b1 := decide_eq_true c11
        clear c11
        by_cases c12 : t482.toList = (a0.extract 0 (x4_1 : Int).toNat).toList
        rw [if_pos c12] at H
        have c12b0 := beq_iff_eq.mpr c12
        have c12b1 := bne_eq_false_iff_eq.mpr c12
        clear c12
        simp only [Option.some.injEq, Prod.mk.injEq] at H
        obtain ⟨rfl, rfl⟩ := H
        rotate_left
        rw [if_neg c12] at H
        have c12b0 := beq_eq_false_iff_ne.mpr c12
        have c12b1 := bne_iff_ne.mpr c12
        have H' := Aside0.mk H
        clear H
        rotate_left
        all_goals try ((go_wp2); (first | (go_roundg k3; (case measure => have := HK1.out; have := HJ1.out; have := HK3.out; omega); (case rel => exact ⟨(wrap64 ((wrap64 (x5_3 * 128)) + (Int.tmod (wrap64 (bt a0 x6_3)) 128))), (wrap64 (x6_3 - 1)), zt12, zt12, H', ⟨by have := HK1.out; have := HJ1.out; have := HK3.out; omega⟩, ⟨zt3⟩⟩))))
        all_goals try ((try go_wp2); (have n0_ := Aside0.mk (below_drew1 HB.out)); (clear HB); (have HB := n0_); (clear n0_); (refine wp_quiet_drew (by kernel_rfl) (by kernel_rfl) ?_); (generalize wr.drew = w7000 at HB ⊢); (repeat (first | go_big_quiet_skip | quiet_step (first | (go_at_call 46; exact Calls.regrown_of (spec_Var.calls k3 x5_3 t482 _ A9.out))))); (refine wpQuiet_nil ?_); (intro _ hw'); (obtain ⟨⟨nq, osq⟩, hw''⟩ := hw'); (subst hw''); (have hb := below_regrown w7000 nq osq); (generalize Sort.grow (redrawn w7000 nq) osq = w7001 at hb ⊢); (have n0_ := Aside0.mk (below_step zt3 hb)); (clear HB); (have HB := n0_); (clear n0_); (clear hb); (try go_wp2); (first | (go_ret2; exact ⟨zt10, zt3⟩) | (go_roundg k3; (case measure => have := HK1.out; have := HJ1.out; have := HK3.out; omega); (case rel => exact ⟨(wrap64 (x4_1 + 1)), zt12, H', ⟨by have := HK1.out; have := HJ1.out; have := HK3.out; omega⟩, ⟨zt3⟩⟩))))
     ·replace c4 := Bool.eq_false_iff.mpr c4
      subst c4
      rw [if_neg (show ¬ (false = true) by decide)] at H
      simp only [Option.some.injEq, Prod.mk.injEq] at H
      obtain ⟨rfl, rfl⟩ := H
      go_wp2
      go_ret2
      exact ⟨zt10, zt3⟩

/-! ### spec_l12Vars: function 32 -/
mutual
def spec_l12Vars.l0 : Nat → ByteArray → Int → Int → List Int → Int → Option (List Int × Int)
 | 0, _, _, _, _, _ => none
 | k + 1, x0, x1, x2, x8, x9 => if x9 < x2 then (if x1 < 0 then (spec_l12Vars.j1 k x0 x1 x2 x8 x9 true) else (spec_l12Vars.j1 k x0 x1 x2 x8 x9 (decide (x1 > (x0.size : Int))))) else (some (x8, x1))
def spec_l12Vars.j1 : Nat → ByteArray → Int → Int → List Int → Int → Bool → Option (List Int × Int)
 | 0, _, _, _, _, _, _ => none
 | k + 1, x0, x1, x2, x8, x9, x25 => if x25 = true then (some (x8, (-1))) else (if 0 ≤ x1 then (if x1 ≤ (x0.size : Int) then ((spec_ReadVar.f k (x0.extract (x1 : Int).toNat x0.size)).bind fun bt486 => (if bt486.2 = 0 then (some (x8, (-1))) else (if x8.length < 17592186044416 then (spec_l12Vars.l0 k x0 (wrap64 (x1 + bt486.2)) x2 (x8 ++ [bt486.1]) (wrap64 (x9 + 1))) else (none)))) else (none)) else (none))
end
def spec_l12Vars.f (k : Nat) (a0 : ByteArray) (a1 : Int) (a2 : Int) : Option (List Int × Int) := spec_l12Vars.l0 k a0 a1 a2 (([] : List Int)) 0
theorem spec_l12Vars.mono_l : ∀ k, (∀ y0 y1 y2 y3 y4, LeO (spec_l12Vars.l0 k y0 y1 y2 y3 y4) (spec_l12Vars.l0 (k + 1) y0 y1 y2 y3 y4)) ∧ (∀ y0 y1 y2 y3 y4 y5, LeO (spec_l12Vars.j1 k y0 y1 y2 y3 y4 y5) (spec_l12Vars.j1 (k + 1) y0 y1 y2 y3 y4 y5))
 | 0 => ⟨fun _ _ _ _ _ r h => by simp [spec_l12Vars.l0] at h, fun _ _ _ _ _ _ r h => by simp [spec_l12Vars.j1] at h⟩
 | k + 1 => by
  obtain ⟨ih0, ih1⟩ := spec_l12Vars.mono_l k
  refine ⟨?_, ?_⟩
  ·intro y0 y1 y2 y3 y4
   unfold spec_l12Vars.l0
   repeat' (first | (with_reducible first | exact ih0 _ _ _ _ _ | exact ih1 _ _ _ _ _ _ | exact spec_ReadVar.mono _ _ | exact LeO.refl _ | exact LeO.none _ | refine LeO.ite ?_ ?_ | refine LeO.bind ?_ (fun _ => ?_)) | exact LeO.none _ | refine LeO.ite ?_ ?_ | refine LeO.bind ?_ (fun _ => ?_))
  ·intro y0 y1 y2 y3 y4 y5
   unfold spec_l12Vars.j1
   repeat' (first | (with_reducible first | exact ih0 _ _ _ _ _ | exact ih1 _ _ _ _ _ _ | exact spec_ReadVar.mono _ _ | exact LeO.refl _ | exact LeO.none _ | refine LeO.ite ?_ ?_ | refine LeO.bind ?_ (fun _ => ?_)) | exact LeO.none _ | refine LeO.ite ?_ ?_ | refine LeO.bind ?_ (fun _ => ?_))
theorem spec_l12Vars.mono : ∀ a0 a1 a2 k, LeO (spec_l12Vars.f k a0 a1 a2) (spec_l12Vars.f (k + 1) a0 a1 a2) := by
 intro a0 a1 a2 k
 obtain ⟨ih0, ih1⟩ := spec_l12Vars.mono_l k
 unfold spec_l12Vars.f
 repeat' (first | (with_reducible first | exact ih0 _ _ _ _ _ | exact ih1 _ _ _ _ _ _ | exact spec_ReadVar.mono _ _ | exact LeO.refl _ | exact LeO.none _ | refine LeO.ite ?_ ?_ | refine LeO.bind ?_ (fun _ => ?_)) | exact LeO.none _ | refine LeO.ite ?_ ?_ | refine LeO.bind ?_ (fun _ => ?_))
set_option maxHeartbeats 8000000 in
set_option maxRecDepth 100000 in
theorem spec_l12Vars.calls (k : Nat) (a0 : ByteArray) (a1 : Int) (a2 : Int) (r1 : List Int) (r2 : Int) (w : World) (h : spec_l12Vars.f k a0 a1 a2 = some (r1, r2)) :
  Calls Tryz.prog 32 #[.string a0, .int .i64 a1, .int .i64 a2] w fun e w' => ∃ v0_ : Value, e = .returned (.tuple #[v0_, .int .i64 r2]) ∧ Kd.R (Kd.int .i64) 3 w' w.heap.size (fun _ => True) v0_ r1 ∧ Below w.heap.size w w' := by
 have HB := Aside0.mk (Below.refl w.heap.size w)
 try unfold spec_l12Vars.f at h
 have H := h
 clear h
 obtain ⟨y483, hy483⟩ : ∃ y_ : List Int, y_ = (([] : List Int)) := ⟨_, rfl⟩
 replace H : (spec_l12Vars.l0 k a0 a1 a2 y483 0) = some (r1, r2) := by first | (rw [hy483]; with_reducible exact H) | (have H2_ := (Option.bind_some _ _).symm.trans H; rw [hy483]; with_reducible exact H2_) | (have H2_ := (Option.bind_some _ _).symm.trans H; with_reducible exact H2_) | with_reducible exact H | (rw [hy483]; exact H) | exact H
 have Ny483 := Aside0.mk hy483
 clear hy483
 have H' := Aside0.mk H
 clear H
 go_enter Tryz.func32, Tryz.ntmps32
 go_wp2_with (first | ((with_reducible refine gate_dst (N := 12) rfl ?_); (try (refine gate_guard (by rfl) ?_; dsimp only)); refine Kd.R_lit (Kd.int .i64) _ 3 ?hg (N := 12) ?hd (xs := ([] : List Int)) (inner := []) (ok := fun _ => True) (okp := fun _ => True) ?hr ?hp (fun _ hk => hk) trivial (Below.refl _ _) (Nat.le_refl _) (by simp) ?_; (case hd => rfl); (case hg => rfl); (case hr => first | (go_simp; done) | (go_simp; rfl)); (case hp => exact (Reps.none _ _)); intro v484 w4 ho5 hb hg_ hnew_; clear hg_ hnew_; (first | rw [← Ny483.out] at ho5 | (simp only [Int.reduceToNat] at ho5; rw [← Ny483.out] at ho5)); have n0_ := Aside0.mk (Kd.R_lower ho5 (below_size zt3)); have n1_ := Aside0.mk (below_step zt3 hb); clear HB; have HO485 := n0_; have HB := n1_; clear n0_ n1_; clear hb ho5))
 go_loopg [1, 8, 9] k (fun kq v1 v8 v9 w' => ∃ (x1_1 : Int) (x8_1 : List Int) (x9_1 : Int), v1 = .int .i64 x1_1 ∧ v9 = .int .i64 x9_1 ∧ Aside0 (spec_l12Vars.l0 kq a0 x1_1 a2 x8_1 x9_1 = some (r1, r2)) ∧ Aside0 (kq ≤ k) ∧ Aside0 (Kd.R (Kd.int .i64) 3 w' w.heap.size (fun _ => True) v8 x8_1) ∧ Aside0 (Below w.heap.size w w'))
 case atStart => exact ⟨(a1), (y483), (0), zt12, zt12, H', ⟨Nat.le_refl _⟩, ⟨by (with_reducible repeat (first | apply Kd.R_alloc | apply Kd.R_drewN | apply Kd.R_drew)); exact HO485.out⟩, ⟨zt3⟩⟩
 case round =>
  clear H'
  try clear p2
  try clear c3
  obtain ⟨x1_1, x8_1, x9_1, rfl, rfl, HA, HK1, HO_8, HB⟩ := hrel
  cases gk with
  | zero => exact absurd HA.out (by simp [spec_l12Vars.l0])
  | succ k1 =>
   have H := HA.out
   clear HA
   simp only [spec_l12Vars.l0] at H
   by_cases c6 : x9_1 < a2
   ·rw [if_pos c6] at H
    have c6b0 : decide (x9_1 < a2) = true := decide_eq_true c6
    clear c6
    have HC7 := Aside0.mk H
    clear H
    go_upto_region 5 with (fail)
    go_cut [25] (fun v25 wc => ∃ (kq : Nat) (x25_6 : Bool), v25 = .bool x25_6 ∧ Aside0 (spec_l12Vars.j1 kq a0 x1_1 a2 x8_1 x9_1 x25_6 = some (r1, r2)) ∧ Aside0 (kq ≤ k1) ∧ Aside0 (Kd.R (Kd.int .i64) 3 wc w.heap.size (fun _ => True) u8 x8_1) ∧ Aside0 (Below w.heap.size w wc))
    case first =>
     have H := HC7.out
     clear HC7
     by_cases c8 : x1_1 < 0
     rw [if_pos c8] at H
     have c8b0 : decide (x1_1 < 0) = true := decide_eq_true c8
     clear c8
     (first | rw [c8b0] | (simp only [i64_w, i32_w]; rw [c8b0]) | skip)
     have H' := Aside0.mk H
     clear H
     rotate_left
     rw [if_neg c8] at H
     have c8b0 : decide (x1_1 < 0) = false := decide_eq_false c8
     clear c8
     (first | rw [c8b0] | (simp only [i64_w, i32_w]; rw [c8b0]) | skip)
     have H' := Aside0.mk H
     clear H
     rotate_left
     all_goals
      repeat (go_wp2; first | go_quiet (fail) | (go_meet; (case rel => exact ⟨_, (true), zt12, H', ⟨zt34⟩, ⟨by (with_reducible repeat (first | apply Kd.R_alloc | apply Kd.R_drewN | apply Kd.R_drew)); (first | exact HO_8.out | exact Kd.R_mono HO_8.out (fun k_ h_ => by first | exact h_ | (simpa [Value.ownBlock] using h_) | (have e_ : ∀ (A : Option Addr) (n m c : Nat), (Value.slice A n c).ownBlock = (Value.slice A m c).ownBlock := (fun A n m c => by cases A <;> rfl); rw [e_ _ _ 0 _] at h_ ⊢; exact h_)))⟩, ⟨zt3⟩⟩)) | (go_meet; (case rel => exact ⟨_, (decide (x1_1 > (a0.size : Int))), zt12, H', ⟨zt34⟩, ⟨by (with_reducible repeat (first | apply Kd.R_alloc | apply Kd.R_drewN | apply Kd.R_drew)); (first | exact HO_8.out | exact Kd.R_mono HO_8.out (fun k_ h_ => by first | exact h_ | (simpa [Value.ownBlock] using h_) | (have e_ : ∀ (A : Option Addr) (n m c : Nat), (Value.slice A n c).ownBlock = (Value.slice A m c).ownBlock := (fun A n m c => by cases A <;> rfl); rw [e_ _ _ 0 _] at h_ ⊢; exact h_)))⟩, ⟨zt3⟩⟩)))
    case rest =>
     clear HC7
     try clear p2
     try clear c3
     try clear c6
     try clear c6b0
     try clear c8
     try clear c8b0
     try clear p2
     obtain ⟨kq, x25_6, rfl, HA, HJ6, HO_8, HB⟩ := hcut
     cases kq with
     | zero => exact absurd HA.out (by simp [spec_l12Vars.j1])
     | succ kj6 =>
      have H := HA.out
      clear HA
      simp only [spec_l12Vars.j1] at H
      by_cases c9 : x25_6 = true
      subst c9
      rw [if_pos rfl] at H
      simp only [Option.some.injEq, Prod.mk.injEq] at H
      obtain ⟨rfl, rfl⟩ := H
      rotate_left
      replace c9 := Bool.eq_false_iff.mpr c9
      subst c9
      rw [if_neg (show ¬ (false = true) by decide)] at H
      replace H := it0 H
      obtain ⟨c10, H⟩ := H
      have c10b0 := eq_true c10
      have c10b1 : decide (0 ≤ x1_1) = true := decide_eq_true c10
      clear c10
      replace H := it0 H
      obtain ⟨c11, H⟩ := H
      have c11b0 := eq_true c11
      have c11b1 := decide_eq_true c11
      clear c11
      replace H := bnd H
      obtain ⟨⟨t486, t487⟩, A12, H⟩ := H
      try dsimp only at H
      by_cases c13 : t487 = 0
      rw [if_pos c13] at H
      have c13b0 : (t487 == 0) = true := beq_iff_eq.mpr c13
      have c13b1 : (t487 != 0) = false := bne_eq_false_iff_eq.mpr c13
      clear c13
      simp only [Option.some.injEq, Prod.mk.injEq] at H
      obtain ⟨rfl, rfl⟩ := H
      rotate_left
      rw [if_neg c13] at H
      have c13b0 : (t487 == 0) = false := beq_eq_false_iff_ne.mpr c13
      have c13b1 : (t487 != 0) = true := bne_iff_ne.mpr c13
      replace H := it0 H
      obtain ⟨c15, H⟩ := H
      have LMc15 := Aside0.mk c15
      clear c15
      obtain ⟨y488, hy488⟩ : ∃ y_ : List Int, y_ = (x8_1 ++ [t486]) := ⟨_, rfl⟩
      replace H : (spec_l12Vars.l0 kj6 a0 (wrap64 (x1_1 + t487)) a2 y488 (wrap64 (x9_1 + 1))) = some (r1, r2) := by first | (rw [hy488]; with_reducible exact H) | (have H2_ := (Option.bind_some _ _).symm.trans H; rw [hy488]; with_reducible exact H2_) | (have H2_ := (Option.bind_some _ _).symm.trans H; with_reducible exact H2_) | with_reducible exact H | (rw [hy488]; exact H) | exact H
      have Ny488 := Aside0.mk hy488
      clear hy488
      have H' := Aside0.mk H
      clear H
      rotate_left
      all_goals
       repeat (go_wp2_with (first | ((with_reducible refine gate_builtin (b := .append) (xs := #[.tmp 37, .tmp 39]) rfl ?_); (try (refine gate_guard (by rfl) ?_; dsimp only)); at_builtin; refine Kd.R_append (Kd.int .i64) (w0 := w) w.heap.size rfl (.tmp 37) (.tmp 39) 56 3 (.int .i64 0) 8 rfl Tryz.underlying56 info3 rfl (by decide) (by omega) u8 x8_1 t486 [.int .i64 t486] (fun _ => True) (fun _ => False) rfl rfl ?aP (fun _ hk => hk.elim) ?aF ?aO ?aB ?aS ?aL ?_; (case aP => exact rfl); (case aB => exact zt3); (case aF => exact (fun _ _ => trivial)); (case aO => exact (rz HO_8.out)); (case aS => exact (below_size zt3)); (case aL => have := LMc15.out; omega); intro v7001 w7002 ho hb hg hat; rw [← Ny488.out] at ho; have n0_ := Aside0.mk (hb); have n1_ := Aside0.mk (ho); clear HB; clear HO_8; have HB := n0_; have HO7003 := n1_; clear n0_ n1_; clear ho hb hg hat) | ((with_reducible refine gate_callee (f := 52) rfl ?_); refine goesL_ (some 31) rfl rfl Tryz.func52 (by kernel_rfl) rfl #[.string (a0.extract (x1_1 : Int).toNat a0.size)] rfl zt7 ?_; (with_reducible refine (spec_ReadVar.calls kj6 (a0.extract (x1_1 : Int).toNat a0.size) t486 t487 _ A12.out).mono ?_); rintro e w7000 ⟨rfl, hb⟩; refine ⟨_, rfl, ?_⟩; have n0_ := Aside0.mk (Kd.R_below (rz HO_8.out) hb); have n1_ := Aside0.mk (below_step zt3 hb); clear HO_8; clear HB; have HO_8 := n0_; have HB := n1_; clear n0_ n1_; (try clear hb); (try clear hb2); (try clear hk); (try clear hi))); first | go_quiet (fail) | (go_ret2; exact ⟨_, zt10, by (with_reducible repeat (first | apply Kd.R_alloc | apply Kd.R_drewN | apply Kd.R_drew)); exact HO_8.out, zt3⟩) | (go_roundg kj6; (case measure => have := HK1.out; have := HJ6.out; omega); (case rel => exact ⟨(wrap64 (x1_1 + t487)), (y488), (wrap64 (x9_1 + 1)), zt12, zt12, H', ⟨by have := HK1.out; have := HJ6.out; omega⟩, ⟨zt22⟩, ⟨zt3⟩⟩)))
   ·rw [if_neg c6] at H
    have c6b0 := decide_eq_false c6
    clear c6
    simp only [Option.some.injEq, Prod.mk.injEq] at H
    obtain ⟨rfl, rfl⟩ := H
    go_wp2
    go_ret2
    exact ⟨_, zt10, by (with_reducible repeat (first | apply Kd.R_alloc | apply Kd.R_drewN | apply Kd.R_drew)); exact HO_8.out, zt3⟩

/-! ### spec_l12Take: function 33 -/
def spec_l12Take.f (k : Nat) (a0 : ByteArray) (a1 : Int) : Option (ByteArray × Int) := (spec_l12Vars.f k a0 a1 1).bind fun bt491 => (if bt491.2 < 0 then (some ((⟨#[]⟩ : ByteArray), (-1))) else (if 0 < (bt491.1.length : Int) then (if (rd bt491.1 0) > (wrap64 ((a0.size : Int) - bt491.2)) then (some ((⟨#[]⟩ : ByteArray), (-1))) else (if 0 ≤ bt491.2 then (if bt491.2 ≤ (wrap64 (bt491.2 + (rd bt491.1 0))) then (if (wrap64 (bt491.2 + (rd bt491.1 0))) ≤ (a0.size : Int) then (some (a0.extract (bt491.2 : Int).toNat ((wrap64 (bt491.2 + (rd bt491.1 0))) : Int).toNat, wrap64 (bt491.2 + (rd bt491.1 0)))) else (none)) else (none)) else (none))) else (none)))
theorem spec_l12Take.mono : ∀ a0 a1 k, LeO (spec_l12Take.f k a0 a1) (spec_l12Take.f (k + 1) a0 a1) := by
 intro a0 a1 k
 unfold spec_l12Take.f
 repeat' (first | (with_reducible first | exact spec_l12Vars.mono _ _ _ _ | exact LeO.refl _ | exact LeO.none _ | refine LeO.ite ?_ ?_ | refine LeO.bind ?_ (fun _ => ?_)) | exact LeO.none _ | refine LeO.ite ?_ ?_ | refine LeO.bind ?_ (fun _ => ?_))
set_option maxHeartbeats 8000000 in
set_option maxRecDepth 100000 in
theorem spec_l12Take.calls (k : Nat) (a0 : ByteArray) (a1 : Int) (r1 : ByteArray) (r2 : Int) (w : World) (h : spec_l12Take.f k a0 a1 = some (r1, r2)) :
  Calls Tryz.prog 33 #[.string a0, .int .i64 a1] w fun e w' => e = .returned (.tuple #[.string r1, .int .i64 r2]) ∧ Below w.heap.size w w' := by
 have HB := Aside0.mk (Below.refl w.heap.size w)
 try unfold spec_l12Take.f at h
 have H := h
 clear h
 replace H := bnd H
 obtain ⟨⟨t491, t492⟩, A3, H⟩ := H
 try dsimp only at H
 by_cases c4 : t492 < 0
 rw [if_pos c4] at H
 have c4b0 : decide (t492 < 0) = true := decide_eq_true c4
 clear c4
 simp only [Option.some.injEq, Prod.mk.injEq] at H
 obtain ⟨rfl, rfl⟩ := H
 rotate_left
 rw [if_neg c4] at H
 have c4b0 : decide (t492 < 0) = false := decide_eq_false c4
 clear c4
 replace H := it0 H
 obtain ⟨c6, H⟩ := H
 have c6b0 := decide_eq_true c6
 have c6b1 : decide (0 < t491.length) = true := decide_eq_true (by omega)
 clear c6
 by_cases c7 : (rd t491 0) > (wrap64 ((a0.size : Int) - t492))
 rw [if_pos c7] at H
 have c7b0 : decide ((wrap64 ((a0.size : Int) - t492)) < (rd t491 0)) = true := decide_eq_true c7
 clear c7
 simp only [Option.some.injEq, Prod.mk.injEq] at H
 obtain ⟨rfl, rfl⟩ := H
 rotate_left
 rw [if_neg c7] at H
 have c7b0 : decide ((wrap64 ((a0.size : Int) - t492)) < (rd t491 0)) = false := decide_eq_false c7
 clear c7
 replace H := it0 H
 obtain ⟨c10, H⟩ := H
 have c10b0 := eq_true c10
 have c10b1 : decide (0 ≤ t492) = true := decide_eq_true c10
 clear c10
 replace H := it0 H
 obtain ⟨c11, H⟩ := H
 have c11b0 := eq_true c11
 have c11b1 := decide_eq_true c11
 replace H := it0 H
 obtain ⟨c12, H⟩ := H
 have c12b0 := eq_true c12
 have c12b1 := decide_eq_true c12
 simp only [Option.some.injEq, Prod.mk.injEq] at H
 obtain ⟨rfl, rfl⟩ := H
 rotate_left
 all_goals
  go_enter Tryz.func33, Tryz.ntmps33
  repeat (go_wp2_with (first | (go_at_call 32; (with_reducible refine (spec_l12Vars.calls k a0 a1 1 t491 t492 _ A3.out).mono ?_); rintro e w7000 ⟨v7001, rfl, ho7002, hb⟩; have n0_ := Aside0.mk (Kd.R_lower ho7002 (below_size zt3)); have n1_ := Aside0.mk (below_step zt3 hb); clear HB; have HO7003 := n0_; have HB := n1_; clear n0_ n1_; (try clear hb); (try clear hb2); (try clear hk); (try clear hi); (try clear ho7002); obtain ⟨Ao7004, co7004, eo7004⟩ := Kd.R_slice HO7003.out; subst eo7004; have p7005 : 0 ≤ (0 : Int) := (by omega); have q7005 : 0 < (t491.length : Int) := of_decide_eq_true zt8; obtain ⟨ad7005, e7005, hx7005_0⟩ := Kd.at_int (Kd.R_reads' HO7003.out).2.2 0 p7005 q7005; cases e7005; have qi7005 : (0 < t491.length) = True := eq_true (by omega); (try rw [show ((0 : Int)).toNat = 0 from rfl] at hx7005_0); (try rw [Addr.add_zero'] at hx7005_0); replace p7005 := eq_true p7005; replace q7005 := eq_true q7005; have p7006 : 0 ≤ (0 : Int) := (by omega); have q7006 : 0 < (t491.length : Int) := of_decide_eq_true zt8; obtain ⟨ad7006, e7006, hx7006_0⟩ := Kd.at_int (Kd.R_reads' HO7003.out).2.2 0 p7006 q7006; obtain rfl : ad7005 = ad7006 := (by injection e7006); have qi7006 : (0 < t491.length) = True := eq_true (by omega); (try rw [show ((0 : Int)).toNat = 0 from rfl] at hx7006_0); (try rw [Addr.add_zero'] at hx7006_0); replace p7006 := eq_true p7006; replace q7006 := eq_true q7006; have p7007 : 0 ≤ (0 : Int) := (by omega); have q7007 : 0 < (t491.length : Int) := of_decide_eq_true zt8; obtain ⟨ad7007, e7007, hx7007_0⟩ := Kd.at_int (Kd.R_reads' HO7003.out).2.2 0 p7007 q7007; obtain rfl : ad7005 = ad7007 := (by injection e7007); have qi7007 : (0 < t491.length) = True := eq_true (by omega); (try rw [show ((0 : Int)).toNat = 0 from rfl] at hx7007_0); (try rw [Addr.add_zero'] at hx7007_0); replace p7007 := eq_true p7007; replace q7007 := eq_true q7007) | (go_at_call 32; (with_reducible refine (spec_l12Vars.calls k a0 a1 1 t491 t492 _ A3.out).mono ?_); rintro e w7000 ⟨v7001, rfl, ho7002, hb⟩; have n0_ := Aside0.mk (Kd.R_lower ho7002 (below_size zt3)); have n1_ := Aside0.mk (below_step zt3 hb); clear HB; have HO7003 := n0_; have HB := n1_; clear n0_ n1_; (try clear hb); (try clear hb2); (try clear hk); (try clear hi); (try clear ho7002); obtain ⟨Ao7004, co7004, eo7004⟩ := Kd.R_slice HO7003.out; subst eo7004; have p7005 : 0 ≤ (0 : Int) := (by omega); have q7005 : 0 < (t491.length : Int) := of_decide_eq_true zt8; obtain ⟨ad7005, e7005, hx7005_0⟩ := Kd.at_int (Kd.R_reads' HO7003.out).2.2 0 p7005 q7005; cases e7005; have qi7005 : (0 < t491.length) = True := eq_true (by omega); (try rw [show ((0 : Int)).toNat = 0 from rfl] at hx7005_0); (try rw [Addr.add_zero'] at hx7005_0); replace p7005 := eq_true p7005; replace q7005 := eq_true q7005) | (go_at_call 32; (with_reducible refine (spec_l12Vars.calls k a0 a1 1 t491 t492 _ A3.out).mono ?_); rintro e w7000 ⟨v7001, rfl, ho7002, hb⟩; have n0_ := Aside0.mk (Kd.R_lower ho7002 (below_size zt3)); have n1_ := Aside0.mk (below_step zt3 hb); clear HB; have HO7003 := n0_; have HB := n1_; clear n0_ n1_; (try clear hb); (try clear hb2); (try clear hk); (try clear hi); (try clear ho7002))); first | go_quiet (fail) | (go_ret2; exact ⟨zt10, zt3⟩))

end Go.Proofs.YtkmcnjpgamaljaaGreatDoor.PFnFiles

-- Out of the kit's print, with contracts of mine among it (myprint.py).
import Derived.Lib.QuietBelow
import Derived.Test.YtopicidanlienaaPFnExactTrimx0
import Derived.Test.YtopicidanlienaaPFnExactTrimx5
namespace Go.Proofs.Ytopicidanlienaa.PFnExactTrim
open Go.RowKit Go.Proofs.YtopicidanlienaaW.PrintWords Go.Proofs.YtopicidanlienaaW.PrintLast Go.Proofs.YtopicidanlienaaW.PrintMore
attribute [local go_sem] max2_int min2_int max_two min_two max_three min_three max_four min_four   -- for this text's walks alone
set_option linter.unusedVariables false
set_option linter.unusedSimpArgs false

/-! ### laws_heldStringS: function 14 -/
def laws_heldStringS.l0 : Nat → List ByteArray → Int → Int → Option (Int)
 | 0, _, _, _ => none
 | k + 1, x0, x1, x5 => if x5 < (x0.length : Int) then (if 0 ≤ x5 then ((laws_markText.f k x1).bind fun t454 => (if (rdOf ByteArray.empty x0 x5).toList = t454.toList then (laws_heldStringS.l0 k x0 (wrap64 (x1 + 1)) (wrap64 (x5 + 1))) else (some (-1)))) else (none)) else (some x1)
def laws_heldStringS.f (k : Nat) (l0 : List ByteArray) (a1 : Int) : Option (Int) := laws_heldStringS.l0 k l0 a1 0
theorem laws_heldStringS.mono_l : ∀ k, (∀ y0 y1 y2, LeO (laws_heldStringS.l0 k y0 y1 y2) (laws_heldStringS.l0 (k + 1) y0 y1 y2))
 | 0 => fun _ _ _ r h => by simp [laws_heldStringS.l0] at h
 | k + 1 => by
  have ih0 := laws_heldStringS.mono_l k
  ·intro y0 y1 y2
   unfold laws_heldStringS.l0
   repeat' (first | (with_reducible first | exact ih0 _ _ _ | exact laws_markText.mono _ _ | exact LeO.refl _ | exact LeO.none _ | refine LeO.ite ?_ ?_ | refine LeO.bind ?_ (fun _ => ?_)) | exact LeO.none _ | refine LeO.ite ?_ ?_ | refine LeO.bind ?_ (fun _ => ?_))
theorem laws_heldStringS.mono : ∀ a0 a1 k, LeO (laws_heldStringS.f k a0 a1) (laws_heldStringS.f (k + 1) a0 a1) := by
 intro a0 a1 k
 have ih0 := laws_heldStringS.mono_l k
 unfold laws_heldStringS.f
 repeat' (first | (with_reducible first | exact ih0 _ _ _ | exact laws_markText.mono _ _ | exact LeO.refl _ | exact LeO.none _ | refine LeO.ite ?_ ?_ | refine LeO.bind ?_ (fun _ => ?_)) | exact LeO.none _ | refine LeO.ite ?_ ?_ | refine LeO.bind ?_ (fun _ => ?_))
set_option maxHeartbeats 8000000 in
set_option maxRecDepth 100000 in
theorem laws_heldStringS.calls (k : Nat) (A0 : Option Addr) (c0 : Nat) (l0 : List ByteArray) (a1 : Int) (r : Int) (w : World) (hr0 : Kd.C Kd.string w A0 l0.length l0) (hc0 : l0.length ≤ c0) (h : laws_heldStringS.f k l0 a1 = some r) :
  Calls Try.prog 14 #[.slice A0 l0.length c0, .int .i64 a1] w fun e w' => e = .returned (.int .i64 r) ∧ Below w.heap.size w w' := by
 have HR0 := Aside0.mk hr0
 have HC0 := Aside0.mk hc0
 clear hr0 hc0
 have HB := Aside0.mk (Below.refl w.heap.size w)
 try unfold laws_heldStringS.f at h
 have H := h
 clear h
 have H' := Aside0.mk H
 clear H
 go_enter Try.func14, Try.ntmps14
 go_wp2
 go_loopg [1, 5] k (fun kq v1 v5 w' => ∃ (x1_1 : Int) (x5_1 : Int), v1 = .int .i64 x1_1 ∧ v5 = .int .i64 x5_1 ∧ Aside0 (laws_heldStringS.l0 kq l0 x1_1 x5_1 = some r) ∧ Aside0 (kq ≤ k) ∧ Aside0 (Below w.heap.size w w'))
 case atStart => exact ⟨(a1), (0), zt9, zt9, H', ⟨Nat.le_refl _⟩, ⟨zt3⟩⟩
 case round =>
  clear H'
  try clear c1
  try clear p2
  obtain ⟨x1_1, x5_1, rfl, rfl, HA, HK1, HB⟩ := hrel
  cases gk with
  | zero => exact absurd HA.out (by simp [laws_heldStringS.l0])
  | succ k1 =>
   have H := HA.out
   clear HA
   simp only [laws_heldStringS.l0] at H
   by_cases c3 : x5_1 < (l0.length : Int)
   rw [if_pos c3] at H
   have c3b0 := decide_eq_true c3
   clear c3
   replace H := it0 H
   obtain ⟨c4, H⟩ := H
   have c4b0 : decide (0 ≤ x5_1) = true := decide_eq_true c4
   clear c4
   replace H := bnd H
   obtain ⟨t454, A5, H⟩ := H
   try dsimp only at H
   by_cases c6 : (rdOf ByteArray.empty l0 x5_1).toList = t454.toList
   rw [if_pos c6] at H
   have c6b0 := beq_iff_eq.mpr c6
   have c6b1 := bne_eq_false_iff_eq.mpr c6
   clear c6
   have H' := Aside0.mk H
   clear H
   rotate_left
   rw [if_neg c6] at H
   have c6b0 := beq_eq_false_iff_ne.mpr c6
   have c6b1 := bne_iff_ne.mpr c6
   obtain rfl := Option.some.inj H
   rotate_left
   rw [if_neg c3] at H
   have c3b0 := decide_eq_false c3
   clear c3
   obtain rfl := Option.some.inj H
   rotate_left
   all_goals try ((try go_wp2); (have n0_ := Aside0.mk (below_drew1 HB.out)); (clear HB); (have HB := n0_); (clear n0_); (have p7000 : 0 ≤ (x5_1 : Int) := of_decide_eq_true zt4); (have q7000 : x5_1 < (l0.length : Int) := of_decide_eq_true zt4); (obtain ⟨ad7000, e7000, hx7000_0⟩ := Kd.at_string HR0.out x5_1 p7000 q7000); (have hw7000_0 := hx7000_0); (cases e7000); (replace hx7000_0 := (HB.out.cell (World.block_lt_of_cell? w _ hx7000_0)).trans hx7000_0); (replace p7000 := eq_true p7000); (replace q7000 := eq_true q7000); (refine wp_quiet_drew (by kernel_rfl) (by kernel_rfl) ?_); (generalize wr.drew = w7001 at HB hx7000_0 ⊢); (have hS_ : (fun w' => w'.cell? (ad7000.add (x5_1).toNat) = some (.string (rdOf ByteArray.empty l0 x5_1))) w7001 := (((HB.out.cell (World.block_lt_of_cell? w _ hw7000_0)).trans hw7000_0))); (have hq0_ := hS_); (replace hq0_ := cell_regrown hq0_); (repeat (first | go_big_quiet_skip | quiet_step (first | (go_at_call 45; exact Calls.regrown_of (laws_markText.calls k1 x1_1 t454 _ A5.out))))); (refine wpQuiet_nil ?_); (intro _ hw'); (obtain ⟨⟨nq, osq⟩, hw''⟩ := hw'); (subst hw''); (have hb := below_regrown w7001 nq osq); (generalize Sort.grow (redrawn w7001 nq) osq = w7002 at hb ⊢); (have n0_ := Aside0.mk (below_step zt3 hb)); (clear HB); (have HB := n0_); (clear n0_); (clear hb hq0_); (try go_wp2); (first | (go_roundg k1; (case measure => have := HK1.out; omega); (case rel => exact ⟨(wrap64 (x1_1 + 1)), (wrap64 (x5_1 + 1)), zt9, zt9, H', ⟨by have := HK1.out; omega⟩, ⟨zt3⟩⟩)) | (go_ret; exact ⟨zt8, zt3⟩)))
   all_goals try ((go_wp2); (first | (go_ret; exact ⟨zt8, zt3⟩)))

end Go.Proofs.Ytopicidanlienaa.PFnExactTrim
namespace Go.Proofs.Ytopicidanlienaa.PFnExactTrim
open Go.RowKit Go.Proofs.YtopicidanlienaaW.PrintWords Go.Proofs.YtopicidanlienaaW.PrintLast Go.Proofs.YtopicidanlienaaW.PrintMore
attribute [local go_sem] max2_int min2_int max_two min_two max_three min_three max_four min_four   -- for this text's walks alone
set_option linter.unusedVariables false
set_option linter.unusedSimpArgs false

/-! ### laws_heldImpS: function 52 -/
def laws_heldImpS.l0 : Nat → List (S73) → Int → Int → Option (Int)
 | 0, _, _, _ => none
 | k + 1, x0, x1, x5 => if x5 < (x0.length : Int) then (if 0 ≤ x5 then ((laws_markText.f k x1).bind fun t456 => (if ((rd_T73 x0 x5).f0).toList = t456.toList then ((laws_markText.f k (wrap64 (x1 + 1))).bind fun t458 => (if ((rd_T73 x0 x5).f1).toList = t458.toList then ((laws_markText.f k (wrap64 ((wrap64 (x1 + 1)) + 1))).bind fun t460 => (if ((rd_T73 x0 x5).f2).toList = t460.toList then (laws_heldImpS.l0 k x0 (wrap64 ((wrap64 ((wrap64 (x1 + 1)) + 1)) + 1)) (wrap64 (x5 + 1))) else (some (-1)))) else (some (-1)))) else (some (-1)))) else (none)) else (some x1)
def laws_heldImpS.f (k : Nat) (l0 : List (S73)) (a1 : Int) : Option (Int) := laws_heldImpS.l0 k l0 a1 0
theorem laws_heldImpS.mono_l : ∀ k, (∀ y0 y1 y2, LeO (laws_heldImpS.l0 k y0 y1 y2) (laws_heldImpS.l0 (k + 1) y0 y1 y2))
 | 0 => fun _ _ _ r h => by simp [laws_heldImpS.l0] at h
 | k + 1 => by
  have ih0 := laws_heldImpS.mono_l k
  ·intro y0 y1 y2
   unfold laws_heldImpS.l0
   repeat' (first | (with_reducible first | exact ih0 _ _ _ | exact laws_markText.mono _ _ | exact LeO.refl _ | exact LeO.none _ | refine LeO.ite ?_ ?_ | refine LeO.bind ?_ (fun _ => ?_)) | exact LeO.none _ | refine LeO.ite ?_ ?_ | refine LeO.bind ?_ (fun _ => ?_))
theorem laws_heldImpS.mono : ∀ a0 a1 k, LeO (laws_heldImpS.f k a0 a1) (laws_heldImpS.f (k + 1) a0 a1) := by
 intro a0 a1 k
 have ih0 := laws_heldImpS.mono_l k
 unfold laws_heldImpS.f
 repeat' (first | (with_reducible first | exact ih0 _ _ _ | exact laws_markText.mono _ _ | exact LeO.refl _ | exact LeO.none _ | refine LeO.ite ?_ ?_ | refine LeO.bind ?_ (fun _ => ?_)) | exact LeO.none _ | refine LeO.ite ?_ ?_ | refine LeO.bind ?_ (fun _ => ?_))
set_option maxHeartbeats 8000000 in
set_option maxRecDepth 100000 in
theorem laws_heldImpS.calls (k : Nat) (A0 : Option Addr) (c0 : Nat) (l0 : List (S73)) (a1 : Int) (r : Int) (w : World) (hr0 : Kd.C k73 w A0 l0.length l0) (hc0 : l0.length ≤ c0) (h : laws_heldImpS.f k l0 a1 = some r) :
  Calls Try.prog 52 #[.slice A0 l0.length c0, .int .i64 a1] w fun e w' => e = .returned (.int .i64 r) ∧ Below w.heap.size w w' := by
 have HR0 := Aside0.mk hr0
 have HC0 := Aside0.mk hc0
 clear hr0 hc0
 have HB := Aside0.mk (Below.refl w.heap.size w)
 try unfold laws_heldImpS.f at h
 have H := h
 clear h
 have H' := Aside0.mk H
 clear H
 go_enter Try.func52, Try.ntmps52
 go_wp2
 go_loopg [1, 5] k (fun kq v1 v5 w' => ∃ (x1_1 : Int) (x5_1 : Int), v1 = .int .i64 x1_1 ∧ v5 = .int .i64 x5_1 ∧ Aside0 (laws_heldImpS.l0 kq l0 x1_1 x5_1 = some r) ∧ Aside0 (kq ≤ k) ∧ Aside0 (Below w.heap.size w w'))
 case atStart => exact ⟨(a1), (0), zt9, zt9, H', ⟨Nat.le_refl _⟩, ⟨zt3⟩⟩
 case round =>
  clear H'
  try clear p2
  obtain ⟨x1_1, x5_1, rfl, rfl, HA, HK1, HB⟩ := hrel
  cases gk with
  | zero => exact absurd HA.out (by simp [laws_heldImpS.l0])
  | succ k1 =>
   have H := HA.out
   clear HA
   simp only [laws_heldImpS.l0] at H
   by_cases c3 : x5_1 < (l0.length : Int)
   ·rw [if_pos c3] at H
    have c3b0 := decide_eq_true c3
    clear c3
    replace H := it0 H
    obtain ⟨c4, H⟩ := H
    have c4b0 : decide (0 ≤ x5_1) = true := decide_eq_true c4
    clear c4
    replace H := bnd H
    obtain ⟨t456, A5, H⟩ := H
    try dsimp only at H
    by_cases c6 : ((rd_T73 l0 x5_1).f0).toList = t456.toList
    rw [if_pos c6] at H
    have c6b0 := beq_iff_eq.mpr c6
    have c6b1 := bne_eq_false_iff_eq.mpr c6
    clear c6
    replace H := bnd H
    obtain ⟨t458, A7, H⟩ := H
    try dsimp only at H
    by_cases c8 : ((rd_T73 l0 x5_1).f1).toList = t458.toList
    rw [if_pos c8] at H
    have c8b0 := beq_iff_eq.mpr c8
    have c8b1 := bne_eq_false_iff_eq.mpr c8
    clear c8
    replace H := bnd H
    obtain ⟨t460, A9, H⟩ := H
    try dsimp only at H
    by_cases c10 : ((rd_T73 l0 x5_1).f2).toList = t460.toList
    rw [if_pos c10] at H
    have c10b0 := beq_iff_eq.mpr c10
    have c10b1 := bne_eq_false_iff_eq.mpr c10
    clear c10
    have H' := Aside0.mk H
    clear H
    rotate_left
    rw [if_neg c10] at H
    have c10b0 := beq_eq_false_iff_ne.mpr c10
    have c10b1 := bne_iff_ne.mpr c10
    obtain rfl := Option.some.inj H
    rotate_left
    rw [if_neg c8] at H
    have c8b0 := beq_eq_false_iff_ne.mpr c8
    have c8b1 := bne_iff_ne.mpr c8
    obtain rfl := Option.some.inj H
    rotate_left
    rw [if_neg c6] at H
    have c6b0 := beq_eq_false_iff_ne.mpr c6
    have c6b1 := bne_iff_ne.mpr c6
    obtain rfl := Option.some.inj H
    rotate_left
    all_goals try ((try go_wp2); (have n0_ := Aside0.mk (below_drew1 HB.out)); (clear HB); (have HB := n0_); (clear n0_); (have p7000 : 0 ≤ (x5_1 : Int) := of_decide_eq_true zt4); (have q7000 : x5_1 < (l0.length : Int) := of_decide_eq_true zt4); (obtain ⟨ad7000, e7000, hx7000_0, hx7000_1, hx7000_2⟩ := at_T73 HR0.out x5_1 p7000 q7000); (have hw7000_2 := hx7000_2); (have hw7000_1 := hx7000_1); (have hw7000_0 := hx7000_0); (cases e7000); (replace hx7000_0 := (HB.out.cell (World.block_lt_of_cell? w _ hx7000_0)).trans hx7000_0); (replace hx7000_1 := (HB.out.cell (World.block_lt_of_cell? w _ hx7000_1)).trans hx7000_1); (replace hx7000_2 := (HB.out.cell (World.block_lt_of_cell? w _ hx7000_2)).trans hx7000_2); (replace p7000 := eq_true p7000); (replace q7000 := eq_true q7000); (refine wp_quiet_drew (by kernel_rfl) (by kernel_rfl) ?_); (generalize wr.drew = w7001 at HB hx7000_0 hx7000_1 hx7000_2 ⊢); (have hS_ : (fun w' => w'.cell? (ad7000.add ((x5_1).toNat * 3)) = some (.string ((rd_T73 l0 x5_1).f0)) ∧ w'.cell? ⟨(ad7000.add ((x5_1).toNat * 3)).block, (ad7000.add ((x5_1).toNat * 3)).off + 1, none⟩ = some (.string ((rd_T73 l0 x5_1).f1)) ∧ w'.cell? ⟨(ad7000.add ((x5_1).toNat * 3)).block, (ad7000.add ((x5_1).toNat * 3)).off + 2, none⟩ = some (.string ((rd_T73 l0 x5_1).f2))) w7001 := ⟨((HB.out.cell (World.block_lt_of_cell? w _ hw7000_0)).trans hw7000_0), ((HB.out.cell (World.block_lt_of_cell? w _ hw7000_1)).trans hw7000_1), ((HB.out.cell (World.block_lt_of_cell? w _ hw7000_2)).trans hw7000_2)⟩); (obtain ⟨hq0_, hq1_, hq2_⟩ := hS_); (replace hq0_ := cell_regrown hq0_); (replace hq1_ := cell_regrown hq1_); (replace hq2_ := cell_regrown hq2_); (repeat (first | go_big_quiet_skip | quiet_step (first | (go_at_call 45; exact Calls.regrown_of (laws_markText.calls k1 x1_1 t456 _ A5.out))))); (refine wpQuiet_nil ?_); (intro _ hw'); (obtain ⟨⟨nq, osq⟩, hw''⟩ := hw'); (subst hw''); (have hb := below_regrown w7001 nq osq); (generalize Sort.grow (redrawn w7001 nq) osq = w7002 at hb ⊢); (have n0_ := Aside0.mk (below_step zt3 hb)); (clear HB); (have HB := n0_); (clear n0_); (clear hb hq0_ hq1_ hq2_); (try go_wp2); (have n0_ := Aside0.mk (below_drew1 HB.out)); (clear HB); (have HB := n0_); (clear n0_); (have p7003 : 0 ≤ (x5_1 : Int) := of_decide_eq_true zt4); (have q7003 : x5_1 < (l0.length : Int) := of_decide_eq_true zt4); (obtain ⟨ad7003, e7003, hx7003_0, hx7003_1, hx7003_2⟩ := at_T73 HR0.out x5_1 p7003 q7003); (have hw7003_2 := hx7003_2); (have hw7003_1 := hx7003_1); (have hw7003_0 := hx7003_0); (obtain rfl : ad7000 = ad7003 := (by injection e7003)); (replace hx7003_0 := (HB.out.cell (World.block_lt_of_cell? w _ hx7003_0)).trans hx7003_0); (replace hx7003_1 := (HB.out.cell (World.block_lt_of_cell? w _ hx7003_1)).trans hx7003_1); (replace hx7003_2 := (HB.out.cell (World.block_lt_of_cell? w _ hx7003_2)).trans hx7003_2); (replace p7003 := eq_true p7003); (replace q7003 := eq_true q7003); (refine wp_quiet_drew (by kernel_rfl) (by kernel_rfl) ?_); (generalize w7002.drew = w7004 at HB hx7003_0 hx7003_1 hx7003_2 ⊢); (have hS_ : (fun w' => w'.cell? (ad7000.add ((x5_1).toNat * 3)) = some (.string ((rd_T73 l0 x5_1).f0)) ∧ w'.cell? ⟨(ad7000.add ((x5_1).toNat * 3)).block, (ad7000.add ((x5_1).toNat * 3)).off + 1, none⟩ = some (.string ((rd_T73 l0 x5_1).f1)) ∧ w'.cell? ⟨(ad7000.add ((x5_1).toNat * 3)).block, (ad7000.add ((x5_1).toNat * 3)).off + 2, none⟩ = some (.string ((rd_T73 l0 x5_1).f2))) w7004 := ⟨((HB.out.cell (World.block_lt_of_cell? w _ hw7003_0)).trans hw7003_0), ((HB.out.cell (World.block_lt_of_cell? w _ hw7003_1)).trans hw7003_1), ((HB.out.cell (World.block_lt_of_cell? w _ hw7003_2)).trans hw7003_2)⟩); (obtain ⟨hq0_, hq1_, hq2_⟩ := hS_); (replace hq0_ := cell_regrown hq0_); (replace hq1_ := cell_regrown hq1_); (replace hq2_ := cell_regrown hq2_); (repeat (first | go_big_quiet_skip | quiet_step (first | (go_at_call 45; exact Calls.regrown_of (laws_markText.calls k1 (wrap64 (x1_1 + 1)) t458 _ A7.out))))); (refine wpQuiet_nil ?_); (intro _ hw'); (obtain ⟨⟨nq, osq⟩, hw''⟩ := hw'); (subst hw''); (have hb := below_regrown w7004 nq osq); (generalize Sort.grow (redrawn w7004 nq) osq = w7005 at hb ⊢); (have n0_ := Aside0.mk (below_step zt3 hb)); (clear HB); (have HB := n0_); (clear n0_); (clear hb hq0_ hq1_ hq2_); (try go_wp2); (have n0_ := Aside0.mk (below_drew1 HB.out)); (clear HB); (have HB := n0_); (clear n0_); (have p7006 : 0 ≤ (x5_1 : Int) := of_decide_eq_true zt4); (have q7006 : x5_1 < (l0.length : Int) := of_decide_eq_true zt4); (obtain ⟨ad7006, e7006, hx7006_0, hx7006_1, hx7006_2⟩ := at_T73 HR0.out x5_1 p7006 q7006); (have hw7006_2 := hx7006_2); (have hw7006_1 := hx7006_1); (have hw7006_0 := hx7006_0); (obtain rfl : ad7000 = ad7006 := (by injection e7006)); (replace hx7006_0 := (HB.out.cell (World.block_lt_of_cell? w _ hx7006_0)).trans hx7006_0); (replace hx7006_1 := (HB.out.cell (World.block_lt_of_cell? w _ hx7006_1)).trans hx7006_1); (replace hx7006_2 := (HB.out.cell (World.block_lt_of_cell? w _ hx7006_2)).trans hx7006_2); (replace p7006 := eq_true p7006); (replace q7006 := eq_true q7006); (refine wp_quiet_drew (by kernel_rfl) (by kernel_rfl) ?_); (generalize w7005.drew = w7007 at HB hx7006_0 hx7006_1 hx7006_2 ⊢); (have hS_ : (fun w' => w'.cell? (ad7000.add ((x5_1).toNat * 3)) = some (.string ((rd_T73 l0 x5_1).f0)) ∧ w'.cell? ⟨(ad7000.add ((x5_1).toNat * 3)).block, (ad7000.add ((x5_1).toNat * 3)).off + 1, none⟩ = some (.string ((rd_T73 l0 x5_1).f1)) ∧ w'.cell? ⟨(ad7000.add ((x5_1).toNat * 3)).block, (ad7000.add ((x5_1).toNat * 3)).off + 2, none⟩ = some (.string ((rd_T73 l0 x5_1).f2))) w7007 := ⟨((HB.out.cell (World.block_lt_of_cell? w _ hw7006_0)).trans hw7006_0), ((HB.out.cell (World.block_lt_of_cell? w _ hw7006_1)).trans hw7006_1), ((HB.out.cell (World.block_lt_of_cell? w _ hw7006_2)).trans hw7006_2)⟩); (obtain ⟨hq0_, hq1_, hq2_⟩ := hS_); (replace hq0_ := cell_regrown hq0_); (replace hq1_ := cell_regrown hq1_); (replace hq2_ := cell_regrown hq2_); (repeat (first | go_big_quiet_skip | quiet_step (first | (go_at_call 45; exact Calls.regrown_of (laws_markText.calls k1 (wrap64 ((wrap64 (x1_1 + 1)) + 1)) t460 _ A9.out))))); (refine wpQuiet_nil ?_); (intro _ hw'); (obtain ⟨⟨nq, osq⟩, hw''⟩ := hw'); (subst hw''); (have hb := below_regrown w7007 nq osq); (generalize Sort.grow (redrawn w7007 nq) osq = w7008 at hb ⊢); (have n0_ := Aside0.mk (below_step zt3 hb)); (clear HB); (have HB := n0_); (clear n0_); (clear hb hq0_ hq1_ hq2_); (try go_wp2); (first | (go_roundg k1; (case measure => have := HK1.out; omega); (case rel => exact ⟨(wrap64 ((wrap64 ((wrap64 (x1_1 + 1)) + 1)) + 1)), (wrap64 (x5_1 + 1)), zt9, zt9, H', ⟨by have := HK1.out; omega⟩, ⟨zt3⟩⟩)) | (go_ret; exact ⟨zt8, zt3⟩)))
    all_goals try ((try go_wp2); (have n0_ := Aside0.mk (below_drew1 HB.out)); (clear HB); (have HB := n0_); (clear n0_); (have p7000 : 0 ≤ (x5_1 : Int) := of_decide_eq_true zt4); (have q7000 : x5_1 < (l0.length : Int) := of_decide_eq_true zt4); (obtain ⟨ad7000, e7000, hx7000_0, hx7000_1, hx7000_2⟩ := at_T73 HR0.out x5_1 p7000 q7000); (have hw7000_2 := hx7000_2); (have hw7000_1 := hx7000_1); (have hw7000_0 := hx7000_0); (cases e7000); (replace hx7000_0 := (HB.out.cell (World.block_lt_of_cell? w _ hx7000_0)).trans hx7000_0); (replace hx7000_1 := (HB.out.cell (World.block_lt_of_cell? w _ hx7000_1)).trans hx7000_1); (replace hx7000_2 := (HB.out.cell (World.block_lt_of_cell? w _ hx7000_2)).trans hx7000_2); (replace p7000 := eq_true p7000); (replace q7000 := eq_true q7000); (refine wp_quiet_drew (by kernel_rfl) (by kernel_rfl) ?_); (generalize wr.drew = w7001 at HB hx7000_0 hx7000_1 hx7000_2 ⊢); (have hS_ : (fun w' => w'.cell? (ad7000.add ((x5_1).toNat * 3)) = some (.string ((rd_T73 l0 x5_1).f0)) ∧ w'.cell? ⟨(ad7000.add ((x5_1).toNat * 3)).block, (ad7000.add ((x5_1).toNat * 3)).off + 1, none⟩ = some (.string ((rd_T73 l0 x5_1).f1)) ∧ w'.cell? ⟨(ad7000.add ((x5_1).toNat * 3)).block, (ad7000.add ((x5_1).toNat * 3)).off + 2, none⟩ = some (.string ((rd_T73 l0 x5_1).f2))) w7001 := ⟨((HB.out.cell (World.block_lt_of_cell? w _ hw7000_0)).trans hw7000_0), ((HB.out.cell (World.block_lt_of_cell? w _ hw7000_1)).trans hw7000_1), ((HB.out.cell (World.block_lt_of_cell? w _ hw7000_2)).trans hw7000_2)⟩); (obtain ⟨hq0_, hq1_, hq2_⟩ := hS_); (replace hq0_ := cell_regrown hq0_); (replace hq1_ := cell_regrown hq1_); (replace hq2_ := cell_regrown hq2_); (repeat (first | go_big_quiet_skip | quiet_step (first | (go_at_call 45; exact Calls.regrown_of (laws_markText.calls k1 x1_1 t456 _ A5.out))))); (refine wpQuiet_nil ?_); (intro _ hw'); (obtain ⟨⟨nq, osq⟩, hw''⟩ := hw'); (subst hw''); (have hb := below_regrown w7001 nq osq); (generalize Sort.grow (redrawn w7001 nq) osq = w7002 at hb ⊢); (have n0_ := Aside0.mk (below_step zt3 hb)); (clear HB); (have HB := n0_); (clear n0_); (clear hb hq0_ hq1_ hq2_); (try go_wp2); (have n0_ := Aside0.mk (below_drew1 HB.out)); (clear HB); (have HB := n0_); (clear n0_); (have p7003 : 0 ≤ (x5_1 : Int) := of_decide_eq_true zt4); (have q7003 : x5_1 < (l0.length : Int) := of_decide_eq_true zt4); (obtain ⟨ad7003, e7003, hx7003_0, hx7003_1, hx7003_2⟩ := at_T73 HR0.out x5_1 p7003 q7003); (have hw7003_2 := hx7003_2); (have hw7003_1 := hx7003_1); (have hw7003_0 := hx7003_0); (obtain rfl : ad7000 = ad7003 := (by injection e7003)); (replace hx7003_0 := (HB.out.cell (World.block_lt_of_cell? w _ hx7003_0)).trans hx7003_0); (replace hx7003_1 := (HB.out.cell (World.block_lt_of_cell? w _ hx7003_1)).trans hx7003_1); (replace hx7003_2 := (HB.out.cell (World.block_lt_of_cell? w _ hx7003_2)).trans hx7003_2); (replace p7003 := eq_true p7003); (replace q7003 := eq_true q7003); (refine wp_quiet_drew (by kernel_rfl) (by kernel_rfl) ?_); (generalize w7002.drew = w7004 at HB hx7003_0 hx7003_1 hx7003_2 ⊢); (have hS_ : (fun w' => w'.cell? (ad7000.add ((x5_1).toNat * 3)) = some (.string ((rd_T73 l0 x5_1).f0)) ∧ w'.cell? ⟨(ad7000.add ((x5_1).toNat * 3)).block, (ad7000.add ((x5_1).toNat * 3)).off + 1, none⟩ = some (.string ((rd_T73 l0 x5_1).f1)) ∧ w'.cell? ⟨(ad7000.add ((x5_1).toNat * 3)).block, (ad7000.add ((x5_1).toNat * 3)).off + 2, none⟩ = some (.string ((rd_T73 l0 x5_1).f2))) w7004 := ⟨((HB.out.cell (World.block_lt_of_cell? w _ hw7003_0)).trans hw7003_0), ((HB.out.cell (World.block_lt_of_cell? w _ hw7003_1)).trans hw7003_1), ((HB.out.cell (World.block_lt_of_cell? w _ hw7003_2)).trans hw7003_2)⟩); (obtain ⟨hq0_, hq1_, hq2_⟩ := hS_); (replace hq0_ := cell_regrown hq0_); (replace hq1_ := cell_regrown hq1_); (replace hq2_ := cell_regrown hq2_); (repeat (first | go_big_quiet_skip | quiet_step (first | (go_at_call 45; exact Calls.regrown_of (laws_markText.calls k1 (wrap64 (x1_1 + 1)) t458 _ A7.out))))); (refine wpQuiet_nil ?_); (intro _ hw'); (obtain ⟨⟨nq, osq⟩, hw''⟩ := hw'); (subst hw''); (have hb := below_regrown w7004 nq osq); (generalize Sort.grow (redrawn w7004 nq) osq = w7005 at hb ⊢); (have n0_ := Aside0.mk (below_step zt3 hb)); (clear HB); (have HB := n0_); (clear n0_); (clear hb hq0_ hq1_ hq2_); (try go_wp2); (first | (go_ret; exact ⟨zt8, zt3⟩)))
    all_goals try ((try go_wp2); (have n0_ := Aside0.mk (below_drew1 HB.out)); (clear HB); (have HB := n0_); (clear n0_); (have p7000 : 0 ≤ (x5_1 : Int) := of_decide_eq_true zt4); (have q7000 : x5_1 < (l0.length : Int) := of_decide_eq_true zt4); (obtain ⟨ad7000, e7000, hx7000_0, hx7000_1, hx7000_2⟩ := at_T73 HR0.out x5_1 p7000 q7000); (have hw7000_2 := hx7000_2); (have hw7000_1 := hx7000_1); (have hw7000_0 := hx7000_0); (cases e7000); (replace hx7000_0 := (HB.out.cell (World.block_lt_of_cell? w _ hx7000_0)).trans hx7000_0); (replace hx7000_1 := (HB.out.cell (World.block_lt_of_cell? w _ hx7000_1)).trans hx7000_1); (replace hx7000_2 := (HB.out.cell (World.block_lt_of_cell? w _ hx7000_2)).trans hx7000_2); (replace p7000 := eq_true p7000); (replace q7000 := eq_true q7000); (refine wp_quiet_drew (by kernel_rfl) (by kernel_rfl) ?_); (generalize wr.drew = w7001 at HB hx7000_0 hx7000_1 hx7000_2 ⊢); (have hS_ : (fun w' => w'.cell? (ad7000.add ((x5_1).toNat * 3)) = some (.string ((rd_T73 l0 x5_1).f0)) ∧ w'.cell? ⟨(ad7000.add ((x5_1).toNat * 3)).block, (ad7000.add ((x5_1).toNat * 3)).off + 1, none⟩ = some (.string ((rd_T73 l0 x5_1).f1)) ∧ w'.cell? ⟨(ad7000.add ((x5_1).toNat * 3)).block, (ad7000.add ((x5_1).toNat * 3)).off + 2, none⟩ = some (.string ((rd_T73 l0 x5_1).f2))) w7001 := ⟨((HB.out.cell (World.block_lt_of_cell? w _ hw7000_0)).trans hw7000_0), ((HB.out.cell (World.block_lt_of_cell? w _ hw7000_1)).trans hw7000_1), ((HB.out.cell (World.block_lt_of_cell? w _ hw7000_2)).trans hw7000_2)⟩); (obtain ⟨hq0_, hq1_, hq2_⟩ := hS_); (replace hq0_ := cell_regrown hq0_); (replace hq1_ := cell_regrown hq1_); (replace hq2_ := cell_regrown hq2_); (repeat (first | go_big_quiet_skip | quiet_step (first | (go_at_call 45; exact Calls.regrown_of (laws_markText.calls k1 x1_1 t456 _ A5.out))))); (refine wpQuiet_nil ?_); (intro _ hw'); (obtain ⟨⟨nq, osq⟩, hw''⟩ := hw'); (subst hw''); (have hb := below_regrown w7001 nq osq); (generalize Sort.grow (redrawn w7001 nq) osq = w7002 at hb ⊢); (have n0_ := Aside0.mk (below_step zt3 hb)); (clear HB); (have HB := n0_); (clear n0_); (clear hb hq0_ hq1_ hq2_); (try go_wp2); (first | (go_ret; exact ⟨zt8, zt3⟩)))
   ·rw [if_neg c3] at H
    have c3b0 := decide_eq_false c3
    clear c3
    obtain rfl := Option.some.inj H
    go_wp2
    go_ret
    exact ⟨zt8, zt3⟩

end Go.Proofs.Ytopicidanlienaa.PFnExactTrim

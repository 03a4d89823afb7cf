-- Out of the kit's print, with contracts of mine among it (myprint.py).
import Derived.Lib.QuietBelow
import Derived.Test.YtopicidanlienaaPFnExactTrimx0
import Derived.Test.YtopicidanlienaaPFnExactTrimx5
namespace Go.Proofs.Ytopicidanlienaa.PFnExactTrim
open Go.RowKit Go.Proofs.YtopicidanlienaaW.PrintWords Go.Proofs.YtopicidanlienaaW.PrintLast Go.Proofs.YtopicidanlienaaW.PrintMore
attribute [local go_sem] max2_int min2_int max_two min_two max_three min_three max_four min_four   -- for this text's walks alone
set_option linter.unusedVariables false
set_option linter.unusedSimpArgs false

/-! ### laws_heldExpS: function 53 -/
def laws_heldExpS.l0 : Nat → List (S55) → Int → Int → Option (Int)
 | 0, _, _, _ => none
 | k + 1, x0, x1, x5 => if x5 < (x0.length : Int) then (if 0 ≤ x5 then (if ((rd_T55 x0 x5).f0) = x1 then ((laws_markText.f k (wrap64 (x1 + 1))).bind fun t463 => (if ((rd_T55 x0 x5).f1).toList = t463.toList then ((laws_markText.f k (wrap64 ((wrap64 (x1 + 1)) + 1))).bind fun t465 => (if ((rd_T55 x0 x5).f2).toList = t465.toList then ((laws_markText.f k (wrap64 ((wrap64 ((wrap64 (x1 + 1)) + 1)) + 1))).bind fun t467 => (if ((rd_T55 x0 x5).f3).toList = t467.toList then (laws_heldExpS.l0 k x0 (wrap64 ((wrap64 ((wrap64 ((wrap64 (x1 + 1)) + 1)) + 1)) + 1)) (wrap64 (x5 + 1))) else (some (-1)))) else (some (-1)))) else (some (-1)))) else (some (-1))) else (none)) else (some x1)
def laws_heldExpS.f (k : Nat) (l0 : List (S55)) (a1 : Int) : Option (Int) := laws_heldExpS.l0 k l0 a1 0
theorem laws_heldExpS.mono_l : ∀ k, (∀ y0 y1 y2, LeO (laws_heldExpS.l0 k y0 y1 y2) (laws_heldExpS.l0 (k + 1) y0 y1 y2))
 | 0 => fun _ _ _ r h => by simp [laws_heldExpS.l0] at h
 | k + 1 => by
  have ih0 := laws_heldExpS.mono_l k
  ·intro y0 y1 y2
   unfold laws_heldExpS.l0
   repeat' (first | (with_reducible first | exact ih0 _ _ _ | exact laws_markText.mono _ _ | exact LeO.refl _ | exact LeO.none _ | refine LeO.ite ?_ ?_ | refine LeO.bind ?_ (fun _ => ?_)) | exact LeO.none _ | refine LeO.ite ?_ ?_ | refine LeO.bind ?_ (fun _ => ?_))
theorem laws_heldExpS.mono : ∀ a0 a1 k, LeO (laws_heldExpS.f k a0 a1) (laws_heldExpS.f (k + 1) a0 a1) := by
 intro a0 a1 k
 have ih0 := laws_heldExpS.mono_l k
 unfold laws_heldExpS.f
 repeat' (first | (with_reducible first | exact ih0 _ _ _ | exact laws_markText.mono _ _ | exact LeO.refl _ | exact LeO.none _ | refine LeO.ite ?_ ?_ | refine LeO.bind ?_ (fun _ => ?_)) | exact LeO.none _ | refine LeO.ite ?_ ?_ | refine LeO.bind ?_ (fun _ => ?_))
set_option maxHeartbeats 8000000 in
set_option maxRecDepth 100000 in
theorem laws_heldExpS.calls (k : Nat) (A0 : Option Addr) (c0 : Nat) (l0 : List (S55)) (a1 : Int) (r : Int) (w : World) (hr0 : Kd.C k55 w A0 l0.length l0) (hc0 : l0.length ≤ c0) (h : laws_heldExpS.f k l0 a1 = some r) :
  Calls Try.prog 53 #[.slice A0 l0.length c0, .int .i64 a1] w fun e w' => e = .returned (.int .i64 r) ∧ Below w.heap.size w w' := by
 have HR0 := Aside0.mk hr0
 have HC0 := Aside0.mk hc0
 clear hr0 hc0
 have HB := Aside0.mk (Below.refl w.heap.size w)
 try unfold laws_heldExpS.f at h
 have H := h
 clear h
 have H' := Aside0.mk H
 clear H
 go_enter Try.func53, Try.ntmps53
 go_wp2
 go_loopg [1, 5] k (fun kq v1 v5 w' => ∃ (x1_1 : Int) (x5_1 : Int), v1 = .int .i64 x1_1 ∧ v5 = .int .i64 x5_1 ∧ Aside0 (laws_heldExpS.l0 kq l0 x1_1 x5_1 = some r) ∧ Aside0 (kq ≤ k) ∧ Aside0 (Below w.heap.size w w'))
 case atStart => exact ⟨(a1), (0), zt9, zt9, H', ⟨Nat.le_refl _⟩, ⟨zt3⟩⟩
 case round =>
  clear H'
  try clear p2
  obtain ⟨x1_1, x5_1, rfl, rfl, HA, HK1, HB⟩ := hrel
  cases gk with
  | zero => exact absurd HA.out (by simp [laws_heldExpS.l0])
  | succ k1 =>
   have H := HA.out
   clear HA
   simp only [laws_heldExpS.l0] at H
   by_cases c3 : x5_1 < (l0.length : Int)
   ·rw [if_pos c3] at H
    have c3b0 := decide_eq_true c3
    clear c3
    replace H := it0 H
    obtain ⟨c4, H⟩ := H
    have c4b0 : decide (0 ≤ x5_1) = true := decide_eq_true c4
    clear c4
    by_cases c5 : ((rd_T55 l0 x5_1).f0) = x1_1
    ·rw [if_pos c5] at H
     have c5b0 := beq_iff_eq.mpr c5
     have c5b1 := bne_eq_false_iff_eq.mpr c5
     clear c5
     replace H := bnd H
     obtain ⟨t463, A6, H⟩ := H
     try dsimp only at H
     by_cases c7 : ((rd_T55 l0 x5_1).f1).toList = t463.toList
     rw [if_pos c7] at H
     have c7b0 := beq_iff_eq.mpr c7
     have c7b1 := bne_eq_false_iff_eq.mpr c7
     clear c7
     replace H := bnd H
     obtain ⟨t465, A8, H⟩ := H
     try dsimp only at H
     by_cases c9 : ((rd_T55 l0 x5_1).f2).toList = t465.toList
     rw [if_pos c9] at H
     have c9b0 := beq_iff_eq.mpr c9
     have c9b1 := bne_eq_false_iff_eq.mpr c9
     clear c9
     replace H := bnd H
     obtain ⟨t467, A10, H⟩ := H
     try dsimp only at H
     by_cases c11 : ((rd_T55 l0 x5_1).f3).toList = t467.toList
     rw [if_pos c11] at H
     have c11b0 := beq_iff_eq.mpr c11
     have c11b1 := bne_eq_false_iff_eq.mpr c11
     clear c11
     have H' := Aside0.mk H
     clear H
     have p461 : 0 ≤ (x5_1 : Int) := of_decide_eq_true zt4
     have q461 : x5_1 < (l0.length : Int) := of_decide_eq_true zt4
     obtain ⟨ad461, e461, hx461_0, hx461_1, hx461_2, hx461_3⟩ := at_T55 HR0.out x5_1 p461 q461
     cases e461
     replace hx461_0 := (HB.out.cell (World.block_lt_of_cell? w _ hx461_0)).trans hx461_0
     replace hx461_1 := (HB.out.cell (World.block_lt_of_cell? w _ hx461_1)).trans hx461_1
     replace hx461_2 := (HB.out.cell (World.block_lt_of_cell? w _ hx461_2)).trans hx461_2
     replace hx461_3 := (HB.out.cell (World.block_lt_of_cell? w _ hx461_3)).trans hx461_3
     replace p461 := eq_true p461
     replace q461 := eq_true q461
     rotate_left
     rw [if_neg c11] at H
     have c11b0 := beq_eq_false_iff_ne.mpr c11
     have c11b1 := bne_iff_ne.mpr c11
     obtain rfl := Option.some.inj H
     have p461 : 0 ≤ (x5_1 : Int) := of_decide_eq_true zt4
     have q461 : x5_1 < (l0.length : Int) := of_decide_eq_true zt4
     obtain ⟨ad461, e461, hx461_0, hx461_1, hx461_2, hx461_3⟩ := at_T55 HR0.out x5_1 p461 q461
     cases e461
     replace hx461_0 := (HB.out.cell (World.block_lt_of_cell? w _ hx461_0)).trans hx461_0
     replace hx461_1 := (HB.out.cell (World.block_lt_of_cell? w _ hx461_1)).trans hx461_1
     replace hx461_2 := (HB.out.cell (World.block_lt_of_cell? w _ hx461_2)).trans hx461_2
     replace hx461_3 := (HB.out.cell (World.block_lt_of_cell? w _ hx461_3)).trans hx461_3
     replace p461 := eq_true p461
     replace q461 := eq_true q461
     rotate_left
     rw [if_neg c9] at H
     have c9b0 := beq_eq_false_iff_ne.mpr c9
     have c9b1 := bne_iff_ne.mpr c9
     obtain rfl := Option.some.inj H
     have p461 : 0 ≤ (x5_1 : Int) := of_decide_eq_true zt4
     have q461 : x5_1 < (l0.length : Int) := of_decide_eq_true zt4
     obtain ⟨ad461, e461, hx461_0, hx461_1, hx461_2, hx461_3⟩ := at_T55 HR0.out x5_1 p461 q461
     cases e461
     replace hx461_0 := (HB.out.cell (World.block_lt_of_cell? w _ hx461_0)).trans hx461_0
     replace hx461_1 := (HB.out.cell (World.block_lt_of_cell? w _ hx461_1)).trans hx461_1
     replace hx461_2 := (HB.out.cell (World.block_lt_of_cell? w _ hx461_2)).trans hx461_2
     replace hx461_3 := (HB.out.cell (World.block_lt_of_cell? w _ hx461_3)).trans hx461_3
     replace p461 := eq_true p461
     replace q461 := eq_true q461
     rotate_left
     rw [if_neg c7] at H
     have c7b0 := beq_eq_false_iff_ne.mpr c7
     have c7b1 := bne_iff_ne.mpr c7
     obtain rfl := Option.some.inj H
     have p461 : 0 ≤ (x5_1 : Int) := of_decide_eq_true zt4
     have q461 : x5_1 < (l0.length : Int) := of_decide_eq_true zt4
     obtain ⟨ad461, e461, hx461_0, hx461_1, hx461_2, hx461_3⟩ := at_T55 HR0.out x5_1 p461 q461
     cases e461
     replace hx461_0 := (HB.out.cell (World.block_lt_of_cell? w _ hx461_0)).trans hx461_0
     replace hx461_1 := (HB.out.cell (World.block_lt_of_cell? w _ hx461_1)).trans hx461_1
     replace hx461_2 := (HB.out.cell (World.block_lt_of_cell? w _ hx461_2)).trans hx461_2
     replace hx461_3 := (HB.out.cell (World.block_lt_of_cell? w _ hx461_3)).trans hx461_3
     replace p461 := eq_true p461
     replace q461 := eq_true q461
     rotate_left
     all_goals try ((try go_wp2); (have n0_ := Aside0.mk (below_drew1 HB.out)); (clear HB); (have HB := n0_); (clear n0_); (have p7000 : 0 ≤ (x5_1 : Int) := of_decide_eq_true zt4); (have q7000 : x5_1 < (l0.length : Int) := of_decide_eq_true zt4); (obtain ⟨ad7000, e7000, hx7000_0, hx7000_1, hx7000_2, hx7000_3⟩ := at_T55 HR0.out x5_1 p7000 q7000); (have hw7000_3 := hx7000_3); (have hw7000_2 := hx7000_2); (have hw7000_1 := hx7000_1); (have hw7000_0 := hx7000_0); (obtain rfl : ad461 = ad7000 := (by injection e7000)); (replace hx7000_0 := (HB.out.cell (World.block_lt_of_cell? w _ hx7000_0)).trans hx7000_0); (replace hx7000_1 := (HB.out.cell (World.block_lt_of_cell? w _ hx7000_1)).trans hx7000_1); (replace hx7000_2 := (HB.out.cell (World.block_lt_of_cell? w _ hx7000_2)).trans hx7000_2); (replace hx7000_3 := (HB.out.cell (World.block_lt_of_cell? w _ hx7000_3)).trans hx7000_3); (replace p7000 := eq_true p7000); (replace q7000 := eq_true q7000); (refine wp_quiet_drew (by kernel_rfl) (by kernel_rfl) ?_); (generalize wr.drew = w7001 at HB hx7000_0 hx7000_1 hx7000_2 hx7000_3 ⊢); (have hS_ : (fun w' => w'.cell? (ad461.add ((x5_1).toNat * 4)) = some (.int .i64 ((rd_T55 l0 x5_1).f0)) ∧ w'.cell? ⟨(ad461.add ((x5_1).toNat * 4)).block, (ad461.add ((x5_1).toNat * 4)).off + 1, none⟩ = some (.string ((rd_T55 l0 x5_1).f1)) ∧ w'.cell? ⟨(ad461.add ((x5_1).toNat * 4)).block, (ad461.add ((x5_1).toNat * 4)).off + 2, none⟩ = some (.string ((rd_T55 l0 x5_1).f2)) ∧ w'.cell? ⟨(ad461.add ((x5_1).toNat * 4)).block, (ad461.add ((x5_1).toNat * 4)).off + 3, none⟩ = some (.string ((rd_T55 l0 x5_1).f3))) w7001 := ⟨((HB.out.cell (World.block_lt_of_cell? w _ hw7000_0)).trans hw7000_0), ((HB.out.cell (World.block_lt_of_cell? w _ hw7000_1)).trans hw7000_1), ((HB.out.cell (World.block_lt_of_cell? w _ hw7000_2)).trans hw7000_2), ((HB.out.cell (World.block_lt_of_cell? w _ hw7000_3)).trans hw7000_3)⟩); (obtain ⟨hq0_, hq1_, hq2_, hq3_⟩ := hS_); (replace hq0_ := cell_regrown hq0_); (replace hq1_ := cell_regrown hq1_); (replace hq2_ := cell_regrown hq2_); (replace hq3_ := cell_regrown hq3_); (repeat (first | go_big_quiet_skip | quiet_step (first | (go_at_call 45; exact Calls.regrown_of (laws_markText.calls k1 (wrap64 (x1_1 + 1)) t463 _ A6.out))))); (refine wpQuiet_nil ?_); (intro _ hw'); (obtain ⟨⟨nq, osq⟩, hw''⟩ := hw'); (subst hw''); (have hb := below_regrown w7001 nq osq); (generalize Sort.grow (redrawn w7001 nq) osq = w7002 at hb ⊢); (have n0_ := Aside0.mk (below_step zt3 hb)); (clear HB); (have HB := n0_); (clear n0_); (clear hb hq0_ hq1_ hq2_ hq3_); (try go_wp2); (have n0_ := Aside0.mk (below_drew1 HB.out)); (clear HB); (have HB := n0_); (clear n0_); (have p7003 : 0 ≤ (x5_1 : Int) := of_decide_eq_true zt4); (have q7003 : x5_1 < (l0.length : Int) := of_decide_eq_true zt4); (obtain ⟨ad7003, e7003, hx7003_0, hx7003_1, hx7003_2, hx7003_3⟩ := at_T55 HR0.out x5_1 p7003 q7003); (have hw7003_3 := hx7003_3); (have hw7003_2 := hx7003_2); (have hw7003_1 := hx7003_1); (have hw7003_0 := hx7003_0); (obtain rfl : ad461 = ad7003 := (by injection e7003)); (replace hx7003_0 := (HB.out.cell (World.block_lt_of_cell? w _ hx7003_0)).trans hx7003_0); (replace hx7003_1 := (HB.out.cell (World.block_lt_of_cell? w _ hx7003_1)).trans hx7003_1); (replace hx7003_2 := (HB.out.cell (World.block_lt_of_cell? w _ hx7003_2)).trans hx7003_2); (replace hx7003_3 := (HB.out.cell (World.block_lt_of_cell? w _ hx7003_3)).trans hx7003_3); (replace p7003 := eq_true p7003); (replace q7003 := eq_true q7003); (refine wp_quiet_drew (by kernel_rfl) (by kernel_rfl) ?_); (generalize w7002.drew = w7004 at HB hx7003_0 hx7003_1 hx7003_2 hx7003_3 ⊢); (have hS_ : (fun w' => w'.cell? (ad461.add ((x5_1).toNat * 4)) = some (.int .i64 ((rd_T55 l0 x5_1).f0)) ∧ w'.cell? ⟨(ad461.add ((x5_1).toNat * 4)).block, (ad461.add ((x5_1).toNat * 4)).off + 1, none⟩ = some (.string ((rd_T55 l0 x5_1).f1)) ∧ w'.cell? ⟨(ad461.add ((x5_1).toNat * 4)).block, (ad461.add ((x5_1).toNat * 4)).off + 2, none⟩ = some (.string ((rd_T55 l0 x5_1).f2)) ∧ w'.cell? ⟨(ad461.add ((x5_1).toNat * 4)).block, (ad461.add ((x5_1).toNat * 4)).off + 3, none⟩ = some (.string ((rd_T55 l0 x5_1).f3))) w7004 := ⟨((HB.out.cell (World.block_lt_of_cell? w _ hw7003_0)).trans hw7003_0), ((HB.out.cell (World.block_lt_of_cell? w _ hw7003_1)).trans hw7003_1), ((HB.out.cell (World.block_lt_of_cell? w _ hw7003_2)).trans hw7003_2), ((HB.out.cell (World.block_lt_of_cell? w _ hw7003_3)).trans hw7003_3)⟩); (obtain ⟨hq0_, hq1_, hq2_, hq3_⟩ := hS_); (replace hq0_ := cell_regrown hq0_); (replace hq1_ := cell_regrown hq1_); (replace hq2_ := cell_regrown hq2_); (replace hq3_ := cell_regrown hq3_); (repeat (first | go_big_quiet_skip | quiet_step (first | (go_at_call 45; exact Calls.regrown_of (laws_markText.calls k1 (wrap64 ((wrap64 (x1_1 + 1)) + 1)) t465 _ A8.out))))); (refine wpQuiet_nil ?_); (intro _ hw'); (obtain ⟨⟨nq, osq⟩, hw''⟩ := hw'); (subst hw''); (have hb := below_regrown w7004 nq osq); (generalize Sort.grow (redrawn w7004 nq) osq = w7005 at hb ⊢); (have n0_ := Aside0.mk (below_step zt3 hb)); (clear HB); (have HB := n0_); (clear n0_); (clear hb hq0_ hq1_ hq2_ hq3_); (try go_wp2); (have n0_ := Aside0.mk (below_drew1 HB.out)); (clear HB); (have HB := n0_); (clear n0_); (have p7006 : 0 ≤ (x5_1 : Int) := of_decide_eq_true zt4); (have q7006 : x5_1 < (l0.length : Int) := of_decide_eq_true zt4); (obtain ⟨ad7006, e7006, hx7006_0, hx7006_1, hx7006_2, hx7006_3⟩ := at_T55 HR0.out x5_1 p7006 q7006); (have hw7006_3 := hx7006_3); (have hw7006_2 := hx7006_2); (have hw7006_1 := hx7006_1); (have hw7006_0 := hx7006_0); (obtain rfl : ad461 = ad7006 := (by injection e7006)); (replace hx7006_0 := (HB.out.cell (World.block_lt_of_cell? w _ hx7006_0)).trans hx7006_0); (replace hx7006_1 := (HB.out.cell (World.block_lt_of_cell? w _ hx7006_1)).trans hx7006_1); (replace hx7006_2 := (HB.out.cell (World.block_lt_of_cell? w _ hx7006_2)).trans hx7006_2); (replace hx7006_3 := (HB.out.cell (World.block_lt_of_cell? w _ hx7006_3)).trans hx7006_3); (replace p7006 := eq_true p7006); (replace q7006 := eq_true q7006); (refine wp_quiet_drew (by kernel_rfl) (by kernel_rfl) ?_); (generalize w7005.drew = w7007 at HB hx7006_0 hx7006_1 hx7006_2 hx7006_3 ⊢); (have hS_ : (fun w' => w'.cell? (ad461.add ((x5_1).toNat * 4)) = some (.int .i64 ((rd_T55 l0 x5_1).f0)) ∧ w'.cell? ⟨(ad461.add ((x5_1).toNat * 4)).block, (ad461.add ((x5_1).toNat * 4)).off + 1, none⟩ = some (.string ((rd_T55 l0 x5_1).f1)) ∧ w'.cell? ⟨(ad461.add ((x5_1).toNat * 4)).block, (ad461.add ((x5_1).toNat * 4)).off + 2, none⟩ = some (.string ((rd_T55 l0 x5_1).f2)) ∧ w'.cell? ⟨(ad461.add ((x5_1).toNat * 4)).block, (ad461.add ((x5_1).toNat * 4)).off + 3, none⟩ = some (.string ((rd_T55 l0 x5_1).f3))) w7007 := ⟨((HB.out.cell (World.block_lt_of_cell? w _ hw7006_0)).trans hw7006_0), ((HB.out.cell (World.block_lt_of_cell? w _ hw7006_1)).trans hw7006_1), ((HB.out.cell (World.block_lt_of_cell? w _ hw7006_2)).trans hw7006_2), ((HB.out.cell (World.block_lt_of_cell? w _ hw7006_3)).trans hw7006_3)⟩); (obtain ⟨hq0_, hq1_, hq2_, hq3_⟩ := hS_); (replace hq0_ := cell_regrown hq0_); (replace hq1_ := cell_regrown hq1_); (replace hq2_ := cell_regrown hq2_); (replace hq3_ := cell_regrown hq3_); (repeat (first | go_big_quiet_skip | quiet_step (first | (go_at_call 45; exact Calls.regrown_of (laws_markText.calls k1 (wrap64 ((wrap64 ((wrap64 (x1_1 + 1)) + 1)) + 1)) t467 _ A10.out))))); (refine wpQuiet_nil ?_); (intro _ hw'); (obtain ⟨⟨nq, osq⟩, hw''⟩ := hw'); (subst hw''); (have hb := below_regrown w7007 nq osq); (generalize Sort.grow (redrawn w7007 nq) osq = w7008 at hb ⊢); (have n0_ := Aside0.mk (below_step zt3 hb)); (clear HB); (have HB := n0_); (clear n0_); (clear hb hq0_ hq1_ hq2_ hq3_); (try go_wp2); (first | (go_roundg k1; (case measure => have := HK1.out; omega); (case rel => exact ⟨(wrap64 ((wrap64 ((wrap64 ((wrap64 (x1_1 + 1)) + 1)) + 1)) + 1)), (wrap64 (x5_1 + 1)), zt9, zt9, H', ⟨by have := HK1.out; omega⟩, ⟨zt3⟩⟩)) | (go_ret; exact ⟨zt8, zt3⟩)))
     all_goals try ((try go_wp2); (have n0_ := Aside0.mk (below_drew1 HB.out)); (clear HB); (have HB := n0_); (clear n0_); (have p7000 : 0 ≤ (x5_1 : Int) := of_decide_eq_true zt4); (have q7000 : x5_1 < (l0.length : Int) := of_decide_eq_true zt4); (obtain ⟨ad7000, e7000, hx7000_0, hx7000_1, hx7000_2, hx7000_3⟩ := at_T55 HR0.out x5_1 p7000 q7000); (have hw7000_3 := hx7000_3); (have hw7000_2 := hx7000_2); (have hw7000_1 := hx7000_1); (have hw7000_0 := hx7000_0); (obtain rfl : ad461 = ad7000 := (by injection e7000)); (replace hx7000_0 := (HB.out.cell (World.block_lt_of_cell? w _ hx7000_0)).trans hx7000_0); (replace hx7000_1 := (HB.out.cell (World.block_lt_of_cell? w _ hx7000_1)).trans hx7000_1); (replace hx7000_2 := (HB.out.cell (World.block_lt_of_cell? w _ hx7000_2)).trans hx7000_2); (replace hx7000_3 := (HB.out.cell (World.block_lt_of_cell? w _ hx7000_3)).trans hx7000_3); (replace p7000 := eq_true p7000); (replace q7000 := eq_true q7000); (refine wp_quiet_drew (by kernel_rfl) (by kernel_rfl) ?_); (generalize wr.drew = w7001 at HB hx7000_0 hx7000_1 hx7000_2 hx7000_3 ⊢); (have hS_ : (fun w' => w'.cell? (ad461.add ((x5_1).toNat * 4)) = some (.int .i64 ((rd_T55 l0 x5_1).f0)) ∧ w'.cell? ⟨(ad461.add ((x5_1).toNat * 4)).block, (ad461.add ((x5_1).toNat * 4)).off + 1, none⟩ = some (.string ((rd_T55 l0 x5_1).f1)) ∧ w'.cell? ⟨(ad461.add ((x5_1).toNat * 4)).block, (ad461.add ((x5_1).toNat * 4)).off + 2, none⟩ = some (.string ((rd_T55 l0 x5_1).f2)) ∧ w'.cell? ⟨(ad461.add ((x5_1).toNat * 4)).block, (ad461.add ((x5_1).toNat * 4)).off + 3, none⟩ = some (.string ((rd_T55 l0 x5_1).f3))) w7001 := ⟨((HB.out.cell (World.block_lt_of_cell? w _ hw7000_0)).trans hw7000_0), ((HB.out.cell (World.block_lt_of_cell? w _ hw7000_1)).trans hw7000_1), ((HB.out.cell (World.block_lt_of_cell? w _ hw7000_2)).trans hw7000_2), ((HB.out.cell (World.block_lt_of_cell? w _ hw7000_3)).trans hw7000_3)⟩); (obtain ⟨hq0_, hq1_, hq2_, hq3_⟩ := hS_); (replace hq0_ := cell_regrown hq0_); (replace hq1_ := cell_regrown hq1_); (replace hq2_ := cell_regrown hq2_); (replace hq3_ := cell_regrown hq3_); (repeat (first | go_big_quiet_skip | quiet_step (first | (go_at_call 45; exact Calls.regrown_of (laws_markText.calls k1 (wrap64 (x1_1 + 1)) t463 _ A6.out))))); (refine wpQuiet_nil ?_); (intro _ hw'); (obtain ⟨⟨nq, osq⟩, hw''⟩ := hw'); (subst hw''); (have hb := below_regrown w7001 nq osq); (generalize Sort.grow (redrawn w7001 nq) osq = w7002 at hb ⊢); (have n0_ := Aside0.mk (below_step zt3 hb)); (clear HB); (have HB := n0_); (clear n0_); (clear hb hq0_ hq1_ hq2_ hq3_); (try go_wp2); (have n0_ := Aside0.mk (below_drew1 HB.out)); (clear HB); (have HB := n0_); (clear n0_); (have p7003 : 0 ≤ (x5_1 : Int) := of_decide_eq_true zt4); (have q7003 : x5_1 < (l0.length : Int) := of_decide_eq_true zt4); (obtain ⟨ad7003, e7003, hx7003_0, hx7003_1, hx7003_2, hx7003_3⟩ := at_T55 HR0.out x5_1 p7003 q7003); (have hw7003_3 := hx7003_3); (have hw7003_2 := hx7003_2); (have hw7003_1 := hx7003_1); (have hw7003_0 := hx7003_0); (obtain rfl : ad461 = ad7003 := (by injection e7003)); (replace hx7003_0 := (HB.out.cell (World.block_lt_of_cell? w _ hx7003_0)).trans hx7003_0); (replace hx7003_1 := (HB.out.cell (World.block_lt_of_cell? w _ hx7003_1)).trans hx7003_1); (replace hx7003_2 := (HB.out.cell (World.block_lt_of_cell? w _ hx7003_2)).trans hx7003_2); (replace hx7003_3 := (HB.out.cell (World.block_lt_of_cell? w _ hx7003_3)).trans hx7003_3); (replace p7003 := eq_true p7003); (replace q7003 := eq_true q7003); (refine wp_quiet_drew (by kernel_rfl) (by kernel_rfl) ?_); (generalize w7002.drew = w7004 at HB hx7003_0 hx7003_1 hx7003_2 hx7003_3 ⊢); (have hS_ : (fun w' => w'.cell? (ad461.add ((x5_1).toNat * 4)) = some (.int .i64 ((rd_T55 l0 x5_1).f0)) ∧ w'.cell? ⟨(ad461.add ((x5_1).toNat * 4)).block, (ad461.add ((x5_1).toNat * 4)).off + 1, none⟩ = some (.string ((rd_T55 l0 x5_1).f1)) ∧ w'.cell? ⟨(ad461.add ((x5_1).toNat * 4)).block, (ad461.add ((x5_1).toNat * 4)).off + 2, none⟩ = some (.string ((rd_T55 l0 x5_1).f2)) ∧ w'.cell? ⟨(ad461.add ((x5_1).toNat * 4)).block, (ad461.add ((x5_1).toNat * 4)).off + 3, none⟩ = some (.string ((rd_T55 l0 x5_1).f3))) w7004 := ⟨((HB.out.cell (World.block_lt_of_cell? w _ hw7003_0)).trans hw7003_0), ((HB.out.cell (World.block_lt_of_cell? w _ hw7003_1)).trans hw7003_1), ((HB.out.cell (World.block_lt_of_cell? w _ hw7003_2)).trans hw7003_2), ((HB.out.cell (World.block_lt_of_cell? w _ hw7003_3)).trans hw7003_3)⟩); (obtain ⟨hq0_, hq1_, hq2_, hq3_⟩ := hS_); (replace hq0_ := cell_regrown hq0_); (replace hq1_ := cell_regrown hq1_); (replace hq2_ := cell_regrown hq2_); (replace hq3_ := cell_regrown hq3_); (repeat (first | go_big_quiet_skip | quiet_step (first | (go_at_call 45; exact Calls.regrown_of (laws_markText.calls k1 (wrap64 ((wrap64 (x1_1 + 1)) + 1)) t465 _ A8.out))))); (refine wpQuiet_nil ?_); (intro _ hw'); (obtain ⟨⟨nq, osq⟩, hw''⟩ := hw'); (subst hw''); (have hb := below_regrown w7004 nq osq); (generalize Sort.grow (redrawn w7004 nq) osq = w7005 at hb ⊢); (have n0_ := Aside0.mk (below_step zt3 hb)); (clear HB); (have HB := n0_); (clear n0_); (clear hb hq0_ hq1_ hq2_ hq3_); (try go_wp2); (first | (go_ret; exact ⟨zt8, zt3⟩)))
     all_goals try ((try go_wp2); (have n0_ := Aside0.mk (below_drew1 HB.out)); (clear HB); (have HB := n0_); (clear n0_); (have p7000 : 0 ≤ (x5_1 : Int) := of_decide_eq_true zt4); (have q7000 : x5_1 < (l0.length : Int) := of_decide_eq_true zt4); (obtain ⟨ad7000, e7000, hx7000_0, hx7000_1, hx7000_2, hx7000_3⟩ := at_T55 HR0.out x5_1 p7000 q7000); (have hw7000_3 := hx7000_3); (have hw7000_2 := hx7000_2); (have hw7000_1 := hx7000_1); (have hw7000_0 := hx7000_0); (obtain rfl : ad461 = ad7000 := (by injection e7000)); (replace hx7000_0 := (HB.out.cell (World.block_lt_of_cell? w _ hx7000_0)).trans hx7000_0); (replace hx7000_1 := (HB.out.cell (World.block_lt_of_cell? w _ hx7000_1)).trans hx7000_1); (replace hx7000_2 := (HB.out.cell (World.block_lt_of_cell? w _ hx7000_2)).trans hx7000_2); (replace hx7000_3 := (HB.out.cell (World.block_lt_of_cell? w _ hx7000_3)).trans hx7000_3); (replace p7000 := eq_true p7000); (replace q7000 := eq_true q7000); (refine wp_quiet_drew (by kernel_rfl) (by kernel_rfl) ?_); (generalize wr.drew = w7001 at HB hx7000_0 hx7000_1 hx7000_2 hx7000_3 ⊢); (have hS_ : (fun w' => w'.cell? (ad461.add ((x5_1).toNat * 4)) = some (.int .i64 ((rd_T55 l0 x5_1).f0)) ∧ w'.cell? ⟨(ad461.add ((x5_1).toNat * 4)).block, (ad461.add ((x5_1).toNat * 4)).off + 1, none⟩ = some (.string ((rd_T55 l0 x5_1).f1)) ∧ w'.cell? ⟨(ad461.add ((x5_1).toNat * 4)).block, (ad461.add ((x5_1).toNat * 4)).off + 2, none⟩ = some (.string ((rd_T55 l0 x5_1).f2)) ∧ w'.cell? ⟨(ad461.add ((x5_1).toNat * 4)).block, (ad461.add ((x5_1).toNat * 4)).off + 3, none⟩ = some (.string ((rd_T55 l0 x5_1).f3))) w7001 := ⟨((HB.out.cell (World.block_lt_of_cell? w _ hw7000_0)).trans hw7000_0), ((HB.out.cell (World.block_lt_of_cell? w _ hw7000_1)).trans hw7000_1), ((HB.out.cell (World.block_lt_of_cell? w _ hw7000_2)).trans hw7000_2), ((HB.out.cell (World.block_lt_of_cell? w _ hw7000_3)).trans hw7000_3)⟩); (obtain ⟨hq0_, hq1_, hq2_, hq3_⟩ := hS_); (replace hq0_ := cell_regrown hq0_); (replace hq1_ := cell_regrown hq1_); (replace hq2_ := cell_regrown hq2_); (replace hq3_ := cell_regrown hq3_); (repeat (first | go_big_quiet_skip | quiet_step (first | (go_at_call 45; exact Calls.regrown_of (laws_markText.calls k1 (wrap64 (x1_1 + 1)) t463 _ A6.out))))); (refine wpQuiet_nil ?_); (intro _ hw'); (obtain ⟨⟨nq, osq⟩, hw''⟩ := hw'); (subst hw''); (have hb := below_regrown w7001 nq osq); (generalize Sort.grow (redrawn w7001 nq) osq = w7002 at hb ⊢); (have n0_ := Aside0.mk (below_step zt3 hb)); (clear HB); (have HB := n0_); (clear n0_); (clear hb hq0_ hq1_ hq2_ hq3_); (try go_wp2); (first | (go_ret; exact ⟨zt8, zt3⟩)))
    ·rw [if_neg c5] at H
     have c5b0 := beq_eq_false_iff_ne.mpr c5
     have c5b1 := bne_iff_ne.mpr c5
     obtain rfl := Option.some.inj H
     have p461 : 0 ≤ (x5_1 : Int) := of_decide_eq_true zt4
     have q461 : x5_1 < (l0.length : Int) := of_decide_eq_true zt4
     obtain ⟨ad461, e461, hx461_0, hx461_1, hx461_2, hx461_3⟩ := at_T55 HR0.out x5_1 p461 q461
     cases e461
     replace hx461_0 := (HB.out.cell (World.block_lt_of_cell? w _ hx461_0)).trans hx461_0
     replace hx461_1 := (HB.out.cell (World.block_lt_of_cell? w _ hx461_1)).trans hx461_1
     replace hx461_2 := (HB.out.cell (World.block_lt_of_cell? w _ hx461_2)).trans hx461_2
     replace hx461_3 := (HB.out.cell (World.block_lt_of_cell? w _ hx461_3)).trans hx461_3
     replace p461 := eq_true p461
     replace q461 := eq_true q461
     go_wp2
     go_ret
     exact ⟨zt8, zt3⟩
   ·rw [if_neg c3] at H
    have c3b0 := decide_eq_false c3
    clear c3
    obtain rfl := Option.some.inj H
    go_wp2
    go_ret
    exact ⟨zt8, zt3⟩

end Go.Proofs.Ytopicidanlienaa.PFnExactTrim
namespace Go.Proofs.Ytopicidanlienaa.PFnExactTrim
open Go.RowKit Go.Proofs.YtopicidanlienaaW.PrintWords Go.Proofs.YtopicidanlienaaW.PrintLast Go.Proofs.YtopicidanlienaaW.PrintMore
attribute [local go_sem] max2_int min2_int max_two min_two max_three min_three max_four min_four   -- for this text's walks alone
set_option linter.unusedVariables false
set_option linter.unusedSimpArgs false

/-! ### laws_heldStmtS: function 54 -/
def laws_heldStmtS.l0 : Nat → List (S53) → Int → Int → Option (Int)
 | 0, _, _, _ => none
 | k + 1, x0, x1, x5 => if x5 < (x0.length : Int) then (if 0 ≤ x5 then (if ((rd_T53 x0 x5).f0) = x1 then ((laws_markText.f k (wrap64 (x1 + 1))).bind fun t470 => (if ((rd_T53 x0 x5).f1).toList = t470.toList then (if ((rd_T53 x0 x5).f2) = (wrap64 ((wrap64 (x1 + 1)) + 1)) then (laws_heldStmtS.l0 k x0 (wrap64 ((wrap64 ((wrap64 (x1 + 1)) + 1)) + 1)) (wrap64 (x5 + 1))) else (some (-1))) else (some (-1)))) else (some (-1))) else (none)) else (some x1)
def laws_heldStmtS.f (k : Nat) (l0 : List (S53)) (a1 : Int) : Option (Int) := laws_heldStmtS.l0 k l0 a1 0
theorem laws_heldStmtS.mono_l : ∀ k, (∀ y0 y1 y2, LeO (laws_heldStmtS.l0 k y0 y1 y2) (laws_heldStmtS.l0 (k + 1) y0 y1 y2))
 | 0 => fun _ _ _ r h => by simp [laws_heldStmtS.l0] at h
 | k + 1 => by
  have ih0 := laws_heldStmtS.mono_l k
  ·intro y0 y1 y2
   unfold laws_heldStmtS.l0
   repeat' (first | (with_reducible first | exact ih0 _ _ _ | exact laws_markText.mono _ _ | exact LeO.refl _ | exact LeO.none _ | refine LeO.ite ?_ ?_ | refine LeO.bind ?_ (fun _ => ?_)) | exact LeO.none _ | refine LeO.ite ?_ ?_ | refine LeO.bind ?_ (fun _ => ?_))
theorem laws_heldStmtS.mono : ∀ a0 a1 k, LeO (laws_heldStmtS.f k a0 a1) (laws_heldStmtS.f (k + 1) a0 a1) := by
 intro a0 a1 k
 have ih0 := laws_heldStmtS.mono_l k
 unfold laws_heldStmtS.f
 repeat' (first | (with_reducible first | exact ih0 _ _ _ | exact laws_markText.mono _ _ | exact LeO.refl _ | exact LeO.none _ | refine LeO.ite ?_ ?_ | refine LeO.bind ?_ (fun _ => ?_)) | exact LeO.none _ | refine LeO.ite ?_ ?_ | refine LeO.bind ?_ (fun _ => ?_))
set_option maxHeartbeats 8000000 in
set_option maxRecDepth 100000 in
theorem laws_heldStmtS.calls (k : Nat) (A0 : Option Addr) (c0 : Nat) (l0 : List (S53)) (a1 : Int) (r : Int) (w : World) (hr0 : Kd.C k53 w A0 l0.length l0) (hc0 : l0.length ≤ c0) (h : laws_heldStmtS.f k l0 a1 = some r) :
  Calls Try.prog 54 #[.slice A0 l0.length c0, .int .i64 a1] w fun e w' => e = .returned (.int .i64 r) ∧ Below w.heap.size w w' := by
 have HR0 := Aside0.mk hr0
 have HC0 := Aside0.mk hc0
 clear hr0 hc0
 have HB := Aside0.mk (Below.refl w.heap.size w)
 try unfold laws_heldStmtS.f at h
 have H := h
 clear h
 have H' := Aside0.mk H
 clear H
 go_enter Try.func54, Try.ntmps54
 go_wp2
 go_loopg [1, 5] k (fun kq v1 v5 w' => ∃ (x1_1 : Int) (x5_1 : Int), v1 = .int .i64 x1_1 ∧ v5 = .int .i64 x5_1 ∧ Aside0 (laws_heldStmtS.l0 kq l0 x1_1 x5_1 = some r) ∧ Aside0 (kq ≤ k) ∧ Aside0 (Below w.heap.size w w'))
 case atStart => exact ⟨(a1), (0), zt9, zt9, H', ⟨Nat.le_refl _⟩, ⟨zt3⟩⟩
 case round =>
  clear H'
  try clear p2
  obtain ⟨x1_1, x5_1, rfl, rfl, HA, HK1, HB⟩ := hrel
  cases gk with
  | zero => exact absurd HA.out (by simp [laws_heldStmtS.l0])
  | succ k1 =>
   have H := HA.out
   clear HA
   simp only [laws_heldStmtS.l0] at H
   by_cases c3 : x5_1 < (l0.length : Int)
   rw [if_pos c3] at H
   have c3b0 := decide_eq_true c3
   clear c3
   replace H := it0 H
   obtain ⟨c4, H⟩ := H
   have c4b0 : decide (0 ≤ x5_1) = true := decide_eq_true c4
   clear c4
   by_cases c5 : ((rd_T53 l0 x5_1).f0) = x1_1
   rw [if_pos c5] at H
   have c5b0 := beq_iff_eq.mpr c5
   have c5b1 := bne_eq_false_iff_eq.mpr c5
   clear c5
   replace H := bnd H
   obtain ⟨t470, A6, H⟩ := H
   try dsimp only at H
   by_cases c7 : ((rd_T53 l0 x5_1).f1).toList = t470.toList
   rw [if_pos c7] at H
   have c7b0 := beq_iff_eq.mpr c7
   have c7b1 := bne_eq_false_iff_eq.mpr c7
   clear c7
   by_cases c8 : ((rd_T53 l0 x5_1).f2) = (wrap64 ((wrap64 (x1_1 + 1)) + 1))
   rw [if_pos c8] at H
   have c8b0 := beq_iff_eq.mpr c8
   have c8b1 := bne_eq_false_iff_eq.mpr c8
   clear c8
   have H' := Aside0.mk H
   clear H
   have p468 : 0 ≤ (x5_1 : Int) := of_decide_eq_true zt4
   have q468 : x5_1 < (l0.length : Int) := of_decide_eq_true zt4
   obtain ⟨ad468, e468, hx468_0, hx468_1, hx468_2⟩ := at_T53 HR0.out x5_1 p468 q468
   cases e468
   replace hx468_0 := (HB.out.cell (World.block_lt_of_cell? w _ hx468_0)).trans hx468_0
   replace hx468_1 := (HB.out.cell (World.block_lt_of_cell? w _ hx468_1)).trans hx468_1
   replace hx468_2 := (HB.out.cell (World.block_lt_of_cell? w _ hx468_2)).trans hx468_2
   replace p468 := eq_true p468
   replace q468 := eq_true q468
   rotate_left
   rw [if_neg c8] at H
   have c8b0 := beq_eq_false_iff_ne.mpr c8
   have c8b1 := bne_iff_ne.mpr c8
   obtain rfl := Option.some.inj H
   have p468 : 0 ≤ (x5_1 : Int) := of_decide_eq_true zt4
   have q468 : x5_1 < (l0.length : Int) := of_decide_eq_true zt4
   obtain ⟨ad468, e468, hx468_0, hx468_1, hx468_2⟩ := at_T53 HR0.out x5_1 p468 q468
   cases e468
   replace hx468_0 := (HB.out.cell (World.block_lt_of_cell? w _ hx468_0)).trans hx468_0
   replace hx468_1 := (HB.out.cell (World.block_lt_of_cell? w _ hx468_1)).trans hx468_1
   replace hx468_2 := (HB.out.cell (World.block_lt_of_cell? w _ hx468_2)).trans hx468_2
   replace p468 := eq_true p468
   replace q468 := eq_true q468
   rotate_left
   rw [if_neg c7] at H
   have c7b0 := beq_eq_false_iff_ne.mpr c7
   have c7b1 := bne_iff_ne.mpr c7
   obtain rfl := Option.some.inj H
   have p468 : 0 ≤ (x5_1 : Int) := of_decide_eq_true zt4
   have q468 : x5_1 < (l0.length : Int) := of_decide_eq_true zt4
   obtain ⟨ad468, e468, hx468_0, hx468_1, hx468_2⟩ := at_T53 HR0.out x5_1 p468 q468
   cases e468
   replace hx468_0 := (HB.out.cell (World.block_lt_of_cell? w _ hx468_0)).trans hx468_0
   replace hx468_1 := (HB.out.cell (World.block_lt_of_cell? w _ hx468_1)).trans hx468_1
   replace hx468_2 := (HB.out.cell (World.block_lt_of_cell? w _ hx468_2)).trans hx468_2
   replace p468 := eq_true p468
   replace q468 := eq_true q468
   rotate_left
   rw [if_neg c5] at H
   have c5b0 := beq_eq_false_iff_ne.mpr c5
   have c5b1 := bne_iff_ne.mpr c5
   obtain rfl := Option.some.inj H
   have p468 : 0 ≤ (x5_1 : Int) := of_decide_eq_true zt4
   have q468 : x5_1 < (l0.length : Int) := of_decide_eq_true zt4
   obtain ⟨ad468, e468, hx468_0, hx468_1, hx468_2⟩ := at_T53 HR0.out x5_1 p468 q468
   cases e468
   replace hx468_0 := (HB.out.cell (World.block_lt_of_cell? w _ hx468_0)).trans hx468_0
   replace hx468_1 := (HB.out.cell (World.block_lt_of_cell? w _ hx468_1)).trans hx468_1
   replace hx468_2 := (HB.out.cell (World.block_lt_of_cell? w _ hx468_2)).trans hx468_2
   replace p468 := eq_true p468
   replace q468 := eq_true q468
   rotate_left
   rw [if_neg c3] at H
   have c3b0 := decide_eq_false c3
   clear c3
   obtain rfl := Option.some.inj H
   rotate_left
   all_goals try ((try go_wp2); (have n0_ := Aside0.mk (below_drew1 HB.out)); (clear HB); (have HB := n0_); (clear n0_); (have p7000 : 0 ≤ (x5_1 : Int) := of_decide_eq_true zt4); (have q7000 : x5_1 < (l0.length : Int) := of_decide_eq_true zt4); (obtain ⟨ad7000, e7000, hx7000_0, hx7000_1, hx7000_2⟩ := at_T53 HR0.out x5_1 p7000 q7000); (have hw7000_2 := hx7000_2); (have hw7000_1 := hx7000_1); (have hw7000_0 := hx7000_0); (obtain rfl : ad468 = ad7000 := (by injection e7000)); (replace hx7000_0 := (HB.out.cell (World.block_lt_of_cell? w _ hx7000_0)).trans hx7000_0); (replace hx7000_1 := (HB.out.cell (World.block_lt_of_cell? w _ hx7000_1)).trans hx7000_1); (replace hx7000_2 := (HB.out.cell (World.block_lt_of_cell? w _ hx7000_2)).trans hx7000_2); (replace p7000 := eq_true p7000); (replace q7000 := eq_true q7000); (refine wp_quiet_drew (by kernel_rfl) (by kernel_rfl) ?_); (generalize wr.drew = w7001 at HB hx7000_0 hx7000_1 hx7000_2 ⊢); (have hS_ : (fun w' => w'.cell? (ad468.add ((x5_1).toNat * 3)) = some (.int .i64 ((rd_T53 l0 x5_1).f0)) ∧ w'.cell? ⟨(ad468.add ((x5_1).toNat * 3)).block, (ad468.add ((x5_1).toNat * 3)).off + 1, none⟩ = some (.string ((rd_T53 l0 x5_1).f1)) ∧ w'.cell? ⟨(ad468.add ((x5_1).toNat * 3)).block, (ad468.add ((x5_1).toNat * 3)).off + 2, none⟩ = some (.int .i64 ((rd_T53 l0 x5_1).f2))) w7001 := ⟨((HB.out.cell (World.block_lt_of_cell? w _ hw7000_0)).trans hw7000_0), ((HB.out.cell (World.block_lt_of_cell? w _ hw7000_1)).trans hw7000_1), ((HB.out.cell (World.block_lt_of_cell? w _ hw7000_2)).trans hw7000_2)⟩); (obtain ⟨hq0_, hq1_, hq2_⟩ := hS_); (replace hq0_ := cell_regrown hq0_); (replace hq1_ := cell_regrown hq1_); (replace hq2_ := cell_regrown hq2_); (repeat (first | go_big_quiet_skip | quiet_step (first | (go_at_call 45; exact Calls.regrown_of (laws_markText.calls k1 (wrap64 (x1_1 + 1)) t470 _ A6.out))))); (refine wpQuiet_nil ?_); (intro _ hw'); (obtain ⟨⟨nq, osq⟩, hw''⟩ := hw'); (subst hw''); (have hb := below_regrown w7001 nq osq); (generalize Sort.grow (redrawn w7001 nq) osq = w7002 at hb ⊢); (have n0_ := Aside0.mk (below_step zt3 hb)); (clear HB); (have HB := n0_); (clear n0_); (clear hb hq0_ hq1_ hq2_); (have p7003 : 0 ≤ (x5_1 : Int) := of_decide_eq_true zt4); (have q7003 : x5_1 < (l0.length : Int) := of_decide_eq_true zt4); (obtain ⟨ad7003, e7003, hx7003_0, hx7003_1, hx7003_2⟩ := at_T53 HR0.out x5_1 p7003 q7003); (obtain rfl : ad468 = ad7003 := (by injection e7003)); (replace hx7003_0 := (HB.out.cell (World.block_lt_of_cell? w _ hx7003_0)).trans hx7003_0); (replace hx7003_1 := (HB.out.cell (World.block_lt_of_cell? w _ hx7003_1)).trans hx7003_1); (replace hx7003_2 := (HB.out.cell (World.block_lt_of_cell? w _ hx7003_2)).trans hx7003_2); (replace p7003 := eq_true p7003); (replace q7003 := eq_true q7003); (try go_wp2); (first | (go_roundg k1; (case measure => have := HK1.out; omega); (case rel => exact ⟨(wrap64 ((wrap64 ((wrap64 (x1_1 + 1)) + 1)) + 1)), (wrap64 (x5_1 + 1)), zt9, zt9, H', ⟨by have := HK1.out; omega⟩, ⟨zt3⟩⟩)) | (go_ret; exact ⟨zt8, zt3⟩)))
   all_goals try ((try go_wp2); (have n0_ := Aside0.mk (below_drew1 HB.out)); (clear HB); (have HB := n0_); (clear n0_); (have p7000 : 0 ≤ (x5_1 : Int) := of_decide_eq_true zt4); (have q7000 : x5_1 < (l0.length : Int) := of_decide_eq_true zt4); (obtain ⟨ad7000, e7000, hx7000_0, hx7000_1, hx7000_2⟩ := at_T53 HR0.out x5_1 p7000 q7000); (have hw7000_2 := hx7000_2); (have hw7000_1 := hx7000_1); (have hw7000_0 := hx7000_0); (obtain rfl : ad468 = ad7000 := (by injection e7000)); (replace hx7000_0 := (HB.out.cell (World.block_lt_of_cell? w _ hx7000_0)).trans hx7000_0); (replace hx7000_1 := (HB.out.cell (World.block_lt_of_cell? w _ hx7000_1)).trans hx7000_1); (replace hx7000_2 := (HB.out.cell (World.block_lt_of_cell? w _ hx7000_2)).trans hx7000_2); (replace p7000 := eq_true p7000); (replace q7000 := eq_true q7000); (refine wp_quiet_drew (by kernel_rfl) (by kernel_rfl) ?_); (generalize wr.drew = w7001 at HB hx7000_0 hx7000_1 hx7000_2 ⊢); (have hS_ : (fun w' => w'.cell? (ad468.add ((x5_1).toNat * 3)) = some (.int .i64 ((rd_T53 l0 x5_1).f0)) ∧ w'.cell? ⟨(ad468.add ((x5_1).toNat * 3)).block, (ad468.add ((x5_1).toNat * 3)).off + 1, none⟩ = some (.string ((rd_T53 l0 x5_1).f1)) ∧ w'.cell? ⟨(ad468.add ((x5_1).toNat * 3)).block, (ad468.add ((x5_1).toNat * 3)).off + 2, none⟩ = some (.int .i64 ((rd_T53 l0 x5_1).f2))) w7001 := ⟨((HB.out.cell (World.block_lt_of_cell? w _ hw7000_0)).trans hw7000_0), ((HB.out.cell (World.block_lt_of_cell? w _ hw7000_1)).trans hw7000_1), ((HB.out.cell (World.block_lt_of_cell? w _ hw7000_2)).trans hw7000_2)⟩); (obtain ⟨hq0_, hq1_, hq2_⟩ := hS_); (replace hq0_ := cell_regrown hq0_); (replace hq1_ := cell_regrown hq1_); (replace hq2_ := cell_regrown hq2_); (repeat (first | go_big_quiet_skip | quiet_step (first | (go_at_call 45; exact Calls.regrown_of (laws_markText.calls k1 (wrap64 (x1_1 + 1)) t470 _ A6.out))))); (refine wpQuiet_nil ?_); (intro _ hw'); (obtain ⟨⟨nq, osq⟩, hw''⟩ := hw'); (subst hw''); (have hb := below_regrown w7001 nq osq); (generalize Sort.grow (redrawn w7001 nq) osq = w7002 at hb ⊢); (have n0_ := Aside0.mk (below_step zt3 hb)); (clear HB); (have HB := n0_); (clear n0_); (clear hb hq0_ hq1_ hq2_); (try go_wp2); (first | (go_ret; exact ⟨zt8, zt3⟩)))
   all_goals try ((go_wp2); (first | (go_ret; exact ⟨zt8, zt3⟩)))

end Go.Proofs.Ytopicidanlienaa.PFnExactTrim
namespace Go.Proofs.Ytopicidanlienaa.PFnExactTrim
open Go.RowKit Go.Proofs.YtopicidanlienaaW.PrintWords Go.Proofs.YtopicidanlienaaW.PrintLast Go.Proofs.YtopicidanlienaaW.PrintMore
attribute [local go_sem] max2_int min2_int max_two min_two max_three min_three max_four min_four   -- for this text's walks alone
set_option linter.unusedVariables false
set_option linter.unusedSimpArgs false

/-! ### laws_heldExprS: function 55 -/
def laws_heldExprS.l0 : Nat → List (S50) → Int → Int → Option (Int)
 | 0, _, _, _ => none
 | k + 1, x0, x1, x5 => if x5 < (x0.length : Int) then (if 0 ≤ x5 then (if ((rd_T50 x0 x5).f0) = x1 then (if ((rd_T50 x0 x5).f1) = (wrap64 (x1 + 1)) then ((laws_markText.f k (wrap64 ((wrap64 (x1 + 1)) + 1))).bind fun t475 => (if ((rd_T50 x0 x5).f2).toList = t475.toList then ((laws_markText.f k (wrap64 ((wrap64 ((wrap64 (x1 + 1)) + 1)) + 1))).bind fun t477 => (if ((rd_T50 x0 x5).f3).toList = t477.toList then (if ((rd_T50 x0 x5).f4) = (wrap64 ((wrap64 ((wrap64 ((wrap64 (x1 + 1)) + 1)) + 1)) + 1)) then (if ((rd_T50 x0 x5).f5) = (wrap64 ((wrap64 ((wrap64 ((wrap64 ((wrap64 (x1 + 1)) + 1)) + 1)) + 1)) + 1)) then (laws_heldExprS.l0 k x0 (wrap64 ((wrap64 ((wrap64 ((wrap64 ((wrap64 ((wrap64 (x1 + 1)) + 1)) + 1)) + 1)) + 1)) + 1)) (wrap64 (x5 + 1))) else (some (-1))) else (some (-1))) else (some (-1)))) else (some (-1)))) else (some (-1))) else (some (-1))) else (none)) else (some x1)
def laws_heldExprS.f (k : Nat) (l0 : List (S50)) (a1 : Int) : Option (Int) := laws_heldExprS.l0 k l0 a1 0
theorem laws_heldExprS.mono_l : ∀ k, (∀ y0 y1 y2, LeO (laws_heldExprS.l0 k y0 y1 y2) (laws_heldExprS.l0 (k + 1) y0 y1 y2))
 | 0 => fun _ _ _ r h => by simp [laws_heldExprS.l0] at h
 | k + 1 => by
  have ih0 := laws_heldExprS.mono_l k
  ·intro y0 y1 y2
   unfold laws_heldExprS.l0
   repeat' (first | (with_reducible first | exact ih0 _ _ _ | exact laws_markText.mono _ _ | exact LeO.refl _ | exact LeO.none _ | refine LeO.ite ?_ ?_ | refine LeO.bind ?_ (fun _ => ?_)) | exact LeO.none _ | refine LeO.ite ?_ ?_ | refine LeO.bind ?_ (fun _ => ?_))
theorem laws_heldExprS.mono : ∀ a0 a1 k, LeO (laws_heldExprS.f k a0 a1) (laws_heldExprS.f (k + 1) a0 a1) := by
 intro a0 a1 k
 have ih0 := laws_heldExprS.mono_l k
 unfold laws_heldExprS.f
 repeat' (first | (with_reducible first | exact ih0 _ _ _ | exact laws_markText.mono _ _ | exact LeO.refl _ | exact LeO.none _ | refine LeO.ite ?_ ?_ | refine LeO.bind ?_ (fun _ => ?_)) | exact LeO.none _ | refine LeO.ite ?_ ?_ | refine LeO.bind ?_ (fun _ => ?_))
set_option maxHeartbeats 8000000 in
set_option maxRecDepth 100000 in
theorem laws_heldExprS.calls (k : Nat) (A0 : Option Addr) (c0 : Nat) (l0 : List (S50)) (a1 : Int) (r : Int) (w : World) (hr0 : Kd.C k50 w A0 l0.length l0) (hc0 : l0.length ≤ c0) (h : laws_heldExprS.f k l0 a1 = some r) :
  Calls Try.prog 55 #[.slice A0 l0.length c0, .int .i64 a1] w fun e w' => e = .returned (.int .i64 r) ∧ Below w.heap.size w w' := by
 have HR0 := Aside0.mk hr0
 have HC0 := Aside0.mk hc0
 clear hr0 hc0
 have HB := Aside0.mk (Below.refl w.heap.size w)
 try unfold laws_heldExprS.f at h
 have H := h
 clear h
 have H' := Aside0.mk H
 clear H
 go_enter Try.func55, Try.ntmps55
 go_wp2
 go_loopg [1, 5] k (fun kq v1 v5 w' => ∃ (x1_1 : Int) (x5_1 : Int), v1 = .int .i64 x1_1 ∧ v5 = .int .i64 x5_1 ∧ Aside0 (laws_heldExprS.l0 kq l0 x1_1 x5_1 = some r) ∧ Aside0 (kq ≤ k) ∧ Aside0 (Below w.heap.size w w'))
 case atStart => exact ⟨(a1), (0), zt9, zt9, H', ⟨Nat.le_refl _⟩, ⟨zt3⟩⟩
 case round =>
  clear H'
  try clear p2
  obtain ⟨x1_1, x5_1, rfl, rfl, HA, HK1, HB⟩ := hrel
  cases gk with
  | zero => exact absurd HA.out (by simp [laws_heldExprS.l0])
  | succ k1 =>
   have H := HA.out
   clear HA
   simp only [laws_heldExprS.l0] at H
   by_cases c3 : x5_1 < (l0.length : Int)
   ·rw [if_pos c3] at H
    have c3b0 := decide_eq_true c3
    clear c3
    replace H := it0 H
    obtain ⟨c4, H⟩ := H
    have c4b0 : decide (0 ≤ x5_1) = true := decide_eq_true c4
    clear c4
    by_cases c5 : ((rd_T50 l0 x5_1).f0) = x1_1
    ·rw [if_pos c5] at H
     have c5b0 := beq_iff_eq.mpr c5
     have c5b1 := bne_eq_false_iff_eq.mpr c5
     clear c5
     by_cases c6 : ((rd_T50 l0 x5_1).f1) = (wrap64 (x1_1 + 1))
     ·rw [if_pos c6] at H
      have c6b0 := beq_iff_eq.mpr c6
      have c6b1 := bne_eq_false_iff_eq.mpr c6
      clear c6
      replace H := bnd H
      obtain ⟨t475, A7, H⟩ := H
      try dsimp only at H
      by_cases c8 : ((rd_T50 l0 x5_1).f2).toList = t475.toList
      ·rw [if_pos c8] at H
       have c8b0 := beq_iff_eq.mpr c8
       have c8b1 := bne_eq_false_iff_eq.mpr c8
       clear c8
       replace H := bnd H
       obtain ⟨t477, A9, H⟩ := H
       try dsimp only at H
       by_cases c10 : ((rd_T50 l0 x5_1).f3).toList = t477.toList
       rw [if_pos c10] at H
       have c10b0 := beq_iff_eq.mpr c10
       have c10b1 := bne_eq_false_iff_eq.mpr c10
       clear c10
       by_cases c11 : ((rd_T50 l0 x5_1).f4) = (wrap64 ((wrap64 ((wrap64 ((wrap64 (x1_1 + 1)) + 1)) + 1)) + 1))
       rw [if_pos c11] at H
       have c11b0 := beq_iff_eq.mpr c11
       have c11b1 := bne_eq_false_iff_eq.mpr c11
       clear c11
       by_cases c12 : ((rd_T50 l0 x5_1).f5) = (wrap64 ((wrap64 ((wrap64 ((wrap64 ((wrap64 (x1_1 + 1)) + 1)) + 1)) + 1)) + 1))
       rw [if_pos c12] at H
       have c12b0 := beq_iff_eq.mpr c12
       have c12b1 := bne_eq_false_iff_eq.mpr c12
       clear c12
       have H' := Aside0.mk H
       clear H
       have p472 : 0 ≤ (x5_1 : Int) := of_decide_eq_true zt4
       have q472 : x5_1 < (l0.length : Int) := of_decide_eq_true zt4
       obtain ⟨ad472, e472, hx472_0, hx472_1, hx472_2, hx472_3, hx472_4, hx472_5⟩ := at_T50 HR0.out x5_1 p472 q472
       cases e472
       replace hx472_0 := (HB.out.cell (World.block_lt_of_cell? w _ hx472_0)).trans hx472_0
       replace hx472_1 := (HB.out.cell (World.block_lt_of_cell? w _ hx472_1)).trans hx472_1
       replace hx472_2 := (HB.out.cell (World.block_lt_of_cell? w _ hx472_2)).trans hx472_2
       replace hx472_3 := (HB.out.cell (World.block_lt_of_cell? w _ hx472_3)).trans hx472_3
       replace hx472_4 := (HB.out.cell (World.block_lt_of_cell? w _ hx472_4)).trans hx472_4
       replace hx472_5 := (HB.out.cell (World.block_lt_of_cell? w _ hx472_5)).trans hx472_5
       replace p472 := eq_true p472
       replace q472 := eq_true q472
       have p473 : 0 ≤ (x5_1 : Int) := of_decide_eq_true zt4
       have q473 : x5_1 < (l0.length : Int) := of_decide_eq_true zt4
       obtain ⟨ad473, e473, hx473_0, hx473_1, hx473_2, hx473_3, hx473_4, hx473_5⟩ := at_T50 HR0.out x5_1 p473 q473
       obtain rfl : ad472 = ad473 := (by injection e473)
       replace hx473_0 := (HB.out.cell (World.block_lt_of_cell? w _ hx473_0)).trans hx473_0
       replace hx473_1 := (HB.out.cell (World.block_lt_of_cell? w _ hx473_1)).trans hx473_1
       replace hx473_2 := (HB.out.cell (World.block_lt_of_cell? w _ hx473_2)).trans hx473_2
       replace hx473_3 := (HB.out.cell (World.block_lt_of_cell? w _ hx473_3)).trans hx473_3
       replace hx473_4 := (HB.out.cell (World.block_lt_of_cell? w _ hx473_4)).trans hx473_4
       replace hx473_5 := (HB.out.cell (World.block_lt_of_cell? w _ hx473_5)).trans hx473_5
       replace p473 := eq_true p473
       replace q473 := eq_true q473
       rotate_left
       rw [if_neg c12] at H
       have c12b0 := beq_eq_false_iff_ne.mpr c12
       have c12b1 := bne_iff_ne.mpr c12
       obtain rfl := Option.some.inj H
       have p472 : 0 ≤ (x5_1 : Int) := of_decide_eq_true zt4
       have q472 : x5_1 < (l0.length : Int) := of_decide_eq_true zt4
       obtain ⟨ad472, e472, hx472_0, hx472_1, hx472_2, hx472_3, hx472_4, hx472_5⟩ := at_T50 HR0.out x5_1 p472 q472
       cases e472
       replace hx472_0 := (HB.out.cell (World.block_lt_of_cell? w _ hx472_0)).trans hx472_0
       replace hx472_1 := (HB.out.cell (World.block_lt_of_cell? w _ hx472_1)).trans hx472_1
       replace hx472_2 := (HB.out.cell (World.block_lt_of_cell? w _ hx472_2)).trans hx472_2
       replace hx472_3 := (HB.out.cell (World.block_lt_of_cell? w _ hx472_3)).trans hx472_3
       replace hx472_4 := (HB.out.cell (World.block_lt_of_cell? w _ hx472_4)).trans hx472_4
       replace hx472_5 := (HB.out.cell (World.block_lt_of_cell? w _ hx472_5)).trans hx472_5
       replace p472 := eq_true p472
       replace q472 := eq_true q472
       have p473 : 0 ≤ (x5_1 : Int) := of_decide_eq_true zt4
       have q473 : x5_1 < (l0.length : Int) := of_decide_eq_true zt4
       obtain ⟨ad473, e473, hx473_0, hx473_1, hx473_2, hx473_3, hx473_4, hx473_5⟩ := at_T50 HR0.out x5_1 p473 q473
       obtain rfl : ad472 = ad473 := (by injection e473)
       replace hx473_0 := (HB.out.cell (World.block_lt_of_cell? w _ hx473_0)).trans hx473_0
       replace hx473_1 := (HB.out.cell (World.block_lt_of_cell? w _ hx473_1)).trans hx473_1
       replace hx473_2 := (HB.out.cell (World.block_lt_of_cell? w _ hx473_2)).trans hx473_2
       replace hx473_3 := (HB.out.cell (World.block_lt_of_cell? w _ hx473_3)).trans hx473_3
       replace hx473_4 := (HB.out.cell (World.block_lt_of_cell? w _ hx473_4)).trans hx473_4
       replace hx473_5 := (HB.out.cell (World.block_lt_of_cell? w _ hx473_5)).trans hx473_5
       replace p473 := eq_true p473
       replace q473 := eq_true q473
       rotate_left
       rw [if_neg c11] at H
       have c11b0 := beq_eq_false_iff_ne.mpr c11
       have c11b1 := bne_iff_ne.mpr c11
       obtain rfl := Option.some.inj H
       have p472 : 0 ≤ (x5_1 : Int) := of_decide_eq_true zt4
       have q472 : x5_1 < (l0.length : Int) := of_decide_eq_true zt4
       obtain ⟨ad472, e472, hx472_0, hx472_1, hx472_2, hx472_3, hx472_4, hx472_5⟩ := at_T50 HR0.out x5_1 p472 q472
       cases e472
       replace hx472_0 := (HB.out.cell (World.block_lt_of_cell? w _ hx472_0)).trans hx472_0
       replace hx472_1 := (HB.out.cell (World.block_lt_of_cell? w _ hx472_1)).trans hx472_1
       replace hx472_2 := (HB.out.cell (World.block_lt_of_cell? w _ hx472_2)).trans hx472_2
       replace hx472_3 := (HB.out.cell (World.block_lt_of_cell? w _ hx472_3)).trans hx472_3
       replace hx472_4 := (HB.out.cell (World.block_lt_of_cell? w _ hx472_4)).trans hx472_4
       replace hx472_5 := (HB.out.cell (World.block_lt_of_cell? w _ hx472_5)).trans hx472_5
       replace p472 := eq_true p472
       replace q472 := eq_true q472
       have p473 : 0 ≤ (x5_1 : Int) := of_decide_eq_true zt4
       have q473 : x5_1 < (l0.length : Int) := of_decide_eq_true zt4
       obtain ⟨ad473, e473, hx473_0, hx473_1, hx473_2, hx473_3, hx473_4, hx473_5⟩ := at_T50 HR0.out x5_1 p473 q473
       obtain rfl : ad472 = ad473 := (by injection e473)
       replace hx473_0 := (HB.out.cell (World.block_lt_of_cell? w _ hx473_0)).trans hx473_0
       replace hx473_1 := (HB.out.cell (World.block_lt_of_cell? w _ hx473_1)).trans hx473_1
       replace hx473_2 := (HB.out.cell (World.block_lt_of_cell? w _ hx473_2)).trans hx473_2
       replace hx473_3 := (HB.out.cell (World.block_lt_of_cell? w _ hx473_3)).trans hx473_3
       replace hx473_4 := (HB.out.cell (World.block_lt_of_cell? w _ hx473_4)).trans hx473_4
       replace hx473_5 := (HB.out.cell (World.block_lt_of_cell? w _ hx473_5)).trans hx473_5
       replace p473 := eq_true p473
       replace q473 := eq_true q473
       rotate_left
       rw [if_neg c10] at H
       have c10b0 := beq_eq_false_iff_ne.mpr c10
       have c10b1 := bne_iff_ne.mpr c10
       obtain rfl := Option.some.inj H
       have p472 : 0 ≤ (x5_1 : Int) := of_decide_eq_true zt4
       have q472 : x5_1 < (l0.length : Int) := of_decide_eq_true zt4
       obtain ⟨ad472, e472, hx472_0, hx472_1, hx472_2, hx472_3, hx472_4, hx472_5⟩ := at_T50 HR0.out x5_1 p472 q472
       cases e472
       replace hx472_0 := (HB.out.cell (World.block_lt_of_cell? w _ hx472_0)).trans hx472_0
       replace hx472_1 := (HB.out.cell (World.block_lt_of_cell? w _ hx472_1)).trans hx472_1
       replace hx472_2 := (HB.out.cell (World.block_lt_of_cell? w _ hx472_2)).trans hx472_2
       replace hx472_3 := (HB.out.cell (World.block_lt_of_cell? w _ hx472_3)).trans hx472_3
       replace hx472_4 := (HB.out.cell (World.block_lt_of_cell? w _ hx472_4)).trans hx472_4
       replace hx472_5 := (HB.out.cell (World.block_lt_of_cell? w _ hx472_5)).trans hx472_5
       replace p472 := eq_true p472
       replace q472 := eq_true q472
       have p473 : 0 ≤ (x5_1 : Int) := of_decide_eq_true zt4
       have q473 : x5_1 < (l0.length : Int) := of_decide_eq_true zt4
       obtain ⟨ad473, e473, hx473_0, hx473_1, hx473_2, hx473_3, hx473_4, hx473_5⟩ := at_T50 HR0.out x5_1 p473 q473
       obtain rfl : ad472 = ad473 := (by injection e473)
       replace hx473_0 := (HB.out.cell (World.block_lt_of_cell? w _ hx473_0)).trans hx473_0
       replace hx473_1 := (HB.out.cell (World.block_lt_of_cell? w _ hx473_1)).trans hx473_1
       replace hx473_2 := (HB.out.cell (World.block_lt_of_cell? w _ hx473_2)).trans hx473_2
       replace hx473_3 := (HB.out.cell (World.block_lt_of_cell? w _ hx473_3)).trans hx473_3
       replace hx473_4 := (HB.out.cell (World.block_lt_of_cell? w _ hx473_4)).trans hx473_4
       replace hx473_5 := (HB.out.cell (World.block_lt_of_cell? w _ hx473_5)).trans hx473_5
       replace p473 := eq_true p473
       replace q473 := eq_true q473
       rotate_left
       all_goals try ((try go_wp2); (have n0_ := Aside0.mk (below_drew1 HB.out)); (clear HB); (have HB := n0_); (clear n0_); (have p474 : 0 ≤ (x5_1 : Int) := of_decide_eq_true zt4); (have q474 : x5_1 < (l0.length : Int) := of_decide_eq_true zt4); (obtain ⟨ad474, e474, hx474_0, hx474_1, hx474_2, hx474_3, hx474_4, hx474_5⟩ := at_T50 HR0.out x5_1 p474 q474); (have hw474_5 := hx474_5); (have hw474_4 := hx474_4); (have hw474_3 := hx474_3); (have hw474_2 := hx474_2); (have hw474_1 := hx474_1); (have hw474_0 := hx474_0); (obtain rfl : ad472 = ad474 := (by injection e474)); (replace hx474_0 := (HB.out.cell (World.block_lt_of_cell? w _ hx474_0)).trans hx474_0); (replace hx474_1 := (HB.out.cell (World.block_lt_of_cell? w _ hx474_1)).trans hx474_1); (replace hx474_2 := (HB.out.cell (World.block_lt_of_cell? w _ hx474_2)).trans hx474_2); (replace hx474_3 := (HB.out.cell (World.block_lt_of_cell? w _ hx474_3)).trans hx474_3); (replace hx474_4 := (HB.out.cell (World.block_lt_of_cell? w _ hx474_4)).trans hx474_4); (replace hx474_5 := (HB.out.cell (World.block_lt_of_cell? w _ hx474_5)).trans hx474_5); (replace p474 := eq_true p474); (replace q474 := eq_true q474); (refine wp_quiet_drew (by kernel_rfl) (by kernel_rfl) ?_); (generalize wr.drew = w7000 at HB hx474_0 hx474_1 hx474_2 hx474_3 hx474_4 hx474_5 ⊢); (have hS_ : (fun w' => w'.cell? (ad472.add ((x5_1).toNat * 6)) = some (.int .i64 ((rd_T50 l0 x5_1).f0)) ∧ w'.cell? ⟨(ad472.add ((x5_1).toNat * 6)).block, (ad472.add ((x5_1).toNat * 6)).off + 1, none⟩ = some (.int .i64 ((rd_T50 l0 x5_1).f1)) ∧ w'.cell? ⟨(ad472.add ((x5_1).toNat * 6)).block, (ad472.add ((x5_1).toNat * 6)).off + 2, none⟩ = some (.string ((rd_T50 l0 x5_1).f2)) ∧ w'.cell? ⟨(ad472.add ((x5_1).toNat * 6)).block, (ad472.add ((x5_1).toNat * 6)).off + 3, none⟩ = some (.string ((rd_T50 l0 x5_1).f3)) ∧ w'.cell? ⟨(ad472.add ((x5_1).toNat * 6)).block, (ad472.add ((x5_1).toNat * 6)).off + 4, none⟩ = some (.int .i64 ((rd_T50 l0 x5_1).f4)) ∧ w'.cell? ⟨(ad472.add ((x5_1).toNat * 6)).block, (ad472.add ((x5_1).toNat * 6)).off + 5, none⟩ = some (.int .i64 ((rd_T50 l0 x5_1).f5))) w7000 := ⟨((HB.out.cell (World.block_lt_of_cell? w _ hw474_0)).trans hw474_0), ((HB.out.cell (World.block_lt_of_cell? w _ hw474_1)).trans hw474_1), ((HB.out.cell (World.block_lt_of_cell? w _ hw474_2)).trans hw474_2), ((HB.out.cell (World.block_lt_of_cell? w _ hw474_3)).trans hw474_3), ((HB.out.cell (World.block_lt_of_cell? w _ hw474_4)).trans hw474_4), ((HB.out.cell (World.block_lt_of_cell? w _ hw474_5)).trans hw474_5)⟩); (obtain ⟨hq0_, hq1_, hq2_, hq3_, hq4_, hq5_⟩ := hS_); (replace hq0_ := cell_regrown hq0_); (replace hq1_ := cell_regrown hq1_); (replace hq2_ := cell_regrown hq2_); (replace hq3_ := cell_regrown hq3_); (replace hq4_ := cell_regrown hq4_); (replace hq5_ := cell_regrown hq5_); (repeat (first | go_big_quiet_skip | quiet_step (first | (go_at_call 45; exact Calls.regrown_of (laws_markText.calls k1 (wrap64 ((wrap64 (x1_1 + 1)) + 1)) t475 _ A7.out))))); (refine wpQuiet_nil ?_); (intro _ hw'); (obtain ⟨⟨nq, osq⟩, hw''⟩ := hw'); (subst hw''); (have hb := below_regrown w7000 nq osq); (generalize Sort.grow (redrawn w7000 nq) osq = w7001 at hb ⊢); (have n0_ := Aside0.mk (below_step zt3 hb)); (clear HB); (have HB := n0_); (clear n0_); (clear hb hq0_ hq1_ hq2_ hq3_ hq4_ hq5_); (try go_wp2); (have n0_ := Aside0.mk (below_drew1 HB.out)); (clear HB); (have HB := n0_); (clear n0_); (have p7002 : 0 ≤ (x5_1 : Int) := of_decide_eq_true zt4); (have q7002 : x5_1 < (l0.length : Int) := of_decide_eq_true zt4); (obtain ⟨ad7002, e7002, hx7002_0, hx7002_1, hx7002_2, hx7002_3, hx7002_4, hx7002_5⟩ := at_T50 HR0.out x5_1 p7002 q7002); (have hw7002_5 := hx7002_5); (have hw7002_4 := hx7002_4); (have hw7002_3 := hx7002_3); (have hw7002_2 := hx7002_2); (have hw7002_1 := hx7002_1); (have hw7002_0 := hx7002_0); (obtain rfl : ad472 = ad7002 := (by injection e7002)); (replace hx7002_0 := (HB.out.cell (World.block_lt_of_cell? w _ hx7002_0)).trans hx7002_0); (replace hx7002_1 := (HB.out.cell (World.block_lt_of_cell? w _ hx7002_1)).trans hx7002_1); (replace hx7002_2 := (HB.out.cell (World.block_lt_of_cell? w _ hx7002_2)).trans hx7002_2); (replace hx7002_3 := (HB.out.cell (World.block_lt_of_cell? w _ hx7002_3)).trans hx7002_3); (replace hx7002_4 := (HB.out.cell (World.block_lt_of_cell? w _ hx7002_4)).trans hx7002_4); (replace hx7002_5 := (HB.out.cell (World.block_lt_of_cell? w _ hx7002_5)).trans hx7002_5); (replace p7002 := eq_true p7002); (replace q7002 := eq_true q7002); (refine wp_quiet_drew (by kernel_rfl) (by kernel_rfl) ?_); (generalize w7001.drew = w7003 at HB hx7002_0 hx7002_1 hx7002_2 hx7002_3 hx7002_4 hx7002_5 ⊢); (have hS_ : (fun w' => w'.cell? (ad472.add ((x5_1).toNat * 6)) = some (.int .i64 ((rd_T50 l0 x5_1).f0)) ∧ w'.cell? ⟨(ad472.add ((x5_1).toNat * 6)).block, (ad472.add ((x5_1).toNat * 6)).off + 1, none⟩ = some (.int .i64 ((rd_T50 l0 x5_1).f1)) ∧ w'.cell? ⟨(ad472.add ((x5_1).toNat * 6)).block, (ad472.add ((x5_1).toNat * 6)).off + 2, none⟩ = some (.string ((rd_T50 l0 x5_1).f2)) ∧ w'.cell? ⟨(ad472.add ((x5_1).toNat * 6)).block, (ad472.add ((x5_1).toNat * 6)).off + 3, none⟩ = some (.string ((rd_T50 l0 x5_1).f3)) ∧ w'.cell? ⟨(ad472.add ((x5_1).toNat * 6)).block, (ad472.add ((x5_1).toNat * 6)).off + 4, none⟩ = some (.int .i64 ((rd_T50 l0 x5_1).f4)) ∧ w'.cell? ⟨(ad472.add ((x5_1).toNat * 6)).block, (ad472.add ((x5_1).toNat * 6)).off + 5, none⟩ = some (.int .i64 ((rd_T50 l0 x5_1).f5))) w7003 := ⟨((HB.out.cell (World.block_lt_of_cell? w _ hw7002_0)).trans hw7002_0), ((HB.out.cell (World.block_lt_of_cell? w _ hw7002_1)).trans hw7002_1), ((HB.out.cell (World.block_lt_of_cell? w _ hw7002_2)).trans hw7002_2), ((HB.out.cell (World.block_lt_of_cell? w _ hw7002_3)).trans hw7002_3), ((HB.out.cell (World.block_lt_of_cell? w _ hw7002_4)).trans hw7002_4), ((HB.out.cell (World.block_lt_of_cell? w _ hw7002_5)).trans hw7002_5)⟩); (obtain ⟨hq0_, hq1_, hq2_, hq3_, hq4_, hq5_⟩ := hS_); (replace hq0_ := cell_regrown hq0_); (replace hq1_ := cell_regrown hq1_); (replace hq2_ := cell_regrown hq2_); (replace hq3_ := cell_regrown hq3_); (replace hq4_ := cell_regrown hq4_); (replace hq5_ := cell_regrown hq5_); (repeat (first | go_big_quiet_skip | quiet_step (first | (go_at_call 45; exact Calls.regrown_of (laws_markText.calls k1 (wrap64 ((wrap64 ((wrap64 (x1_1 + 1)) + 1)) + 1)) t477 _ A9.out))))); (refine wpQuiet_nil ?_); (intro _ hw'); (obtain ⟨⟨nq, osq⟩, hw''⟩ := hw'); (subst hw''); (have hb := below_regrown w7003 nq osq); (generalize Sort.grow (redrawn w7003 nq) osq = w7004 at hb ⊢); (have n0_ := Aside0.mk (below_step zt3 hb)); (clear HB); (have HB := n0_); (clear n0_); (clear hb hq0_ hq1_ hq2_ hq3_ hq4_ hq5_); (have p7005 : 0 ≤ (x5_1 : Int) := of_decide_eq_true zt4); (have q7005 : x5_1 < (l0.length : Int) := of_decide_eq_true zt4); (obtain ⟨ad7005, e7005, hx7005_0, hx7005_1, hx7005_2, hx7005_3, hx7005_4, hx7005_5⟩ := at_T50 HR0.out x5_1 p7005 q7005); (obtain rfl : ad472 = ad7005 := (by injection e7005)); (replace hx7005_0 := (HB.out.cell (World.block_lt_of_cell? w _ hx7005_0)).trans hx7005_0); (replace hx7005_1 := (HB.out.cell (World.block_lt_of_cell? w _ hx7005_1)).trans hx7005_1); (replace hx7005_2 := (HB.out.cell (World.block_lt_of_cell? w _ hx7005_2)).trans hx7005_2); (replace hx7005_3 := (HB.out.cell (World.block_lt_of_cell? w _ hx7005_3)).trans hx7005_3); (replace hx7005_4 := (HB.out.cell (World.block_lt_of_cell? w _ hx7005_4)).trans hx7005_4); (replace hx7005_5 := (HB.out.cell (World.block_lt_of_cell? w _ hx7005_5)).trans hx7005_5); (replace p7005 := eq_true p7005); (replace q7005 := eq_true q7005); (have p7006 : 0 ≤ (x5_1 : Int) := of_decide_eq_true zt4); (have q7006 : x5_1 < (l0.length : Int) := of_decide_eq_true zt4); (obtain ⟨ad7006, e7006, hx7006_0, hx7006_1, hx7006_2, hx7006_3, hx7006_4, hx7006_5⟩ := at_T50 HR0.out x5_1 p7006 q7006); (obtain rfl : ad472 = ad7006 := (by injection e7006)); (replace hx7006_0 := (HB.out.cell (World.block_lt_of_cell? w _ hx7006_0)).trans hx7006_0); (replace hx7006_1 := (HB.out.cell (World.block_lt_of_cell? w _ hx7006_1)).trans hx7006_1); (replace hx7006_2 := (HB.out.cell (World.block_lt_of_cell? w _ hx7006_2)).trans hx7006_2); (replace hx7006_3 := (HB.out.cell (World.block_lt_of_cell? w _ hx7006_3)).trans hx7006_3); (replace hx7006_4 := (HB.out.cell (World.block_lt_of_cell? w _ hx7006_4)).trans hx7006_4); (replace hx7006_5 := (HB.out.cell (World.block_lt_of_cell? w _ hx7006_5)).trans hx7006_5); (replace p7006 := eq_true p7006); (replace q7006 := eq_true q7006); (try go_wp2); (first | (go_roundg k1; (case measure => have := HK1.out; omega); (case rel => exact ⟨(wrap64 ((wrap64 ((wrap64 ((wrap64 ((wrap64 ((wrap64 (x1_1 + 1)) + 1)) + 1)) + 1)) + 1)) + 1)), (wrap64 (x5_1 + 1)), zt9, zt9, H', ⟨by have := HK1.out; omega⟩, ⟨zt3⟩⟩)) | (go_ret; exact ⟨zt8, zt3⟩)))
       all_goals try ((try go_wp2); (have n0_ := Aside0.mk (below_drew1 HB.out)); (clear HB); (have HB := n0_); (clear n0_); (have p474 : 0 ≤ (x5_1 : Int) := of_decide_eq_true zt4); (have q474 : x5_1 < (l0.length : Int) := of_decide_eq_true zt4); (obtain ⟨ad474, e474, hx474_0, hx474_1, hx474_2, hx474_3, hx474_4, hx474_5⟩ := at_T50 HR0.out x5_1 p474 q474); (have hw474_5 := hx474_5); (have hw474_4 := hx474_4); (have hw474_3 := hx474_3); (have hw474_2 := hx474_2); (have hw474_1 := hx474_1); (have hw474_0 := hx474_0); (obtain rfl : ad472 = ad474 := (by injection e474)); (replace hx474_0 := (HB.out.cell (World.block_lt_of_cell? w _ hx474_0)).trans hx474_0); (replace hx474_1 := (HB.out.cell (World.block_lt_of_cell? w _ hx474_1)).trans hx474_1); (replace hx474_2 := (HB.out.cell (World.block_lt_of_cell? w _ hx474_2)).trans hx474_2); (replace hx474_3 := (HB.out.cell (World.block_lt_of_cell? w _ hx474_3)).trans hx474_3); (replace hx474_4 := (HB.out.cell (World.block_lt_of_cell? w _ hx474_4)).trans hx474_4); (replace hx474_5 := (HB.out.cell (World.block_lt_of_cell? w _ hx474_5)).trans hx474_5); (replace p474 := eq_true p474); (replace q474 := eq_true q474); (refine wp_quiet_drew (by kernel_rfl) (by kernel_rfl) ?_); (generalize wr.drew = w7000 at HB hx474_0 hx474_1 hx474_2 hx474_3 hx474_4 hx474_5 ⊢); (have hS_ : (fun w' => w'.cell? (ad472.add ((x5_1).toNat * 6)) = some (.int .i64 ((rd_T50 l0 x5_1).f0)) ∧ w'.cell? ⟨(ad472.add ((x5_1).toNat * 6)).block, (ad472.add ((x5_1).toNat * 6)).off + 1, none⟩ = some (.int .i64 ((rd_T50 l0 x5_1).f1)) ∧ w'.cell? ⟨(ad472.add ((x5_1).toNat * 6)).block, (ad472.add ((x5_1).toNat * 6)).off + 2, none⟩ = some (.string ((rd_T50 l0 x5_1).f2)) ∧ w'.cell? ⟨(ad472.add ((x5_1).toNat * 6)).block, (ad472.add ((x5_1).toNat * 6)).off + 3, none⟩ = some (.string ((rd_T50 l0 x5_1).f3)) ∧ w'.cell? ⟨(ad472.add ((x5_1).toNat * 6)).block, (ad472.add ((x5_1).toNat * 6)).off + 4, none⟩ = some (.int .i64 ((rd_T50 l0 x5_1).f4)) ∧ w'.cell? ⟨(ad472.add ((x5_1).toNat * 6)).block, (ad472.add ((x5_1).toNat * 6)).off + 5, none⟩ = some (.int .i64 ((rd_T50 l0 x5_1).f5))) w7000 := ⟨((HB.out.cell (World.block_lt_of_cell? w _ hw474_0)).trans hw474_0), ((HB.out.cell (World.block_lt_of_cell? w _ hw474_1)).trans hw474_1), ((HB.out.cell (World.block_lt_of_cell? w _ hw474_2)).trans hw474_2), ((HB.out.cell (World.block_lt_of_cell? w _ hw474_3)).trans hw474_3), ((HB.out.cell (World.block_lt_of_cell? w _ hw474_4)).trans hw474_4), ((HB.out.cell (World.block_lt_of_cell? w _ hw474_5)).trans hw474_5)⟩); (obtain ⟨hq0_, hq1_, hq2_, hq3_, hq4_, hq5_⟩ := hS_); (replace hq0_ := cell_regrown hq0_); (replace hq1_ := cell_regrown hq1_); (replace hq2_ := cell_regrown hq2_); (replace hq3_ := cell_regrown hq3_); (replace hq4_ := cell_regrown hq4_); (replace hq5_ := cell_regrown hq5_); (repeat (first | go_big_quiet_skip | quiet_step (first | (go_at_call 45; exact Calls.regrown_of (laws_markText.calls k1 (wrap64 ((wrap64 (x1_1 + 1)) + 1)) t475 _ A7.out))))); (refine wpQuiet_nil ?_); (intro _ hw'); (obtain ⟨⟨nq, osq⟩, hw''⟩ := hw'); (subst hw''); (have hb := below_regrown w7000 nq osq); (generalize Sort.grow (redrawn w7000 nq) osq = w7001 at hb ⊢); (have n0_ := Aside0.mk (below_step zt3 hb)); (clear HB); (have HB := n0_); (clear n0_); (clear hb hq0_ hq1_ hq2_ hq3_ hq4_ hq5_); (try go_wp2); (have n0_ := Aside0.mk (below_drew1 HB.out)); (clear HB); (have HB := n0_); (clear n0_); (have p7002 : 0 ≤ (x5_1 : Int) := of_decide_eq_true zt4); (have q7002 : x5_1 < (l0.length : Int) := of_decide_eq_true zt4); (obtain ⟨ad7002, e7002, hx7002_0, hx7002_1, hx7002_2, hx7002_3, hx7002_4, hx7002_5⟩ := at_T50 HR0.out x5_1 p7002 q7002); (have hw7002_5 := hx7002_5); (have hw7002_4 := hx7002_4); (have hw7002_3 := hx7002_3); (have hw7002_2 := hx7002_2); (have hw7002_1 := hx7002_1); (have hw7002_0 := hx7002_0); (obtain rfl : ad472 = ad7002 := (by injection e7002)); (replace hx7002_0 := (HB.out.cell (World.block_lt_of_cell? w _ hx7002_0)).trans hx7002_0); (replace hx7002_1 := (HB.out.cell (World.block_lt_of_cell? w _ hx7002_1)).trans hx7002_1); (replace hx7002_2 := (HB.out.cell (World.block_lt_of_cell? w _ hx7002_2)).trans hx7002_2); (replace hx7002_3 := (HB.out.cell (World.block_lt_of_cell? w _ hx7002_3)).trans hx7002_3); (replace hx7002_4 := (HB.out.cell (World.block_lt_of_cell? w _ hx7002_4)).trans hx7002_4); (replace hx7002_5 := (HB.out.cell (World.block_lt_of_cell? w _ hx7002_5)).trans hx7002_5); (replace p7002 := eq_true p7002); (replace q7002 := eq_true q7002); (refine wp_quiet_drew (by kernel_rfl) (by kernel_rfl) ?_); (generalize w7001.drew = w7003 at HB hx7002_0 hx7002_1 hx7002_2 hx7002_3 hx7002_4 hx7002_5 ⊢); (have hS_ : (fun w' => w'.cell? (ad472.add ((x5_1).toNat * 6)) = some (.int .i64 ((rd_T50 l0 x5_1).f0)) ∧ w'.cell? ⟨(ad472.add ((x5_1).toNat * 6)).block, (ad472.add ((x5_1).toNat * 6)).off + 1, none⟩ = some (.int .i64 ((rd_T50 l0 x5_1).f1)) ∧ w'.cell? ⟨(ad472.add ((x5_1).toNat * 6)).block, (ad472.add ((x5_1).toNat * 6)).off + 2, none⟩ = some (.string ((rd_T50 l0 x5_1).f2)) ∧ w'.cell? ⟨(ad472.add ((x5_1).toNat * 6)).block, (ad472.add ((x5_1).toNat * 6)).off + 3, none⟩ = some (.string ((rd_T50 l0 x5_1).f3)) ∧ w'.cell? ⟨(ad472.add ((x5_1).toNat * 6)).block, (ad472.add ((x5_1).toNat * 6)).off + 4, none⟩ = some (.int .i64 ((rd_T50 l0 x5_1).f4)) ∧ w'.cell? ⟨(ad472.add ((x5_1).toNat * 6)).block, (ad472.add ((x5_1).toNat * 6)).off + 5, none⟩ = some (.int .i64 ((rd_T50 l0 x5_1).f5))) w7003 := ⟨((HB.out.cell (World.block_lt_of_cell? w _ hw7002_0)).trans hw7002_0), ((HB.out.cell (World.block_lt_of_cell? w _ hw7002_1)).trans hw7002_1), ((HB.out.cell (World.block_lt_of_cell? w _ hw7002_2)).trans hw7002_2), ((HB.out.cell (World.block_lt_of_cell? w _ hw7002_3)).trans hw7002_3), ((HB.out.cell (World.block_lt_of_cell? w _ hw7002_4)).trans hw7002_4), ((HB.out.cell (World.block_lt_of_cell? w _ hw7002_5)).trans hw7002_5)⟩); (obtain ⟨hq0_, hq1_, hq2_, hq3_, hq4_, hq5_⟩ := hS_); (replace hq0_ := cell_regrown hq0_); (replace hq1_ := cell_regrown hq1_); (replace hq2_ := cell_regrown hq2_); (replace hq3_ := cell_regrown hq3_); (replace hq4_ := cell_regrown hq4_); (replace hq5_ := cell_regrown hq5_); (repeat (first | go_big_quiet_skip | quiet_step (first | (go_at_call 45; exact Calls.regrown_of (laws_markText.calls k1 (wrap64 ((wrap64 ((wrap64 (x1_1 + 1)) + 1)) + 1)) t477 _ A9.out))))); (refine wpQuiet_nil ?_); (intro _ hw'); (obtain ⟨⟨nq, osq⟩, hw''⟩ := hw'); (subst hw''); (have hb := below_regrown w7003 nq osq); (generalize Sort.grow (redrawn w7003 nq) osq = w7004 at hb ⊢); (have n0_ := Aside0.mk (below_step zt3 hb)); (clear HB); (have HB := n0_); (clear n0_); (clear hb hq0_ hq1_ hq2_ hq3_ hq4_ hq5_); (have p7005 : 0 ≤ (x5_1 : Int) := of_decide_eq_true zt4); (have q7005 : x5_1 < (l0.length : Int) := of_decide_eq_true zt4); (obtain ⟨ad7005, e7005, hx7005_0, hx7005_1, hx7005_2, hx7005_3, hx7005_4, hx7005_5⟩ := at_T50 HR0.out x5_1 p7005 q7005); (obtain rfl : ad472 = ad7005 := (by injection e7005)); (replace hx7005_0 := (HB.out.cell (World.block_lt_of_cell? w _ hx7005_0)).trans hx7005_0); (replace hx7005_1 := (HB.out.cell (World.block_lt_of_cell? w _ hx7005_1)).trans hx7005_1); (replace hx7005_2 := (HB.out.cell (World.block_lt_of_cell? w _ hx7005_2)).trans hx7005_2); (replace hx7005_3 := (HB.out.cell (World.block_lt_of_cell? w _ hx7005_3)).trans hx7005_3); (replace hx7005_4 := (HB.out.cell (World.block_lt_of_cell? w _ hx7005_4)).trans hx7005_4); (replace hx7005_5 := (HB.out.cell (World.block_lt_of_cell? w _ hx7005_5)).trans hx7005_5); (replace p7005 := eq_true p7005); (replace q7005 := eq_true q7005); (try go_wp2); (first | (go_ret; exact ⟨zt8, zt3⟩)))
       all_goals try ((try go_wp2); (have n0_ := Aside0.mk (below_drew1 HB.out)); (clear HB); (have HB := n0_); (clear n0_); (have p474 : 0 ≤ (x5_1 : Int) := of_decide_eq_true zt4); (have q474 : x5_1 < (l0.length : Int) := of_decide_eq_true zt4); (obtain ⟨ad474, e474, hx474_0, hx474_1, hx474_2, hx474_3, hx474_4, hx474_5⟩ := at_T50 HR0.out x5_1 p474 q474); (have hw474_5 := hx474_5); (have hw474_4 := hx474_4); (have hw474_3 := hx474_3); (have hw474_2 := hx474_2); (have hw474_1 := hx474_1); (have hw474_0 := hx474_0); (obtain rfl : ad472 = ad474 := (by injection e474)); (replace hx474_0 := (HB.out.cell (World.block_lt_of_cell? w _ hx474_0)).trans hx474_0); (replace hx474_1 := (HB.out.cell (World.block_lt_of_cell? w _ hx474_1)).trans hx474_1); (replace hx474_2 := (HB.out.cell (World.block_lt_of_cell? w _ hx474_2)).trans hx474_2); (replace hx474_3 := (HB.out.cell (World.block_lt_of_cell? w _ hx474_3)).trans hx474_3); (replace hx474_4 := (HB.out.cell (World.block_lt_of_cell? w _ hx474_4)).trans hx474_4); (replace hx474_5 := (HB.out.cell (World.block_lt_of_cell? w _ hx474_5)).trans hx474_5); (replace p474 := eq_true p474); (replace q474 := eq_true q474); (refine wp_quiet_drew (by kernel_rfl) (by kernel_rfl) ?_); (generalize wr.drew = w7000 at HB hx474_0 hx474_1 hx474_2 hx474_3 hx474_4 hx474_5 ⊢); (have hS_ : (fun w' => w'.cell? (ad472.add ((x5_1).toNat * 6)) = some (.int .i64 ((rd_T50 l0 x5_1).f0)) ∧ w'.cell? ⟨(ad472.add ((x5_1).toNat * 6)).block, (ad472.add ((x5_1).toNat * 6)).off + 1, none⟩ = some (.int .i64 ((rd_T50 l0 x5_1).f1)) ∧ w'.cell? ⟨(ad472.add ((x5_1).toNat * 6)).block, (ad472.add ((x5_1).toNat * 6)).off + 2, none⟩ = some (.string ((rd_T50 l0 x5_1).f2)) ∧ w'.cell? ⟨(ad472.add ((x5_1).toNat * 6)).block, (ad472.add ((x5_1).toNat * 6)).off + 3, none⟩ = some (.string ((rd_T50 l0 x5_1).f3)) ∧ w'.cell? ⟨(ad472.add ((x5_1).toNat * 6)).block, (ad472.add ((x5_1).toNat * 6)).off + 4, none⟩ = some (.int .i64 ((rd_T50 l0 x5_1).f4)) ∧ w'.cell? ⟨(ad472.add ((x5_1).toNat * 6)).block, (ad472.add ((x5_1).toNat * 6)).off + 5, none⟩ = some (.int .i64 ((rd_T50 l0 x5_1).f5))) w7000 := ⟨((HB.out.cell (World.block_lt_of_cell? w _ hw474_0)).trans hw474_0), ((HB.out.cell (World.block_lt_of_cell? w _ hw474_1)).trans hw474_1), ((HB.out.cell (World.block_lt_of_cell? w _ hw474_2)).trans hw474_2), ((HB.out.cell (World.block_lt_of_cell? w _ hw474_3)).trans hw474_3), ((HB.out.cell (World.block_lt_of_cell? w _ hw474_4)).trans hw474_4), ((HB.out.cell (World.block_lt_of_cell? w _ hw474_5)).trans hw474_5)⟩); (obtain ⟨hq0_, hq1_, hq2_, hq3_, hq4_, hq5_⟩ := hS_); (replace hq0_ := cell_regrown hq0_); (replace hq1_ := cell_regrown hq1_); (replace hq2_ := cell_regrown hq2_); (replace hq3_ := cell_regrown hq3_); (replace hq4_ := cell_regrown hq4_); (replace hq5_ := cell_regrown hq5_); (repeat (first | go_big_quiet_skip | quiet_step (first | (go_at_call 45; exact Calls.regrown_of (laws_markText.calls k1 (wrap64 ((wrap64 (x1_1 + 1)) + 1)) t475 _ A7.out))))); (refine wpQuiet_nil ?_); (intro _ hw'); (obtain ⟨⟨nq, osq⟩, hw''⟩ := hw'); (subst hw''); (have hb := below_regrown w7000 nq osq); (generalize Sort.grow (redrawn w7000 nq) osq = w7001 at hb ⊢); (have n0_ := Aside0.mk (below_step zt3 hb)); (clear HB); (have HB := n0_); (clear n0_); (clear hb hq0_ hq1_ hq2_ hq3_ hq4_ hq5_); (try go_wp2); (have n0_ := Aside0.mk (below_drew1 HB.out)); (clear HB); (have HB := n0_); (clear n0_); (have p7002 : 0 ≤ (x5_1 : Int) := of_decide_eq_true zt4); (have q7002 : x5_1 < (l0.length : Int) := of_decide_eq_true zt4); (obtain ⟨ad7002, e7002, hx7002_0, hx7002_1, hx7002_2, hx7002_3, hx7002_4, hx7002_5⟩ := at_T50 HR0.out x5_1 p7002 q7002); (have hw7002_5 := hx7002_5); (have hw7002_4 := hx7002_4); (have hw7002_3 := hx7002_3); (have hw7002_2 := hx7002_2); (have hw7002_1 := hx7002_1); (have hw7002_0 := hx7002_0); (obtain rfl : ad472 = ad7002 := (by injection e7002)); (replace hx7002_0 := (HB.out.cell (World.block_lt_of_cell? w _ hx7002_0)).trans hx7002_0); (replace hx7002_1 := (HB.out.cell (World.block_lt_of_cell? w _ hx7002_1)).trans hx7002_1); (replace hx7002_2 := (HB.out.cell (World.block_lt_of_cell? w _ hx7002_2)).trans hx7002_2); (replace hx7002_3 := (HB.out.cell (World.block_lt_of_cell? w _ hx7002_3)).trans hx7002_3); (replace hx7002_4 := (HB.out.cell (World.block_lt_of_cell? w _ hx7002_4)).trans hx7002_4); (replace hx7002_5 := (HB.out.cell (World.block_lt_of_cell? w _ hx7002_5)).trans hx7002_5); (replace p7002 := eq_true p7002); (replace q7002 := eq_true q7002); (refine wp_quiet_drew (by kernel_rfl) (by kernel_rfl) ?_); (generalize w7001.drew = w7003 at HB hx7002_0 hx7002_1 hx7002_2 hx7002_3 hx7002_4 hx7002_5 ⊢); (have hS_ : (fun w' => w'.cell? (ad472.add ((x5_1).toNat * 6)) = some (.int .i64 ((rd_T50 l0 x5_1).f0)) ∧ w'.cell? ⟨(ad472.add ((x5_1).toNat * 6)).block, (ad472.add ((x5_1).toNat * 6)).off + 1, none⟩ = some (.int .i64 ((rd_T50 l0 x5_1).f1)) ∧ w'.cell? ⟨(ad472.add ((x5_1).toNat * 6)).block, (ad472.add ((x5_1).toNat * 6)).off + 2, none⟩ = some (.string ((rd_T50 l0 x5_1).f2)) ∧ w'.cell? ⟨(ad472.add ((x5_1).toNat * 6)).block, (ad472.add ((x5_1).toNat * 6)).off + 3, none⟩ = some (.string ((rd_T50 l0 x5_1).f3)) ∧ w'.cell? ⟨(ad472.add ((x5_1).toNat * 6)).block, (ad472.add ((x5_1).toNat * 6)).off + 4, none⟩ = some (.int .i64 ((rd_T50 l0 x5_1).f4)) ∧ w'.cell? ⟨(ad472.add ((x5_1).toNat * 6)).block, (ad472.add ((x5_1).toNat * 6)).off + 5, none⟩ = some (.int .i64 ((rd_T50 l0 x5_1).f5))) w7003 := ⟨((HB.out.cell (World.block_lt_of_cell? w _ hw7002_0)).trans hw7002_0), ((HB.out.cell (World.block_lt_of_cell? w _ hw7002_1)).trans hw7002_1), ((HB.out.cell (World.block_lt_of_cell? w _ hw7002_2)).trans hw7002_2), ((HB.out.cell (World.block_lt_of_cell? w _ hw7002_3)).trans hw7002_3), ((HB.out.cell (World.block_lt_of_cell? w _ hw7002_4)).trans hw7002_4), ((HB.out.cell (World.block_lt_of_cell? w _ hw7002_5)).trans hw7002_5)⟩); (obtain ⟨hq0_, hq1_, hq2_, hq3_, hq4_, hq5_⟩ := hS_); (replace hq0_ := cell_regrown hq0_); (replace hq1_ := cell_regrown hq1_); (replace hq2_ := cell_regrown hq2_); (replace hq3_ := cell_regrown hq3_); (replace hq4_ := cell_regrown hq4_); (replace hq5_ := cell_regrown hq5_); (repeat (first | go_big_quiet_skip | quiet_step (first | (go_at_call 45; exact Calls.regrown_of (laws_markText.calls k1 (wrap64 ((wrap64 ((wrap64 (x1_1 + 1)) + 1)) + 1)) t477 _ A9.out))))); (refine wpQuiet_nil ?_); (intro _ hw'); (obtain ⟨⟨nq, osq⟩, hw''⟩ := hw'); (subst hw''); (have hb := below_regrown w7003 nq osq); (generalize Sort.grow (redrawn w7003 nq) osq = w7004 at hb ⊢); (have n0_ := Aside0.mk (below_step zt3 hb)); (clear HB); (have HB := n0_); (clear n0_); (clear hb hq0_ hq1_ hq2_ hq3_ hq4_ hq5_); (try go_wp2); (first | (go_ret; exact ⟨zt8, zt3⟩)))
      ·rw [if_neg c8] at H
       have c8b0 := beq_eq_false_iff_ne.mpr c8
       have c8b1 := bne_iff_ne.mpr c8
       obtain rfl := Option.some.inj H
       have p472 : 0 ≤ (x5_1 : Int) := of_decide_eq_true zt4
       have q472 : x5_1 < (l0.length : Int) := of_decide_eq_true zt4
       obtain ⟨ad472, e472, hx472_0, hx472_1, hx472_2, hx472_3, hx472_4, hx472_5⟩ := at_T50 HR0.out x5_1 p472 q472
       cases e472
       replace hx472_0 := (HB.out.cell (World.block_lt_of_cell? w _ hx472_0)).trans hx472_0
       replace hx472_1 := (HB.out.cell (World.block_lt_of_cell? w _ hx472_1)).trans hx472_1
       replace hx472_2 := (HB.out.cell (World.block_lt_of_cell? w _ hx472_2)).trans hx472_2
       replace hx472_3 := (HB.out.cell (World.block_lt_of_cell? w _ hx472_3)).trans hx472_3
       replace hx472_4 := (HB.out.cell (World.block_lt_of_cell? w _ hx472_4)).trans hx472_4
       replace hx472_5 := (HB.out.cell (World.block_lt_of_cell? w _ hx472_5)).trans hx472_5
       replace p472 := eq_true p472
       replace q472 := eq_true q472
       have p473 : 0 ≤ (x5_1 : Int) := of_decide_eq_true zt4
       have q473 : x5_1 < (l0.length : Int) := of_decide_eq_true zt4
       obtain ⟨ad473, e473, hx473_0, hx473_1, hx473_2, hx473_3, hx473_4, hx473_5⟩ := at_T50 HR0.out x5_1 p473 q473
       obtain rfl : ad472 = ad473 := (by injection e473)
       replace hx473_0 := (HB.out.cell (World.block_lt_of_cell? w _ hx473_0)).trans hx473_0
       replace hx473_1 := (HB.out.cell (World.block_lt_of_cell? w _ hx473_1)).trans hx473_1
       replace hx473_2 := (HB.out.cell (World.block_lt_of_cell? w _ hx473_2)).trans hx473_2
       replace hx473_3 := (HB.out.cell (World.block_lt_of_cell? w _ hx473_3)).trans hx473_3
       replace hx473_4 := (HB.out.cell (World.block_lt_of_cell? w _ hx473_4)).trans hx473_4
       replace hx473_5 := (HB.out.cell (World.block_lt_of_cell? w _ hx473_5)).trans hx473_5
       replace p473 := eq_true p473
       replace q473 := eq_true q473
       try go_wp2
       have n0_ := Aside0.mk (below_drew1 HB.out)
       clear HB
       have HB := n0_
       clear n0_
       have p474 : 0 ≤ (x5_1 : Int) := of_decide_eq_true zt4
       have q474 : x5_1 < (l0.length : Int) := of_decide_eq_true zt4
       obtain ⟨ad474, e474, hx474_0, hx474_1, hx474_2, hx474_3, hx474_4, hx474_5⟩ := at_T50 HR0.out x5_1 p474 q474
       have hw474_5 := hx474_5
       have hw474_4 := hx474_4
       have hw474_3 := hx474_3
       have hw474_2 := hx474_2
       have hw474_1 := hx474_1
       have hw474_0 := hx474_0
       obtain rfl : ad472 = ad474 := (by injection e474)
       replace hx474_0 := (HB.out.cell (World.block_lt_of_cell? w _ hx474_0)).trans hx474_0
       replace hx474_1 := (HB.out.cell (World.block_lt_of_cell? w _ hx474_1)).trans hx474_1
       replace hx474_2 := (HB.out.cell (World.block_lt_of_cell? w _ hx474_2)).trans hx474_2
       replace hx474_3 := (HB.out.cell (World.block_lt_of_cell? w _ hx474_3)).trans hx474_3
       replace hx474_4 := (HB.out.cell (World.block_lt_of_cell? w _ hx474_4)).trans hx474_4
       replace hx474_5 := (HB.out.cell (World.block_lt_of_cell? w _ hx474_5)).trans hx474_5
       replace p474 := eq_true p474
       replace q474 := eq_true q474
       refine wp_quiet_drew (by kernel_rfl) (by kernel_rfl) ?_
       generalize wr.drew = w29 at HB hx474_0 hx474_1 hx474_2 hx474_3 hx474_4 hx474_5 ⊢
       have hS_ : (fun w' => w'.cell? (ad472.add ((x5_1).toNat * 6)) = some (.int .i64 ((rd_T50 l0 x5_1).f0)) ∧ w'.cell? ⟨(ad472.add ((x5_1).toNat * 6)).block, (ad472.add ((x5_1).toNat * 6)).off + 1, none⟩ = some (.int .i64 ((rd_T50 l0 x5_1).f1)) ∧ w'.cell? ⟨(ad472.add ((x5_1).toNat * 6)).block, (ad472.add ((x5_1).toNat * 6)).off + 2, none⟩ = some (.string ((rd_T50 l0 x5_1).f2)) ∧ w'.cell? ⟨(ad472.add ((x5_1).toNat * 6)).block, (ad472.add ((x5_1).toNat * 6)).off + 3, none⟩ = some (.string ((rd_T50 l0 x5_1).f3)) ∧ w'.cell? ⟨(ad472.add ((x5_1).toNat * 6)).block, (ad472.add ((x5_1).toNat * 6)).off + 4, none⟩ = some (.int .i64 ((rd_T50 l0 x5_1).f4)) ∧ w'.cell? ⟨(ad472.add ((x5_1).toNat * 6)).block, (ad472.add ((x5_1).toNat * 6)).off + 5, none⟩ = some (.int .i64 ((rd_T50 l0 x5_1).f5))) w29 := ⟨((HB.out.cell (World.block_lt_of_cell? w _ hw474_0)).trans hw474_0), ((HB.out.cell (World.block_lt_of_cell? w _ hw474_1)).trans hw474_1), ((HB.out.cell (World.block_lt_of_cell? w _ hw474_2)).trans hw474_2), ((HB.out.cell (World.block_lt_of_cell? w _ hw474_3)).trans hw474_3), ((HB.out.cell (World.block_lt_of_cell? w _ hw474_4)).trans hw474_4), ((HB.out.cell (World.block_lt_of_cell? w _ hw474_5)).trans hw474_5)⟩
       obtain ⟨hq0_, hq1_, hq2_, hq3_, hq4_, hq5_⟩ := hS_
       replace hq0_ := cell_regrown hq0_
       replace hq1_ := cell_regrown hq1_
       replace hq2_ := cell_regrown hq2_
       replace hq3_ := cell_regrown hq3_
       replace hq4_ := cell_regrown hq4_
       replace hq5_ := cell_regrown hq5_
       repeat (first | go_big_quiet_skip | quiet_step (first | (go_at_call 45; exact Calls.regrown_of (laws_markText.calls k1 (wrap64 ((wrap64 (x1_1 + 1)) + 1)) t475 _ A7.out))))
       refine wpQuiet_nil ?_
       intro _ hw'
       obtain ⟨⟨nq, osq⟩, hw''⟩ := hw'
       subst hw''
       have hb := below_regrown w29 nq osq
       generalize Sort.grow (redrawn w29 nq) osq = w30 at hb ⊢
       have n0_ := Aside0.mk (below_step zt3 hb)
       clear HB
       have HB := n0_
       clear n0_
       clear hb hq0_ hq1_ hq2_ hq3_ hq4_ hq5_
       try go_wp2
       go_ret
       exact ⟨zt8, zt3⟩
     ·rw [if_neg c6] at H
      have c6b0 := beq_eq_false_iff_ne.mpr c6
      have c6b1 := bne_iff_ne.mpr c6
      obtain rfl := Option.some.inj H
      have p472 : 0 ≤ (x5_1 : Int) := of_decide_eq_true zt4
      have q472 : x5_1 < (l0.length : Int) := of_decide_eq_true zt4
      obtain ⟨ad472, e472, hx472_0, hx472_1, hx472_2, hx472_3, hx472_4, hx472_5⟩ := at_T50 HR0.out x5_1 p472 q472
      cases e472
      replace hx472_0 := (HB.out.cell (World.block_lt_of_cell? w _ hx472_0)).trans hx472_0
      replace hx472_1 := (HB.out.cell (World.block_lt_of_cell? w _ hx472_1)).trans hx472_1
      replace hx472_2 := (HB.out.cell (World.block_lt_of_cell? w _ hx472_2)).trans hx472_2
      replace hx472_3 := (HB.out.cell (World.block_lt_of_cell? w _ hx472_3)).trans hx472_3
      replace hx472_4 := (HB.out.cell (World.block_lt_of_cell? w _ hx472_4)).trans hx472_4
      replace hx472_5 := (HB.out.cell (World.block_lt_of_cell? w _ hx472_5)).trans hx472_5
      replace p472 := eq_true p472
      replace q472 := eq_true q472
      have p473 : 0 ≤ (x5_1 : Int) := of_decide_eq_true zt4
      have q473 : x5_1 < (l0.length : Int) := of_decide_eq_true zt4
      obtain ⟨ad473, e473, hx473_0, hx473_1, hx473_2, hx473_3, hx473_4, hx473_5⟩ := at_T50 HR0.out x5_1 p473 q473
      obtain rfl : ad472 = ad473 := (by injection e473)
      replace hx473_0 := (HB.out.cell (World.block_lt_of_cell? w _ hx473_0)).trans hx473_0
      replace hx473_1 := (HB.out.cell (World.block_lt_of_cell? w _ hx473_1)).trans hx473_1
      replace hx473_2 := (HB.out.cell (World.block_lt_of_cell? w _ hx473_2)).trans hx473_2
      replace hx473_3 := (HB.out.cell (World.block_lt_of_cell? w _ hx473_3)).trans hx473_3
      replace hx473_4 := (HB.out.cell (World.block_lt_of_cell? w _ hx473_4)).trans hx473_4
      replace hx473_5 := (HB.out.cell (World.block_lt_of_cell? w _ hx473_5)).trans hx473_5
      replace p473 := eq_true p473
      replace q473 := eq_true q473
      go_wp2
      go_ret
      exact ⟨zt8, zt3⟩
    ·rw [if_neg c5] at H
     have c5b0 := beq_eq_false_iff_ne.mpr c5
     have c5b1 := bne_iff_ne.mpr c5
     obtain rfl := Option.some.inj H
     have p472 : 0 ≤ (x5_1 : Int) := of_decide_eq_true zt4
     have q472 : x5_1 < (l0.length : Int) := of_decide_eq_true zt4
     obtain ⟨ad472, e472, hx472_0, hx472_1, hx472_2, hx472_3, hx472_4, hx472_5⟩ := at_T50 HR0.out x5_1 p472 q472
     cases e472
     replace hx472_0 := (HB.out.cell (World.block_lt_of_cell? w _ hx472_0)).trans hx472_0
     replace hx472_1 := (HB.out.cell (World.block_lt_of_cell? w _ hx472_1)).trans hx472_1
     replace hx472_2 := (HB.out.cell (World.block_lt_of_cell? w _ hx472_2)).trans hx472_2
     replace hx472_3 := (HB.out.cell (World.block_lt_of_cell? w _ hx472_3)).trans hx472_3
     replace hx472_4 := (HB.out.cell (World.block_lt_of_cell? w _ hx472_4)).trans hx472_4
     replace hx472_5 := (HB.out.cell (World.block_lt_of_cell? w _ hx472_5)).trans hx472_5
     replace p472 := eq_true p472
     replace q472 := eq_true q472
     go_wp2
     go_ret
     exact ⟨zt8, zt3⟩
   ·rw [if_neg c3] at H
    have c3b0 := decide_eq_false c3
    clear c3
    obtain rfl := Option.some.inj H
    go_wp2
    go_ret
    exact ⟨zt8, zt3⟩

end Go.Proofs.Ytopicidanlienaa.PFnExactTrim

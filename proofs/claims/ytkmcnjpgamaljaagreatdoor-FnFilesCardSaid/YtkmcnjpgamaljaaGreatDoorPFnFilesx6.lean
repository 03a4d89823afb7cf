-- Out of the kit's print, with contracts of mine among it (myprint.py).
import Derived.Lib.QuietBelow
import Derived.Test.YtkmcnjpgamaljaaGreatDoorPFnFilesx0
import Derived.Test.YtkmcnjpgamaljaaGreatDoorPFnFilesx4
import Derived.Test.YtkmcnjpgamaljaaGreatDoorPFnFilesx3
namespace Go.Proofs.YtkmcnjpgamaljaaGreatDoor.PFnFiles
open Go.RowKit Go.Proofs.YtkmcnjpgamaljaaGreatDoorW.PrintWords Go.Proofs.YtkmcnjpgamaljaaGreatDoorW.PrintLast Go.Proofs.YtkmcnjpgamaljaaGreatDoorW.PrintMore
attribute [local go_sem] max2_int min2_int max_two min_two max_three min_three max_four min_four   -- for this text's walks alone
set_option linter.unusedVariables false
set_option linter.unusedSimpArgs false

/-! ### impl_FilesOk: function 23 -/
def impl_FilesOk.l0 : Nat → List (S33) → List (S33) → Int → Int → Option (Bool)
 | 0, _, _, _, _ => none
 | k + 1, x0, x5, x6, x7 => if x7 < x6 then (if 0 ≤ x7 then (if x7 < (x5.length : Int) then ((impl_Clean.f k ((rd_T33 x5 x7).f0)).bind fun t221 => (if t221.toList = ((rd_T33 x5 x7).f0).toList then (if ((rd_T33 x5 x7).f0).toList = ([47] : List UInt8) then (some false) else (if ((rd_T33 x5 x7).f0).toList = ([] : List UInt8) then (some false) else (if (((rd_T33 x5 x7).f1).size : Int) > 1500 then (some false) else (if x7 > 0 then (if 0 ≤ (wrap64 (x7 - 1)) then (if (wrap64 (x7 - 1)) < (x0.length : Int) then (if ((Op.bytesLess (((rd_T33 x0 (wrap64 (x7 - 1))).f0).toList) (((rd_T33 x5 x7).f0).toList)) = true) then (impl_FilesOk.l0 k x0 x5 x6 (wrap64 (x7 + 1))) else (some false)) else (none)) else (none)) else (impl_FilesOk.l0 k x0 x5 x6 (wrap64 (x7 + 1))))))) else (some false))) else (none)) else (none)) else (some (decide ((x0.length : Int) ≤ 8)))
def impl_FilesOk.f (k : Nat) (l0 : List (S33)) : Option (Bool) := impl_FilesOk.l0 k l0 l0 (l0.length : Int) 0
theorem impl_FilesOk.mono_l : ∀ k, (∀ y0 y1 y2 y3, LeO (impl_FilesOk.l0 k y0 y1 y2 y3) (impl_FilesOk.l0 (k + 1) y0 y1 y2 y3))
 | 0 => fun _ _ _ _ r h => by simp [impl_FilesOk.l0] at h
 | k + 1 => by
  have ih0 := impl_FilesOk.mono_l k
  ·intro y0 y1 y2 y3
   unfold impl_FilesOk.l0
   repeat' (first | (with_reducible first | exact ih0 _ _ _ _ | exact impl_Clean.mono _ _ | exact LeO.refl _ | exact LeO.none _ | refine LeO.ite ?_ ?_ | refine LeO.bind ?_ (fun _ => ?_)) | exact LeO.none _ | refine LeO.ite ?_ ?_ | refine LeO.bind ?_ (fun _ => ?_))
theorem impl_FilesOk.mono : ∀ a0 k, LeO (impl_FilesOk.f k a0) (impl_FilesOk.f (k + 1) a0) := by
 intro a0 k
 have ih0 := impl_FilesOk.mono_l k
 unfold impl_FilesOk.f
 repeat' (first | (with_reducible first | exact ih0 _ _ _ _ | exact impl_Clean.mono _ _ | exact LeO.refl _ | exact LeO.none _ | refine LeO.ite ?_ ?_ | refine LeO.bind ?_ (fun _ => ?_)) | exact LeO.none _ | refine LeO.ite ?_ ?_ | refine LeO.bind ?_ (fun _ => ?_))
set_option maxHeartbeats 8000000 in
set_option maxRecDepth 100000 in
theorem impl_FilesOk.calls (k : Nat) (A0 : Option Addr) (c0 : Nat) (l0 : List (S33)) (r : Bool) (w : World) (hr0 : Kd.C k33 w A0 l0.length l0) (hc0 : l0.length ≤ c0) (HT : TabsL w) (h : impl_FilesOk.f k l0 = some r) :
  Calls Tryz.prog 23 #[.slice A0 l0.length c0] w fun e w' => e = .returned (.bool r) ∧ Below w.heap.size w w' := by
 have HTA := Aside0.mk HT
 clear HT
 have hu33 := Tryz.underlying33
 have HR0 := Aside0.mk hr0
 have HC0 := Aside0.mk hc0
 clear hr0 hc0
 have HB := Aside0.mk (Below.refl w.heap.size w)
 try unfold impl_FilesOk.f at h
 have H := h
 clear h
 have H' := Aside0.mk H
 clear H
 go_enter Tryz.func23, Tryz.ntmps23
 go_wp2
 go_loopg [7] k (fun kq v7 w' => ∃ (x7_1 : Int), v7 = .int .i64 x7_1 ∧ Aside0 (impl_FilesOk.l0 kq l0 l0 (l0.length : Int) x7_1 = some r) ∧ Aside0 (kq ≤ k) ∧ Aside0 (Below w.heap.size w w'))
 case atStart => exact ⟨(0), zt12, H', ⟨Nat.le_refl _⟩, ⟨zt3⟩⟩
 case round =>
  clear H'
  obtain ⟨x7_1, rfl, HA, HK1, HB⟩ := hrel
  cases gk with
  | zero => exact absurd HA.out (by simp [impl_FilesOk.l0])
  | succ k1 =>
   have H := HA.out
   clear HA
   simp only [impl_FilesOk.l0] at H
   by_cases c2 : x7_1 < (l0.length : Int)
   rw [if_pos c2] at H
   have c2b0 := decide_eq_true c2
   clear c2
   replace H := it0 H
   obtain ⟨c3, H⟩ := H
   have c3b0 : decide (0 ≤ x7_1) = true := decide_eq_true c3
   clear c3
   replace H := it0 H
   obtain ⟨c4, H⟩ := H
   have c4b0 := decide_eq_true c4
   clear c4
   replace H := bnd H
   obtain ⟨t221, A5, H⟩ := H
   try dsimp only at H
   by_cases c6 : t221.toList = ((rd_T33 l0 x7_1).f0).toList
   rw [if_pos c6] at H
   have c6b0 := beq_iff_eq.mpr c6
   have c6b1 := bne_eq_false_iff_eq.mpr c6
   clear c6
   by_cases c7 : ((rd_T33 l0 x7_1).f0).toList = ([47] : List UInt8)
   rw [if_pos c7] at H
   have c7b0 := beq_iff_eq.mpr c7
   have c7b1 := bne_eq_false_iff_eq.mpr c7
   clear c7
   obtain rfl := Option.some.inj H
   have p219 : 0 ≤ (x7_1 : Int) := of_decide_eq_true zt8
   have q219 : x7_1 < (l0.length : Int) := of_decide_eq_true zt8
   obtain ⟨ad219, e219, hx219_0, hx219_1⟩ := at_T33 HR0.out x7_1 p219 q219
   cases e219
   replace hx219_0 := (HB.out.cell (World.block_lt_of_cell? w _ hx219_0)).trans hx219_0
   replace hx219_1 := (HB.out.cell (World.block_lt_of_cell? w _ hx219_1)).trans hx219_1
   replace p219 := eq_true p219
   replace q219 := eq_true q219
   rotate_left
   rw [if_neg c7] at H
   have c7b0 := beq_eq_false_iff_ne.mpr c7
   have c7b1 := bne_iff_ne.mpr c7
   by_cases c13 : ((rd_T33 l0 x7_1).f0).toList = ([] : List UInt8)
   rw [if_pos c13] at H
   have c13b0 := beq_iff_eq.mpr c13
   have c13b1 := bne_eq_false_iff_eq.mpr c13
   have c13b2 : ((rd_T33 l0 x7_1).f0).toList.isEmpty = true := by have h_ := c13b0; simpa using h_
   (first | rw [c13b2] | skip)
   clear c13
   obtain rfl := Option.some.inj H
   have p219 : 0 ≤ (x7_1 : Int) := of_decide_eq_true zt8
   have q219 : x7_1 < (l0.length : Int) := of_decide_eq_true zt8
   obtain ⟨ad219, e219, hx219_0, hx219_1⟩ := at_T33 HR0.out x7_1 p219 q219
   cases e219
   replace hx219_0 := (HB.out.cell (World.block_lt_of_cell? w _ hx219_0)).trans hx219_0
   replace hx219_1 := (HB.out.cell (World.block_lt_of_cell? w _ hx219_1)).trans hx219_1
   replace p219 := eq_true p219
   replace q219 := eq_true q219
   rotate_left
   rw [if_neg c13] at H
   have c13b0 := beq_eq_false_iff_ne.mpr c13
   have c13b1 := bne_iff_ne.mpr c13
   have c13b2 : ((rd_T33 l0 x7_1).f0).toList.isEmpty = false := by have h_ := c13b0; simpa using h_
   (first | rw [c13b2] | skip)
   by_cases c19 : (((rd_T33 l0 x7_1).f1).size : Int) > 1500
   rw [if_pos c19] at H
   have c19b0 : decide (1500 < (((rd_T33 l0 x7_1).f1).size : Int)) = true := decide_eq_true c19
   have c19b1 : decide (1500 < ((rd_T33 l0 x7_1).f1).size) = true := decide_eq_true (by omega)
   clear c19
   obtain rfl := Option.some.inj H
   have p219 : 0 ≤ (x7_1 : Int) := of_decide_eq_true zt8
   have q219 : x7_1 < (l0.length : Int) := of_decide_eq_true zt8
   obtain ⟨ad219, e219, hx219_0, hx219_1⟩ := at_T33 HR0.out x7_1 p219 q219
   cases e219
   replace hx219_0 := (HB.out.cell (World.block_lt_of_cell? w _ hx219_0)).trans hx219_0
   replace hx219_1 := (HB.out.cell (World.block_lt_of_cell? w _ hx219_1)).trans hx219_1
   replace p219 := eq_true p219
   replace q219 := eq_true q219
   rotate_left
   rw [if_neg c19] at H
   have c19b0 : decide (1500 < (((rd_T33 l0 x7_1).f1).size : Int)) = false := decide_eq_false c19
   have c19b1 : decide (1500 < ((rd_T33 l0 x7_1).f1).size) = false := decide_eq_false (by omega)
   clear c19
   by_cases c25 : x7_1 > 0
   rw [if_pos c25] at H
   have c25b0 : decide (0 < x7_1) = true := decide_eq_true c25
   clear c25
   obtain ⟨ji26, hji26⟩ : ∃ j_ : Int, (wrap64 (x7_1 - 1)) = j_ := ⟨_, rfl⟩
   replace H : (if 0 ≤ (ji26) then (if (ji26) < (l0.length : Int) then (if ((Op.bytesLess (((rd_T33 l0 (ji26)).f0).toList) (((rd_T33 l0 x7_1).f0).toList)) = true) then (impl_FilesOk.l0 k1 l0 l0 (l0.length : Int) (wrap64 (x7_1 + 1))) else (some false)) else (none)) else (none)) = some r := by first | (rw [hji26] at H; exact H) | (simp only [hji26] at H ⊢; exact H)
   (try rw [hji26] at A5)
   have hji26w : (IntKind.i64.wrap (x7_1 - 1)) = ji26 := (i64_w _).trans hji26
   replace H := it0 H
   obtain ⟨c27, H⟩ := H
   have c27b0 := decide_eq_true c27
   clear c27
   replace H := it0 H
   obtain ⟨c28, H⟩ := H
   have c28b0 := decide_eq_true c28
   clear c28
   by_cases c29 : ((Op.bytesLess (((rd_T33 l0 (ji26)).f0).toList) (((rd_T33 l0 x7_1).f0).toList)) = true)
   rw [if_pos c29] at H
   have c29b0 : (Op.bytesLess (((rd_T33 l0 (ji26)).f0).toList) (((rd_T33 l0 x7_1).f0).toList)) = true := c29
   clear c29
   have H' := Aside0.mk H
   clear H
   have p219 : 0 ≤ (x7_1 : Int) := of_decide_eq_true zt8
   have q219 : x7_1 < (l0.length : Int) := of_decide_eq_true zt8
   obtain ⟨ad219, e219, hx219_0, hx219_1⟩ := at_T33 HR0.out x7_1 p219 q219
   cases e219
   replace hx219_0 := (HB.out.cell (World.block_lt_of_cell? w _ hx219_0)).trans hx219_0
   replace hx219_1 := (HB.out.cell (World.block_lt_of_cell? w _ hx219_1)).trans hx219_1
   replace p219 := eq_true p219
   replace q219 := eq_true q219
   rotate_left
   rw [if_neg c29] at H
   have c29b0 : (Op.bytesLess (((rd_T33 l0 (ji26)).f0).toList) (((rd_T33 l0 x7_1).f0).toList)) = false := by simpa using c29
   clear c29
   obtain rfl := Option.some.inj H
   have p219 : 0 ≤ (x7_1 : Int) := of_decide_eq_true zt8
   have q219 : x7_1 < (l0.length : Int) := of_decide_eq_true zt8
   obtain ⟨ad219, e219, hx219_0, hx219_1⟩ := at_T33 HR0.out x7_1 p219 q219
   cases e219
   replace hx219_0 := (HB.out.cell (World.block_lt_of_cell? w _ hx219_0)).trans hx219_0
   replace hx219_1 := (HB.out.cell (World.block_lt_of_cell? w _ hx219_1)).trans hx219_1
   replace p219 := eq_true p219
   replace q219 := eq_true q219
   rotate_left
   rw [if_neg c25] at H
   have c25b0 : decide (0 < x7_1) = false := decide_eq_false c25
   clear c25
   have H' := Aside0.mk H
   clear H
   have p219 : 0 ≤ (x7_1 : Int) := of_decide_eq_true zt8
   have q219 : x7_1 < (l0.length : Int) := of_decide_eq_true zt8
   obtain ⟨ad219, e219, hx219_0, hx219_1⟩ := at_T33 HR0.out x7_1 p219 q219
   cases e219
   replace hx219_0 := (HB.out.cell (World.block_lt_of_cell? w _ hx219_0)).trans hx219_0
   replace hx219_1 := (HB.out.cell (World.block_lt_of_cell? w _ hx219_1)).trans hx219_1
   replace p219 := eq_true p219
   replace q219 := eq_true q219
   rotate_left
   rw [if_neg c6] at H
   have c6b0 := beq_eq_false_iff_ne.mpr c6
   have c6b1 := bne_iff_ne.mpr c6
   obtain rfl := Option.some.inj H
   have p219 : 0 ≤ (x7_1 : Int) := of_decide_eq_true zt8
   have q219 : x7_1 < (l0.length : Int) := of_decide_eq_true zt8
   obtain ⟨ad219, e219, hx219_0, hx219_1⟩ := at_T33 HR0.out x7_1 p219 q219
   cases e219
   replace hx219_0 := (HB.out.cell (World.block_lt_of_cell? w _ hx219_0)).trans hx219_0
   replace hx219_1 := (HB.out.cell (World.block_lt_of_cell? w _ hx219_1)).trans hx219_1
   replace p219 := eq_true p219
   replace q219 := eq_true q219
   rotate_left
   rw [if_neg c2] at H
   have c2b0 := decide_eq_false c2
   clear c2
   obtain rfl := Option.some.inj H
   rotate_left
   all_goals try ((try go_wp2_with (first | ((with_reducible refine gate_dst (N := 4) rfl ?_); (try (refine gate_guard (by rfl) ?_; dsimp only)); refine box_event ?hg (N := 4) ?hd (cs := #[.string (⟨#[]⟩ : ByteArray), .string (⟨#[]⟩ : ByteArray)]) (t := 33) ?hr ?_; (case hd => rfl); (case hg => rfl); (case hr => first | (go_simp; done) | (go_simp; rfl)); intro gb7000 hg w7001 hbox hb; have n0_ := Aside0.mk (below_step zt3 hb); have n1_ := Aside0.mk (hbox); have n2_ := Aside0.mk ((zt13 : w.heap.size ≤ gb7000)); have n3_ := Aside0.mk ((zt13 : w.heap.size ≤ gb7000)); clear HB; have HB := n0_; have BK7000 := n1_; have GW7000 := n2_; have GE7000 := n3_; clear n0_ n1_ n2_ n3_; clear hb hbox hg; have hcz7002_0 : w7001.cell? ⟨gb7000, 0, none⟩ = some (.string (⟨#[]⟩ : ByteArray)) := (blk_cell BK7000.out 0).trans rfl; have hcz7002_1 : w7001.cell? ⟨gb7000, 1, none⟩ = some (.string (⟨#[]⟩ : ByteArray)) := (blk_cell BK7000.out 1).trans rfl; have hfz7002_0 := blk_frozen BK7000.out 0; have hfz7002_1 := blk_frozen BK7000.out 1))); (have n0_ : Aside0 (((w7001.setCell ⟨gb7000, 0, none⟩ (.string ((rd_T33 l0 x7_1).f0))).setCell ⟨gb7000, 1, none⟩ (.string ((rd_T33 l0 x7_1).f1))).heap[gb7000]? = some (.cells #[.string ((rd_T33 l0 x7_1).f0), .string ((rd_T33 l0 x7_1).f1)] 33 (0, 0))) := ⟨by (with_reducible repeat (first | refine blk_drewN ?_ _ | refine blk_drew ?_ | refine blk_alloc ?_ _)); refine blk_put (cs := #[.string ((rd_T33 l0 x7_1).f0), .string (⟨#[]⟩ : ByteArray)]) ?_ 1 _ rfl; (with_reducible repeat (first | refine blk_drewN ?_ _ | refine blk_drew ?_ | refine blk_alloc ?_ _)); refine blk_put (cs := #[.string (⟨#[]⟩ : ByteArray), .string (⟨#[]⟩ : ByteArray)]) ?_ 0 _ rfl; (with_reducible repeat (first | refine blk_drewN ?_ _ | refine blk_drew ?_ | refine blk_alloc ?_ _)); exact BK7000.out⟩); (have n1_ : Aside0 (Below w.heap.size w ((w7001.setCell ⟨gb7000, 0, none⟩ (.string ((rd_T33 l0 x7_1).f0))).setCell ⟨gb7000, 1, none⟩ (.string ((rd_T33 l0 x7_1).f1)))) := ⟨zt27⟩); ((try clear BK7000)); ((try clear HB)); (generalize ((w7001.setCell ⟨gb7000, 0, none⟩ (.string ((rd_T33 l0 x7_1).f0))).setCell ⟨gb7000, 1, none⟩ (.string ((rd_T33 l0 x7_1).f1))) = w7003 at n0_ n1_ ⊢); (have BK7000 := n0_); (have HB := n1_); (clear n0_ n1_); (have n0_ := Aside0.mk (blk_drew BK7000.out)); (have n1_ := Aside0.mk (below_drew1 HB.out)); (clear BK7000); (clear HB); (have BK7000 := n0_); (have HB := n1_); (clear n0_ n1_); (refine wp_quiet_drew (by kernel_rfl) (by kernel_rfl) ?_); (generalize w7003.drew = w7004 at BK7000 HB ⊢); (have hS_ : (fun w' => w'.cell? ⟨gb7000, 0, none⟩ = some (.string ((rd_T33 l0 x7_1).f0)) ∧ w'.cell? ⟨gb7000, 1, none⟩ = some (.string ((rd_T33 l0 x7_1).f1))) w7004 := ⟨(blk_cell BK7000.out 0).trans rfl, (blk_cell BK7000.out 1).trans rfl⟩); (obtain ⟨hq0_, hq1_⟩ := hS_); (replace hq0_ := cell_regrown hq0_); (replace hq1_ := cell_regrown hq1_); (repeat (first | go_big_quiet_skip | quiet_step (first | (go_at_call 43; exact Calls.regrown_of (impl_Clean.calls k1 ((rd_T33 l0 x7_1).f0) t221 _ (TabsL.below HTA.out (below_step HB.out (below_regrown _ _ _))) A5.out))))); (refine wpQuiet_nil ?_); (intro _ hw'); (obtain ⟨⟨nq, osq⟩, hw''⟩ := hw'); (subst hw''); (have hb := below_regrown w7004 nq osq); (generalize Sort.grow (redrawn w7004 nq) osq = w7005 at hb ⊢); (have n0_ := Aside0.mk (blk_below (g := gb7000) (o := .cells #[.string ((rd_T33 l0 x7_1).f0), .string ((rd_T33 l0 x7_1).f1)] 33 (0, 0)) (oz BK7000.out) hb)); (have n1_ := Aside0.mk (below_step zt27 hb)); (clear BK7000); (clear HB); (have BK7000 := n0_); (have HB := n1_); (clear n0_ n1_); (clear hb hq0_ hq1_); (try go_wp2); (first | (go_ret; exact ⟨zt10, zt27⟩) | (go_roundg k1; (case measure => have := HK1.out; omega); (case rel => exact ⟨(wrap64 (x7_1 + 1)), zt12, H', ⟨by have := HK1.out; omega⟩, ⟨zt27⟩⟩))))
   all_goals try ((try go_wp2_with (first | ((with_reducible refine gate_dst (N := 4) rfl ?_); (try (refine gate_guard (by rfl) ?_; dsimp only)); refine box_event ?hg (N := 4) ?hd (cs := #[.string (⟨#[]⟩ : ByteArray), .string (⟨#[]⟩ : ByteArray)]) (t := 33) ?hr ?_; (case hd => rfl); (case hg => rfl); (case hr => first | (go_simp; done) | (go_simp; rfl)); intro gb7000 hg w7001 hbox hb; have n0_ := Aside0.mk (below_step zt3 hb); have n1_ := Aside0.mk (hbox); have n2_ := Aside0.mk ((zt13 : w.heap.size ≤ gb7000)); have n3_ := Aside0.mk ((zt13 : w.heap.size ≤ gb7000)); clear HB; have HB := n0_; have BK7000 := n1_; have GW7000 := n2_; have GE7000 := n3_; clear n0_ n1_ n2_ n3_; clear hb hbox hg; have hcz7002_0 : w7001.cell? ⟨gb7000, 0, none⟩ = some (.string (⟨#[]⟩ : ByteArray)) := (blk_cell BK7000.out 0).trans rfl; have hcz7002_1 : w7001.cell? ⟨gb7000, 1, none⟩ = some (.string (⟨#[]⟩ : ByteArray)) := (blk_cell BK7000.out 1).trans rfl; have hfz7002_0 := blk_frozen BK7000.out 0; have hfz7002_1 := blk_frozen BK7000.out 1))); (have n0_ : Aside0 (((w7001.setCell ⟨gb7000, 0, none⟩ (.string ((rd_T33 l0 x7_1).f0))).setCell ⟨gb7000, 1, none⟩ (.string ((rd_T33 l0 x7_1).f1))).heap[gb7000]? = some (.cells #[.string ((rd_T33 l0 x7_1).f0), .string ((rd_T33 l0 x7_1).f1)] 33 (0, 0))) := ⟨by (with_reducible repeat (first | refine blk_drewN ?_ _ | refine blk_drew ?_ | refine blk_alloc ?_ _)); refine blk_put (cs := #[.string ((rd_T33 l0 x7_1).f0), .string (⟨#[]⟩ : ByteArray)]) ?_ 1 _ rfl; (with_reducible repeat (first | refine blk_drewN ?_ _ | refine blk_drew ?_ | refine blk_alloc ?_ _)); refine blk_put (cs := #[.string (⟨#[]⟩ : ByteArray), .string (⟨#[]⟩ : ByteArray)]) ?_ 0 _ rfl; (with_reducible repeat (first | refine blk_drewN ?_ _ | refine blk_drew ?_ | refine blk_alloc ?_ _)); exact BK7000.out⟩); (have n1_ : Aside0 (Below w.heap.size w ((w7001.setCell ⟨gb7000, 0, none⟩ (.string ((rd_T33 l0 x7_1).f0))).setCell ⟨gb7000, 1, none⟩ (.string ((rd_T33 l0 x7_1).f1)))) := ⟨zt27⟩); ((try clear BK7000)); ((try clear HB)); (generalize ((w7001.setCell ⟨gb7000, 0, none⟩ (.string ((rd_T33 l0 x7_1).f0))).setCell ⟨gb7000, 1, none⟩ (.string ((rd_T33 l0 x7_1).f1))) = w7003 at n0_ n1_ ⊢); (have BK7000 := n0_); (have HB := n1_); (clear n0_ n1_); (have n0_ := Aside0.mk (blk_drew BK7000.out)); (have n1_ := Aside0.mk (below_drew1 HB.out)); (clear BK7000); (clear HB); (have BK7000 := n0_); (have HB := n1_); (clear n0_ n1_); (have p7004 : 0 ≤ ((ji26) : Int) := of_decide_eq_true zt8); (have q7004 : (ji26) < (l0.length : Int) := of_decide_eq_true zt8); (obtain ⟨ad7004, e7004, hx7004_0, hx7004_1⟩ := at_T33 HR0.out (ji26) p7004 q7004); (have hw7004_1 := hx7004_1); (have hw7004_0 := hx7004_0); (obtain rfl : ad219 = ad7004 := (by injection e7004)); (replace hx7004_0 := (HB.out.cell (World.block_lt_of_cell? w _ hx7004_0)).trans hx7004_0); (replace hx7004_1 := (HB.out.cell (World.block_lt_of_cell? w _ hx7004_1)).trans hx7004_1); (replace p7004 := eq_true p7004); (replace q7004 := eq_true q7004); (refine wp_quiet_drew (by kernel_rfl) (by kernel_rfl) ?_); (generalize w7003.drew = w7005 at BK7000 HB hx7004_0 hx7004_1 ⊢); (have hS_ : (fun w' => w'.cell? ⟨gb7000, 0, none⟩ = some (.string ((rd_T33 l0 x7_1).f0)) ∧ w'.cell? ⟨gb7000, 1, none⟩ = some (.string ((rd_T33 l0 x7_1).f1)) ∧ w'.cell? (ad219.add (((ji26)).toNat * 2)) = some (.string ((rd_T33 l0 (ji26)).f0)) ∧ w'.cell? ⟨(ad219.add (((ji26)).toNat * 2)).block, (ad219.add (((ji26)).toNat * 2)).off + 1, none⟩ = some (.string ((rd_T33 l0 (ji26)).f1))) w7005 := ⟨(blk_cell BK7000.out 0).trans rfl, (blk_cell BK7000.out 1).trans rfl, ((HB.out.cell (World.block_lt_of_cell? w _ hw7004_0)).trans hw7004_0), ((HB.out.cell (World.block_lt_of_cell? w _ hw7004_1)).trans hw7004_1)⟩); (obtain ⟨hq0_, hq1_, hq2_, hq3_⟩ := hS_); (replace hq0_ := cell_regrown hq0_); (replace hq1_ := cell_regrown hq1_); (replace hq2_ := cell_regrown hq2_); (replace hq3_ := cell_regrown hq3_); (repeat (first | go_big_quiet_skip | quiet_step (first | (go_at_call 43; exact Calls.regrown_of (impl_Clean.calls k1 ((rd_T33 l0 x7_1).f0) t221 _ (TabsL.below HTA.out (below_step HB.out (below_regrown _ _ _))) A5.out))))); (refine wpQuiet_nil ?_); (intro _ hw'); (obtain ⟨⟨nq, osq⟩, hw''⟩ := hw'); (subst hw''); (have hb := below_regrown w7005 nq osq); (generalize Sort.grow (redrawn w7005 nq) osq = w7006 at hb ⊢); (have n0_ := Aside0.mk (blk_below (g := gb7000) (o := .cells #[.string ((rd_T33 l0 x7_1).f0), .string ((rd_T33 l0 x7_1).f1)] 33 (0, 0)) (oz BK7000.out) hb)); (have n1_ := Aside0.mk (below_step zt27 hb)); (clear BK7000); (clear HB); (have BK7000 := n0_); (have HB := n1_); (clear n0_ n1_); (clear hb hq0_ hq1_ hq2_ hq3_); (try go_wp2); (first | (go_roundg k1; (case measure => have := HK1.out; omega); (case rel => exact ⟨(wrap64 (x7_1 + 1)), zt12, H', ⟨by have := HK1.out; omega⟩, ⟨zt27⟩⟩)) | (go_ret; exact ⟨by first | rfl | (simp [errW_none, errW_some] <;> rfl) | (simp only [← hji26]; first | rfl | (simp [errW_none, errW_some] <;> rfl)) | (simp [*, errW_none, errW_some] <;> rfl), zt27⟩)))
   all_goals try ((go_wp2); (first | (go_ret; exact ⟨zt10, zt3⟩)))

end Go.Proofs.YtkmcnjpgamaljaaGreatDoor.PFnFiles
namespace Go.Proofs.YtkmcnjpgamaljaaGreatDoor.PFnFiles
open Go.RowKit Go.Proofs.YtkmcnjpgamaljaaGreatDoorW.PrintWords Go.Proofs.YtkmcnjpgamaljaaGreatDoorW.PrintLast Go.Proofs.YtkmcnjpgamaljaaGreatDoorW.PrintMore
attribute [local go_sem] max2_int min2_int max_two min_two max_three min_three max_four min_four   -- for this text's walks alone
set_option linter.unusedVariables false
set_option linter.unusedSimpArgs false

/-! ### impl_ReadFiles: function 6 (a contract of mine) -/
def impl_ReadFiles.l0 : Nat → ByteArray → Bool → Int → Int → List S33 → Option (ByteArray × Bool × List S33)
 | 0, _, _, _, _, _ => none
 | k + 1, s, b, i, n, out => if i < n then ((impl_reader_piece.f k s b).bind fun p => ((impl_reader_piece.f k p.2.1 p.2.2).bind fun q => (if out.length < 4398046511104 then (impl_ReadFiles.l0 k q.2.1 q.2.2 (wrap64 (i + 1)) n (out ++ [(⟨p.1, q.1⟩ : S33)])) else none))) else some (s, b, out)
def impl_ReadFiles.f (k : Nat) (a0 : ByteArray) : Option (List S33 × Bool) :=
 (impl_reader_head.f a0 false 102).bind fun h => ((impl_reader_number.f k h.1 h.2 8).bind fun n => ((impl_ReadFiles.l0 k n.2.1 n.2.2 0 n.1 []).bind fun x => ((impl_reader_done.f x.1 x.2.1).bind fun d => (if d.1 = true then ((impl_FilesOk.f k x.2.2).bind fun ok => (if ok = true then some (x.2.2, true) else some ([], false))) else some ([], false)))))
theorem impl_ReadFiles.mono_l : ∀ k, (∀ y0 y1 y2 y3 y4, LeO (impl_ReadFiles.l0 k y0 y1 y2 y3 y4) (impl_ReadFiles.l0 (k + 1) y0 y1 y2 y3 y4))
 | 0 => fun _ _ _ _ _ r h => by simp [impl_ReadFiles.l0] at h
 | k + 1 => by
  have ih0 := impl_ReadFiles.mono_l k
  intro y0 y1 y2 y3 y4
  unfold impl_ReadFiles.l0
  repeat' (first | (with_reducible first | exact ih0 _ _ _ _ _ | exact impl_reader_piece.mono _ _ _ | exact LeO.refl _ | exact LeO.none _ | refine LeO.ite ?_ ?_ | refine LeO.bind ?_ (fun _ => ?_)) | exact LeO.none _ | refine LeO.ite ?_ ?_ | refine LeO.bind ?_ (fun _ => ?_))
theorem impl_ReadFiles.mono : ∀ a0 k, LeO (impl_ReadFiles.f k a0) (impl_ReadFiles.f (k + 1) a0) := by
 intro a0 k
 have ih0 := impl_ReadFiles.mono_l k
 unfold impl_ReadFiles.f
 repeat' (first | (with_reducible first | exact ih0 _ _ _ _ _ | exact impl_reader_number.mono _ _ _ _ | exact impl_FilesOk.mono _ _ | exact LeO.refl _ | exact LeO.none _ | refine LeO.ite ?_ ?_ | refine LeO.bind ?_ (fun _ => ?_)) | exact LeO.none _ | refine LeO.ite ?_ ?_ | refine LeO.bind ?_ (fun _ => ?_))
set_option maxHeartbeats 8000000 in
set_option maxRecDepth 100000 in
theorem impl_ReadFiles.calls (k : Nat) (a0 : ByteArray) (r1 : List S33) (r2 : Bool) (w : World) (HT : TabsL w) (h : impl_ReadFiles.f k a0 = some (r1, r2)) :
  Calls Tryz.prog 6 #[.string a0] w fun e w' => ∃ v0_ : Value, e = .returned (.tuple #[v0_, .bool r2]) ∧ Kd.R k33 33 w' w.heap.size (fun _ => True) v0_ r1 ∧ Below w.heap.size w w' := by
 have hu1 := Tryz.underlying33
 have hu2 := Tryz.underlying44
 unfold impl_ReadFiles.f at h
 obtain ⟨⟨h1, h2⟩, e1, h⟩ := Option.bind_eq_some_iff.mp h
 obtain ⟨⟨n1, n2, n3⟩, e2, h⟩ := Option.bind_eq_some_iff.mp h
 obtain ⟨⟨x1, x2, x3⟩, e3, h⟩ := Option.bind_eq_some_iff.mp h
 obtain ⟨⟨d1, d2, d3⟩, e4, h⟩ := Option.bind_eq_some_iff.mp h
 have A1 := Aside0.mk e1
 have A2 := Aside0.mk e2
 have A3 := Aside0.mk e3
 have A4 := Aside0.mk e4
 have A5 := Aside0.mk h
 have HTA := Aside0.mk HT
 clear e1 e2 e3 e4 h HT
 go_enter Tryz.func6, Tryz.ntmps6
 go_wp2_with (first
  | (go_at_call 19; refine (impl_reader_head.calls w.heap.size a0 false 102 h1 h2 w _ ⟨blk_new w _, Nat.le_refl _⟩ (below_alloc (Below.refl _ _) _) A1.out).mono ?_; rintro e w1 ⟨rfl, hi, hb, -⟩; have HI := Aside0.mk hi; have HB := Aside0.mk hb; clear hi hb)
  | ((with_reducible refine gate_dst (N := 12) rfl ?_); refine Kd.R_lit k33 _ 33 ?hg (N := 12) ?hd (xs := ([] : List S33)) (inner := []) (ok := fun _ => True) (okp := fun _ => True) ?hr ?hp (fun _ hk => hk) trivial (Below.refl _ _) (Nat.le_refl _) (by simp) ?_; (case hd => rfl); (case hg => rfl); (case hr => first | (go_simp; done) | (go_simp; rfl)); (case hp => exact (Reps.none _ _)); intro vo w4 ho5 hb hg_ hnew_; clear hg_ hnew_; have n0_ := Aside0.mk (Kd.R_lower ho5 (below_size HB.out)); have n1_ := Aside0.mk (below_step HB.out hb); have n2_ := Aside0.mk (IsS44.below HI.out hb); clear HB HI; have HO := n0_; have HB := n1_; have HI := n2_; clear n0_ n1_ n2_ hb ho5)
  | (go_at_call 20; refine (impl_reader_number.calls k w.heap.size h1 h2 8 n1 n2 n3 w _ HI.out HB.out A2.out).mono ?_; rintro e w5 ⟨rfl, hi, hb, hk⟩; have n0_ := Aside0.mk (Kd.R_mono (Kd.R_keep (IsS44.apart HI.out HO.out (by decide)) hk (fun _ h => h.2)) (fun _ h => h.1)); have n1_ := Aside0.mk hi; have n2_ := Aside0.mk hb; clear HO HI HB; have HO := n0_; have HI := n1_; have HB := n2_; clear n0_ n1_ n2_ hi hb hk))
 go_loopg [5, 15] k (fun kq v5 v15 w' => ∃ (out : List S33) (s : ByteArray) (b : Bool) (i : Int), v15 = .int .i64 i ∧ Aside0 (impl_ReadFiles.l0 kq s b i n1 out = some (x1, x2, x3)) ∧ Aside0 (kq ≤ k) ∧ Aside0 (Kd.R k33 33 w' w.heap.size (fun _ => True) v5 out) ∧ Aside0 (IsS44 w w' w.heap.size s b) ∧ Aside0 (Below w.heap.size w w'))
 case atStart => exact ⟨[], n2, n3, 0, rfl, ⟨A3.out⟩, ⟨Nat.le_refl _⟩, ⟨HO.out⟩, ⟨HI.out⟩, ⟨HB.out⟩⟩
 case round =>
  clear HO HI HB A3
  obtain ⟨out, s, b, i, rfl, HA, HK1, HO, HI, HB⟩ := hrel
  cases gk with
  | zero => exact absurd HA.out (by simp [impl_ReadFiles.l0])
  | succ k1 =>
   have H := HA.out
   clear HA
   simp only [impl_ReadFiles.l0] at H
   by_cases c : i < n1
   ·rw [if_pos c] at H
    obtain ⟨⟨p1, p2, p3⟩, e5, H⟩ := Option.bind_eq_some_iff.mp H
    obtain ⟨⟨q1, q2, q3⟩, e6, H⟩ := Option.bind_eq_some_iff.mp H
    by_cases c16 : out.length < 4398046511104
    case neg => rw [if_neg c16] at H; cases H
    rw [if_pos c16] at H
    have LM := Aside0.mk c16
    have A6 := Aside0.mk e5
    have A7 := Aside0.mk e6
    have A8 := Aside0.mk H
    have cb : decide (i < n1) = true := decide_eq_true c
    clear c c16 e5 e6 H
    go_wp2_with (first
     | (go_at_call 21; refine (impl_reader_piece.calls k1 w.heap.size s b p1 p2 p3 w _ HI.out HB.out A6.out).mono ?_; rintro e w6 ⟨rfl, hi, hb, hk⟩; have n0_ := Aside0.mk (Kd.R_mono (Kd.R_keep (IsS44.apart HI.out HO.out (by decide)) hk (fun _ h => h.2)) (fun _ h => h.1)); have n1_ := Aside0.mk hi; have n2_ := Aside0.mk hb; clear HO HI HB; have HO := n0_; have HI := n1_; have HB := n2_; clear n0_ n1_ n2_ hi hb hk)
     | (go_at_call 21; refine (impl_reader_piece.calls k1 w.heap.size p2 p3 q1 q2 q3 w _ HI.out HB.out A7.out).mono ?_; rintro e w7 ⟨rfl, hi, hb, hk⟩; have n0_ := Aside0.mk (Kd.R_mono (Kd.R_keep (IsS44.apart HI.out HO.out (by decide)) hk (fun _ h => h.2)) (fun _ h => h.1)); have n1_ := Aside0.mk hi; have n2_ := Aside0.mk hb; clear HO HI HB; have HO := n0_; have HI := n1_; have HB := n2_; clear n0_ n1_ n2_ hi hb hk)
     | ((with_reducible refine gate_builtin (b := .append) (xs := #[.tmp 19, .tmp 24]) rfl ?_); at_builtin; refine Kd.R_append k33 (w0 := w) w.heap.size rfl (.tmp 19) (.tmp 24) 24 33 (.agg #[(.string ⟨#[]⟩), (.string ⟨#[]⟩)]) 32 rfl Tryz.underlying24 info33 rfl (by decide) (by omega) u5 out (⟨p1, q1⟩ : S33) [.string p1, .string q1] (fun _ => True) (fun _ => False) rfl rfl ?aP (fun _ hk => hk.elim) ?aF ?aO ?aB ?aS ?aL ?_; (case aP => exact k33_mkM _ _ _ (⟨p1, q1⟩ : S33)); (case aB => exact zt3); (case aF => exact (fun _ _ => trivial)); (case aO => exact (rz HO.out)); (case aS => exact (below_size zt3)); (case aL => have := LM.out; omega); intro vn w8 ho hb hg hat; have n1_ := Aside0.mk (IsS44.grown (by repeat (first | (with_reducible first | exact HI.out | apply IsS44.alloc | apply IsS44.drewN | apply IsS44.drew) | exact HI.out)) hg (IsS44.own_ne HI.out HO.out (by decide))); have n0_ := Aside0.mk ho; have n2_ := Aside0.mk hb; clear HO HI HB; have HO := n0_; have HI := n1_; have HB := n2_; clear n0_ n1_ n2_ ho hb hg hat))
    go_roundg k1
    case measure => have := HK1.out; omega
    case rel => exact ⟨out ++ [⟨p1, q1⟩], q2, q3, wrap64 (i + 1), (by first | rfl | (simp; done)), ⟨A8.out⟩, ⟨by have := HK1.out; omega⟩, ⟨HO.out⟩, ⟨HI.out⟩, ⟨HB.out⟩⟩
   ·rw [if_neg c] at H
    simp only [Option.some.injEq, Prod.mk.injEq] at H
    obtain ⟨rfl, rfl, rfl⟩ := H
    have cb : decide (i < n1) = false := decide_eq_false c
    clear c
    obtain ⟨Ao, co, eo⟩ := Kd.R_slice HO.out
    subst eo
    have H5 := A5.out
    clear A5
    try simp only at H5
    cases d1 with
    | false =>
     rw [if_neg (by simp)] at H5
     simp only [Option.some.injEq, Prod.mk.injEq] at H5
     obtain ⟨rfl, rfl⟩ := H5
     go_wp2_with (first
      | (go_at_call 22; refine (impl_reader_done.calls w.heap.size s b false d2 d3 w _ HI.out HB.out A4.out).mono ?_; rintro e w6 ⟨rfl, hi, hb, hk⟩; have n2_ := Aside0.mk hb; clear HB; have HB := n2_; clear n2_ hb hi hk))
     go_ret2
     exact ⟨_, rfl, Kd.R_nil _ _ _ _ _, HB.out⟩
    | true =>
     rw [if_pos rfl] at H5
     obtain ⟨ok, e7, H5⟩ := Option.bind_eq_some_iff.mp H5
     have A9 := Aside0.mk e7
     clear e7
     cases ok with
     | false =>
      rw [if_neg (by simp)] at H5
      simp only [Option.some.injEq, Prod.mk.injEq] at H5
      obtain ⟨rfl, rfl⟩ := H5
      go_wp2_with (first
       | (go_at_call 22; refine (impl_reader_done.calls w.heap.size s b true d2 d3 w _ HI.out HB.out A4.out).mono ?_; rintro e w6 ⟨rfl, hi, hb, hk⟩; have n0_ := Aside0.mk (Kd.R_mono (Kd.R_keep (IsS44.apart HI.out HO.out (by decide)) hk (fun _ h => h.2)) (fun _ h => h.1)); have n2_ := Aside0.mk hb; clear HB HO; have HB := n2_; have HO := n0_; clear n0_ n2_ hb hi hk)
       | (go_at_call 23; refine (impl_FilesOk.calls k _ _ out false _ (Kd.R_reads' HO.out).2.2 (Kd.R_reads' HO.out).2.1 (TabsL.below HTA.out HB.out) A9.out).mono ?_; rintro e w7 ⟨rfl, hb⟩; have n2_ := Aside0.mk (below_step HB.out hb); clear HB; have HB := n2_; clear n2_ hb))
      go_ret2
      exact ⟨_, rfl, Kd.R_nil _ _ _ _ _, HB.out⟩
     | true =>
      rw [if_pos rfl] at H5
      simp only [Option.some.injEq, Prod.mk.injEq] at H5
      obtain ⟨rfl, rfl⟩ := H5
      go_wp2_with (first
       | (go_at_call 22; refine (impl_reader_done.calls w.heap.size s b true d2 d3 w _ HI.out HB.out A4.out).mono ?_; rintro e w6 ⟨rfl, hi, hb, hk⟩; have n0_ := Aside0.mk (Kd.R_mono (Kd.R_keep (IsS44.apart HI.out HO.out (by decide)) hk (fun _ h => h.2)) (fun _ h => h.1)); have n2_ := Aside0.mk hb; clear HB HO; have HB := n2_; have HO := n0_; clear n0_ n2_ hb hi hk)
       | (go_at_call 23; refine (impl_FilesOk.calls k _ _ out true _ (Kd.R_reads' HO.out).2.2 (Kd.R_reads' HO.out).2.1 (TabsL.below HTA.out HB.out) A9.out).mono ?_; rintro e w7 ⟨rfl, hb⟩; have n0_ := Aside0.mk (Kd.R_below HO.out hb); have n2_ := Aside0.mk (below_step HB.out hb); clear HB HO; have HB := n2_; have HO := n0_; clear n0_ n2_ hb))
      go_ret2
      exact ⟨_, rfl, HO.out, HB.out⟩

/-! ### impl_Var: function 24 -/
def impl_Var.l0 : Nat → Int → List Int → Option (ByteArray)
 | 0, _, _ => none
 | k + 1, x0, x3 => if x0 > 127 then (if x3.length < 140737488355328 then (impl_Var.l0 k (x0 / 128) (x3 ++ [(Go.bits .or .i64 (Go.bits .and .i64 x0 127) 128) % 256])) else (none)) else (if x3.length < 140737488355328 then (some (strOfNums (x3 ++ [(x0) % 256]))) else (none))
def impl_Var.f (k : Nat) (a0 : Int) : Option (ByteArray) := (impl_in.f a0 0 562949953421311).bind fun t223 => (if t223 = true then (impl_Var.l0 k a0 (([] : List Int))) else (some (⟨#[]⟩ : ByteArray)))
theorem impl_Var.mono_l : ∀ k, (∀ y0 y1, LeO (impl_Var.l0 k y0 y1) (impl_Var.l0 (k + 1) y0 y1))
 | 0 => fun _ _ r h => by simp [impl_Var.l0] at h
 | k + 1 => by
  have ih0 := impl_Var.mono_l k
  ·intro y0 y1
   unfold impl_Var.l0
   repeat' (first | (with_reducible first | exact ih0 _ _ | exact LeO.refl _ | exact LeO.none _ | refine LeO.ite ?_ ?_ | refine LeO.bind ?_ (fun _ => ?_)) | exact LeO.none _ | refine LeO.ite ?_ ?_ | refine LeO.bind ?_ (fun _ => ?_))
theorem impl_Var.mono : ∀ a0 k, LeO (impl_Var.f k a0) (impl_Var.f (k + 1) a0) := by
 intro a0 k
 have ih0 := impl_Var.mono_l k
 unfold impl_Var.f
 repeat' (first | (with_reducible first | exact ih0 _ _ | exact LeO.refl _ | exact LeO.none _ | refine LeO.ite ?_ ?_ | refine LeO.bind ?_ (fun _ => ?_)) | exact LeO.none _ | refine LeO.ite ?_ ?_ | refine LeO.bind ?_ (fun _ => ?_))
set_option maxHeartbeats 8000000 in
set_option maxRecDepth 100000 in
theorem impl_Var.calls (k : Nat) (a0 : Int) (r : ByteArray) (w : World) (h : impl_Var.f k a0 = some r) :
  Calls Tryz.prog 24 #[.int .i64 a0] w fun e w' => e = .returned (.string r) ∧ Below w.heap.size w w' := by
 have HB := Aside0.mk (Below.refl w.heap.size w)
 try unfold impl_Var.f at h
 have H := h
 clear h
 replace H := bnd H
 obtain ⟨t223, A2, H⟩ := H
 try dsimp only at H
 by_cases c3 : t223 = true
 ·subst c3
  rw [if_pos rfl] at H
  obtain ⟨y224, hy224⟩ : ∃ y_ : List Int, y_ = (([] : List Int)) := ⟨_, rfl⟩
  replace H : (impl_Var.l0 k a0 y224) = some r := by first | (rw [hy224]; with_reducible exact H) | (have H2_ := (Option.bind_some _ _).symm.trans H; rw [hy224]; with_reducible exact H2_) | (have H2_ := (Option.bind_some _ _).symm.trans H; with_reducible exact H2_) | with_reducible exact H | (rw [hy224]; exact H) | exact H
  have Ny224 := Aside0.mk hy224
  clear hy224
  have H' := Aside0.mk H
  clear H
  go_enter Tryz.func24, Tryz.ntmps24
  go_wp2_with (first | ((with_reducible refine gate_callee (f := 44) rfl ?_); refine goesL_ (some 5) rfl rfl Tryz.func44 (by kernel_rfl) rfl #[.int .i64 a0, .int .i64 0, .int .i64 562949953421311] rfl zt7 ?_; (with_reducible refine (impl_in.calls a0 0 562949953421311 true _ A2.out).mono ?_); rintro e w' ⟨rfl, ⟨nd, rfl⟩⟩; refine ⟨_, rfl, ?_⟩) | ((with_reducible refine gate_dst (N := 7) rfl ?_); refine Kd.R_lit (Kd.int .u8) _ 5 ?hg (N := 7) ?hd (xs := ([] : List Int)) (inner := []) (ok := fun _ => True) (okp := fun _ => True) ?hr ?hp (fun _ hk => hk) trivial (Below.refl _ _) (Nat.le_refl _) (by simp) ?_; (case hd => rfl); (case hg => rfl); (case hr => first | (go_simp; done) | (go_simp; rfl)); (case hp => exact (Reps.none _ _)); intro v225 w4 ho5 hb hg_ hnew_; clear hg_ hnew_; (first | rw [← Ny224.out] at ho5 | (simp only [Int.reduceToNat] at ho5; rw [← Ny224.out] at ho5)); have n0_ := Aside0.mk (Kd.R_lower ho5 (below_size zt3)); have n1_ := Aside0.mk (below_step zt3 hb); clear HB; have HO226 := n0_; have HB := n1_; clear n0_ n1_; clear hb ho5))
  go_loopg [0, 3] k (fun kq v0 v3 w' => ∃ (x0_1 : Int) (x3_1 : List Int), v0 = .int .i64 x0_1 ∧ Aside0 (impl_Var.l0 kq x0_1 x3_1 = some r) ∧ Aside0 (kq ≤ k) ∧ Aside0 (Kd.R (Kd.int .u8) 5 w' w.heap.size (fun _ => True) v3 x3_1) ∧ Aside0 (Below w.heap.size w w'))
  case atStart => exact ⟨(a0), (y224), zt12, H', ⟨Nat.le_refl _⟩, ⟨by (with_reducible repeat (first | apply Kd.R_alloc | apply Kd.R_drewN | apply Kd.R_drew)); exact HO226.out⟩, ⟨zt3⟩⟩
  case round =>
   clear H'
   try clear c2
   try clear p2
   try clear c3
   try clear c4
   obtain ⟨x0_1, x3_1, rfl, HA, HK1, HO_3, HB⟩ := hrel
   cases gk with
   | zero => exact absurd HA.out (by simp [impl_Var.l0])
   | succ k1 =>
    have H := HA.out
    clear HA
    simp only [impl_Var.l0] at H
    by_cases c6 : x0_1 > 127
    rw [if_pos c6] at H
    have c6b0 : decide (127 < x0_1) = true := decide_eq_true c6
    clear c6
    replace H := it0 H
    obtain ⟨c7, H⟩ := H
    have LMc7 := Aside0.mk c7
    clear c7
    obtain ⟨y227, hy227⟩ : ∃ y_ : List Int, y_ = (x3_1 ++ [(Go.bits .or .i64 (Go.bits .and .i64 x0_1 127) 128) % 256]) := ⟨_, rfl⟩
    replace H : (impl_Var.l0 k1 (x0_1 / 128) y227) = some r := by first | (rw [hy227]; with_reducible exact H) | (have H2_ := (Option.bind_some _ _).symm.trans H; rw [hy227]; with_reducible exact H2_) | (have H2_ := (Option.bind_some _ _).symm.trans H; with_reducible exact H2_) | with_reducible exact H | (rw [hy227]; exact H) | exact H
    have Ny227 := Aside0.mk hy227
    clear hy227
    have H' := Aside0.mk H
    clear H
    rotate_left
    rw [if_neg c6] at H
    have c6b0 : decide (127 < x0_1) = false := decide_eq_false c6
    clear c6
    replace H := it0 H
    obtain ⟨c9, H⟩ := H
    have LMc9 := Aside0.mk c9
    clear c9
    obtain ⟨y230, hy230⟩ : ∃ y_ : List Int, y_ = (x3_1 ++ [(x0_1) % 256]) := ⟨_, rfl⟩
    replace H : (some (strOfNums y230)) = some r := by first | (rw [hy230]; with_reducible exact H) | (have H2_ := (Option.bind_some _ _).symm.trans H; rw [hy230]; with_reducible exact H2_) | (have H2_ := (Option.bind_some _ _).symm.trans H; with_reducible exact H2_) | with_reducible exact H | (rw [hy230]; exact H) | exact H
    have Ny230 := Aside0.mk hy230
    clear hy230
    obtain rfl := Option.some.inj H
    rotate_left
    all_goals
     repeat (go_wp2_with (first | ((with_reducible refine gate_builtin (b := .append) (xs := #[.tmp 19, .tmp 22]) rfl ?_); at_builtin; refine Kd.R_append (Kd.int .u8) (w0 := w) w.heap.size rfl (.tmp 19) (.tmp 22) 22 5 (.int .u8 0) 1 rfl Tryz.underlying22 info5 rfl (by decide) (by omega) u3 x3_1 ((x0_1) % 256) [.int .u8 ((x0_1) % 256)] (fun _ => True) (fun _ => False) rfl rfl ?aP (fun _ hk => hk.elim) ?aF ?aO ?aB ?aS ?aL ?_; (case aP => exact rfl); (case aB => exact zt3); (case aF => exact (fun _ _ => trivial)); (case aO => exact (rz HO_3.out)); (case aS => exact (below_size zt3)); (case aL => have := LMc9.out; omega); intro v7000 w7001 ho hb hg hat; rw [← Ny230.out] at ho; have n0_ := Aside0.mk (hb); have n1_ := Aside0.mk (ho); clear HB; clear HO_3; have HB := n0_; have HO7002 := n1_; clear n0_ n1_; clear ho hb hg hat; have hcv7003 := own_string (P := Tryz.prog) Tryz.underlying22 Tryz.underlying5 Tryz.underlying9 (Kd.own_of_R HO7002.out)) | ((with_reducible refine gate_builtin (b := .append) (xs := #[.tmp 10, .tmp 15]) rfl ?_); at_builtin; refine Kd.R_append (Kd.int .u8) (w0 := w) w.heap.size rfl (.tmp 10) (.tmp 15) 22 5 (.int .u8 0) 1 rfl Tryz.underlying22 info5 rfl (by decide) (by omega) u3 x3_1 ((Go.bits .or .i64 (Go.bits .and .i64 x0_1 127) 128) % 256) [.int .u8 ((Go.bits .or .i64 (Go.bits .and .i64 x0_1 127) 128) % 256)] (fun _ => True) (fun _ => False) rfl rfl ?aP (fun _ hk => hk.elim) ?aF ?aO ?aB ?aS ?aL ?_; (case aP => exact rfl); (case aB => exact zt3); (case aF => exact (fun _ _ => trivial)); (case aO => exact (rz HO_3.out)); (case aS => exact (below_size zt3)); (case aL => have := LMc7.out; omega); intro v7000 w7001 ho hb hg hat; rw [← Ny227.out] at ho; have n0_ := Aside0.mk (hb); have n1_ := Aside0.mk (ho); clear HB; clear HO_3; have HB := n0_; have HO7002 := n1_; clear n0_ n1_; clear ho hb hg hat)); first | go_quiet (fail) | (go_roundg k1; (case measure => have := HK1.out; omega); (case rel => exact ⟨(x0_1 / 128), (y227), zt12, H', ⟨by have := HK1.out; omega⟩, ⟨zt23⟩, ⟨zt3⟩⟩)) | (go_ret; exact ⟨zt10, zt3⟩))
 ·replace c3 := Bool.eq_false_iff.mpr c3
  subst c3
  rw [if_neg (show ¬ (false = true) by decide)] at H
  obtain rfl := Option.some.inj H
  go_enter Tryz.func24, Tryz.ntmps24
  go_wp2_with (first | ((with_reducible refine gate_callee (f := 44) rfl ?_); refine goesL_ (some 5) rfl rfl Tryz.func44 (by kernel_rfl) rfl #[.int .i64 a0, .int .i64 0, .int .i64 562949953421311] rfl zt7 ?_; (with_reducible refine (impl_in.calls a0 0 562949953421311 false _ A2.out).mono ?_); rintro e w' ⟨rfl, ⟨nd, rfl⟩⟩; refine ⟨_, rfl, ?_⟩))
  go_ret
  exact ⟨zt10, zt3⟩

/-! ### impl_piece: function 25 -/
def impl_piece.f (k : Nat) (a0 : ByteArray) : Option (ByteArray) := (impl_Var.f k (a0.size : Int)).bind fun t233 => (if t233.size + a0.size ≤ 9223372036854775807 then (some (t233 ++ a0)) else (none))
theorem impl_piece.mono : ∀ a0 k, LeO (impl_piece.f k a0) (impl_piece.f (k + 1) a0) := by
 intro a0 k
 unfold impl_piece.f
 repeat' (first | (with_reducible first | exact impl_Var.mono _ _ | exact LeO.refl _ | exact LeO.none _ | refine LeO.ite ?_ ?_ | refine LeO.bind ?_ (fun _ => ?_)) | exact LeO.none _ | refine LeO.ite ?_ ?_ | refine LeO.bind ?_ (fun _ => ?_))
set_option maxHeartbeats 8000000 in
set_option maxRecDepth 100000 in
theorem impl_piece.calls (k : Nat) (a0 : ByteArray) (r : ByteArray) (w : World) (h : impl_piece.f k a0 = some r) :
  Calls Tryz.prog 25 #[.string a0] w fun e w' => e = .returned (.string r) ∧ Below w.heap.size w w' := by
 have HB := Aside0.mk (Below.refl w.heap.size w)
 try unfold impl_piece.f at h
 have H := h
 clear h
 replace H := bnd H
 obtain ⟨t233, A2, H⟩ := H
 try dsimp only at H
 replace H := it0 H
 obtain ⟨c3, H⟩ := H
 obtain ⟨c3b0, c3b1, c3b2⟩ := szf c3
 obtain rfl := Option.some.inj H
 go_enter Tryz.func25, Tryz.ntmps25
 go_wp2_with (first | ((with_reducible refine gate_callee (f := 24) rfl ?_); refine goesL_ (some 5) rfl rfl Tryz.func24 (by kernel_rfl) rfl #[.int .i64 (a0.size : Int)] rfl zt7 ?_; (with_reducible refine (impl_Var.calls k (a0.size : Int) t233 _ A2.out).mono ?_); rintro e w4 ⟨rfl, hb⟩; refine ⟨_, rfl, ?_⟩; have n0_ := Aside0.mk (below_step zt3 hb); clear HB; have HB := n0_; clear n0_; (try clear hb); (try clear hb2); (try clear hk); (try clear hi)))
 go_ret
 exact ⟨zt10, zt3⟩

/-! ### impl_ShowFiles: function 7 -/
def impl_ShowFiles.l0 : Nat → ByteArray → List (S33) → Int → Int → Option (ByteArray)
 | 0, _, _, _, _ => none
 | k + 1, x3, x13, x14, x15 => if x15 < x14 then (if 0 ≤ x15 then (if x15 < (x13.length : Int) then ((impl_piece.f k ((rd_T33 x13 x15).f0)).bind fun t238 => ((impl_piece.f k ((rd_T33 x13 x15).f1)).bind fun t239 => (if t238.size + t239.size ≤ 9223372036854775807 then (if x3.size + (t238 ++ t239).size ≤ 9223372036854775807 then (impl_ShowFiles.l0 k (x3 ++ (t238 ++ t239)) x13 x14 (wrap64 (x15 + 1))) else (none)) else (none)))) else (none)) else (none)) else (some x3)
def impl_ShowFiles.f (k : Nat) (l0 : List (S33)) : Option (ByteArray) := (impl_FilesOk.f k l0).bind fun t234 => (if t234 = true then ((impl_Var.f k (l0.length : Int)).bind fun t235 => (if 1 + t235.size ≤ 9223372036854775807 then (impl_ShowFiles.l0 k ((⟨#[102]⟩ : ByteArray) ++ t235) l0 (l0.length : Int) 0) else (none))) else (some (⟨#[]⟩ : ByteArray)))
theorem impl_ShowFiles.mono_l : ∀ k, (∀ y0 y1 y2 y3, LeO (impl_ShowFiles.l0 k y0 y1 y2 y3) (impl_ShowFiles.l0 (k + 1) y0 y1 y2 y3))
 | 0 => fun _ _ _ _ r h => by simp [impl_ShowFiles.l0] at h
 | k + 1 => by
  have ih0 := impl_ShowFiles.mono_l k
  ·intro y0 y1 y2 y3
   unfold impl_ShowFiles.l0
   repeat' (first | (with_reducible first | exact ih0 _ _ _ _ | exact impl_FilesOk.mono _ _ | exact impl_Var.mono _ _ | exact impl_piece.mono _ _ | exact LeO.refl _ | exact LeO.none _ | refine LeO.ite ?_ ?_ | refine LeO.bind ?_ (fun _ => ?_)) | exact LeO.none _ | refine LeO.ite ?_ ?_ | refine LeO.bind ?_ (fun _ => ?_))
theorem impl_ShowFiles.mono : ∀ a0 k, LeO (impl_ShowFiles.f k a0) (impl_ShowFiles.f (k + 1) a0) := by
 intro a0 k
 have ih0 := impl_ShowFiles.mono_l k
 unfold impl_ShowFiles.f
 repeat' (first | (with_reducible first | exact ih0 _ _ _ _ | exact impl_FilesOk.mono _ _ | exact impl_Var.mono _ _ | exact impl_piece.mono _ _ | exact LeO.refl _ | exact LeO.none _ | refine LeO.ite ?_ ?_ | refine LeO.bind ?_ (fun _ => ?_)) | exact LeO.none _ | refine LeO.ite ?_ ?_ | refine LeO.bind ?_ (fun _ => ?_))
set_option maxHeartbeats 8000000 in
set_option maxRecDepth 100000 in
theorem impl_ShowFiles.calls (k : Nat) (A0 : Option Addr) (c0 : Nat) (l0 : List (S33)) (r : ByteArray) (w : World) (hr0 : Kd.C k33 w A0 l0.length l0) (hc0 : l0.length ≤ c0) (HT : TabsL w) (h : impl_ShowFiles.f k l0 = some r) :
  Calls Tryz.prog 7 #[.slice A0 l0.length c0] w fun e w' => e = .returned (.string r) ∧ Below w.heap.size w w' := by
 have HTA := Aside0.mk HT
 clear HT
 have hu33 := Tryz.underlying33
 have HR0 := Aside0.mk hr0
 have HC0 := Aside0.mk hc0
 clear hr0 hc0
 have HB := Aside0.mk (Below.refl w.heap.size w)
 try unfold impl_ShowFiles.f at h
 have H := h
 clear h
 replace H := bnd H
 obtain ⟨t234, A2, H⟩ := H
 try dsimp only at H
 by_cases c3 : t234 = true
 ·subst c3
  rw [if_pos rfl] at H
  replace H := bnd H
  obtain ⟨t235, A4, H⟩ := H
  try dsimp only at H
  replace H := it0 H
  obtain ⟨c5, H⟩ := H
  obtain ⟨c5b0, c5b1, c5b2⟩ := szf c5
  have H' := Aside0.mk H
  clear H
  try simp only [ByteArray.size_append, lsz, List.length_cons, List.length_nil, Nat.reduceAdd] at *
  go_enter Tryz.func7, Tryz.ntmps7
  go_wp2_with (first | ((with_reducible refine gate_callee (f := 23) rfl ?_); refine goesL_ (some 7) rfl rfl Tryz.func23 (by kernel_rfl) rfl #[.slice A0 l0.length c0] rfl zt7 ?_; (with_reducible refine (impl_FilesOk.calls k _ _ l0 true _ ?side1 ?side2 (TabsL.below HTA.out zt3) A2.out).mono ?_); (case side1 => exact cz HR0.out); (case side2 => exact HC0.out); rintro e w6 ⟨rfl, hb⟩; refine ⟨_, rfl, ?_⟩; have n0_ := Aside0.mk (below_step zt3 hb); clear HB; have HB := n0_; clear n0_; (try clear hb); (try clear hb2); (try clear hk); (try clear hi)) | ((with_reducible refine gate_callee (f := 24) rfl ?_); refine goesL_ (some 11) rfl rfl Tryz.func24 (by kernel_rfl) rfl #[.int .i64 (l0.length : Int)] rfl zt7 ?_; (with_reducible refine (impl_Var.calls k (l0.length : Int) t235 _ A4.out).mono ?_); rintro e w7 ⟨rfl, hb⟩; refine ⟨_, rfl, ?_⟩; have n0_ := Aside0.mk (below_step zt3 hb); clear HB; have HB := n0_; clear n0_; (try clear hb); (try clear hb2); (try clear hk); (try clear hi)))
  go_loopg [3, 15] k (fun kq v3 v15 w' => ∃ (x3_1 : ByteArray) (x15_1 : Int), v3 = .string x3_1 ∧ v15 = .int .i64 x15_1 ∧ Aside0 (impl_ShowFiles.l0 kq x3_1 l0 (l0.length : Int) x15_1 = some r) ∧ Aside0 (kq ≤ k) ∧ Aside0 (Below w.heap.size w w'))
  case atStart => exact ⟨((⟨#[102]⟩ : ByteArray) ++ t235), (0), zt12, zt12, H', ⟨Nat.le_refl _⟩, ⟨zt3⟩⟩
  case round =>
   clear H'
   try clear c2
   try clear p2
   try clear c3
   try clear c5
   try clear c5b0
   try clear c5b1
   try clear c5b2
   try clear c7
   obtain ⟨x3_1, x15_1, rfl, rfl, HA, HK1, HB⟩ := hrel
   cases gk with
   | zero => exact absurd HA.out (by simp [impl_ShowFiles.l0])
   | succ k1 =>
    have H := HA.out
    clear HA
    simp only [impl_ShowFiles.l0] at H
    by_cases c8 : x15_1 < (l0.length : Int)
    ·rw [if_pos c8] at H
     have c8b0 := decide_eq_true c8
     clear c8
     replace H := it0 H
     obtain ⟨c9, H⟩ := H
     have c9b0 : decide (0 ≤ x15_1) = true := decide_eq_true c9
     clear c9
     replace H := it0 H
     obtain ⟨c10, H⟩ := H
     have c10b0 := decide_eq_true c10
     clear c10
     replace H := bnd H
     obtain ⟨t238, A11, H⟩ := H
     try dsimp only at H
     replace H := bnd H
     obtain ⟨t239, A12, H⟩ := H
     try dsimp only at H
     replace H := it0 H
     obtain ⟨c13, H⟩ := H
     obtain ⟨c13b0, c13b1, c13b2⟩ := szf c13
     replace H := it0 H
     obtain ⟨c14, H⟩ := H
     obtain ⟨c14b0, c14b1, c14b2⟩ := szf c14
     try have c14b4 : (9223372036854775807 < x3_1.size + (t238.size + t239.size)) = False := by simpa [ByteArray.size_append] using c14b2
     have H' := Aside0.mk H
     clear H
     have p236 : 0 ≤ (x15_1 : Int) := of_decide_eq_true zt8
     have q236 : x15_1 < (l0.length : Int) := of_decide_eq_true zt8
     obtain ⟨ad236, e236, hx236_0, hx236_1⟩ := at_T33 HR0.out x15_1 p236 q236
     cases e236
     replace hx236_0 := (HB.out.cell (World.block_lt_of_cell? w _ hx236_0)).trans hx236_0
     replace hx236_1 := (HB.out.cell (World.block_lt_of_cell? w _ hx236_1)).trans hx236_1
     replace p236 := eq_true p236
     replace q236 := eq_true q236
     try go_wp2_with (first | ((with_reducible refine gate_dst (N := 5) rfl ?_); refine box_event ?hg (N := 5) ?hd (cs := #[.string (⟨#[]⟩ : ByteArray), .string (⟨#[]⟩ : ByteArray)]) (t := 33) ?hr ?_; (case hd => rfl); (case hg => rfl); (case hr => first | (go_simp; done) | (go_simp; rfl)); intro gb237 hg w15 hbox hb; have n0_ := Aside0.mk (below_step zt3 hb); have n1_ := Aside0.mk (hbox); have n2_ := Aside0.mk ((zt13 : w.heap.size ≤ gb237)); have n3_ := Aside0.mk ((zt13 : w.heap.size ≤ gb237)); clear HB; have HB := n0_; have BK237 := n1_; have GW237 := n2_; have GE237 := n3_; clear n0_ n1_ n2_ n3_; clear hb hbox hg; have hcz16_0 : w15.cell? ⟨gb237, 0, none⟩ = some (.string (⟨#[]⟩ : ByteArray)) := (blk_cell BK237.out 0).trans rfl; have hcz16_1 : w15.cell? ⟨gb237, 1, none⟩ = some (.string (⟨#[]⟩ : ByteArray)) := (blk_cell BK237.out 1).trans rfl; have hfz16_0 := blk_frozen BK237.out 0; have hfz16_1 := blk_frozen BK237.out 1))
     have n0_ : Aside0 (((w15.setCell ⟨gb237, 0, none⟩ (.string ((rd_T33 l0 x15_1).f0))).setCell ⟨gb237, 1, none⟩ (.string ((rd_T33 l0 x15_1).f1))).heap[gb237]? = some (.cells #[.string ((rd_T33 l0 x15_1).f0), .string ((rd_T33 l0 x15_1).f1)] 33 (0, 0))) := ⟨by (with_reducible repeat (first | refine blk_drewN ?_ _ | refine blk_drew ?_ | refine blk_alloc ?_ _)); refine blk_put (cs := #[.string ((rd_T33 l0 x15_1).f0), .string (⟨#[]⟩ : ByteArray)]) ?_ 1 _ rfl; (with_reducible repeat (first | refine blk_drewN ?_ _ | refine blk_drew ?_ | refine blk_alloc ?_ _)); refine blk_put (cs := #[.string (⟨#[]⟩ : ByteArray), .string (⟨#[]⟩ : ByteArray)]) ?_ 0 _ rfl; (with_reducible repeat (first | refine blk_drewN ?_ _ | refine blk_drew ?_ | refine blk_alloc ?_ _)); exact BK237.out⟩
     have n1_ : Aside0 (Below w.heap.size w ((w15.setCell ⟨gb237, 0, none⟩ (.string ((rd_T33 l0 x15_1).f0))).setCell ⟨gb237, 1, none⟩ (.string ((rd_T33 l0 x15_1).f1)))) := ⟨by repeat (first | (with_reducible first | exact HB.out | apply below_alloc | apply pw_below_drewN | apply below_drew1 | refine below_set ?_ GE237.out) | exact HB.out)⟩
     (try clear BK237)
     (try clear HB)
     generalize ((w15.setCell ⟨gb237, 0, none⟩ (.string ((rd_T33 l0 x15_1).f0))).setCell ⟨gb237, 1, none⟩ (.string ((rd_T33 l0 x15_1).f1))) = w17 at n0_ n1_ ⊢
     have BK237 := n0_
     have HB := n1_
     clear n0_ n1_
     have n0_ := Aside0.mk (blk_drew BK237.out)
     have n1_ := Aside0.mk (below_drew1 HB.out)
     clear BK237
     clear HB
     have BK237 := n0_
     have HB := n1_
     clear n0_ n1_
     refine wp_quiet_drew (by kernel_rfl) (by kernel_rfl) ?_
     generalize w17.drew = w18 at BK237 HB ⊢
     have hS_ : (fun w' => w'.cell? ⟨gb237, 0, none⟩ = some (.string ((rd_T33 l0 x15_1).f0)) ∧ w'.cell? ⟨gb237, 1, none⟩ = some (.string ((rd_T33 l0 x15_1).f1))) w18 := ⟨(blk_cell BK237.out 0).trans rfl, (blk_cell BK237.out 1).trans rfl⟩
     obtain ⟨hq0_, hq1_⟩ := hS_
     replace hq0_ := cell_regrown hq0_
     replace hq1_ := cell_regrown hq1_
     repeat (first | go_big_quiet_skip | quiet_step (first | (go_at_call 25; exact Calls.regrown_of (impl_piece.calls k1 ((rd_T33 l0 x15_1).f0) t238 _ A11.out)) | (go_at_call 25; exact Calls.regrown_of (impl_piece.calls k1 ((rd_T33 l0 x15_1).f1) t239 _ A12.out))))
     refine wpQuiet_nil ?_
     intro _ hw'
     obtain ⟨⟨nq, osq⟩, hw''⟩ := hw'
     subst hw''
     have hb := below_regrown w18 nq osq
     generalize Sort.grow (redrawn w18 nq) osq = w19 at hb ⊢
     have n0_ := Aside0.mk (blk_below (g := gb237) (o := .cells #[.string ((rd_T33 l0 x15_1).f0), .string ((rd_T33 l0 x15_1).f1)] 33 (0, 0)) (oz BK237.out) hb)
     have n1_ := Aside0.mk (below_step (by repeat (first | (with_reducible first | exact HB.out | apply below_alloc | apply pw_below_drewN | apply below_drew1 | refine below_set ?_ GE237.out) | exact HB.out)) hb)
     clear BK237
     clear HB
     have BK237 := n0_
     have HB := n1_
     clear n0_ n1_
     clear hb hq0_ hq1_
     try go_wp2
     go_roundg k1
     case measure => have := HK1.out; omega
     case rel => exact ⟨(x3_1 ++ (t238 ++ t239)), (wrap64 (x15_1 + 1)), zt12, zt12, H', ⟨by have := HK1.out; omega⟩, ⟨by repeat (first | (with_reducible first | exact HB.out | apply below_alloc | apply pw_below_drewN | apply below_drew1 | refine below_set ?_ GE237.out) | exact HB.out)⟩⟩
    ·rw [if_neg c8] at H
     have c8b0 := decide_eq_false c8
     clear c8
     obtain rfl := Option.some.inj H
     try simp only [ByteArray.size_append, lsz, List.length_cons, List.length_nil, Nat.reduceAdd] at *
     go_wp2
     go_ret
     exact ⟨zt10, zt3⟩
 ·replace c3 := Bool.eq_false_iff.mpr c3
  subst c3
  rw [if_neg (show ¬ (false = true) by decide)] at H
  obtain rfl := Option.some.inj H
  try simp only [ByteArray.size_append, lsz, List.length_cons, List.length_nil, Nat.reduceAdd] at *
  go_enter Tryz.func7, Tryz.ntmps7
  go_wp2_with (first | ((with_reducible refine gate_callee (f := 23) rfl ?_); refine goesL_ (some 7) rfl rfl Tryz.func23 (by kernel_rfl) rfl #[.slice A0 l0.length c0] rfl zt7 ?_; (with_reducible refine (impl_FilesOk.calls k _ _ l0 false _ ?side1 ?side2 (TabsL.below HTA.out zt3) A2.out).mono ?_); (case side1 => exact cz HR0.out); (case side2 => exact HC0.out); rintro e w21 ⟨rfl, hb⟩; refine ⟨_, rfl, ?_⟩; have n0_ := Aside0.mk (below_step zt3 hb); clear HB; have HB := n0_; clear n0_; (try clear hb); (try clear hb2); (try clear hk); (try clear hi)))
  go_ret
  exact ⟨zt10, zt3⟩

/-! ### spec_l1In: function 64 -/
def spec_l1In.f (a0 : Int) (a1 : Int) (a2 : Int) : Option (Bool) := if a0 ≥ a1 then (some (decide (a0 ≤ a2))) else (some false)
set_option maxHeartbeats 8000000 in
set_option maxRecDepth 100000 in
theorem spec_l1In.calls (a0 : Int) (a1 : Int) (a2 : Int) (r : Bool) (w : World) (h : spec_l1In.f a0 a1 a2 = some r) :
  Calls Tryz.prog 64 #[.int .i64 a0, .int .i64 a1, .int .i64 a2] w fun e w' => e = .returned (.bool r) ∧ Drawn0 w w' := by
 try unfold spec_l1In.f at h
 have H := h
 clear h
 by_cases c4 : a0 ≥ a1
 rw [if_pos c4] at H
 have c4b0 : decide (a1 ≤ a0) = true := decide_eq_true c4
 clear c4
 obtain rfl := Option.some.inj H
 rotate_left
 rw [if_neg c4] at H
 have c4b0 : decide (a1 ≤ a0) = false := decide_eq_false c4
 clear c4
 obtain rfl := Option.some.inj H
 rotate_left
 all_goals
  go_enter Tryz.func64, Tryz.ntmps64
  repeat (go_wp2; first | go_quiet (fail) | (go_ret; exact ⟨zt12, zt29⟩))

end Go.Proofs.YtkmcnjpgamaljaaGreatDoor.PFnFiles

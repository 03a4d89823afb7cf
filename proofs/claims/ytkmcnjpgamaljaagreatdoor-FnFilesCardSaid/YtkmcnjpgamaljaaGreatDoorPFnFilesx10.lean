-- Out of the kit's print, with contracts of mine among it (myprint.py).
import Derived.Lib.QuietBelow
import Derived.Test.YtkmcnjpgamaljaaGreatDoorPFnFilesx0
import Derived.Test.YtkmcnjpgamaljaaGreatDoorPFnFilesx8
namespace Go.Proofs.YtkmcnjpgamaljaaGreatDoor.PFnFiles
open Go.RowKit Go.Proofs.YtkmcnjpgamaljaaGreatDoorW.PrintWords Go.Proofs.YtkmcnjpgamaljaaGreatDoorW.PrintLast Go.Proofs.YtkmcnjpgamaljaaGreatDoorW.PrintMore
attribute [local go_sem] max2_int min2_int max_two min_two max_three min_three max_four min_four   -- for this text's walks alone
set_option linter.unusedVariables false
set_option linter.unusedSimpArgs false

/-! ### spec_FilesOk: function 8 -/
def spec_FilesOk.l0 : Nat → List (S33) → Int → Option (Bool)
 | 0, _, _ => none
 | k + 1, x0, x3 => if x3 < (x0.length : Int) then (if 0 ≤ x3 then (if ((rd_T33 x0 x3).f0).toList = ([47] : List UInt8) then (some false) else ((spec_Clean.f k ((rd_T33 x0 x3).f0)).bind fun t254 => (if t254.toList = ((rd_T33 x0 x3).f0).toList then (if ((rd_T33 x0 x3).f0).toList = ([] : List UInt8) then (some false) else (if x3 > 0 then (if 0 ≤ (wrap64 (x3 - 1)) then (if (wrap64 (x3 - 1)) < (x0.length : Int) then (if ((Op.bytesLess (((rd_T33 x0 (wrap64 (x3 - 1))).f0).toList) (((rd_T33 x0 x3).f0).toList)) = true) then (if (((rd_T33 x0 x3).f1).size : Int) > 1500 then (some false) else (spec_FilesOk.l0 k x0 (wrap64 (x3 + 1)))) else (some false)) else (none)) else (none)) else (if (((rd_T33 x0 x3).f1).size : Int) > 1500 then (some false) else (spec_FilesOk.l0 k x0 (wrap64 (x3 + 1)))))) else (some false)))) else (none)) else (some true)
def spec_FilesOk.f (k : Nat) (l0 : List (S33)) : Option (Bool) := if (l0.length : Int) > 8 then (some false) else (spec_FilesOk.l0 k l0 0)
theorem spec_FilesOk.mono_l : ∀ k, (∀ y0 y1, LeO (spec_FilesOk.l0 k y0 y1) (spec_FilesOk.l0 (k + 1) y0 y1))
 | 0 => fun _ _ r h => by simp [spec_FilesOk.l0] at h
 | k + 1 => by
  have ih0 := spec_FilesOk.mono_l k
  ·intro y0 y1
   unfold spec_FilesOk.l0
   repeat' (first | (with_reducible first | exact ih0 _ _ | exact spec_Clean.mono _ _ | exact LeO.refl _ | exact LeO.none _ | refine LeO.ite ?_ ?_ | refine LeO.bind ?_ (fun _ => ?_)) | exact LeO.none _ | refine LeO.ite ?_ ?_ | refine LeO.bind ?_ (fun _ => ?_))
theorem spec_FilesOk.mono : ∀ a0 k, LeO (spec_FilesOk.f k a0) (spec_FilesOk.f (k + 1) a0) := by
 intro a0 k
 have ih0 := spec_FilesOk.mono_l k
 unfold spec_FilesOk.f
 repeat' (first | (with_reducible first | exact ih0 _ _ | exact spec_Clean.mono _ _ | exact LeO.refl _ | exact LeO.none _ | refine LeO.ite ?_ ?_ | refine LeO.bind ?_ (fun _ => ?_)) | exact LeO.none _ | refine LeO.ite ?_ ?_ | refine LeO.bind ?_ (fun _ => ?_))
set_option maxHeartbeats 8000000 in
set_option maxRecDepth 100000 in
theorem spec_FilesOk.calls (k : Nat) (A0 : Option Addr) (c0 : Nat) (l0 : List (S33)) (r : Bool) (w : World) (hr0 : Kd.C k33 w A0 l0.length l0) (hc0 : l0.length ≤ c0) (h : spec_FilesOk.f k l0 = some r) :
  Calls Tryz.prog 8 #[.slice A0 l0.length c0] w fun e w' => e = .returned (.bool r) ∧ Below w.heap.size w w' := by
 have HR0 := Aside0.mk hr0
 have HC0 := Aside0.mk hc0
 clear hr0 hc0
 have HB := Aside0.mk (Below.refl w.heap.size w)
 try unfold spec_FilesOk.f at h
 have H := h
 clear h
 by_cases c2 : (l0.length : Int) > 8
 ·rw [if_pos c2] at H
  have c2b0 : decide (8 < (l0.length : Int)) = true := decide_eq_true c2
  have c2b1 : decide (8 < l0.length) = true := decide_eq_true (by omega)
  clear c2
  obtain rfl := Option.some.inj H
  go_enter Tryz.func8, Tryz.ntmps8
  go_wp2
  go_ret
  exact ⟨zt10, zt3⟩
 ·rw [if_neg c2] at H
  have c2b0 : decide (8 < (l0.length : Int)) = false := decide_eq_false c2
  have c2b1 : decide (8 < l0.length) = false := decide_eq_false (by omega)
  clear c2
  have H' := Aside0.mk H
  clear H
  go_enter Tryz.func8, Tryz.ntmps8
  go_wp2
  go_loopg [3] k (fun kq v3 w' => ∃ (x3_1 : Int), v3 = .int .i64 x3_1 ∧ Aside0 (spec_FilesOk.l0 kq l0 x3_1 = some r) ∧ Aside0 (kq ≤ k) ∧ Aside0 (Below w.heap.size w w'))
  case atStart => exact ⟨(0), zt12, H', ⟨Nat.le_refl _⟩, ⟨zt3⟩⟩
  case round =>
   clear H'
   try clear c2
   try clear c2b0
   try clear c2b1
   try clear p2
   obtain ⟨x3_1, rfl, HA, HK1, HB⟩ := hrel
   cases gk with
   | zero => exact absurd HA.out (by simp [spec_FilesOk.l0])
   | succ k1 =>
    have H := HA.out
    clear HA
    simp only [spec_FilesOk.l0] at H
    by_cases c3 : x3_1 < (l0.length : Int)
    ·rw [if_pos c3] at H
     have c3b0 := decide_eq_true c3
     clear c3
     replace H := it0 H
     obtain ⟨c4, H⟩ := H
     have c4b0 : decide (0 ≤ x3_1) = true := decide_eq_true c4
     clear c4
     by_cases c5 : ((rd_T33 l0 x3_1).f0).toList = ([47] : List UInt8)
     ·rw [if_pos c5] at H
      have c5b0 := beq_iff_eq.mpr c5
      have c5b1 := bne_eq_false_iff_eq.mpr c5
      clear c5
      obtain rfl := Option.some.inj H
      try go_wp2
      have n0_ := Aside0.mk (below_drew1 HB.out)
      clear HB
      have HB := n0_
      clear n0_
      have p252 : 0 ≤ (x3_1 : Int) := of_decide_eq_true zt8
      have q252 : x3_1 < (l0.length : Int) := of_decide_eq_true zt8
      obtain ⟨ad252, e252, hx252_0, hx252_1⟩ := at_T33 HR0.out x3_1 p252 q252
      have hw252_1 := hx252_1
      have hw252_0 := hx252_0
      cases e252
      replace hx252_0 := (HB.out.cell (World.block_lt_of_cell? w _ hx252_0)).trans hx252_0
      replace hx252_1 := (HB.out.cell (World.block_lt_of_cell? w _ hx252_1)).trans hx252_1
      replace p252 := eq_true p252
      replace q252 := eq_true q252
      refine wp_quiet_drew (by kernel_rfl) (by kernel_rfl) ?_
      generalize wr.drew = w6 at HB hx252_0 hx252_1 ⊢
      have hS_ : (fun w' => w'.cell? (ad252.add ((x3_1).toNat * 2)) = some (.string ((rd_T33 l0 x3_1).f0)) ∧ w'.cell? ⟨(ad252.add ((x3_1).toNat * 2)).block, (ad252.add ((x3_1).toNat * 2)).off + 1, none⟩ = some (.string ((rd_T33 l0 x3_1).f1))) w6 := ⟨((HB.out.cell (World.block_lt_of_cell? w _ hw252_0)).trans hw252_0), ((HB.out.cell (World.block_lt_of_cell? w _ hw252_1)).trans hw252_1)⟩
      obtain ⟨hq0_, hq1_⟩ := hS_
      replace hq0_ := cell_regrown hq0_
      replace hq1_ := cell_regrown hq1_
      repeat (first | go_big_quiet_skip | quiet_step (fail))
      refine wpQuiet_nil ?_
      intro _ hw'
      obtain ⟨⟨nq, osq⟩, hw''⟩ := hw'
      subst hw''
      have hb := below_regrown w6 nq osq
      generalize Sort.grow (redrawn w6 nq) osq = w61 at hb ⊢
      replace HB := Aside0.mk (below_step HB.out hb)
      clear hb hq0_ hq1_
      try go_wp2
      go_ret
      exact ⟨zt10, zt3⟩
     ·rw [if_neg c5] at H
      have c5b0 := beq_eq_false_iff_ne.mpr c5
      have c5b1 := bne_iff_ne.mpr c5
      replace H := bnd H
      obtain ⟨t254, A7, H⟩ := H
      try dsimp only at H
      by_cases c8 : t254.toList = ((rd_T33 l0 x3_1).f0).toList
      ·rw [if_pos c8] at H
       have c8b0 := beq_iff_eq.mpr c8
       have c8b1 := bne_eq_false_iff_eq.mpr c8
       clear c8
       by_cases c9 : ((rd_T33 l0 x3_1).f0).toList = ([] : List UInt8)
       ·rw [if_pos c9] at H
        have c9b0 := beq_iff_eq.mpr c9
        have c9b1 := bne_eq_false_iff_eq.mpr c9
        have c9b2 : ((rd_T33 l0 x3_1).f0).toList.isEmpty = true := by have h_ := c9b0; simpa using h_
        (first | rw [c9b2] | skip)
        clear c9
        obtain rfl := Option.some.inj H
        try go_wp2
        have n0_ := Aside0.mk (below_drew1 HB.out)
        clear HB
        have HB := n0_
        clear n0_
        have p252 : 0 ≤ (x3_1 : Int) := of_decide_eq_true zt8
        have q252 : x3_1 < (l0.length : Int) := of_decide_eq_true zt8
        obtain ⟨ad252, e252, hx252_0, hx252_1⟩ := at_T33 HR0.out x3_1 p252 q252
        have hw252_1 := hx252_1
        have hw252_0 := hx252_0
        cases e252
        replace hx252_0 := (HB.out.cell (World.block_lt_of_cell? w _ hx252_0)).trans hx252_0
        replace hx252_1 := (HB.out.cell (World.block_lt_of_cell? w _ hx252_1)).trans hx252_1
        replace p252 := eq_true p252
        replace q252 := eq_true q252
        have p253 : 0 ≤ (x3_1 : Int) := of_decide_eq_true zt8
        have q253 : x3_1 < (l0.length : Int) := of_decide_eq_true zt8
        obtain ⟨ad253, e253, hx253_0, hx253_1⟩ := at_T33 HR0.out x3_1 p253 q253
        have hw253_1 := hx253_1
        have hw253_0 := hx253_0
        obtain rfl : ad252 = ad253 := (by injection e253)
        replace hx253_0 := (HB.out.cell (World.block_lt_of_cell? w _ hx253_0)).trans hx253_0
        replace hx253_1 := (HB.out.cell (World.block_lt_of_cell? w _ hx253_1)).trans hx253_1
        replace p253 := eq_true p253
        replace q253 := eq_true q253
        have p255 : 0 ≤ (x3_1 : Int) := of_decide_eq_true zt8
        have q255 : x3_1 < (l0.length : Int) := of_decide_eq_true zt8
        obtain ⟨ad255, e255, hx255_0, hx255_1⟩ := at_T33 HR0.out x3_1 p255 q255
        have hw255_1 := hx255_1
        have hw255_0 := hx255_0
        obtain rfl : ad252 = ad255 := (by injection e255)
        replace hx255_0 := (HB.out.cell (World.block_lt_of_cell? w _ hx255_0)).trans hx255_0
        replace hx255_1 := (HB.out.cell (World.block_lt_of_cell? w _ hx255_1)).trans hx255_1
        replace p255 := eq_true p255
        replace q255 := eq_true q255
        have p256 : 0 ≤ (x3_1 : Int) := of_decide_eq_true zt8
        have q256 : x3_1 < (l0.length : Int) := of_decide_eq_true zt8
        obtain ⟨ad256, e256, hx256_0, hx256_1⟩ := at_T33 HR0.out x3_1 p256 q256
        have hw256_1 := hx256_1
        have hw256_0 := hx256_0
        obtain rfl : ad252 = ad256 := (by injection e256)
        replace hx256_0 := (HB.out.cell (World.block_lt_of_cell? w _ hx256_0)).trans hx256_0
        replace hx256_1 := (HB.out.cell (World.block_lt_of_cell? w _ hx256_1)).trans hx256_1
        replace p256 := eq_true p256
        replace q256 := eq_true q256
        refine wp_quiet_drew (by kernel_rfl) (by kernel_rfl) ?_
        generalize wr.drew = w10 at HB hx252_0 hx252_1 hx253_0 hx253_1 hx255_0 hx255_1 hx256_0 hx256_1 ⊢
        have hS_ : (fun w' => w'.cell? (ad252.add ((x3_1).toNat * 2)) = some (.string ((rd_T33 l0 x3_1).f0)) ∧ w'.cell? ⟨(ad252.add ((x3_1).toNat * 2)).block, (ad252.add ((x3_1).toNat * 2)).off + 1, none⟩ = some (.string ((rd_T33 l0 x3_1).f1)) ∧ w'.cell? (ad252.add ((x3_1).toNat * 2)) = some (.string ((rd_T33 l0 x3_1).f0)) ∧ w'.cell? ⟨(ad252.add ((x3_1).toNat * 2)).block, (ad252.add ((x3_1).toNat * 2)).off + 1, none⟩ = some (.string ((rd_T33 l0 x3_1).f1)) ∧ w'.cell? (ad252.add ((x3_1).toNat * 2)) = some (.string ((rd_T33 l0 x3_1).f0)) ∧ w'.cell? ⟨(ad252.add ((x3_1).toNat * 2)).block, (ad252.add ((x3_1).toNat * 2)).off + 1, none⟩ = some (.string ((rd_T33 l0 x3_1).f1)) ∧ w'.cell? (ad252.add ((x3_1).toNat * 2)) = some (.string ((rd_T33 l0 x3_1).f0)) ∧ w'.cell? ⟨(ad252.add ((x3_1).toNat * 2)).block, (ad252.add ((x3_1).toNat * 2)).off + 1, none⟩ = some (.string ((rd_T33 l0 x3_1).f1))) w10 := ⟨((HB.out.cell (World.block_lt_of_cell? w _ hw252_0)).trans hw252_0), ((HB.out.cell (World.block_lt_of_cell? w _ hw252_1)).trans hw252_1), ((HB.out.cell (World.block_lt_of_cell? w _ hw253_0)).trans hw253_0), ((HB.out.cell (World.block_lt_of_cell? w _ hw253_1)).trans hw253_1), ((HB.out.cell (World.block_lt_of_cell? w _ hw255_0)).trans hw255_0), ((HB.out.cell (World.block_lt_of_cell? w _ hw255_1)).trans hw255_1), ((HB.out.cell (World.block_lt_of_cell? w _ hw256_0)).trans hw256_0), ((HB.out.cell (World.block_lt_of_cell? w _ hw256_1)).trans hw256_1)⟩
        obtain ⟨hq0_, hq1_, hq2_, hq3_, hq4_, hq5_, hq6_, hq7_⟩ := hS_
        replace hq0_ := cell_regrown hq0_
        replace hq1_ := cell_regrown hq1_
        replace hq2_ := cell_regrown hq2_
        replace hq3_ := cell_regrown hq3_
        replace hq4_ := cell_regrown hq4_
        replace hq5_ := cell_regrown hq5_
        replace hq6_ := cell_regrown hq6_
        replace hq7_ := cell_regrown hq7_
        repeat (first | go_big_quiet_skip | quiet_step (first | (go_at_call 26; exact Calls.regrown_of (spec_Clean.calls k1 ((rd_T33 l0 x3_1).f0) t254 _ A7.out))))
        refine wpQuiet_nil ?_
        intro _ hw'
        obtain ⟨⟨nq, osq⟩, hw''⟩ := hw'
        subst hw''
        have hb := below_regrown w10 nq osq
        generalize Sort.grow (redrawn w10 nq) osq = w11 at hb ⊢
        have n0_ := Aside0.mk (below_step zt3 hb)
        clear HB
        have HB := n0_
        clear n0_
        clear hb hq0_ hq1_ hq2_ hq3_ hq4_ hq5_ hq6_ hq7_
        try go_wp2
        go_ret
        exact ⟨zt10, zt3⟩
       ·rw [if_neg c9] at H
        have c9b0 := beq_eq_false_iff_ne.mpr c9
        have c9b1 := bne_iff_ne.mpr c9
        have c9b2 : ((rd_T33 l0 x3_1).f0).toList.isEmpty = false := by have h_ := c9b0; simpa using h_
        (first | rw [c9b2] | skip)
        by_cases c12 : x3_1 > 0
        rw [if_pos c12] at H
        have c12b0 : decide (0 < x3_1) = true := decide_eq_true c12
        clear c12
        obtain ⟨ji13, hji13⟩ : ∃ j_ : Int, (wrap64 (x3_1 - 1)) = j_ := ⟨_, rfl⟩
        replace H : (if 0 ≤ (ji13) then (if (ji13) < (l0.length : Int) then (if ((Op.bytesLess (((rd_T33 l0 (ji13)).f0).toList) (((rd_T33 l0 x3_1).f0).toList)) = true) then (if (((rd_T33 l0 x3_1).f1).size : Int) > 1500 then (some false) else (spec_FilesOk.l0 k1 l0 (wrap64 (x3_1 + 1)))) else (some false)) else (none)) else (none)) = some r := by first | (rw [hji13] at H; exact H) | (simp only [hji13] at H ⊢; exact H)
        (try rw [hji13] at A7)
        have hji13w : (IntKind.i64.wrap (x3_1 - 1)) = ji13 := (i64_w _).trans hji13
        replace H := it0 H
        obtain ⟨c14, H⟩ := H
        have c14b0 := decide_eq_true c14
        clear c14
        replace H := it0 H
        obtain ⟨c15, H⟩ := H
        have c15b0 := decide_eq_true c15
        clear c15
        by_cases c16 : ((Op.bytesLess (((rd_T33 l0 (ji13)).f0).toList) (((rd_T33 l0 x3_1).f0).toList)) = true)
        rw [if_pos c16] at H
        have c16b0 : (Op.bytesLess (((rd_T33 l0 (ji13)).f0).toList) (((rd_T33 l0 x3_1).f0).toList)) = true := c16
        clear c16
        by_cases c17 : (((rd_T33 l0 x3_1).f1).size : Int) > 1500
        rw [if_pos c17] at H
        have c17b0 : decide (1500 < (((rd_T33 l0 x3_1).f1).size : Int)) = true := decide_eq_true c17
        have c17b1 : decide (1500 < ((rd_T33 l0 x3_1).f1).size) = true := decide_eq_true (by omega)
        clear c17
        obtain rfl := Option.some.inj H
        rotate_left
        rw [if_neg c17] at H
        have c17b0 : decide (1500 < (((rd_T33 l0 x3_1).f1).size : Int)) = false := decide_eq_false c17
        have c17b1 : decide (1500 < ((rd_T33 l0 x3_1).f1).size) = false := decide_eq_false (by omega)
        clear c17
        have H' := Aside0.mk H
        clear H
        rotate_left
        rw [if_neg c16] at H
        have c16b0 : (Op.bytesLess (((rd_T33 l0 (ji13)).f0).toList) (((rd_T33 l0 x3_1).f0).toList)) = false := by simpa using c16
        clear c16
        obtain rfl := Option.some.inj H
        rotate_left
        rw [if_neg c12] at H
        have c12b0 : decide (0 < x3_1) = false := decide_eq_false c12
        clear c12
        by_cases c24 : (((rd_T33 l0 x3_1).f1).size : Int) > 1500
        rw [if_pos c24] at H
        have c24b0 : decide (1500 < (((rd_T33 l0 x3_1).f1).size : Int)) = true := decide_eq_true c24
        have c24b1 : decide (1500 < ((rd_T33 l0 x3_1).f1).size) = true := decide_eq_true (by omega)
        clear c24
        obtain rfl := Option.some.inj H
        rotate_left
        rw [if_neg c24] at H
        have c24b0 : decide (1500 < (((rd_T33 l0 x3_1).f1).size : Int)) = false := decide_eq_false c24
        have c24b1 : decide (1500 < ((rd_T33 l0 x3_1).f1).size) = false := decide_eq_false (by omega)
        clear c24
        have H' := Aside0.mk H
        clear H
        rotate_left
        all_goals try ((try go_wp2); (have n0_ := Aside0.mk (below_drew1 HB.out)); (clear HB); (have HB := n0_); (clear n0_); (have p252 : 0 ≤ (x3_1 : Int) := of_decide_eq_true zt8); (have q252 : x3_1 < (l0.length : Int) := of_decide_eq_true zt8); (obtain ⟨ad252, e252, hx252_0, hx252_1⟩ := at_T33 HR0.out x3_1 p252 q252); (have hw252_1 := hx252_1); (have hw252_0 := hx252_0); (cases e252); (replace hx252_0 := (HB.out.cell (World.block_lt_of_cell? w _ hx252_0)).trans hx252_0); (replace hx252_1 := (HB.out.cell (World.block_lt_of_cell? w _ hx252_1)).trans hx252_1); (replace p252 := eq_true p252); (replace q252 := eq_true q252); (have p253 : 0 ≤ (x3_1 : Int) := of_decide_eq_true zt8); (have q253 : x3_1 < (l0.length : Int) := of_decide_eq_true zt8); (obtain ⟨ad253, e253, hx253_0, hx253_1⟩ := at_T33 HR0.out x3_1 p253 q253); (have hw253_1 := hx253_1); (have hw253_0 := hx253_0); (obtain rfl : ad252 = ad253 := (by injection e253)); (replace hx253_0 := (HB.out.cell (World.block_lt_of_cell? w _ hx253_0)).trans hx253_0); (replace hx253_1 := (HB.out.cell (World.block_lt_of_cell? w _ hx253_1)).trans hx253_1); (replace p253 := eq_true p253); (replace q253 := eq_true q253); (have p255 : 0 ≤ (x3_1 : Int) := of_decide_eq_true zt8); (have q255 : x3_1 < (l0.length : Int) := of_decide_eq_true zt8); (obtain ⟨ad255, e255, hx255_0, hx255_1⟩ := at_T33 HR0.out x3_1 p255 q255); (have hw255_1 := hx255_1); (have hw255_0 := hx255_0); (obtain rfl : ad252 = ad255 := (by injection e255)); (replace hx255_0 := (HB.out.cell (World.block_lt_of_cell? w _ hx255_0)).trans hx255_0); (replace hx255_1 := (HB.out.cell (World.block_lt_of_cell? w _ hx255_1)).trans hx255_1); (replace p255 := eq_true p255); (replace q255 := eq_true q255); (have p256 : 0 ≤ (x3_1 : Int) := of_decide_eq_true zt8); (have q256 : x3_1 < (l0.length : Int) := of_decide_eq_true zt8); (obtain ⟨ad256, e256, hx256_0, hx256_1⟩ := at_T33 HR0.out x3_1 p256 q256); (have hw256_1 := hx256_1); (have hw256_0 := hx256_0); (obtain rfl : ad252 = ad256 := (by injection e256)); (replace hx256_0 := (HB.out.cell (World.block_lt_of_cell? w _ hx256_0)).trans hx256_0); (replace hx256_1 := (HB.out.cell (World.block_lt_of_cell? w _ hx256_1)).trans hx256_1); (replace p256 := eq_true p256); (replace q256 := eq_true q256); (have p7000 : 0 ≤ ((ji13) : Int) := of_decide_eq_true zt8); (have q7000 : (ji13) < (l0.length : Int) := of_decide_eq_true zt8); (obtain ⟨ad7000, e7000, hx7000_0, hx7000_1⟩ := at_T33 HR0.out (ji13) p7000 q7000); (have hw7000_1 := hx7000_1); (have hw7000_0 := hx7000_0); (obtain rfl : ad252 = ad7000 := (by injection e7000)); (replace hx7000_0 := (HB.out.cell (World.block_lt_of_cell? w _ hx7000_0)).trans hx7000_0); (replace hx7000_1 := (HB.out.cell (World.block_lt_of_cell? w _ hx7000_1)).trans hx7000_1); (replace p7000 := eq_true p7000); (replace q7000 := eq_true q7000); (have p7001 : 0 ≤ (x3_1 : Int) := of_decide_eq_true zt8); (have q7001 : x3_1 < (l0.length : Int) := of_decide_eq_true zt8); (obtain ⟨ad7001, e7001, hx7001_0, hx7001_1⟩ := at_T33 HR0.out x3_1 p7001 q7001); (have hw7001_1 := hx7001_1); (have hw7001_0 := hx7001_0); (obtain rfl : ad252 = ad7001 := (by injection e7001)); (replace hx7001_0 := (HB.out.cell (World.block_lt_of_cell? w _ hx7001_0)).trans hx7001_0); (replace hx7001_1 := (HB.out.cell (World.block_lt_of_cell? w _ hx7001_1)).trans hx7001_1); (replace p7001 := eq_true p7001); (replace q7001 := eq_true q7001); (have p7002 : 0 ≤ (x3_1 : Int) := of_decide_eq_true zt8); (have q7002 : x3_1 < (l0.length : Int) := of_decide_eq_true zt8); (obtain ⟨ad7002, e7002, hx7002_0, hx7002_1⟩ := at_T33 HR0.out x3_1 p7002 q7002); (have hw7002_1 := hx7002_1); (have hw7002_0 := hx7002_0); (obtain rfl : ad252 = ad7002 := (by injection e7002)); (replace hx7002_0 := (HB.out.cell (World.block_lt_of_cell? w _ hx7002_0)).trans hx7002_0); (replace hx7002_1 := (HB.out.cell (World.block_lt_of_cell? w _ hx7002_1)).trans hx7002_1); (replace p7002 := eq_true p7002); (replace q7002 := eq_true q7002); (refine wp_quiet_drew (by kernel_rfl) (by kernel_rfl) ?_); (generalize wr.drew = w7003 at HB hx252_0 hx252_1 hx253_0 hx253_1 hx255_0 hx255_1 hx256_0 hx256_1 hx7000_0 hx7000_1 hx7001_0 hx7001_1 hx7002_0 hx7002_1 ⊢); (have hS_ : (fun w' => w'.cell? (ad252.add ((x3_1).toNat * 2)) = some (.string ((rd_T33 l0 x3_1).f0)) ∧ w'.cell? ⟨(ad252.add ((x3_1).toNat * 2)).block, (ad252.add ((x3_1).toNat * 2)).off + 1, none⟩ = some (.string ((rd_T33 l0 x3_1).f1)) ∧ w'.cell? (ad252.add ((x3_1).toNat * 2)) = some (.string ((rd_T33 l0 x3_1).f0)) ∧ w'.cell? ⟨(ad252.add ((x3_1).toNat * 2)).block, (ad252.add ((x3_1).toNat * 2)).off + 1, none⟩ = some (.string ((rd_T33 l0 x3_1).f1)) ∧ w'.cell? (ad252.add ((x3_1).toNat * 2)) = some (.string ((rd_T33 l0 x3_1).f0)) ∧ w'.cell? ⟨(ad252.add ((x3_1).toNat * 2)).block, (ad252.add ((x3_1).toNat * 2)).off + 1, none⟩ = some (.string ((rd_T33 l0 x3_1).f1)) ∧ w'.cell? (ad252.add ((x3_1).toNat * 2)) = some (.string ((rd_T33 l0 x3_1).f0)) ∧ w'.cell? ⟨(ad252.add ((x3_1).toNat * 2)).block, (ad252.add ((x3_1).toNat * 2)).off + 1, none⟩ = some (.string ((rd_T33 l0 x3_1).f1)) ∧ w'.cell? (ad252.add (((ji13)).toNat * 2)) = some (.string ((rd_T33 l0 (ji13)).f0)) ∧ w'.cell? ⟨(ad252.add (((ji13)).toNat * 2)).block, (ad252.add (((ji13)).toNat * 2)).off + 1, none⟩ = some (.string ((rd_T33 l0 (ji13)).f1)) ∧ w'.cell? (ad252.add ((x3_1).toNat * 2)) = some (.string ((rd_T33 l0 x3_1).f0)) ∧ w'.cell? ⟨(ad252.add ((x3_1).toNat * 2)).block, (ad252.add ((x3_1).toNat * 2)).off + 1, none⟩ = some (.string ((rd_T33 l0 x3_1).f1)) ∧ w'.cell? (ad252.add ((x3_1).toNat * 2)) = some (.string ((rd_T33 l0 x3_1).f0)) ∧ w'.cell? ⟨(ad252.add ((x3_1).toNat * 2)).block, (ad252.add ((x3_1).toNat * 2)).off + 1, none⟩ = some (.string ((rd_T33 l0 x3_1).f1))) w7003 := ⟨((HB.out.cell (World.block_lt_of_cell? w _ hw252_0)).trans hw252_0), ((HB.out.cell (World.block_lt_of_cell? w _ hw252_1)).trans hw252_1), ((HB.out.cell (World.block_lt_of_cell? w _ hw253_0)).trans hw253_0), ((HB.out.cell (World.block_lt_of_cell? w _ hw253_1)).trans hw253_1), ((HB.out.cell (World.block_lt_of_cell? w _ hw255_0)).trans hw255_0), ((HB.out.cell (World.block_lt_of_cell? w _ hw255_1)).trans hw255_1), ((HB.out.cell (World.block_lt_of_cell? w _ hw256_0)).trans hw256_0), ((HB.out.cell (World.block_lt_of_cell? w _ hw256_1)).trans hw256_1), ((HB.out.cell (World.block_lt_of_cell? w _ hw7000_0)).trans hw7000_0), ((HB.out.cell (World.block_lt_of_cell? w _ hw7000_1)).trans hw7000_1), ((HB.out.cell (World.block_lt_of_cell? w _ hw7001_0)).trans hw7001_0), ((HB.out.cell (World.block_lt_of_cell? w _ hw7001_1)).trans hw7001_1), ((HB.out.cell (World.block_lt_of_cell? w _ hw7002_0)).trans hw7002_0), ((HB.out.cell (World.block_lt_of_cell? w _ hw7002_1)).trans hw7002_1)⟩); (obtain ⟨hq0_, hq1_, hq2_, hq3_, hq4_, hq5_, hq6_, hq7_, hq8_, hq9_, hq10_, hq11_, hq12_, hq13_⟩ := hS_); (replace hq0_ := cell_regrown hq0_); (replace hq1_ := cell_regrown hq1_); (replace hq2_ := cell_regrown hq2_); (replace hq3_ := cell_regrown hq3_); (replace hq4_ := cell_regrown hq4_); (replace hq5_ := cell_regrown hq5_); (replace hq6_ := cell_regrown hq6_); (replace hq7_ := cell_regrown hq7_); (replace hq8_ := cell_regrown hq8_); (replace hq9_ := cell_regrown hq9_); (replace hq10_ := cell_regrown hq10_); (replace hq11_ := cell_regrown hq11_); (replace hq12_ := cell_regrown hq12_); (replace hq13_ := cell_regrown hq13_); (repeat (first | go_big_quiet_skip | quiet_step (first | (go_at_call 26; exact Calls.regrown_of (spec_Clean.calls k1 ((rd_T33 l0 x3_1).f0) t254 _ A7.out))))); (refine wpQuiet_nil ?_); (intro _ hw'); (obtain ⟨⟨nq, osq⟩, hw''⟩ := hw'); (subst hw''); (have hb := below_regrown w7003 nq osq); (generalize Sort.grow (redrawn w7003 nq) osq = w7004 at hb ⊢); (have n0_ := Aside0.mk (below_step zt3 hb)); (clear HB); (have HB := n0_); (clear n0_); (clear hb hq0_ hq1_ hq2_ hq3_ hq4_ hq5_ hq6_ hq7_ hq8_ hq9_ hq10_ hq11_ hq12_ hq13_); (try go_wp2); (first | (go_ret; exact ⟨by first | rfl | (simp [errW_none, errW_some] <;> rfl) | (simp only [← hji13]; first | rfl | (simp [errW_none, errW_some] <;> rfl)) | (simp [*, errW_none, errW_some] <;> rfl), zt3⟩) | (go_roundg k1; (case measure => have := HK1.out; omega); (case rel => exact ⟨(wrap64 (x3_1 + 1)), zt12, H', ⟨by have := HK1.out; omega⟩, ⟨zt3⟩⟩))))
        all_goals try ((try go_wp2); (have n0_ := Aside0.mk (below_drew1 HB.out)); (clear HB); (have HB := n0_); (clear n0_); (have p252 : 0 ≤ (x3_1 : Int) := of_decide_eq_true zt8); (have q252 : x3_1 < (l0.length : Int) := of_decide_eq_true zt8); (obtain ⟨ad252, e252, hx252_0, hx252_1⟩ := at_T33 HR0.out x3_1 p252 q252); (have hw252_1 := hx252_1); (have hw252_0 := hx252_0); (cases e252); (replace hx252_0 := (HB.out.cell (World.block_lt_of_cell? w _ hx252_0)).trans hx252_0); (replace hx252_1 := (HB.out.cell (World.block_lt_of_cell? w _ hx252_1)).trans hx252_1); (replace p252 := eq_true p252); (replace q252 := eq_true q252); (have p253 : 0 ≤ (x3_1 : Int) := of_decide_eq_true zt8); (have q253 : x3_1 < (l0.length : Int) := of_decide_eq_true zt8); (obtain ⟨ad253, e253, hx253_0, hx253_1⟩ := at_T33 HR0.out x3_1 p253 q253); (have hw253_1 := hx253_1); (have hw253_0 := hx253_0); (obtain rfl : ad252 = ad253 := (by injection e253)); (replace hx253_0 := (HB.out.cell (World.block_lt_of_cell? w _ hx253_0)).trans hx253_0); (replace hx253_1 := (HB.out.cell (World.block_lt_of_cell? w _ hx253_1)).trans hx253_1); (replace p253 := eq_true p253); (replace q253 := eq_true q253); (have p255 : 0 ≤ (x3_1 : Int) := of_decide_eq_true zt8); (have q255 : x3_1 < (l0.length : Int) := of_decide_eq_true zt8); (obtain ⟨ad255, e255, hx255_0, hx255_1⟩ := at_T33 HR0.out x3_1 p255 q255); (have hw255_1 := hx255_1); (have hw255_0 := hx255_0); (obtain rfl : ad252 = ad255 := (by injection e255)); (replace hx255_0 := (HB.out.cell (World.block_lt_of_cell? w _ hx255_0)).trans hx255_0); (replace hx255_1 := (HB.out.cell (World.block_lt_of_cell? w _ hx255_1)).trans hx255_1); (replace p255 := eq_true p255); (replace q255 := eq_true q255); (have p256 : 0 ≤ (x3_1 : Int) := of_decide_eq_true zt8); (have q256 : x3_1 < (l0.length : Int) := of_decide_eq_true zt8); (obtain ⟨ad256, e256, hx256_0, hx256_1⟩ := at_T33 HR0.out x3_1 p256 q256); (have hw256_1 := hx256_1); (have hw256_0 := hx256_0); (obtain rfl : ad252 = ad256 := (by injection e256)); (replace hx256_0 := (HB.out.cell (World.block_lt_of_cell? w _ hx256_0)).trans hx256_0); (replace hx256_1 := (HB.out.cell (World.block_lt_of_cell? w _ hx256_1)).trans hx256_1); (replace p256 := eq_true p256); (replace q256 := eq_true q256); (have p7000 : 0 ≤ ((ji13) : Int) := of_decide_eq_true zt8); (have q7000 : (ji13) < (l0.length : Int) := of_decide_eq_true zt8); (obtain ⟨ad7000, e7000, hx7000_0, hx7000_1⟩ := at_T33 HR0.out (ji13) p7000 q7000); (have hw7000_1 := hx7000_1); (have hw7000_0 := hx7000_0); (obtain rfl : ad252 = ad7000 := (by injection e7000)); (replace hx7000_0 := (HB.out.cell (World.block_lt_of_cell? w _ hx7000_0)).trans hx7000_0); (replace hx7000_1 := (HB.out.cell (World.block_lt_of_cell? w _ hx7000_1)).trans hx7000_1); (replace p7000 := eq_true p7000); (replace q7000 := eq_true q7000); (have p7001 : 0 ≤ (x3_1 : Int) := of_decide_eq_true zt8); (have q7001 : x3_1 < (l0.length : Int) := of_decide_eq_true zt8); (obtain ⟨ad7001, e7001, hx7001_0, hx7001_1⟩ := at_T33 HR0.out x3_1 p7001 q7001); (have hw7001_1 := hx7001_1); (have hw7001_0 := hx7001_0); (obtain rfl : ad252 = ad7001 := (by injection e7001)); (replace hx7001_0 := (HB.out.cell (World.block_lt_of_cell? w _ hx7001_0)).trans hx7001_0); (replace hx7001_1 := (HB.out.cell (World.block_lt_of_cell? w _ hx7001_1)).trans hx7001_1); (replace p7001 := eq_true p7001); (replace q7001 := eq_true q7001); (refine wp_quiet_drew (by kernel_rfl) (by kernel_rfl) ?_); (generalize wr.drew = w7002 at HB hx252_0 hx252_1 hx253_0 hx253_1 hx255_0 hx255_1 hx256_0 hx256_1 hx7000_0 hx7000_1 hx7001_0 hx7001_1 ⊢); (have hS_ : (fun w' => w'.cell? (ad252.add ((x3_1).toNat * 2)) = some (.string ((rd_T33 l0 x3_1).f0)) ∧ w'.cell? ⟨(ad252.add ((x3_1).toNat * 2)).block, (ad252.add ((x3_1).toNat * 2)).off + 1, none⟩ = some (.string ((rd_T33 l0 x3_1).f1)) ∧ w'.cell? (ad252.add ((x3_1).toNat * 2)) = some (.string ((rd_T33 l0 x3_1).f0)) ∧ w'.cell? ⟨(ad252.add ((x3_1).toNat * 2)).block, (ad252.add ((x3_1).toNat * 2)).off + 1, none⟩ = some (.string ((rd_T33 l0 x3_1).f1)) ∧ w'.cell? (ad252.add ((x3_1).toNat * 2)) = some (.string ((rd_T33 l0 x3_1).f0)) ∧ w'.cell? ⟨(ad252.add ((x3_1).toNat * 2)).block, (ad252.add ((x3_1).toNat * 2)).off + 1, none⟩ = some (.string ((rd_T33 l0 x3_1).f1)) ∧ w'.cell? (ad252.add ((x3_1).toNat * 2)) = some (.string ((rd_T33 l0 x3_1).f0)) ∧ w'.cell? ⟨(ad252.add ((x3_1).toNat * 2)).block, (ad252.add ((x3_1).toNat * 2)).off + 1, none⟩ = some (.string ((rd_T33 l0 x3_1).f1)) ∧ w'.cell? (ad252.add (((ji13)).toNat * 2)) = some (.string ((rd_T33 l0 (ji13)).f0)) ∧ w'.cell? ⟨(ad252.add (((ji13)).toNat * 2)).block, (ad252.add (((ji13)).toNat * 2)).off + 1, none⟩ = some (.string ((rd_T33 l0 (ji13)).f1)) ∧ w'.cell? (ad252.add ((x3_1).toNat * 2)) = some (.string ((rd_T33 l0 x3_1).f0)) ∧ w'.cell? ⟨(ad252.add ((x3_1).toNat * 2)).block, (ad252.add ((x3_1).toNat * 2)).off + 1, none⟩ = some (.string ((rd_T33 l0 x3_1).f1))) w7002 := ⟨((HB.out.cell (World.block_lt_of_cell? w _ hw252_0)).trans hw252_0), ((HB.out.cell (World.block_lt_of_cell? w _ hw252_1)).trans hw252_1), ((HB.out.cell (World.block_lt_of_cell? w _ hw253_0)).trans hw253_0), ((HB.out.cell (World.block_lt_of_cell? w _ hw253_1)).trans hw253_1), ((HB.out.cell (World.block_lt_of_cell? w _ hw255_0)).trans hw255_0), ((HB.out.cell (World.block_lt_of_cell? w _ hw255_1)).trans hw255_1), ((HB.out.cell (World.block_lt_of_cell? w _ hw256_0)).trans hw256_0), ((HB.out.cell (World.block_lt_of_cell? w _ hw256_1)).trans hw256_1), ((HB.out.cell (World.block_lt_of_cell? w _ hw7000_0)).trans hw7000_0), ((HB.out.cell (World.block_lt_of_cell? w _ hw7000_1)).trans hw7000_1), ((HB.out.cell (World.block_lt_of_cell? w _ hw7001_0)).trans hw7001_0), ((HB.out.cell (World.block_lt_of_cell? w _ hw7001_1)).trans hw7001_1)⟩); (obtain ⟨hq0_, hq1_, hq2_, hq3_, hq4_, hq5_, hq6_, hq7_, hq8_, hq9_, hq10_, hq11_⟩ := hS_); (replace hq0_ := cell_regrown hq0_); (replace hq1_ := cell_regrown hq1_); (replace hq2_ := cell_regrown hq2_); (replace hq3_ := cell_regrown hq3_); (replace hq4_ := cell_regrown hq4_); (replace hq5_ := cell_regrown hq5_); (replace hq6_ := cell_regrown hq6_); (replace hq7_ := cell_regrown hq7_); (replace hq8_ := cell_regrown hq8_); (replace hq9_ := cell_regrown hq9_); (replace hq10_ := cell_regrown hq10_); (replace hq11_ := cell_regrown hq11_); (repeat (first | go_big_quiet_skip | quiet_step (first | (go_at_call 26; exact Calls.regrown_of (spec_Clean.calls k1 ((rd_T33 l0 x3_1).f0) t254 _ A7.out))))); (refine wpQuiet_nil ?_); (intro _ hw'); (obtain ⟨⟨nq, osq⟩, hw''⟩ := hw'); (subst hw''); (have hb := below_regrown w7002 nq osq); (generalize Sort.grow (redrawn w7002 nq) osq = w7003 at hb ⊢); (have n0_ := Aside0.mk (below_step zt3 hb)); (clear HB); (have HB := n0_); (clear n0_); (clear hb hq0_ hq1_ hq2_ hq3_ hq4_ hq5_ hq6_ hq7_ hq8_ hq9_ hq10_ hq11_); (try go_wp2); (first | (go_ret; exact ⟨by first | rfl | (simp [errW_none, errW_some] <;> rfl) | (simp only [← hji13]; first | rfl | (simp [errW_none, errW_some] <;> rfl)) | (simp [*, errW_none, errW_some] <;> rfl), zt3⟩)))
        all_goals try ((try go_wp2); (have n0_ := Aside0.mk (below_drew1 HB.out)); (clear HB); (have HB := n0_); (clear n0_); (have p252 : 0 ≤ (x3_1 : Int) := of_decide_eq_true zt8); (have q252 : x3_1 < (l0.length : Int) := of_decide_eq_true zt8); (obtain ⟨ad252, e252, hx252_0, hx252_1⟩ := at_T33 HR0.out x3_1 p252 q252); (have hw252_1 := hx252_1); (have hw252_0 := hx252_0); (cases e252); (replace hx252_0 := (HB.out.cell (World.block_lt_of_cell? w _ hx252_0)).trans hx252_0); (replace hx252_1 := (HB.out.cell (World.block_lt_of_cell? w _ hx252_1)).trans hx252_1); (replace p252 := eq_true p252); (replace q252 := eq_true q252); (have p253 : 0 ≤ (x3_1 : Int) := of_decide_eq_true zt8); (have q253 : x3_1 < (l0.length : Int) := of_decide_eq_true zt8); (obtain ⟨ad253, e253, hx253_0, hx253_1⟩ := at_T33 HR0.out x3_1 p253 q253); (have hw253_1 := hx253_1); (have hw253_0 := hx253_0); (obtain rfl : ad252 = ad253 := (by injection e253)); (replace hx253_0 := (HB.out.cell (World.block_lt_of_cell? w _ hx253_0)).trans hx253_0); (replace hx253_1 := (HB.out.cell (World.block_lt_of_cell? w _ hx253_1)).trans hx253_1); (replace p253 := eq_true p253); (replace q253 := eq_true q253); (have p255 : 0 ≤ (x3_1 : Int) := of_decide_eq_true zt8); (have q255 : x3_1 < (l0.length : Int) := of_decide_eq_true zt8); (obtain ⟨ad255, e255, hx255_0, hx255_1⟩ := at_T33 HR0.out x3_1 p255 q255); (have hw255_1 := hx255_1); (have hw255_0 := hx255_0); (obtain rfl : ad252 = ad255 := (by injection e255)); (replace hx255_0 := (HB.out.cell (World.block_lt_of_cell? w _ hx255_0)).trans hx255_0); (replace hx255_1 := (HB.out.cell (World.block_lt_of_cell? w _ hx255_1)).trans hx255_1); (replace p255 := eq_true p255); (replace q255 := eq_true q255); (have p256 : 0 ≤ (x3_1 : Int) := of_decide_eq_true zt8); (have q256 : x3_1 < (l0.length : Int) := of_decide_eq_true zt8); (obtain ⟨ad256, e256, hx256_0, hx256_1⟩ := at_T33 HR0.out x3_1 p256 q256); (have hw256_1 := hx256_1); (have hw256_0 := hx256_0); (obtain rfl : ad252 = ad256 := (by injection e256)); (replace hx256_0 := (HB.out.cell (World.block_lt_of_cell? w _ hx256_0)).trans hx256_0); (replace hx256_1 := (HB.out.cell (World.block_lt_of_cell? w _ hx256_1)).trans hx256_1); (replace p256 := eq_true p256); (replace q256 := eq_true q256); (have p7000 : 0 ≤ (x3_1 : Int) := of_decide_eq_true zt8); (have q7000 : x3_1 < (l0.length : Int) := of_decide_eq_true zt8); (obtain ⟨ad7000, e7000, hx7000_0, hx7000_1⟩ := at_T33 HR0.out x3_1 p7000 q7000); (have hw7000_1 := hx7000_1); (have hw7000_0 := hx7000_0); (obtain rfl : ad252 = ad7000 := (by injection e7000)); (replace hx7000_0 := (HB.out.cell (World.block_lt_of_cell? w _ hx7000_0)).trans hx7000_0); (replace hx7000_1 := (HB.out.cell (World.block_lt_of_cell? w _ hx7000_1)).trans hx7000_1); (replace p7000 := eq_true p7000); (replace q7000 := eq_true q7000); (refine wp_quiet_drew (by kernel_rfl) (by kernel_rfl) ?_); (generalize wr.drew = w7001 at HB hx252_0 hx252_1 hx253_0 hx253_1 hx255_0 hx255_1 hx256_0 hx256_1 hx7000_0 hx7000_1 ⊢); (have hS_ : (fun w' => w'.cell? (ad252.add ((x3_1).toNat * 2)) = some (.string ((rd_T33 l0 x3_1).f0)) ∧ w'.cell? ⟨(ad252.add ((x3_1).toNat * 2)).block, (ad252.add ((x3_1).toNat * 2)).off + 1, none⟩ = some (.string ((rd_T33 l0 x3_1).f1)) ∧ w'.cell? (ad252.add ((x3_1).toNat * 2)) = some (.string ((rd_T33 l0 x3_1).f0)) ∧ w'.cell? ⟨(ad252.add ((x3_1).toNat * 2)).block, (ad252.add ((x3_1).toNat * 2)).off + 1, none⟩ = some (.string ((rd_T33 l0 x3_1).f1)) ∧ w'.cell? (ad252.add ((x3_1).toNat * 2)) = some (.string ((rd_T33 l0 x3_1).f0)) ∧ w'.cell? ⟨(ad252.add ((x3_1).toNat * 2)).block, (ad252.add ((x3_1).toNat * 2)).off + 1, none⟩ = some (.string ((rd_T33 l0 x3_1).f1)) ∧ w'.cell? (ad252.add ((x3_1).toNat * 2)) = some (.string ((rd_T33 l0 x3_1).f0)) ∧ w'.cell? ⟨(ad252.add ((x3_1).toNat * 2)).block, (ad252.add ((x3_1).toNat * 2)).off + 1, none⟩ = some (.string ((rd_T33 l0 x3_1).f1)) ∧ w'.cell? (ad252.add ((x3_1).toNat * 2)) = some (.string ((rd_T33 l0 x3_1).f0)) ∧ w'.cell? ⟨(ad252.add ((x3_1).toNat * 2)).block, (ad252.add ((x3_1).toNat * 2)).off + 1, none⟩ = some (.string ((rd_T33 l0 x3_1).f1))) w7001 := ⟨((HB.out.cell (World.block_lt_of_cell? w _ hw252_0)).trans hw252_0), ((HB.out.cell (World.block_lt_of_cell? w _ hw252_1)).trans hw252_1), ((HB.out.cell (World.block_lt_of_cell? w _ hw253_0)).trans hw253_0), ((HB.out.cell (World.block_lt_of_cell? w _ hw253_1)).trans hw253_1), ((HB.out.cell (World.block_lt_of_cell? w _ hw255_0)).trans hw255_0), ((HB.out.cell (World.block_lt_of_cell? w _ hw255_1)).trans hw255_1), ((HB.out.cell (World.block_lt_of_cell? w _ hw256_0)).trans hw256_0), ((HB.out.cell (World.block_lt_of_cell? w _ hw256_1)).trans hw256_1), ((HB.out.cell (World.block_lt_of_cell? w _ hw7000_0)).trans hw7000_0), ((HB.out.cell (World.block_lt_of_cell? w _ hw7000_1)).trans hw7000_1)⟩); (obtain ⟨hq0_, hq1_, hq2_, hq3_, hq4_, hq5_, hq6_, hq7_, hq8_, hq9_⟩ := hS_); (replace hq0_ := cell_regrown hq0_); (replace hq1_ := cell_regrown hq1_); (replace hq2_ := cell_regrown hq2_); (replace hq3_ := cell_regrown hq3_); (replace hq4_ := cell_regrown hq4_); (replace hq5_ := cell_regrown hq5_); (replace hq6_ := cell_regrown hq6_); (replace hq7_ := cell_regrown hq7_); (replace hq8_ := cell_regrown hq8_); (replace hq9_ := cell_regrown hq9_); (repeat (first | go_big_quiet_skip | quiet_step (first | (go_at_call 26; exact Calls.regrown_of (spec_Clean.calls k1 ((rd_T33 l0 x3_1).f0) t254 _ A7.out))))); (refine wpQuiet_nil ?_); (intro _ hw'); (obtain ⟨⟨nq, osq⟩, hw''⟩ := hw'); (subst hw''); (have hb := below_regrown w7001 nq osq); (generalize Sort.grow (redrawn w7001 nq) osq = w7002 at hb ⊢); (have n0_ := Aside0.mk (below_step zt3 hb)); (clear HB); (have HB := n0_); (clear n0_); (clear hb hq0_ hq1_ hq2_ hq3_ hq4_ hq5_ hq6_ hq7_ hq8_ hq9_); (try go_wp2); (first | (go_ret; exact ⟨zt10, zt3⟩) | (go_roundg k1; (case measure => have := HK1.out; omega); (case rel => exact ⟨(wrap64 (x3_1 + 1)), zt12, H', ⟨by have := HK1.out; omega⟩, ⟨zt3⟩⟩))))
      ·rw [if_neg c8] at H
       have c8b0 := beq_eq_false_iff_ne.mpr c8
       have c8b1 := bne_iff_ne.mpr c8
       obtain rfl := Option.some.inj H
       try go_wp2
       have n0_ := Aside0.mk (below_drew1 HB.out)
       clear HB
       have HB := n0_
       clear n0_
       have p252 : 0 ≤ (x3_1 : Int) := of_decide_eq_true zt8
       have q252 : x3_1 < (l0.length : Int) := of_decide_eq_true zt8
       obtain ⟨ad252, e252, hx252_0, hx252_1⟩ := at_T33 HR0.out x3_1 p252 q252
       have hw252_1 := hx252_1
       have hw252_0 := hx252_0
       cases e252
       replace hx252_0 := (HB.out.cell (World.block_lt_of_cell? w _ hx252_0)).trans hx252_0
       replace hx252_1 := (HB.out.cell (World.block_lt_of_cell? w _ hx252_1)).trans hx252_1
       replace p252 := eq_true p252
       replace q252 := eq_true q252
       have p253 : 0 ≤ (x3_1 : Int) := of_decide_eq_true zt8
       have q253 : x3_1 < (l0.length : Int) := of_decide_eq_true zt8
       obtain ⟨ad253, e253, hx253_0, hx253_1⟩ := at_T33 HR0.out x3_1 p253 q253
       have hw253_1 := hx253_1
       have hw253_0 := hx253_0
       obtain rfl : ad252 = ad253 := (by injection e253)
       replace hx253_0 := (HB.out.cell (World.block_lt_of_cell? w _ hx253_0)).trans hx253_0
       replace hx253_1 := (HB.out.cell (World.block_lt_of_cell? w _ hx253_1)).trans hx253_1
       replace p253 := eq_true p253
       replace q253 := eq_true q253
       have p255 : 0 ≤ (x3_1 : Int) := of_decide_eq_true zt8
       have q255 : x3_1 < (l0.length : Int) := of_decide_eq_true zt8
       obtain ⟨ad255, e255, hx255_0, hx255_1⟩ := at_T33 HR0.out x3_1 p255 q255
       have hw255_1 := hx255_1
       have hw255_0 := hx255_0
       obtain rfl : ad252 = ad255 := (by injection e255)
       replace hx255_0 := (HB.out.cell (World.block_lt_of_cell? w _ hx255_0)).trans hx255_0
       replace hx255_1 := (HB.out.cell (World.block_lt_of_cell? w _ hx255_1)).trans hx255_1
       replace p255 := eq_true p255
       replace q255 := eq_true q255
       refine wp_quiet_drew (by kernel_rfl) (by kernel_rfl) ?_
       generalize wr.drew = w29 at HB hx252_0 hx252_1 hx253_0 hx253_1 hx255_0 hx255_1 ⊢
       have hS_ : (fun w' => w'.cell? (ad252.add ((x3_1).toNat * 2)) = some (.string ((rd_T33 l0 x3_1).f0)) ∧ w'.cell? ⟨(ad252.add ((x3_1).toNat * 2)).block, (ad252.add ((x3_1).toNat * 2)).off + 1, none⟩ = some (.string ((rd_T33 l0 x3_1).f1)) ∧ w'.cell? (ad252.add ((x3_1).toNat * 2)) = some (.string ((rd_T33 l0 x3_1).f0)) ∧ w'.cell? ⟨(ad252.add ((x3_1).toNat * 2)).block, (ad252.add ((x3_1).toNat * 2)).off + 1, none⟩ = some (.string ((rd_T33 l0 x3_1).f1)) ∧ w'.cell? (ad252.add ((x3_1).toNat * 2)) = some (.string ((rd_T33 l0 x3_1).f0)) ∧ w'.cell? ⟨(ad252.add ((x3_1).toNat * 2)).block, (ad252.add ((x3_1).toNat * 2)).off + 1, none⟩ = some (.string ((rd_T33 l0 x3_1).f1))) w29 := ⟨((HB.out.cell (World.block_lt_of_cell? w _ hw252_0)).trans hw252_0), ((HB.out.cell (World.block_lt_of_cell? w _ hw252_1)).trans hw252_1), ((HB.out.cell (World.block_lt_of_cell? w _ hw253_0)).trans hw253_0), ((HB.out.cell (World.block_lt_of_cell? w _ hw253_1)).trans hw253_1), ((HB.out.cell (World.block_lt_of_cell? w _ hw255_0)).trans hw255_0), ((HB.out.cell (World.block_lt_of_cell? w _ hw255_1)).trans hw255_1)⟩
       obtain ⟨hq0_, hq1_, hq2_, hq3_, hq4_, hq5_⟩ := hS_
       replace hq0_ := cell_regrown hq0_
       replace hq1_ := cell_regrown hq1_
       replace hq2_ := cell_regrown hq2_
       replace hq3_ := cell_regrown hq3_
       replace hq4_ := cell_regrown hq4_
       replace hq5_ := cell_regrown hq5_
       repeat (first | go_big_quiet_skip | quiet_step (first | (go_at_call 26; exact Calls.regrown_of (spec_Clean.calls k1 ((rd_T33 l0 x3_1).f0) t254 _ A7.out))))
       refine wpQuiet_nil ?_
       intro _ hw'
       obtain ⟨⟨nq, osq⟩, hw''⟩ := hw'
       subst hw''
       have hb := below_regrown w29 nq osq
       generalize Sort.grow (redrawn w29 nq) osq = w30 at hb ⊢
       have n0_ := Aside0.mk (below_step zt3 hb)
       clear HB
       have HB := n0_
       clear n0_
       clear hb hq0_ hq1_ hq2_ hq3_ hq4_ hq5_
       try go_wp2
       go_ret
       exact ⟨zt10, zt3⟩
    ·rw [if_neg c3] at H
     have c3b0 := decide_eq_false c3
     clear c3
     obtain rfl := Option.some.inj H
     go_wp2
     go_ret
     exact ⟨zt10, zt3⟩

end Go.Proofs.YtkmcnjpgamaljaaGreatDoor.PFnFiles

-- Out of the kit's print, with contracts of mine among it (myprint.py).
import Derived.Test.YtopicidanlienaaPFnExactTrimx0
import Derived.Test.YtopicidanlienaaPFnExactTrimx13
import Derived.Test.YtopicidanlienaaPFnExactTrimx15
namespace Go.Proofs.Ytopicidanlienaa.PFnExactTrim
open Go.RowKit Go.Proofs.YtopicidanlienaaW.PrintWords Go.Proofs.YtopicidanlienaaW.PrintLast Go.Proofs.YtopicidanlienaaW.PrintMore
attribute [local go_sem] max2_int min2_int max_two min_two max_three min_three max_four min_four   -- for this text's walks alone
set_option linter.unusedVariables false
set_option linter.unusedSimpArgs false

/-! ### laws_heldMod: function 19 -/
def laws_heldMod.f (k : Nat) (l0_0 : List ByteArray) (l0_1 : List (S73)) (l0_2 : List (S55)) (l0_3 : List (S53)) (l0_4 : List (S50)) (a1 : Int) : Option (Int) := (laws_heldStringS.f k l0_0 a1).bind fun t481 => (if t481 < 0 then (some (-1)) else ((laws_heldImpS.f k l0_1 t481).bind fun t482 => (if t482 < 0 then (some (-1)) else ((laws_heldExpS.f k l0_2 t482).bind fun t483 => (if t483 < 0 then (some (-1)) else ((laws_heldStmtS.f k l0_3 t483).bind fun t484 => (if t484 < 0 then (some (-1)) else ((laws_heldExprS.f k l0_4 t484).bind fun t485 => (if t485 < 0 then (some (-1)) else (some t485))))))))))
theorem laws_heldMod.mono : ∀ a0 a1 a2 a3 a4 a5 k, LeO (laws_heldMod.f k a0 a1 a2 a3 a4 a5) (laws_heldMod.f (k + 1) a0 a1 a2 a3 a4 a5) := by
 intro a0 a1 a2 a3 a4 a5 k
 unfold laws_heldMod.f
 repeat' (first | (with_reducible first | exact laws_heldExpS.mono _ _ _ | exact laws_heldExprS.mono _ _ _ | exact laws_heldImpS.mono _ _ _ | exact laws_heldStmtS.mono _ _ _ | exact laws_heldStringS.mono _ _ _ | exact LeO.refl _ | exact LeO.none _ | refine LeO.ite ?_ ?_ | refine LeO.bind ?_ (fun _ => ?_)) | exact LeO.none _ | refine LeO.ite ?_ ?_ | refine LeO.bind ?_ (fun _ => ?_))
set_option maxHeartbeats 8000000 in
set_option maxRecDepth 100000 in
theorem laws_heldMod.calls (k : Nat) (A0_0 : Option Addr) (c0_0 : Nat) (l0_0 : List ByteArray) (A0_1 : Option Addr) (c0_1 : Nat) (l0_1 : List (S73)) (A0_2 : Option Addr) (c0_2 : Nat) (l0_2 : List (S55)) (A0_3 : Option Addr) (c0_3 : Nat) (l0_3 : List (S53)) (A0_4 : Option Addr) (c0_4 : Nat) (l0_4 : List (S50)) (a1 : Int) (r : Int) (w : World) (hr0_0 : Kd.C Kd.string w A0_0 l0_0.length l0_0) (hc0_0 : l0_0.length ≤ c0_0) (hr0_1 : Kd.C k73 w A0_1 l0_1.length l0_1) (hc0_1 : l0_1.length ≤ c0_1) (hr0_2 : Kd.C k55 w A0_2 l0_2.length l0_2) (hc0_2 : l0_2.length ≤ c0_2) (hr0_3 : Kd.C k53 w A0_3 l0_3.length l0_3) (hc0_3 : l0_3.length ≤ c0_3) (hr0_4 : Kd.C k50 w A0_4 l0_4.length l0_4) (hc0_4 : l0_4.length ≤ c0_4) (h : laws_heldMod.f k l0_0 l0_1 l0_2 l0_3 l0_4 a1 = some r) :
  Calls Try.prog 19 #[.agg #[.slice A0_0 l0_0.length c0_0, .slice A0_1 l0_1.length c0_1, .slice A0_2 l0_2.length c0_2, .slice A0_3 l0_3.length c0_3, .slice A0_4 l0_4.length c0_4], .int .i64 a1] w fun e w' => e = .returned (.int .i64 r) ∧ Below w.heap.size w w' := by
 have hu36 := Try.underlying36
 have HR0_0 := Aside0.mk hr0_0
 have HC0_0 := Aside0.mk hc0_0
 clear hr0_0 hc0_0
 have HR0_1 := Aside0.mk hr0_1
 have HC0_1 := Aside0.mk hc0_1
 clear hr0_1 hc0_1
 have HR0_2 := Aside0.mk hr0_2
 have HC0_2 := Aside0.mk hc0_2
 clear hr0_2 hc0_2
 have HR0_3 := Aside0.mk hr0_3
 have HC0_3 := Aside0.mk hc0_3
 clear hr0_3 hc0_3
 have HR0_4 := Aside0.mk hr0_4
 have HC0_4 := Aside0.mk hc0_4
 clear hr0_4 hc0_4
 have HB := Aside0.mk (Below.refl w.heap.size w)
 try unfold laws_heldMod.f at h
 have H := h
 clear h
 replace H := bnd H
 obtain ⟨t481, A3, H⟩ := H
 try dsimp only at H
 by_cases c4 : t481 < 0
 rw [if_pos c4] at H
 have c4b0 : decide (t481 < 0) = true := decide_eq_true c4
 clear c4
 obtain rfl := Option.some.inj H
 rotate_left
 rw [if_neg c4] at H
 have c4b0 : decide (t481 < 0) = false := decide_eq_false c4
 clear c4
 replace H := bnd H
 obtain ⟨t482, A8, H⟩ := H
 try dsimp only at H
 by_cases c9 : t482 < 0
 rw [if_pos c9] at H
 have c9b0 : decide (t482 < 0) = true := decide_eq_true c9
 clear c9
 obtain rfl := Option.some.inj H
 rotate_left
 rw [if_neg c9] at H
 have c9b0 : decide (t482 < 0) = false := decide_eq_false c9
 clear c9
 replace H := bnd H
 obtain ⟨t483, A15, H⟩ := H
 try dsimp only at H
 by_cases c16 : t483 < 0
 rw [if_pos c16] at H
 have c16b0 : decide (t483 < 0) = true := decide_eq_true c16
 clear c16
 obtain rfl := Option.some.inj H
 rotate_left
 rw [if_neg c16] at H
 have c16b0 : decide (t483 < 0) = false := decide_eq_false c16
 clear c16
 replace H := bnd H
 obtain ⟨t484, A24, H⟩ := H
 try dsimp only at H
 by_cases c25 : t484 < 0
 rw [if_pos c25] at H
 have c25b0 : decide (t484 < 0) = true := decide_eq_true c25
 clear c25
 obtain rfl := Option.some.inj H
 rotate_left
 rw [if_neg c25] at H
 have c25b0 : decide (t484 < 0) = false := decide_eq_false c25
 clear c25
 replace H := bnd H
 obtain ⟨t485, A35, H⟩ := H
 try dsimp only at H
 by_cases c36 : t485 < 0
 rw [if_pos c36] at H
 have c36b0 : decide (t485 < 0) = true := decide_eq_true c36
 clear c36
 obtain rfl := Option.some.inj H
 rotate_left
 rw [if_neg c36] at H
 have c36b0 : decide (t485 < 0) = false := decide_eq_false c36
 clear c36
 obtain rfl := Option.some.inj H
 rotate_left
 all_goals
  go_enter Try.func19, Try.ntmps19
  repeat (go_wp2_with (first | ((with_reducible refine gate_callee (f := 54) rfl ?_); refine goesL_ (some 26) rfl rfl Try.func54 (by kernel_rfl) rfl #[.slice A0_3 l0_3.length c0_3, .int .i64 t483] rfl zt5 ?_; (with_reducible refine (laws_heldStmtS.calls k _ _ l0_3 t483 t484 _ ?side1 ?side2 A24.out).mono ?_); (case side1 => exact cz (Kd.C_below HR0_3.out HB.out)); (case side2 => exact HC0_3.out); rintro e w7009 ⟨rfl, hb⟩; refine ⟨_, rfl, ?_⟩; have n0_ := Aside0.mk (blk_below (g := gb7000) (o := .cells #[.slice A0_0 l0_0.length c0_0, .slice A0_1 l0_1.length c0_1, .slice A0_2 l0_2.length c0_2, .slice A0_3 l0_3.length c0_3, .slice A0_4 l0_4.length c0_4] 36 (0, 0)) (oz BK7000.out) hb); have n1_ := Aside0.mk (below_step zt10 hb); clear BK7000; clear HB; have BK7000 := n0_; have HB := n1_; clear n0_ n1_; (try clear hb); (try clear hb2); (try clear hk); (try clear hi); have hcz7010_0 : w7009.cell? ⟨gb7000, 0, none⟩ = some (.slice A0_0 l0_0.length c0_0) := (blk_cell BK7000.out 0).trans rfl; have hcz7010_1 : w7009.cell? ⟨gb7000, 1, none⟩ = some (.slice A0_1 l0_1.length c0_1) := (blk_cell BK7000.out 1).trans rfl; have hcz7010_2 : w7009.cell? ⟨gb7000, 2, none⟩ = some (.slice A0_2 l0_2.length c0_2) := (blk_cell BK7000.out 2).trans rfl; have hcz7010_3 : w7009.cell? ⟨gb7000, 3, none⟩ = some (.slice A0_3 l0_3.length c0_3) := (blk_cell BK7000.out 3).trans rfl; have hcz7010_4 : w7009.cell? ⟨gb7000, 4, none⟩ = some (.slice A0_4 l0_4.length c0_4) := (blk_cell BK7000.out 4).trans rfl; have hfz7010_0 := blk_frozen BK7000.out 0; have hfz7010_1 := blk_frozen BK7000.out 1; have hfz7010_2 := blk_frozen BK7000.out 2; have hfz7010_3 := blk_frozen BK7000.out 3; have hfz7010_4 := blk_frozen BK7000.out 4) | ((with_reducible refine gate_callee (f := 53) rfl ?_); refine goesL_ (some 20) rfl rfl Try.func53 (by kernel_rfl) rfl #[.slice A0_2 l0_2.length c0_2, .int .i64 t482] rfl zt5 ?_; (with_reducible refine (laws_heldExpS.calls k _ _ l0_2 t482 t483 _ ?side1 ?side2 A15.out).mono ?_); (case side1 => exact cz (Kd.C_below HR0_2.out HB.out)); (case side2 => exact HC0_2.out); rintro e w7007 ⟨rfl, hb⟩; refine ⟨_, rfl, ?_⟩; have n0_ := Aside0.mk (blk_below (g := gb7000) (o := .cells #[.slice A0_0 l0_0.length c0_0, .slice A0_1 l0_1.length c0_1, .slice A0_2 l0_2.length c0_2, .slice A0_3 l0_3.length c0_3, .slice A0_4 l0_4.length c0_4] 36 (0, 0)) (oz BK7000.out) hb); have n1_ := Aside0.mk (below_step zt10 hb); clear BK7000; clear HB; have BK7000 := n0_; have HB := n1_; clear n0_ n1_; (try clear hb); (try clear hb2); (try clear hk); (try clear hi); have hcz7008_0 : w7007.cell? ⟨gb7000, 0, none⟩ = some (.slice A0_0 l0_0.length c0_0) := (blk_cell BK7000.out 0).trans rfl; have hcz7008_1 : w7007.cell? ⟨gb7000, 1, none⟩ = some (.slice A0_1 l0_1.length c0_1) := (blk_cell BK7000.out 1).trans rfl; have hcz7008_2 : w7007.cell? ⟨gb7000, 2, none⟩ = some (.slice A0_2 l0_2.length c0_2) := (blk_cell BK7000.out 2).trans rfl; have hcz7008_3 : w7007.cell? ⟨gb7000, 3, none⟩ = some (.slice A0_3 l0_3.length c0_3) := (blk_cell BK7000.out 3).trans rfl; have hcz7008_4 : w7007.cell? ⟨gb7000, 4, none⟩ = some (.slice A0_4 l0_4.length c0_4) := (blk_cell BK7000.out 4).trans rfl; have hfz7008_0 := blk_frozen BK7000.out 0; have hfz7008_1 := blk_frozen BK7000.out 1; have hfz7008_2 := blk_frozen BK7000.out 2; have hfz7008_3 := blk_frozen BK7000.out 3; have hfz7008_4 := blk_frozen BK7000.out 4) | ((with_reducible refine gate_callee (f := 52) rfl ?_); refine goesL_ (some 14) rfl rfl Try.func52 (by kernel_rfl) rfl #[.slice A0_1 l0_1.length c0_1, .int .i64 t481] rfl zt5 ?_; (with_reducible refine (laws_heldImpS.calls k _ _ l0_1 t481 t482 _ ?side1 ?side2 A8.out).mono ?_); (case side1 => exact cz (Kd.C_below HR0_1.out HB.out)); (case side2 => exact HC0_1.out); rintro e w7005 ⟨rfl, hb⟩; refine ⟨_, rfl, ?_⟩; have n0_ := Aside0.mk (blk_below (g := gb7000) (o := .cells #[.slice A0_0 l0_0.length c0_0, .slice A0_1 l0_1.length c0_1, .slice A0_2 l0_2.length c0_2, .slice A0_3 l0_3.length c0_3, .slice A0_4 l0_4.length c0_4] 36 (0, 0)) (oz BK7000.out) hb); have n1_ := Aside0.mk (below_step zt10 hb); clear BK7000; clear HB; have BK7000 := n0_; have HB := n1_; clear n0_ n1_; (try clear hb); (try clear hb2); (try clear hk); (try clear hi); have hcz7006_0 : w7005.cell? ⟨gb7000, 0, none⟩ = some (.slice A0_0 l0_0.length c0_0) := (blk_cell BK7000.out 0).trans rfl; have hcz7006_1 : w7005.cell? ⟨gb7000, 1, none⟩ = some (.slice A0_1 l0_1.length c0_1) := (blk_cell BK7000.out 1).trans rfl; have hcz7006_2 : w7005.cell? ⟨gb7000, 2, none⟩ = some (.slice A0_2 l0_2.length c0_2) := (blk_cell BK7000.out 2).trans rfl; have hcz7006_3 : w7005.cell? ⟨gb7000, 3, none⟩ = some (.slice A0_3 l0_3.length c0_3) := (blk_cell BK7000.out 3).trans rfl; have hcz7006_4 : w7005.cell? ⟨gb7000, 4, none⟩ = some (.slice A0_4 l0_4.length c0_4) := (blk_cell BK7000.out 4).trans rfl; have hfz7006_0 := blk_frozen BK7000.out 0; have hfz7006_1 := blk_frozen BK7000.out 1; have hfz7006_2 := blk_frozen BK7000.out 2; have hfz7006_3 := blk_frozen BK7000.out 3; have hfz7006_4 := blk_frozen BK7000.out 4) | ((with_reducible refine gate_callee (f := 14) rfl ?_); refine goesL_ (some 8) rfl rfl Try.func14 (by kernel_rfl) rfl #[.slice A0_0 l0_0.length c0_0, .int .i64 a1] rfl zt5 ?_; (with_reducible refine (laws_heldStringS.calls k _ _ l0_0 a1 t481 _ ?side1 ?side2 A3.out).mono ?_); (case side1 => exact cz (Kd.C_below HR0_0.out HB.out)); (case side2 => exact HC0_0.out); rintro e w7003 ⟨rfl, hb⟩; refine ⟨_, rfl, ?_⟩; have n0_ := Aside0.mk (blk_below (g := gb7000) (o := .cells #[.slice A0_0 l0_0.length c0_0, .slice A0_1 l0_1.length c0_1, .slice A0_2 l0_2.length c0_2, .slice A0_3 l0_3.length c0_3, .slice A0_4 l0_4.length c0_4] 36 (0, 0)) (oz BK7000.out) hb); have n1_ := Aside0.mk (below_step zt10 hb); clear BK7000; clear HB; have BK7000 := n0_; have HB := n1_; clear n0_ n1_; (try clear hb); (try clear hb2); (try clear hk); (try clear hi); have hcz7004_0 : w7003.cell? ⟨gb7000, 0, none⟩ = some (.slice A0_0 l0_0.length c0_0) := (blk_cell BK7000.out 0).trans rfl; have hcz7004_1 : w7003.cell? ⟨gb7000, 1, none⟩ = some (.slice A0_1 l0_1.length c0_1) := (blk_cell BK7000.out 1).trans rfl; have hcz7004_2 : w7003.cell? ⟨gb7000, 2, none⟩ = some (.slice A0_2 l0_2.length c0_2) := (blk_cell BK7000.out 2).trans rfl; have hcz7004_3 : w7003.cell? ⟨gb7000, 3, none⟩ = some (.slice A0_3 l0_3.length c0_3) := (blk_cell BK7000.out 3).trans rfl; have hcz7004_4 : w7003.cell? ⟨gb7000, 4, none⟩ = some (.slice A0_4 l0_4.length c0_4) := (blk_cell BK7000.out 4).trans rfl; have hfz7004_0 := blk_frozen BK7000.out 0; have hfz7004_1 := blk_frozen BK7000.out 1; have hfz7004_2 := blk_frozen BK7000.out 2; have hfz7004_3 := blk_frozen BK7000.out 3; have hfz7004_4 := blk_frozen BK7000.out 4) | ((with_reducible refine gate_dst (N := 2) rfl ?_); refine box_event ?hg (N := 2) ?hd (cs := #[.slice A0_0 l0_0.length c0_0, .slice A0_1 l0_1.length c0_1, .slice A0_2 l0_2.length c0_2, .slice A0_3 l0_3.length c0_3, .slice A0_4 l0_4.length c0_4]) (t := 36) ?hr ?_; (case hd => rfl); (case hg => rfl); (case hr => first | (go_simp; done) | (go_simp; rfl)); intro gb7000 hg w7001 hbox hb; have n0_ := Aside0.mk (below_step zt3 hb); have n1_ := Aside0.mk (hbox); have n2_ := Aside0.mk ((zt6 : w.heap.size ≤ gb7000)); have n3_ := Aside0.mk ((zt6 : w.heap.size ≤ gb7000)); clear HB; have HB := n0_; have BK7000 := n1_; have GW7000 := n2_; have GE7000 := n3_; clear n0_ n1_ n2_ n3_; clear hb hbox hg; have hcz7002_0 : w7001.cell? ⟨gb7000, 0, none⟩ = some (.slice A0_0 l0_0.length c0_0) := (blk_cell BK7000.out 0).trans rfl; have hcz7002_1 : w7001.cell? ⟨gb7000, 1, none⟩ = some (.slice A0_1 l0_1.length c0_1) := (blk_cell BK7000.out 1).trans rfl; have hcz7002_2 : w7001.cell? ⟨gb7000, 2, none⟩ = some (.slice A0_2 l0_2.length c0_2) := (blk_cell BK7000.out 2).trans rfl; have hcz7002_3 : w7001.cell? ⟨gb7000, 3, none⟩ = some (.slice A0_3 l0_3.length c0_3) := (blk_cell BK7000.out 3).trans rfl; have hcz7002_4 : w7001.cell? ⟨gb7000, 4, none⟩ = some (.slice A0_4 l0_4.length c0_4) := (blk_cell BK7000.out 4).trans rfl; have hfz7002_0 := blk_frozen BK7000.out 0; have hfz7002_1 := blk_frozen BK7000.out 1; have hfz7002_2 := blk_frozen BK7000.out 2; have hfz7002_3 := blk_frozen BK7000.out 3; have hfz7002_4 := blk_frozen BK7000.out 4) | ((with_reducible refine gate_callee (f := 54) rfl ?_); refine goesL_ (some 26) rfl rfl Try.func54 (by kernel_rfl) rfl #[.slice A0_3 l0_3.length c0_3, .int .i64 t483] rfl zt5 ?_; (with_reducible refine (laws_heldStmtS.calls k _ _ l0_3 t483 t484 _ ?side1 ?side2 A24.out).mono ?_); (case side1 => exact cz (Kd.C_below HR0_3.out HB.out)); (case side2 => exact HC0_3.out); rintro e w7009 ⟨rfl, hb⟩; refine ⟨_, rfl, ?_⟩; have n0_ := Aside0.mk (blk_below (g := gb7000) (o := .cells #[.slice A0_0 l0_0.length c0_0, .slice A0_1 l0_1.length c0_1, .slice A0_2 l0_2.length c0_2, .slice A0_3 l0_3.length c0_3, .slice A0_4 l0_4.length c0_4] 36 (0, 0)) (oz BK7000.out) hb); have n1_ := Aside0.mk (below_step zt10 hb); clear BK7000; clear HB; have BK7000 := n0_; have HB := n1_; clear n0_ n1_; (try clear hb); (try clear hb2); (try clear hk); (try clear hi)) | ((with_reducible refine gate_callee (f := 55) rfl ?_); refine goesL_ (some 32) rfl rfl Try.func55 (by kernel_rfl) rfl #[.slice A0_4 l0_4.length c0_4, .int .i64 t484] rfl zt5 ?_; (with_reducible refine (laws_heldExprS.calls k _ _ l0_4 t484 t485 _ ?side1 ?side2 A35.out).mono ?_); (case side1 => exact cz (Kd.C_below HR0_4.out HB.out)); (case side2 => exact HC0_4.out); rintro e w7011 ⟨rfl, hb⟩; refine ⟨_, rfl, ?_⟩; have n0_ := Aside0.mk (blk_below (g := gb7000) (o := .cells #[.slice A0_0 l0_0.length c0_0, .slice A0_1 l0_1.length c0_1, .slice A0_2 l0_2.length c0_2, .slice A0_3 l0_3.length c0_3, .slice A0_4 l0_4.length c0_4] 36 (0, 0)) (oz BK7000.out) hb); have n1_ := Aside0.mk (below_step zt10 hb); clear BK7000; clear HB; have BK7000 := n0_; have HB := n1_; clear n0_ n1_; (try clear hb); (try clear hb2); (try clear hk); (try clear hi)) | ((with_reducible refine gate_callee (f := 53) rfl ?_); refine goesL_ (some 20) rfl rfl Try.func53 (by kernel_rfl) rfl #[.slice A0_2 l0_2.length c0_2, .int .i64 t482] rfl zt5 ?_; (with_reducible refine (laws_heldExpS.calls k _ _ l0_2 t482 t483 _ ?side1 ?side2 A15.out).mono ?_); (case side1 => exact cz (Kd.C_below HR0_2.out HB.out)); (case side2 => exact HC0_2.out); rintro e w7007 ⟨rfl, hb⟩; refine ⟨_, rfl, ?_⟩; have n0_ := Aside0.mk (blk_below (g := gb7000) (o := .cells #[.slice A0_0 l0_0.length c0_0, .slice A0_1 l0_1.length c0_1, .slice A0_2 l0_2.length c0_2, .slice A0_3 l0_3.length c0_3, .slice A0_4 l0_4.length c0_4] 36 (0, 0)) (oz BK7000.out) hb); have n1_ := Aside0.mk (below_step zt10 hb); clear BK7000; clear HB; have BK7000 := n0_; have HB := n1_; clear n0_ n1_; (try clear hb); (try clear hb2); (try clear hk); (try clear hi)) | ((with_reducible refine gate_callee (f := 52) rfl ?_); refine goesL_ (some 14) rfl rfl Try.func52 (by kernel_rfl) rfl #[.slice A0_1 l0_1.length c0_1, .int .i64 t481] rfl zt5 ?_; (with_reducible refine (laws_heldImpS.calls k _ _ l0_1 t481 t482 _ ?side1 ?side2 A8.out).mono ?_); (case side1 => exact cz (Kd.C_below HR0_1.out HB.out)); (case side2 => exact HC0_1.out); rintro e w7005 ⟨rfl, hb⟩; refine ⟨_, rfl, ?_⟩; have n0_ := Aside0.mk (blk_below (g := gb7000) (o := .cells #[.slice A0_0 l0_0.length c0_0, .slice A0_1 l0_1.length c0_1, .slice A0_2 l0_2.length c0_2, .slice A0_3 l0_3.length c0_3, .slice A0_4 l0_4.length c0_4] 36 (0, 0)) (oz BK7000.out) hb); have n1_ := Aside0.mk (below_step zt10 hb); clear BK7000; clear HB; have BK7000 := n0_; have HB := n1_; clear n0_ n1_; (try clear hb); (try clear hb2); (try clear hk); (try clear hi)) | ((with_reducible refine gate_callee (f := 14) rfl ?_); refine goesL_ (some 8) rfl rfl Try.func14 (by kernel_rfl) rfl #[.slice A0_0 l0_0.length c0_0, .int .i64 a1] rfl zt5 ?_; (with_reducible refine (laws_heldStringS.calls k _ _ l0_0 a1 t481 _ ?side1 ?side2 A3.out).mono ?_); (case side1 => exact cz (Kd.C_below HR0_0.out HB.out)); (case side2 => exact HC0_0.out); rintro e w7003 ⟨rfl, hb⟩; refine ⟨_, rfl, ?_⟩; have n0_ := Aside0.mk (blk_below (g := gb7000) (o := .cells #[.slice A0_0 l0_0.length c0_0, .slice A0_1 l0_1.length c0_1, .slice A0_2 l0_2.length c0_2, .slice A0_3 l0_3.length c0_3, .slice A0_4 l0_4.length c0_4] 36 (0, 0)) (oz BK7000.out) hb); have n1_ := Aside0.mk (below_step zt10 hb); clear BK7000; clear HB; have BK7000 := n0_; have HB := n1_; clear n0_ n1_; (try clear hb); (try clear hb2); (try clear hk); (try clear hi))); first | go_quiet (fail) | (go_ret; exact ⟨zt8, zt10⟩))

end Go.Proofs.Ytopicidanlienaa.PFnExactTrim

-- Out of the kit's print, with contracts of mine among it (myprint.py).
import Derived.Test.YtnakdhpefkllmaaDoorPFnExactKnownx0
import Derived.Test.YtnakdhpefkllmaaDoorPFnExactKnownx1
namespace Go.Proofs.YtnakdhpefkllmaaDoor.PFnExactKnown
open Go.RowKit Go.Proofs.YtnakdhpefkllmaaDoorW.PrintWords Go.Proofs.YtnakdhpefkllmaaDoorW.PrintLast Go.Proofs.YtnakdhpefkllmaaDoorW.PrintMore
attribute [local go_sem] max2_int min2_int max_two min_two max_three min_three max_four min_four   -- for this text's walks alone
set_option linter.unusedVariables false
set_option linter.unusedSimpArgs false

/-! ### laws_szMod: function 4 -/
def laws_szMod.f (k : Nat) (l0_0 : List ByteArray) (l0_1 : List (S65)) (l0_2 : List (S68)) (l0_3 : List (S71)) (l0_4 : List (S74)) (a1 : Int) : Option (Int) := (laws_szStringS.f k l0_0 a1).bind fun t115 => (if t115 < 0 then (some (-1)) else ((laws_szImpS.f k l0_1 t115).bind fun t116 => (if t116 < 0 then (some (-1)) else ((laws_szExpS.f k l0_2 t116).bind fun t117 => (if t117 < 0 then (some (-1)) else ((laws_szStmtS.f k l0_3 t117).bind fun t118 => (if t118 < 0 then (some (-1)) else ((laws_szExprS.f k l0_4 t118).bind fun t119 => (if t119 < 0 then (some (-1)) else (some t119))))))))))
theorem laws_szMod.mono : ∀ a0 a1 a2 a3 a4 a5 k, LeO (laws_szMod.f k a0 a1 a2 a3 a4 a5) (laws_szMod.f (k + 1) a0 a1 a2 a3 a4 a5) := by
 intro a0 a1 a2 a3 a4 a5 k
 unfold laws_szMod.f
 repeat' (first | (with_reducible first | exact laws_szExpS.mono _ _ _ | exact laws_szExprS.mono _ _ _ | exact laws_szImpS.mono _ _ _ | exact laws_szStmtS.mono _ _ _ | exact laws_szStringS.mono _ _ _ | exact LeO.refl _ | exact LeO.none _ | refine LeO.ite ?_ ?_ | refine LeO.bind ?_ (fun _ => ?_)) | exact LeO.none _ | refine LeO.ite ?_ ?_ | refine LeO.bind ?_ (fun _ => ?_))
set_option maxHeartbeats 8000000 in
set_option maxRecDepth 100000 in
theorem laws_szMod.calls (k : Nat) (A0_0 : Option Addr) (c0_0 : Nat) (l0_0 : List ByteArray) (A0_1 : Option Addr) (c0_1 : Nat) (l0_1 : List (S65)) (A0_2 : Option Addr) (c0_2 : Nat) (l0_2 : List (S68)) (A0_3 : Option Addr) (c0_3 : Nat) (l0_3 : List (S71)) (A0_4 : Option Addr) (c0_4 : Nat) (l0_4 : List (S74)) (a1 : Int) (r : Int) (w : World) (hr0_0 : Kd.C Kd.string w A0_0 l0_0.length l0_0) (hc0_0 : l0_0.length ≤ c0_0) (hr0_1 : Kd.C k65 w A0_1 l0_1.length l0_1) (hc0_1 : l0_1.length ≤ c0_1) (hr0_2 : Kd.C k68 w A0_2 l0_2.length l0_2) (hc0_2 : l0_2.length ≤ c0_2) (hr0_3 : Kd.C k71 w A0_3 l0_3.length l0_3) (hc0_3 : l0_3.length ≤ c0_3) (hr0_4 : Kd.C k74 w A0_4 l0_4.length l0_4) (hc0_4 : l0_4.length ≤ c0_4) (h : laws_szMod.f k l0_0 l0_1 l0_2 l0_3 l0_4 a1 = some r) :
  Calls Tryd.prog 4 #[.agg #[.slice A0_0 l0_0.length c0_0, .slice A0_1 l0_1.length c0_1, .slice A0_2 l0_2.length c0_2, .slice A0_3 l0_3.length c0_3, .slice A0_4 l0_4.length c0_4], .int .i64 a1] w fun e w' => e = .returned (.int .i64 r) ∧ Below w.heap.size w w' := by
 have hu28 := Tryd.underlying28
 have HR0_0 := Aside0.mk hr0_0
 have HC0_0 := Aside0.mk hc0_0
 clear hr0_0 hc0_0
 have HR0_1 := Aside0.mk hr0_1
 have HC0_1 := Aside0.mk hc0_1
 clear hr0_1 hc0_1
 have HR0_2 := Aside0.mk hr0_2
 have HC0_2 := Aside0.mk hc0_2
 clear hr0_2 hc0_2
 have HR0_3 := Aside0.mk hr0_3
 have HC0_3 := Aside0.mk hc0_3
 clear hr0_3 hc0_3
 have HR0_4 := Aside0.mk hr0_4
 have HC0_4 := Aside0.mk hc0_4
 clear hr0_4 hc0_4
 have HB := Aside0.mk (Below.refl w.heap.size w)
 try unfold laws_szMod.f at h
 have H := h
 clear h
 replace H := bnd H
 obtain ⟨t115, A3, H⟩ := H
 try dsimp only at H
 by_cases c4 : t115 < 0
 rw [if_pos c4] at H
 have c4b0 : decide (t115 < 0) = true := decide_eq_true c4
 clear c4
 obtain rfl := Option.some.inj H
 rotate_left
 rw [if_neg c4] at H
 have c4b0 : decide (t115 < 0) = false := decide_eq_false c4
 clear c4
 replace H := bnd H
 obtain ⟨t116, A7, H⟩ := H
 try dsimp only at H
 by_cases c8 : t116 < 0
 rw [if_pos c8] at H
 have c8b0 : decide (t116 < 0) = true := decide_eq_true c8
 clear c8
 obtain rfl := Option.some.inj H
 rotate_left
 rw [if_neg c8] at H
 have c8b0 : decide (t116 < 0) = false := decide_eq_false c8
 clear c8
 replace H := bnd H
 obtain ⟨t117, A12, H⟩ := H
 try dsimp only at H
 by_cases c13 : t117 < 0
 rw [if_pos c13] at H
 have c13b0 : decide (t117 < 0) = true := decide_eq_true c13
 clear c13
 obtain rfl := Option.some.inj H
 rotate_left
 rw [if_neg c13] at H
 have c13b0 : decide (t117 < 0) = false := decide_eq_false c13
 clear c13
 replace H := bnd H
 obtain ⟨t118, A19, H⟩ := H
 try dsimp only at H
 by_cases c20 : t118 < 0
 rw [if_pos c20] at H
 have c20b0 : decide (t118 < 0) = true := decide_eq_true c20
 clear c20
 obtain rfl := Option.some.inj H
 rotate_left
 rw [if_neg c20] at H
 have c20b0 : decide (t118 < 0) = false := decide_eq_false c20
 clear c20
 replace H := bnd H
 obtain ⟨t119, A28, H⟩ := H
 try dsimp only at H
 by_cases c29 : t119 < 0
 rw [if_pos c29] at H
 have c29b0 : decide (t119 < 0) = true := decide_eq_true c29
 clear c29
 obtain rfl := Option.some.inj H
 rotate_left
 rw [if_neg c29] at H
 have c29b0 : decide (t119 < 0) = false := decide_eq_false c29
 clear c29
 obtain rfl := Option.some.inj H
 rotate_left
 all_goals
  go_enter Tryd.func4, Tryd.ntmps4
  repeat (go_wp2_with (first | ((with_reducible refine gate_callee (f := 10) rfl ?_); refine goesL_ (some 14) rfl rfl Tryd.func10 (by kernel_rfl) rfl #[.slice A0_1 l0_1.length c0_1, .int .i64 t115] rfl zt5 ?_; (with_reducible refine (laws_szImpS.calls k _ _ l0_1 t115 t116 _ ?side1 ?side2 A7.out).mono ?_); (case side1 => repeat (first | exact (Kd.C_below HR0_1.out zt7) | (with_reducible refine Kd.C_alloc ?_ _) | (with_reducible refine Kd.C_drewN ?_ _) | (with_reducible refine Kd.C_drew ?_))); (case side2 => exact HC0_1.out); rintro e w7003 ⟨rfl, hb⟩; refine ⟨_, rfl, ?_⟩; have n0_ := Aside0.mk (blk_below (g := gb7000) (o := .cells #[.slice A0_0 l0_0.length c0_0, .slice A0_1 l0_1.length c0_1, .slice A0_2 l0_2.length c0_2, .slice A0_3 l0_3.length c0_3, .slice A0_4 l0_4.length c0_4] 28 (0, 0)) (oz BK7000.out) hb); have n1_ := Aside0.mk (below_step zt7 hb); clear BK7000; clear HB; have BK7000 := n0_; have HB := n1_; clear n0_ n1_; (try clear hb); (try clear hb2); (try clear hk); (try clear hi); have hcz7004_0 : w7003.cell? ⟨gb7000, 0, none⟩ = some (.slice A0_0 l0_0.length c0_0) := (blk_cell BK7000.out 0).trans rfl; have hcz7004_1 : w7003.cell? ⟨gb7000, 1, none⟩ = some (.slice A0_1 l0_1.length c0_1) := (blk_cell BK7000.out 1).trans rfl; have hcz7004_2 : w7003.cell? ⟨gb7000, 2, none⟩ = some (.slice A0_2 l0_2.length c0_2) := (blk_cell BK7000.out 2).trans rfl; have hcz7004_3 : w7003.cell? ⟨gb7000, 3, none⟩ = some (.slice A0_3 l0_3.length c0_3) := (blk_cell BK7000.out 3).trans rfl; have hcz7004_4 : w7003.cell? ⟨gb7000, 4, none⟩ = some (.slice A0_4 l0_4.length c0_4) := (blk_cell BK7000.out 4).trans rfl; have hfz7004_0 := blk_frozen BK7000.out 0; have hfz7004_1 := blk_frozen BK7000.out 1; have hfz7004_2 := blk_frozen BK7000.out 2; have hfz7004_3 := blk_frozen BK7000.out 3; have hfz7004_4 := blk_frozen BK7000.out 4) | ((with_reducible refine gate_callee (f := 12) rfl ?_); refine goesL_ (some 26) rfl rfl Tryd.func12 (by kernel_rfl) rfl #[.slice A0_3 l0_3.length c0_3, .int .i64 t117] rfl zt5 ?_; (with_reducible refine (laws_szStmtS.calls k _ _ l0_3 t117 t118 _ ?side1 ?side2 A19.out).mono ?_); (case side1 => exact cz (Kd.C_below HR0_3.out HB.out)); (case side2 => exact HC0_3.out); rintro e w7007 ⟨rfl, hb⟩; refine ⟨_, rfl, ?_⟩; have n0_ := Aside0.mk (blk_below (g := gb7000) (o := .cells #[.slice A0_0 l0_0.length c0_0, .slice A0_1 l0_1.length c0_1, .slice A0_2 l0_2.length c0_2, .slice A0_3 l0_3.length c0_3, .slice A0_4 l0_4.length c0_4] 28 (0, 0)) (oz BK7000.out) hb); have n1_ := Aside0.mk (below_step zt7 hb); clear BK7000; clear HB; have BK7000 := n0_; have HB := n1_; clear n0_ n1_; (try clear hb); (try clear hb2); (try clear hk); (try clear hi); have hcz7008_0 : w7007.cell? ⟨gb7000, 0, none⟩ = some (.slice A0_0 l0_0.length c0_0) := (blk_cell BK7000.out 0).trans rfl; have hcz7008_1 : w7007.cell? ⟨gb7000, 1, none⟩ = some (.slice A0_1 l0_1.length c0_1) := (blk_cell BK7000.out 1).trans rfl; have hcz7008_2 : w7007.cell? ⟨gb7000, 2, none⟩ = some (.slice A0_2 l0_2.length c0_2) := (blk_cell BK7000.out 2).trans rfl; have hcz7008_3 : w7007.cell? ⟨gb7000, 3, none⟩ = some (.slice A0_3 l0_3.length c0_3) := (blk_cell BK7000.out 3).trans rfl; have hcz7008_4 : w7007.cell? ⟨gb7000, 4, none⟩ = some (.slice A0_4 l0_4.length c0_4) := (blk_cell BK7000.out 4).trans rfl; have hfz7008_0 := blk_frozen BK7000.out 0; have hfz7008_1 := blk_frozen BK7000.out 1; have hfz7008_2 := blk_frozen BK7000.out 2; have hfz7008_3 := blk_frozen BK7000.out 3; have hfz7008_4 := blk_frozen BK7000.out 4) | ((with_reducible refine gate_callee (f := 11) rfl ?_); refine goesL_ (some 20) rfl rfl Tryd.func11 (by kernel_rfl) rfl #[.slice A0_2 l0_2.length c0_2, .int .i64 t116] rfl zt5 ?_; (with_reducible refine (laws_szExpS.calls k _ _ l0_2 t116 t117 _ ?side1 ?side2 A12.out).mono ?_); (case side1 => exact cz (Kd.C_below HR0_2.out HB.out)); (case side2 => exact HC0_2.out); rintro e w7005 ⟨rfl, hb⟩; refine ⟨_, rfl, ?_⟩; have n0_ := Aside0.mk (blk_below (g := gb7000) (o := .cells #[.slice A0_0 l0_0.length c0_0, .slice A0_1 l0_1.length c0_1, .slice A0_2 l0_2.length c0_2, .slice A0_3 l0_3.length c0_3, .slice A0_4 l0_4.length c0_4] 28 (0, 0)) (oz BK7000.out) hb); have n1_ := Aside0.mk (below_step zt7 hb); clear BK7000; clear HB; have BK7000 := n0_; have HB := n1_; clear n0_ n1_; (try clear hb); (try clear hb2); (try clear hk); (try clear hi); have hcz7006_0 : w7005.cell? ⟨gb7000, 0, none⟩ = some (.slice A0_0 l0_0.length c0_0) := (blk_cell BK7000.out 0).trans rfl; have hcz7006_1 : w7005.cell? ⟨gb7000, 1, none⟩ = some (.slice A0_1 l0_1.length c0_1) := (blk_cell BK7000.out 1).trans rfl; have hcz7006_2 : w7005.cell? ⟨gb7000, 2, none⟩ = some (.slice A0_2 l0_2.length c0_2) := (blk_cell BK7000.out 2).trans rfl; have hcz7006_3 : w7005.cell? ⟨gb7000, 3, none⟩ = some (.slice A0_3 l0_3.length c0_3) := (blk_cell BK7000.out 3).trans rfl; have hcz7006_4 : w7005.cell? ⟨gb7000, 4, none⟩ = some (.slice A0_4 l0_4.length c0_4) := (blk_cell BK7000.out 4).trans rfl; have hfz7006_0 := blk_frozen BK7000.out 0; have hfz7006_1 := blk_frozen BK7000.out 1; have hfz7006_2 := blk_frozen BK7000.out 2; have hfz7006_3 := blk_frozen BK7000.out 3; have hfz7006_4 := blk_frozen BK7000.out 4) | ((with_reducible refine gate_dst (N := 2) rfl ?_); refine box_event ?hg (N := 2) ?hd (cs := #[.slice A0_0 l0_0.length c0_0, .slice A0_1 l0_1.length c0_1, .slice A0_2 l0_2.length c0_2, .slice A0_3 l0_3.length c0_3, .slice A0_4 l0_4.length c0_4]) (t := 28) ?hr ?_; (case hd => rfl); (case hg => rfl); (case hr => first | (go_simp; done) | (go_simp; rfl)); intro gb7000 hg w7001 hbox hb; have n0_ := Aside0.mk (below_step zt3 hb); have n1_ := Aside0.mk (hbox); have n2_ := Aside0.mk ((zt4 : w.heap.size ≤ gb7000)); have n3_ := Aside0.mk ((zt4 : w.heap.size ≤ gb7000)); clear HB; have HB := n0_; have BK7000 := n1_; have GW7000 := n2_; have GE7000 := n3_; clear n0_ n1_ n2_ n3_; clear hb hbox hg; have hcz7002_0 : w7001.cell? ⟨gb7000, 0, none⟩ = some (.slice A0_0 l0_0.length c0_0) := (blk_cell BK7000.out 0).trans rfl; have hcz7002_1 : w7001.cell? ⟨gb7000, 1, none⟩ = some (.slice A0_1 l0_1.length c0_1) := (blk_cell BK7000.out 1).trans rfl; have hcz7002_2 : w7001.cell? ⟨gb7000, 2, none⟩ = some (.slice A0_2 l0_2.length c0_2) := (blk_cell BK7000.out 2).trans rfl; have hcz7002_3 : w7001.cell? ⟨gb7000, 3, none⟩ = some (.slice A0_3 l0_3.length c0_3) := (blk_cell BK7000.out 3).trans rfl; have hcz7002_4 : w7001.cell? ⟨gb7000, 4, none⟩ = some (.slice A0_4 l0_4.length c0_4) := (blk_cell BK7000.out 4).trans rfl; have hfz7002_0 := blk_frozen BK7000.out 0; have hfz7002_1 := blk_frozen BK7000.out 1; have hfz7002_2 := blk_frozen BK7000.out 2; have hfz7002_3 := blk_frozen BK7000.out 3; have hfz7002_4 := blk_frozen BK7000.out 4) | ((with_reducible refine gate_callee (f := 10) rfl ?_); refine goesL_ (some 14) rfl rfl Tryd.func10 (by kernel_rfl) rfl #[.slice A0_1 l0_1.length c0_1, .int .i64 t115] rfl zt5 ?_; (with_reducible refine (laws_szImpS.calls k _ _ l0_1 t115 t116 _ ?side1 ?side2 A7.out).mono ?_); (case side1 => repeat (first | exact (Kd.C_below HR0_1.out zt7) | (with_reducible refine Kd.C_alloc ?_ _) | (with_reducible refine Kd.C_drewN ?_ _) | (with_reducible refine Kd.C_drew ?_))); (case side2 => exact HC0_1.out); rintro e w7003 ⟨rfl, hb⟩; refine ⟨_, rfl, ?_⟩; have n0_ := Aside0.mk (blk_below (g := gb7000) (o := .cells #[.slice A0_0 l0_0.length c0_0, .slice A0_1 l0_1.length c0_1, .slice A0_2 l0_2.length c0_2, .slice A0_3 l0_3.length c0_3, .slice A0_4 l0_4.length c0_4] 28 (0, 0)) (oz BK7000.out) hb); have n1_ := Aside0.mk (below_step zt7 hb); clear BK7000; clear HB; have BK7000 := n0_; have HB := n1_; clear n0_ n1_; (try clear hb); (try clear hb2); (try clear hk); (try clear hi)) | ((with_reducible refine gate_callee (f := 12) rfl ?_); refine goesL_ (some 26) rfl rfl Tryd.func12 (by kernel_rfl) rfl #[.slice A0_3 l0_3.length c0_3, .int .i64 t117] rfl zt5 ?_; (with_reducible refine (laws_szStmtS.calls k _ _ l0_3 t117 t118 _ ?side1 ?side2 A19.out).mono ?_); (case side1 => exact cz (Kd.C_below HR0_3.out HB.out)); (case side2 => exact HC0_3.out); rintro e w7007 ⟨rfl, hb⟩; refine ⟨_, rfl, ?_⟩; have n0_ := Aside0.mk (blk_below (g := gb7000) (o := .cells #[.slice A0_0 l0_0.length c0_0, .slice A0_1 l0_1.length c0_1, .slice A0_2 l0_2.length c0_2, .slice A0_3 l0_3.length c0_3, .slice A0_4 l0_4.length c0_4] 28 (0, 0)) (oz BK7000.out) hb); have n1_ := Aside0.mk (below_step zt7 hb); clear BK7000; clear HB; have BK7000 := n0_; have HB := n1_; clear n0_ n1_; (try clear hb); (try clear hb2); (try clear hk); (try clear hi)) | ((with_reducible refine gate_callee (f := 13) rfl ?_); refine goesL_ (some 32) rfl rfl Tryd.func13 (by kernel_rfl) rfl #[.slice A0_4 l0_4.length c0_4, .int .i64 t118] rfl zt5 ?_; (with_reducible refine (laws_szExprS.calls k _ _ l0_4 t118 t119 _ ?side1 ?side2 A28.out).mono ?_); (case side1 => exact cz (Kd.C_below HR0_4.out HB.out)); (case side2 => exact HC0_4.out); rintro e w7009 ⟨rfl, hb⟩; refine ⟨_, rfl, ?_⟩; have n0_ := Aside0.mk (blk_below (g := gb7000) (o := .cells #[.slice A0_0 l0_0.length c0_0, .slice A0_1 l0_1.length c0_1, .slice A0_2 l0_2.length c0_2, .slice A0_3 l0_3.length c0_3, .slice A0_4 l0_4.length c0_4] 28 (0, 0)) (oz BK7000.out) hb); have n1_ := Aside0.mk (below_step zt7 hb); clear BK7000; clear HB; have BK7000 := n0_; have HB := n1_; clear n0_ n1_; (try clear hb); (try clear hb2); (try clear hk); (try clear hi)) | ((with_reducible refine gate_callee (f := 11) rfl ?_); refine goesL_ (some 20) rfl rfl Tryd.func11 (by kernel_rfl) rfl #[.slice A0_2 l0_2.length c0_2, .int .i64 t116] rfl zt5 ?_; (with_reducible refine (laws_szExpS.calls k _ _ l0_2 t116 t117 _ ?side1 ?side2 A12.out).mono ?_); (case side1 => exact cz (Kd.C_below HR0_2.out HB.out)); (case side2 => exact HC0_2.out); rintro e w7005 ⟨rfl, hb⟩; refine ⟨_, rfl, ?_⟩; have n0_ := Aside0.mk (blk_below (g := gb7000) (o := .cells #[.slice A0_0 l0_0.length c0_0, .slice A0_1 l0_1.length c0_1, .slice A0_2 l0_2.length c0_2, .slice A0_3 l0_3.length c0_3, .slice A0_4 l0_4.length c0_4] 28 (0, 0)) (oz BK7000.out) hb); have n1_ := Aside0.mk (below_step zt7 hb); clear BK7000; clear HB; have BK7000 := n0_; have HB := n1_; clear n0_ n1_; (try clear hb); (try clear hb2); (try clear hk); (try clear hi)) | ((with_reducible refine gate_callee (f := 9) rfl ?_); refine goesL_ (some 8) rfl rfl Tryd.func9 (by kernel_rfl) rfl #[.slice A0_0 l0_0.length c0_0, .int .i64 a1] rfl zt5 ?_; (with_reducible refine (laws_szStringS.calls k _ _ l0_0 a1 t115 _ ?side1 ?side2 A3.out).mono ?_); (case side1 => exact cz (Kd.C_below HR0_0.out HB.out)); (case side2 => exact HC0_0.out); rintro e w' ⟨rfl, ⟨nd, rfl⟩⟩; refine ⟨_, rfl, ?_⟩)); first | go_quiet (fail) | (go_ret; exact ⟨zt8, zt7⟩))

/-! ### spec_l5Two: function 33 -/
def spec_l5Two.f (a0 : Int) : Option (Bool) := if a0 = 6 then (some true) else (if a0 = 7 then (some true) else (some (a0 == 8)))
set_option maxHeartbeats 8000000 in
set_option maxRecDepth 100000 in
theorem spec_l5Two.calls (a0 : Int) (r : Bool) (w : World) (h : spec_l5Two.f a0 = some r) :
  Calls Tryd.prog 33 #[.int .i64 a0] w fun e w' => e = .returned (.bool r) ∧ Drawn0 w w' := by
 try unfold spec_l5Two.f at h
 have H := h
 clear h
 by_cases c2 : a0 = 6
 rw [if_pos c2] at H
 have c2b0 : (a0 == 6) = true := beq_iff_eq.mpr c2
 have c2b1 : (a0 != 6) = false := bne_eq_false_iff_eq.mpr c2
 clear c2
 obtain rfl := Option.some.inj H
 rotate_left
 rw [if_neg c2] at H
 have c2b0 : (a0 == 6) = false := beq_eq_false_iff_ne.mpr c2
 have c2b1 : (a0 != 6) = true := bne_iff_ne.mpr c2
 by_cases c3 : a0 = 7
 rw [if_pos c3] at H
 have c3b0 : (a0 == 7) = true := beq_iff_eq.mpr c3
 have c3b1 : (a0 != 7) = false := bne_eq_false_iff_eq.mpr c3
 clear c3
 obtain rfl := Option.some.inj H
 rotate_left
 rw [if_neg c3] at H
 have c3b0 : (a0 == 7) = false := beq_eq_false_iff_ne.mpr c3
 have c3b1 : (a0 != 7) = true := bne_iff_ne.mpr c3
 obtain rfl := Option.some.inj H
 rotate_left
 all_goals
  go_enter Tryd.func33, Tryd.ntmps33
  repeat (go_wp2; first | go_quiet (fail) | (go_ret; exact ⟨zt10, zt37⟩))

end Go.Proofs.YtnakdhpefkllmaaDoor.PFnExactKnown

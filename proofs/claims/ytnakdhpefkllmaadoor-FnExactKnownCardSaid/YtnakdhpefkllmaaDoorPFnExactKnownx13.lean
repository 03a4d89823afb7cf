-- Out of the kit's print, with contracts of mine among it (myprint.py).
import Derived.Test.YtnakdhpefkllmaaDoorPFnExactKnownx0
import Derived.Test.YtnakdhpefkllmaaDoorPFnExactKnownx2
import Derived.Test.YtnakdhpefkllmaaDoorPFnExactKnownx4
import Derived.Test.YtnakdhpefkllmaaDoorPFnExactKnownx5
import Derived.Test.YtnakdhpefkllmaaDoorPFnExactKnownx9
import Derived.Test.YtnakdhpefkllmaaDoorPFnExactKnownx12
namespace Go.Proofs.YtnakdhpefkllmaaDoor.PFnExactKnown
open Go.RowKit Go.Proofs.YtnakdhpefkllmaaDoorW.PrintWords Go.Proofs.YtnakdhpefkllmaaDoorW.PrintLast Go.Proofs.YtnakdhpefkllmaaDoorW.PrintMore
attribute [local go_sem] max2_int min2_int max_two min_two max_three min_three max_four min_four   -- for this text's walks alone
set_option linter.unusedVariables false
set_option linter.unusedSimpArgs false

/-! ### laws_FnExactKnown: function 3 -/
def laws_FnExactKnown.j0 : Nat → Bool → List ByteArray → List (S65) → List (S68) → List (S71) → List (S74) → List ByteArray → List (S78) → List (S80) → List (S77) → List (S75) → Option (Bool)
 | 0, _, _, _, _, _, _, _, _, _, _, _ => none
 | k + 1, x38, x290000, x290001, x290002, x290003, x290004, x324000, x324001, x324002, x324003, x324004 => if x38 = true then (some false) else ((laws_toMod.f k x290000 x290001 x290002 x290003 x290004).bind fun bt326 => ((laws_eqMod.f k x324000 x324001 x324002 x324003 x324004 bt326.1 bt326.2.1 bt326.2.2.1 bt326.2.2.2.1 bt326.2.2.2.2).bind fun t341 => (if t341 = true then (some true) else (some false))))
def laws_FnExactKnown.f (k : Nat) (l0_0 : List ByteArray) (l0_1 : List (S65)) (l0_2 : List (S68)) (l0_3 : List (S71)) (l0_4 : List (S74)) (a1 : Int) : Option (Bool) := (laws_szMod.f k l0_0 l0_1 l0_2 l0_3 l0_4 1048576).bind fun t290 => (if t290 < 0 then (some true) else ((laws_toMod.f k l0_0 l0_1 l0_2 l0_3 l0_4).bind fun bt291 => ((spec_Known.f k bt291.1 bt291.2.1 bt291.2.2.1 bt291.2.2.2.1 bt291.2.2.2.2 a1).bind fun bt306 => ((laws_toMod.f k l0_0 l0_1 l0_2 l0_3 l0_4).bind fun bt308 => ((impl_Known.f k bt308.1 bt308.2.1 bt308.2.2.1 bt308.2.2.2.1 bt308.2.2.2.2 a1).bind fun bt324 => (if bt324.1 = bt306.1 then (laws_FnExactKnown.j0 k (bt324.2 != bt306.2) l0_0 l0_1 l0_2 l0_3 l0_4 bt308.1 bt308.2.1 bt308.2.2.1 bt308.2.2.2.1 bt308.2.2.2.2) else (laws_FnExactKnown.j0 k true l0_0 l0_1 l0_2 l0_3 l0_4 bt308.1 bt308.2.1 bt308.2.2.1 bt308.2.2.2.1 bt308.2.2.2.2)))))))
theorem laws_FnExactKnown.mono_l : ∀ k, (∀ y0 y1 y2 y3 y4 y5 y6 y7 y8 y9 y10, LeO (laws_FnExactKnown.j0 k y0 y1 y2 y3 y4 y5 y6 y7 y8 y9 y10) (laws_FnExactKnown.j0 (k + 1) y0 y1 y2 y3 y4 y5 y6 y7 y8 y9 y10))
 | 0 => fun _ _ _ _ _ _ _ _ _ _ _ r h => by simp [laws_FnExactKnown.j0] at h
 | k + 1 => by
  have ih0 := laws_FnExactKnown.mono_l k
  ·intro y0 y1 y2 y3 y4 y5 y6 y7 y8 y9 y10
   unfold laws_FnExactKnown.j0
   repeat' (first | (with_reducible first | exact ih0 _ _ _ _ _ _ _ _ _ _ _ | exact impl_Known.mono _ _ _ _ _ _ _ | exact laws_eqMod.mono _ _ _ _ _ _ _ _ _ _ _ | exact laws_szMod.mono _ _ _ _ _ _ _ | exact laws_toMod.mono _ _ _ _ _ _ | exact spec_Known.mono _ _ _ _ _ _ _ | exact LeO.refl _ | exact LeO.none _ | refine LeO.ite ?_ ?_ | refine LeO.bind ?_ (fun _ => ?_)) | exact LeO.none _ | refine LeO.ite ?_ ?_ | refine LeO.bind ?_ (fun _ => ?_))
theorem laws_FnExactKnown.mono : ∀ a0 a1 a2 a3 a4 a5 k, LeO (laws_FnExactKnown.f k a0 a1 a2 a3 a4 a5) (laws_FnExactKnown.f (k + 1) a0 a1 a2 a3 a4 a5) := by
 intro a0 a1 a2 a3 a4 a5 k
 have ih0 := laws_FnExactKnown.mono_l k
 unfold laws_FnExactKnown.f
 repeat' (first | (with_reducible first | exact ih0 _ _ _ _ _ _ _ _ _ _ _ | exact impl_Known.mono _ _ _ _ _ _ _ | exact laws_eqMod.mono _ _ _ _ _ _ _ _ _ _ _ | exact laws_szMod.mono _ _ _ _ _ _ _ | exact laws_toMod.mono _ _ _ _ _ _ | exact spec_Known.mono _ _ _ _ _ _ _ | exact LeO.refl _ | exact LeO.none _ | refine LeO.ite ?_ ?_ | refine LeO.bind ?_ (fun _ => ?_)) | exact LeO.none _ | refine LeO.ite ?_ ?_ | refine LeO.bind ?_ (fun _ => ?_))
set_option maxHeartbeats 8000000 in
set_option maxRecDepth 100000 in
theorem laws_FnExactKnown.calls (k : Nat) (A0_0 : Option Addr) (c0_0 : Nat) (l0_0 : List ByteArray) (A0_1 : Option Addr) (c0_1 : Nat) (l0_1 : List (S65)) (A0_2 : Option Addr) (c0_2 : Nat) (l0_2 : List (S68)) (A0_3 : Option Addr) (c0_3 : Nat) (l0_3 : List (S71)) (A0_4 : Option Addr) (c0_4 : Nat) (l0_4 : List (S74)) (a1 : Int) (r : Bool) (w : World) (hr0_0 : Kd.C Kd.string w A0_0 l0_0.length l0_0) (hc0_0 : l0_0.length ≤ c0_0) (hr0_1 : Kd.C k65 w A0_1 l0_1.length l0_1) (hc0_1 : l0_1.length ≤ c0_1) (hr0_2 : Kd.C k68 w A0_2 l0_2.length l0_2) (hc0_2 : l0_2.length ≤ c0_2) (hr0_3 : Kd.C k71 w A0_3 l0_3.length l0_3) (hc0_3 : l0_3.length ≤ c0_3) (hr0_4 : Kd.C k74 w A0_4 l0_4.length l0_4) (hc0_4 : l0_4.length ≤ c0_4) (HT : TabsP w) (h : laws_FnExactKnown.f k l0_0 l0_1 l0_2 l0_3 l0_4 a1 = some r) (hr_ : r = true) :
  Calls Tryd.prog 3 #[.agg #[.slice A0_0 l0_0.length c0_0, .slice A0_1 l0_1.length c0_1, .slice A0_2 l0_2.length c0_2, .slice A0_3 l0_3.length c0_3, .slice A0_4 l0_4.length c0_4], .int .i64 a1] w fun e w' => e = .returned (.bool r) ∧ Below w.heap.size w w' := by
 have HRT := Aside0.mk hr_
 clear hr_
 have HTA := Aside0.mk HT
 clear HT
 have hu28 := Tryd.underlying28
 have hu37 := Tryd.underlying37
 have HR0_0 := Aside0.mk hr0_0
 have HC0_0 := Aside0.mk hc0_0
 clear hr0_0 hc0_0
 have HR0_1 := Aside0.mk hr0_1
 have HC0_1 := Aside0.mk hc0_1
 clear hr0_1 hc0_1
 have HR0_2 := Aside0.mk hr0_2
 have HC0_2 := Aside0.mk hc0_2
 clear hr0_2 hc0_2
 have HR0_3 := Aside0.mk hr0_3
 have HC0_3 := Aside0.mk hc0_3
 clear hr0_3 hc0_3
 have HR0_4 := Aside0.mk hr0_4
 have HC0_4 := Aside0.mk hc0_4
 clear hr0_4 hc0_4
 have HB := Aside0.mk (Below.refl w.heap.size w)
 try unfold laws_FnExactKnown.f at h
 have H := h
 clear h
 replace H := bnd H
 obtain ⟨t290, A3, H⟩ := H
 try dsimp only at H
 by_cases c4 : t290 < 0
 ·rw [if_pos c4] at H
  have c4b0 : decide (t290 < 0) = true := decide_eq_true c4
  clear c4
  obtain rfl := Option.some.inj H
  go_enter Tryd.func3, Tryd.ntmps3
  go_wp2_with (first | ((with_reducible refine gate_dst (N := 2) rfl ?_); refine box_event ?hg (N := 2) ?hd (cs := #[.slice A0_0 l0_0.length c0_0, .slice A0_1 l0_1.length c0_1, .slice A0_2 l0_2.length c0_2, .slice A0_3 l0_3.length c0_3, .slice A0_4 l0_4.length c0_4]) (t := 28) ?hr ?_; (case hd => rfl); (case hg => rfl); (case hr => first | (go_simp; done) | (go_simp; rfl)); intro gb289 hg w5 hbox hb; have n0_ := Aside0.mk (below_step zt3 hb); have n1_ := Aside0.mk (hbox); have n2_ := Aside0.mk ((zt4 : w.heap.size ≤ gb289)); have n3_ := Aside0.mk ((zt4 : w.heap.size ≤ gb289)); clear HB; have HB := n0_; have BK289 := n1_; have GW289 := n2_; have GE289 := n3_; clear n0_ n1_ n2_ n3_; clear hb hbox hg; have hcz6_0 : w5.cell? ⟨gb289, 0, none⟩ = some (.slice A0_0 l0_0.length c0_0) := (blk_cell BK289.out 0).trans rfl; have hcz6_1 : w5.cell? ⟨gb289, 1, none⟩ = some (.slice A0_1 l0_1.length c0_1) := (blk_cell BK289.out 1).trans rfl; have hcz6_2 : w5.cell? ⟨gb289, 2, none⟩ = some (.slice A0_2 l0_2.length c0_2) := (blk_cell BK289.out 2).trans rfl; have hcz6_3 : w5.cell? ⟨gb289, 3, none⟩ = some (.slice A0_3 l0_3.length c0_3) := (blk_cell BK289.out 3).trans rfl; have hcz6_4 : w5.cell? ⟨gb289, 4, none⟩ = some (.slice A0_4 l0_4.length c0_4) := (blk_cell BK289.out 4).trans rfl; have hfz6_0 := blk_frozen BK289.out 0; have hfz6_1 := blk_frozen BK289.out 1; have hfz6_2 := blk_frozen BK289.out 2; have hfz6_3 := blk_frozen BK289.out 3; have hfz6_4 := blk_frozen BK289.out 4) | ((with_reducible refine gate_callee (f := 4) rfl ?_); refine goesL_ (some 13) rfl rfl Tryd.func4 (by kernel_rfl) rfl #[.agg #[.slice A0_0 l0_0.length c0_0, .slice A0_1 l0_1.length c0_1, .slice A0_2 l0_2.length c0_2, .slice A0_3 l0_3.length c0_3, .slice A0_4 l0_4.length c0_4], .int .i64 1048576] rfl zt5 ?_; (with_reducible refine (laws_szMod.calls k _ _ l0_0 _ _ l0_1 _ _ l0_2 _ _ l0_3 _ _ l0_4 1048576 t290 _ ?side1 ?side2 ?side3 ?side4 ?side5 ?side6 ?side7 ?side8 ?side9 ?side10 A3.out).mono ?_); (case side1 => exact cz (Kd.C_below HR0_0.out HB.out)); (case side2 => exact HC0_0.out); (case side3 => exact cz (Kd.C_below HR0_1.out HB.out)); (case side4 => exact HC0_1.out); (case side5 => exact cz (Kd.C_below HR0_2.out HB.out)); (case side6 => exact HC0_2.out); (case side7 => exact cz (Kd.C_below HR0_3.out HB.out)); (case side8 => exact HC0_3.out); (case side9 => exact cz (Kd.C_below HR0_4.out HB.out)); (case side10 => exact HC0_4.out); rintro e w7 ⟨rfl, hb⟩; refine ⟨_, rfl, ?_⟩; have n0_ := Aside0.mk (blk_below (g := gb289) (o := .cells #[.slice A0_0 l0_0.length c0_0, .slice A0_1 l0_1.length c0_1, .slice A0_2 l0_2.length c0_2, .slice A0_3 l0_3.length c0_3, .slice A0_4 l0_4.length c0_4] 28 (0, 0)) (oz BK289.out) hb); have n1_ := Aside0.mk (below_step zt13 hb); clear BK289; clear HB; have BK289 := n0_; have HB := n1_; clear n0_ n1_; (try clear hb); (try clear hb2); (try clear hk); (try clear hi)))
  go_ret
  exact ⟨zt8, zt13⟩
 ·rw [if_neg c4] at H
  have c4b0 : decide (t290 < 0) = false := decide_eq_false c4
  clear c4
  replace H := bnd H
  obtain ⟨⟨t291, t294, t297, t300, t303⟩, A8, H⟩ := H
  try dsimp only at H
  replace H := bnd H
  obtain ⟨⟨t306, t307⟩, A9, H⟩ := H
  try dsimp only at H
  replace H := bnd H
  obtain ⟨⟨t308, t311, t314, t317, t320⟩, A10, H⟩ := H
  try dsimp only at H
  replace H := bnd H
  obtain ⟨⟨t324, t325⟩, A11, H⟩ := H
  try dsimp only at H
  have HC12 := Aside0.mk H
  clear H
  go_enter Tryd.func3, Tryd.ntmps3
  go_upto_region 8 with (first | ((with_reducible refine gate_dst (N := 2) rfl ?_); refine box_event ?hg (N := 2) ?hd (cs := #[.slice A0_0 l0_0.length c0_0, .slice A0_1 l0_1.length c0_1, .slice A0_2 l0_2.length c0_2, .slice A0_3 l0_3.length c0_3, .slice A0_4 l0_4.length c0_4]) (t := 28) ?hr ?_; (case hd => rfl); (case hg => rfl); (case hr => first | (go_simp; done) | (go_simp; rfl)); intro gb289 hg w13 hbox hb; have n0_ := Aside0.mk (below_step zt3 hb); have n1_ := Aside0.mk (hbox); have n2_ := Aside0.mk ((zt4 : w.heap.size ≤ gb289)); have n3_ := Aside0.mk ((zt4 : w.heap.size ≤ gb289)); clear HB; have HB := n0_; have BK289 := n1_; have GW289 := n2_; have GE289 := n3_; clear n0_ n1_ n2_ n3_; clear hb hbox hg; have hcz14_0 : w13.cell? ⟨gb289, 0, none⟩ = some (.slice A0_0 l0_0.length c0_0) := (blk_cell BK289.out 0).trans rfl; have hcz14_1 : w13.cell? ⟨gb289, 1, none⟩ = some (.slice A0_1 l0_1.length c0_1) := (blk_cell BK289.out 1).trans rfl; have hcz14_2 : w13.cell? ⟨gb289, 2, none⟩ = some (.slice A0_2 l0_2.length c0_2) := (blk_cell BK289.out 2).trans rfl; have hcz14_3 : w13.cell? ⟨gb289, 3, none⟩ = some (.slice A0_3 l0_3.length c0_3) := (blk_cell BK289.out 3).trans rfl; have hcz14_4 : w13.cell? ⟨gb289, 4, none⟩ = some (.slice A0_4 l0_4.length c0_4) := (blk_cell BK289.out 4).trans rfl; have hfz14_0 := blk_frozen BK289.out 0; have hfz14_1 := blk_frozen BK289.out 1; have hfz14_2 := blk_frozen BK289.out 2; have hfz14_3 := blk_frozen BK289.out 3; have hfz14_4 := blk_frozen BK289.out 4) | ((with_reducible refine gate_callee (f := 4) rfl ?_); refine goesL_ (some 13) rfl rfl Tryd.func4 (by kernel_rfl) rfl #[.agg #[.slice A0_0 l0_0.length c0_0, .slice A0_1 l0_1.length c0_1, .slice A0_2 l0_2.length c0_2, .slice A0_3 l0_3.length c0_3, .slice A0_4 l0_4.length c0_4], .int .i64 1048576] rfl zt5 ?_; (with_reducible refine (laws_szMod.calls k _ _ l0_0 _ _ l0_1 _ _ l0_2 _ _ l0_3 _ _ l0_4 1048576 t290 _ ?side1 ?side2 ?side3 ?side4 ?side5 ?side6 ?side7 ?side8 ?side9 ?side10 A3.out).mono ?_); (case side1 => exact cz (Kd.C_below HR0_0.out HB.out)); (case side2 => exact HC0_0.out); (case side3 => exact cz (Kd.C_below HR0_1.out HB.out)); (case side4 => exact HC0_1.out); (case side5 => exact cz (Kd.C_below HR0_2.out HB.out)); (case side6 => exact HC0_2.out); (case side7 => exact cz (Kd.C_below HR0_3.out HB.out)); (case side8 => exact HC0_3.out); (case side9 => exact cz (Kd.C_below HR0_4.out HB.out)); (case side10 => exact HC0_4.out); rintro e w15 ⟨rfl, hb⟩; refine ⟨_, rfl, ?_⟩; have n0_ := Aside0.mk (blk_below (g := gb289) (o := .cells #[.slice A0_0 l0_0.length c0_0, .slice A0_1 l0_1.length c0_1, .slice A0_2 l0_2.length c0_2, .slice A0_3 l0_3.length c0_3, .slice A0_4 l0_4.length c0_4] 28 (0, 0)) (oz BK289.out) hb); have n1_ := Aside0.mk (below_step zt13 hb); clear BK289; clear HB; have BK289 := n0_; have HB := n1_; clear n0_ n1_; (try clear hb); (try clear hb2); (try clear hk); (try clear hi); have hcz16_0 : w15.cell? ⟨gb289, 0, none⟩ = some (.slice A0_0 l0_0.length c0_0) := (blk_cell BK289.out 0).trans rfl; have hcz16_1 : w15.cell? ⟨gb289, 1, none⟩ = some (.slice A0_1 l0_1.length c0_1) := (blk_cell BK289.out 1).trans rfl; have hcz16_2 : w15.cell? ⟨gb289, 2, none⟩ = some (.slice A0_2 l0_2.length c0_2) := (blk_cell BK289.out 2).trans rfl; have hcz16_3 : w15.cell? ⟨gb289, 3, none⟩ = some (.slice A0_3 l0_3.length c0_3) := (blk_cell BK289.out 3).trans rfl; have hcz16_4 : w15.cell? ⟨gb289, 4, none⟩ = some (.slice A0_4 l0_4.length c0_4) := (blk_cell BK289.out 4).trans rfl; have hfz16_0 := blk_frozen BK289.out 0; have hfz16_1 := blk_frozen BK289.out 1; have hfz16_2 := blk_frozen BK289.out 2; have hfz16_3 := blk_frozen BK289.out 3; have hfz16_4 := blk_frozen BK289.out 4) | ((with_reducible refine gate_callee (f := 6) rfl ?_); refine goesL_ (some 18) rfl rfl Tryd.func6 (by kernel_rfl) rfl #[.agg #[.slice A0_0 l0_0.length c0_0, .slice A0_1 l0_1.length c0_1, .slice A0_2 l0_2.length c0_2, .slice A0_3 l0_3.length c0_3, .slice A0_4 l0_4.length c0_4]] rfl zt5 ?_; (with_reducible refine (laws_toMod.calls k _ _ l0_0 _ _ l0_1 _ _ l0_2 _ _ l0_3 _ _ l0_4 t291 t294 t297 t300 t303 _ ?side1 ?side2 ?side3 ?side4 ?side5 ?side6 ?side7 ?side8 ?side9 ?side10 A8.out).mono ?_); (case side1 => exact cz (Kd.C_below HR0_0.out HB.out)); (case side2 => exact HC0_0.out); (case side3 => exact cz (Kd.C_below HR0_1.out HB.out)); (case side4 => exact HC0_1.out); (case side5 => exact cz (Kd.C_below HR0_2.out HB.out)); (case side6 => exact HC0_2.out); (case side7 => exact cz (Kd.C_below HR0_3.out HB.out)); (case side8 => exact HC0_3.out); (case side9 => exact cz (Kd.C_below HR0_4.out HB.out)); (case side10 => exact HC0_4.out); rintro e w17 ⟨v292, v295, v298, v301, v304, rfl, ho0, ho1, ho2, ho3, ho4, hb⟩; refine ⟨_, rfl, ?_⟩; have n0_ := Aside0.mk (Kd.R_lower ho0 (below_size zt13)); have n1_ := Aside0.mk (Kd.R_lower ho1 (below_size zt13)); have n2_ := Aside0.mk (Kd.R_lower ho2 (below_size zt13)); have n3_ := Aside0.mk (Kd.R_lower ho3 (below_size zt13)); have n4_ := Aside0.mk (Kd.R_lower ho4 (below_size zt13)); have n5_ := Aside0.mk (blk_below (g := gb289) (o := .cells #[.slice A0_0 l0_0.length c0_0, .slice A0_1 l0_1.length c0_1, .slice A0_2 l0_2.length c0_2, .slice A0_3 l0_3.length c0_3, .slice A0_4 l0_4.length c0_4] 28 (0, 0)) (oz BK289.out) hb); have n6_ := Aside0.mk (below_step zt13 hb); clear BK289; clear HB; have HO293 := n0_; have HO296 := n1_; have HO299 := n2_; have HO302 := n3_; have HO305 := n4_; have BK289 := n5_; have HB := n6_; clear n0_ n1_ n2_ n3_ n4_ n5_ n6_; (try clear hb); (try clear hb2); (try clear hk); (try clear hi); (try clear ho0); (try clear ho1); (try clear ho2); (try clear ho3); (try clear ho4); obtain ⟨Ao18, co18, eo18⟩ := Kd.R_slice HO293.out; subst eo18; obtain ⟨Ao19, co19, eo19⟩ := Kd.R_slice HO296.out; subst eo19; obtain ⟨Ao20, co20, eo20⟩ := Kd.R_slice HO299.out; subst eo20; obtain ⟨Ao21, co21, eo21⟩ := Kd.R_slice HO302.out; subst eo21; obtain ⟨Ao22, co22, eo22⟩ := Kd.R_slice HO305.out; subst eo22) | ((with_reducible refine gate_callee (f := 5) rfl ?_); refine goesL_ (some 20) rfl rfl Tryd.func5 (by kernel_rfl) rfl #[.agg #[.slice Ao18 t291.length co18, .slice Ao19 t294.length co19, .slice Ao20 t297.length co20, .slice Ao21 t300.length co21, .slice Ao22 t303.length co22], .int .i64 a1] rfl zt5 ?_; (with_reducible refine (spec_Known.calls k _ _ t291 _ _ t294 _ _ t297 _ _ t300 _ _ t303 a1 t306 t307 _ ?side1 ?side2 ?side3 ?side4 ?side5 ?side6 ?side7 ?side8 ?side9 ?side10 A9.out).mono ?_); (case side1 => exact cz (Kd.R_reads' HO293.out).2.2); (case side2 => exact (Kd.R_reads' HO293.out).2.1); (case side3 => exact cz (Kd.R_reads' HO296.out).2.2); (case side4 => exact (Kd.R_reads' HO296.out).2.1); (case side5 => exact cz (Kd.R_reads' HO299.out).2.2); (case side6 => exact (Kd.R_reads' HO299.out).2.1); (case side7 => exact cz (Kd.R_reads' HO302.out).2.2); (case side8 => exact (Kd.R_reads' HO302.out).2.1); (case side9 => exact cz (Kd.R_reads' HO305.out).2.2); (case side10 => exact (Kd.R_reads' HO305.out).2.1); rintro e w23 ⟨rfl, hb⟩; refine ⟨_, rfl, ?_⟩; have n0_ := Aside0.mk (Kd.R_below (rz HO293.out) hb); have n1_ := Aside0.mk (Kd.R_below (rz HO296.out) hb); have n2_ := Aside0.mk (Kd.R_below (rz HO299.out) hb); have n3_ := Aside0.mk (Kd.R_below (rz HO302.out) hb); have n4_ := Aside0.mk (Kd.R_below (rz HO305.out) hb); have n5_ := Aside0.mk (blk_below (g := gb289) (o := .cells #[.slice A0_0 l0_0.length c0_0, .slice A0_1 l0_1.length c0_1, .slice A0_2 l0_2.length c0_2, .slice A0_3 l0_3.length c0_3, .slice A0_4 l0_4.length c0_4] 28 (0, 0)) (oz BK289.out) hb); have n6_ := Aside0.mk (below_step zt13 hb); clear HO293; clear HO296; clear HO299; clear HO302; clear HO305; clear BK289; clear HB; have HO293 := n0_; have HO296 := n1_; have HO299 := n2_; have HO302 := n3_; have HO305 := n4_; have BK289 := n5_; have HB := n6_; clear n0_ n1_ n2_ n3_ n4_ n5_ n6_; (try clear hb); (try clear hb2); (try clear hk); (try clear hi); have hcz24_0 : w23.cell? ⟨gb289, 0, none⟩ = some (.slice A0_0 l0_0.length c0_0) := (blk_cell BK289.out 0).trans rfl; have hcz24_1 : w23.cell? ⟨gb289, 1, none⟩ = some (.slice A0_1 l0_1.length c0_1) := (blk_cell BK289.out 1).trans rfl; have hcz24_2 : w23.cell? ⟨gb289, 2, none⟩ = some (.slice A0_2 l0_2.length c0_2) := (blk_cell BK289.out 2).trans rfl; have hcz24_3 : w23.cell? ⟨gb289, 3, none⟩ = some (.slice A0_3 l0_3.length c0_3) := (blk_cell BK289.out 3).trans rfl; have hcz24_4 : w23.cell? ⟨gb289, 4, none⟩ = some (.slice A0_4 l0_4.length c0_4) := (blk_cell BK289.out 4).trans rfl; have hfz24_0 := blk_frozen BK289.out 0; have hfz24_1 := blk_frozen BK289.out 1; have hfz24_2 := blk_frozen BK289.out 2; have hfz24_3 := blk_frozen BK289.out 3; have hfz24_4 := blk_frozen BK289.out 4) | ((with_reducible refine gate_callee (f := 6) rfl ?_); refine goesL_ (some 24) rfl rfl Tryd.func6 (by kernel_rfl) rfl #[.agg #[.slice A0_0 l0_0.length c0_0, .slice A0_1 l0_1.length c0_1, .slice A0_2 l0_2.length c0_2, .slice A0_3 l0_3.length c0_3, .slice A0_4 l0_4.length c0_4]] rfl zt5 ?_; (with_reducible refine (laws_toMod.calls k _ _ l0_0 _ _ l0_1 _ _ l0_2 _ _ l0_3 _ _ l0_4 t308 t311 t314 t317 t320 _ ?side1 ?side2 ?side3 ?side4 ?side5 ?side6 ?side7 ?side8 ?side9 ?side10 A10.out).mono ?_); (case side1 => exact cz (Kd.C_below HR0_0.out HB.out)); (case side2 => exact HC0_0.out); (case side3 => exact cz (Kd.C_below HR0_1.out HB.out)); (case side4 => exact HC0_1.out); (case side5 => exact cz (Kd.C_below HR0_2.out HB.out)); (case side6 => exact HC0_2.out); (case side7 => exact cz (Kd.C_below HR0_3.out HB.out)); (case side8 => exact HC0_3.out); (case side9 => exact cz (Kd.C_below HR0_4.out HB.out)); (case side10 => exact HC0_4.out); rintro e w25 ⟨v309, v312, v315, v318, v321, rfl, ho0, ho1, ho2, ho3, ho4, hb⟩; refine ⟨_, rfl, ?_⟩; have n0_ := Aside0.mk (Kd.R_elder' (rz HO293.out) (Kd.R_base ho0) hb); have n1_ := Aside0.mk (Kd.R_elder' (rz HO296.out) (Kd.R_base ho1) hb); have n2_ := Aside0.mk (Kd.R_elder' (rz HO299.out) (Kd.R_base ho2) hb); have n3_ := Aside0.mk (Kd.R_elder' (rz HO302.out) (Kd.R_base ho3) hb); have n4_ := Aside0.mk (Kd.R_elder' (rz HO305.out) (Kd.R_base ho4) hb); have n5_ := Aside0.mk (Kd.R_lower (Kd.R_new' ho0 (Kd.R_lt (rz HO293.out))) (below_size zt13)); have n6_ := Aside0.mk (Kd.R_lower (Kd.R_new' ho1 (Kd.R_lt (rz HO296.out))) (below_size zt13)); have n7_ := Aside0.mk (Kd.R_lower (Kd.R_new' ho2 (Kd.R_lt (rz HO299.out))) (below_size zt13)); have n8_ := Aside0.mk (Kd.R_lower (Kd.R_new' ho3 (Kd.R_lt (rz HO302.out))) (below_size zt13)); have n9_ := Aside0.mk (Kd.R_lower (Kd.R_new' ho4 (Kd.R_lt (rz HO305.out))) (below_size zt13)); have n10_ := Aside0.mk (blk_below (g := gb289) (o := .cells #[.slice A0_0 l0_0.length c0_0, .slice A0_1 l0_1.length c0_1, .slice A0_2 l0_2.length c0_2, .slice A0_3 l0_3.length c0_3, .slice A0_4 l0_4.length c0_4] 28 (0, 0)) (oz BK289.out) hb); have n11_ := Aside0.mk (below_step zt13 hb); clear HO293; clear HO296; clear HO299; clear HO302; clear HO305; clear BK289; clear HB; have HO293 := n0_; have HO296 := n1_; have HO299 := n2_; have HO302 := n3_; have HO305 := n4_; have HO310 := n5_; have HO313 := n6_; have HO316 := n7_; have HO319 := n8_; have HO322 := n9_; have BK289 := n10_; have HB := n11_; clear n0_ n1_ n2_ n3_ n4_ n5_ n6_ n7_ n8_ n9_ n10_ n11_; (try clear hb); (try clear hb2); (try clear hk); (try clear hi); (try clear ho0); (try clear ho1); (try clear ho2); (try clear ho3); (try clear ho4)) | ((with_reducible refine gate_dst (N := 8) rfl ?_); refine box_event ?hg (N := 8) ?hd (cs := #[.slice none 0 0, .slice none 0 0, .slice none 0 0, .slice none 0 0, .slice none 0 0]) (t := 37) ?hr ?_; (case hd => rfl); (case hg => rfl); (case hr => first | (go_simp; done) | (go_simp; rfl)); intro gb323 hg w26 hbox hb; have n0_ := Aside0.mk (Kd.R_below (rz HO293.out) hb); have n1_ := Aside0.mk (Kd.R_below (rz HO296.out) hb); have n2_ := Aside0.mk (Kd.R_below (rz HO299.out) hb); have n3_ := Aside0.mk (Kd.R_below (rz HO302.out) hb); have n4_ := Aside0.mk (Kd.R_below (rz HO305.out) hb); have n5_ := Aside0.mk (Kd.R_below (rz HO310.out) hb); have n6_ := Aside0.mk (Kd.R_below (rz HO313.out) hb); have n7_ := Aside0.mk (Kd.R_below (rz HO316.out) hb); have n8_ := Aside0.mk (Kd.R_below (rz HO319.out) hb); have n9_ := Aside0.mk (Kd.R_below (rz HO322.out) hb); have n10_ := Aside0.mk (blk_below (g := gb289) (o := .cells #[.slice A0_0 l0_0.length c0_0, .slice A0_1 l0_1.length c0_1, .slice A0_2 l0_2.length c0_2, .slice A0_3 l0_3.length c0_3, .slice A0_4 l0_4.length c0_4] 28 (0, 0)) (oz BK289.out) hb); have n11_ := Aside0.mk (below_step zt13 hb); have n12_ := Aside0.mk (hbox); have n13_ := Aside0.mk ((by rw [hg]; exact (below_size zt13) : w.heap.size ≤ gb323)); have n14_ := Aside0.mk ((by rw [hg]; exact (below_size zt13) : w.heap.size ≤ gb323)); have n15_ := Aside0.mk ((by rw [hg]; exact Nat.ne_of_lt (blk_lt (g := gb289) (o := .cells #[.slice A0_0 l0_0.length c0_0, .slice A0_1 l0_1.length c0_1, .slice A0_2 l0_2.length c0_2, .slice A0_3 l0_3.length c0_3, .slice A0_4 l0_4.length c0_4] 28 (0, 0)) (oz BK289.out)) : gb289 ≠ gb323)); have n16_ := Aside0.mk ((by rw [hg]; exact Nat.ne_of_gt (blk_lt (g := gb289) (o := .cells #[.slice A0_0 l0_0.length c0_0, .slice A0_1 l0_1.length c0_1, .slice A0_2 l0_2.length c0_2, .slice A0_3 l0_3.length c0_3, .slice A0_4 l0_4.length c0_4] 28 (0, 0)) (oz BK289.out)) : gb323 ≠ gb289)); clear HO293; clear HO296; clear HO299; clear HO302; clear HO305; clear HO310; clear HO313; clear HO316; clear HO319; clear HO322; clear BK289; clear HB; have HO293 := n0_; have HO296 := n1_; have HO299 := n2_; have HO302 := n3_; have HO305 := n4_; have HO310 := n5_; have HO313 := n6_; have HO316 := n7_; have HO319 := n8_; have HO322 := n9_; have BK289 := n10_; have HB := n11_; have BK323 := n12_; have GW323 := n13_; have GE323 := n14_; have NB289_323 := n15_; have NB323_289 := n16_; clear n0_ n1_ n2_ n3_ n4_ n5_ n6_ n7_ n8_ n9_ n10_ n11_ n12_ n13_ n14_ n15_ n16_; clear hb hbox hg; obtain ⟨Ao27, co27, eo27⟩ := Kd.R_slice HO310.out; subst eo27; have hnb28 := NB323_289.out; have hnc28 := NB289_323.out; have hcz29_0 : w26.cell? ⟨gb323, 0, none⟩ = some (.slice none 0 0) := (blk_cell BK323.out 0).trans rfl; have hcz29_1 : w26.cell? ⟨gb323, 1, none⟩ = some (.slice none 0 0) := (blk_cell BK323.out 1).trans rfl; have hcz29_2 : w26.cell? ⟨gb323, 2, none⟩ = some (.slice none 0 0) := (blk_cell BK323.out 2).trans rfl; have hcz29_3 : w26.cell? ⟨gb323, 3, none⟩ = some (.slice none 0 0) := (blk_cell BK323.out 3).trans rfl; have hcz29_4 : w26.cell? ⟨gb323, 4, none⟩ = some (.slice none 0 0) := (blk_cell BK323.out 4).trans rfl; have hfz29_0 := blk_frozen BK323.out 0; have hfz29_1 := blk_frozen BK323.out 1; have hfz29_2 := blk_frozen BK323.out 2; have hfz29_3 := blk_frozen BK323.out 3; have hfz29_4 := blk_frozen BK323.out 4; obtain ⟨Ao30, co30, eo30⟩ := Kd.R_slice HO313.out; subst eo30; obtain ⟨Ao31, co31, eo31⟩ := Kd.R_slice HO316.out; subst eo31; obtain ⟨Ao32, co32, eo32⟩ := Kd.R_slice HO319.out; subst eo32; obtain ⟨Ao33, co33, eo33⟩ := Kd.R_slice HO322.out; subst eo33) | ((with_reducible refine gate_callee (f := 7) rfl ?_); refine goesL_ (some 28) rfl rfl Tryd.func7 (by kernel_rfl) rfl #[.agg #[.slice Ao27 t308.length co27, .slice Ao30 t311.length co30, .slice Ao31 t314.length co31, .slice Ao32 t317.length co32, .slice Ao33 t320.length co33], .int .i64 a1] rfl zt5 ?_; (with_reducible refine (impl_Known.calls k _ _ t308 _ _ t311 _ _ t314 _ _ t317 _ _ t320 a1 t324 t325 _ ?side1 ?side2 ?side3 ?side4 ?side5 ?side6 ?side7 ?side8 ?side9 ?side10 (TabsP.below HTA.out zt16) A11.out).mono ?_); (case side1 => refine (Kd.R_reads' (e := 9) (base := w.heap.size) (ok := fun k_ => (True ∧ some k_ ≠ (.slice Ao18 t291.length co18 : Value).ownBlock)) (n := t308.length) (c := co27) ?_).2.2; exact (by (with_reducible repeat (first | apply Kd.R_alloc | apply Kd.R_drewN | apply Kd.R_drew)); exact (Kd.R_mono (Kd.R_far (p := ⟨gb323, 4, none⟩) (Kd.R_far (p := ⟨gb323, 3, none⟩) (Kd.R_far (p := ⟨gb323, 2, none⟩) (Kd.R_far (p := ⟨gb323, 1, none⟩) (Kd.R_far (p := ⟨gb323, 0, none⟩) (Kd.R_types HO310.out BK323.out (by decide)) (fun _ hk => hk.2) (.slice Ao27 t308.length co27)) (fun _ hk => hk.2) (.slice Ao30 t311.length co30)) (fun _ hk => hk.2) (.slice Ao31 t314.length co31)) (fun _ hk => hk.2) (.slice Ao32 t317.length co32)) (fun _ hk => hk.2) (.slice Ao33 t320.length co33)) (fun _ h_ => h_.1)))); (case side2 => exact (Kd.R_reads' HO310.out).2.1); (case side3 => refine (Kd.R_reads' (e := 78) (base := w.heap.size) (ok := fun k_ => (True ∧ some k_ ≠ (.slice Ao19 t294.length co19 : Value).ownBlock)) (n := t311.length) (c := co30) ?_).2.2; exact (by (with_reducible repeat (first | apply Kd.R_alloc | apply Kd.R_drewN | apply Kd.R_drew)); exact (Kd.R_mono (Kd.R_far (p := ⟨gb323, 4, none⟩) (Kd.R_far (p := ⟨gb323, 3, none⟩) (Kd.R_far (p := ⟨gb323, 2, none⟩) (Kd.R_far (p := ⟨gb323, 1, none⟩) (Kd.R_far (p := ⟨gb323, 0, none⟩) (Kd.R_types HO313.out BK323.out (by decide)) (fun _ hk => hk.2) (.slice Ao27 t308.length co27)) (fun _ hk => hk.2) (.slice Ao30 t311.length co30)) (fun _ hk => hk.2) (.slice Ao31 t314.length co31)) (fun _ hk => hk.2) (.slice Ao32 t317.length co32)) (fun _ hk => hk.2) (.slice Ao33 t320.length co33)) (fun _ h_ => h_.1)))); (case side4 => exact (Kd.R_reads' HO313.out).2.1); (case side5 => refine (Kd.R_reads' (e := 80) (base := w.heap.size) (ok := fun k_ => (True ∧ some k_ ≠ (.slice Ao20 t297.length co20 : Value).ownBlock)) (n := t314.length) (c := co31) ?_).2.2; exact (by (with_reducible repeat (first | apply Kd.R_alloc | apply Kd.R_drewN | apply Kd.R_drew)); exact (Kd.R_mono (Kd.R_far (p := ⟨gb323, 4, none⟩) (Kd.R_far (p := ⟨gb323, 3, none⟩) (Kd.R_far (p := ⟨gb323, 2, none⟩) (Kd.R_far (p := ⟨gb323, 1, none⟩) (Kd.R_far (p := ⟨gb323, 0, none⟩) (Kd.R_types HO316.out BK323.out (by decide)) (fun _ hk => hk.2) (.slice Ao27 t308.length co27)) (fun _ hk => hk.2) (.slice Ao30 t311.length co30)) (fun _ hk => hk.2) (.slice Ao31 t314.length co31)) (fun _ hk => hk.2) (.slice Ao32 t317.length co32)) (fun _ hk => hk.2) (.slice Ao33 t320.length co33)) (fun _ h_ => h_.1)))); (case side6 => exact (Kd.R_reads' HO316.out).2.1); (case side7 => refine (Kd.R_reads' (e := 77) (base := w.heap.size) (ok := fun k_ => (True ∧ some k_ ≠ (.slice Ao21 t300.length co21 : Value).ownBlock)) (n := t317.length) (c := co32) ?_).2.2; exact (by (with_reducible repeat (first | apply Kd.R_alloc | apply Kd.R_drewN | apply Kd.R_drew)); exact (Kd.R_mono (Kd.R_far (p := ⟨gb323, 4, none⟩) (Kd.R_far (p := ⟨gb323, 3, none⟩) (Kd.R_far (p := ⟨gb323, 2, none⟩) (Kd.R_far (p := ⟨gb323, 1, none⟩) (Kd.R_far (p := ⟨gb323, 0, none⟩) (Kd.R_types HO319.out BK323.out (by decide)) (fun _ hk => hk.2) (.slice Ao27 t308.length co27)) (fun _ hk => hk.2) (.slice Ao30 t311.length co30)) (fun _ hk => hk.2) (.slice Ao31 t314.length co31)) (fun _ hk => hk.2) (.slice Ao32 t317.length co32)) (fun _ hk => hk.2) (.slice Ao33 t320.length co33)) (fun _ h_ => h_.1)))); (case side8 => exact (Kd.R_reads' HO319.out).2.1); (case side9 => refine (Kd.R_reads' (e := 75) (base := w.heap.size) (ok := fun k_ => (True ∧ some k_ ≠ (.slice Ao22 t303.length co22 : Value).ownBlock)) (n := t320.length) (c := co33) ?_).2.2; exact (by (with_reducible repeat (first | apply Kd.R_alloc | apply Kd.R_drewN | apply Kd.R_drew)); exact (Kd.R_mono (Kd.R_far (p := ⟨gb323, 4, none⟩) (Kd.R_far (p := ⟨gb323, 3, none⟩) (Kd.R_far (p := ⟨gb323, 2, none⟩) (Kd.R_far (p := ⟨gb323, 1, none⟩) (Kd.R_far (p := ⟨gb323, 0, none⟩) (Kd.R_types HO322.out BK323.out (by decide)) (fun _ hk => hk.2) (.slice Ao27 t308.length co27)) (fun _ hk => hk.2) (.slice Ao30 t311.length co30)) (fun _ hk => hk.2) (.slice Ao31 t314.length co31)) (fun _ hk => hk.2) (.slice Ao32 t317.length co32)) (fun _ hk => hk.2) (.slice Ao33 t320.length co33)) (fun _ h_ => h_.1)))); (case side10 => exact (Kd.R_reads' HO322.out).2.1); rintro e w34 ⟨rfl, hb⟩; refine ⟨_, rfl, ?_⟩; have n0_ := Aside0.mk (Kd.R_below (by (with_reducible repeat (first | apply Kd.R_alloc | apply Kd.R_drewN | apply Kd.R_drew)); exact (Kd.R_mono (Kd.R_far (p := ⟨gb323, 4, none⟩) (Kd.R_far (p := ⟨gb323, 3, none⟩) (Kd.R_far (p := ⟨gb323, 2, none⟩) (Kd.R_far (p := ⟨gb323, 1, none⟩) (Kd.R_far (p := ⟨gb323, 0, none⟩) (Kd.R_types HO293.out BK323.out (by decide)) (fun _ hk => hk.2) (.slice Ao27 t308.length co27)) (fun _ hk => hk.2) (.slice Ao30 t311.length co30)) (fun _ hk => hk.2) (.slice Ao31 t314.length co31)) (fun _ hk => hk.2) (.slice Ao32 t317.length co32)) (fun _ hk => hk.2) (.slice Ao33 t320.length co33)) (fun _ h_ => h_.1))) hb); have n1_ := Aside0.mk (Kd.R_below (by (with_reducible repeat (first | apply Kd.R_alloc | apply Kd.R_drewN | apply Kd.R_drew)); exact (Kd.R_mono (Kd.R_far (p := ⟨gb323, 4, none⟩) (Kd.R_far (p := ⟨gb323, 3, none⟩) (Kd.R_far (p := ⟨gb323, 2, none⟩) (Kd.R_far (p := ⟨gb323, 1, none⟩) (Kd.R_far (p := ⟨gb323, 0, none⟩) (Kd.R_types HO296.out BK323.out (by decide)) (fun _ hk => hk.2) (.slice Ao27 t308.length co27)) (fun _ hk => hk.2) (.slice Ao30 t311.length co30)) (fun _ hk => hk.2) (.slice Ao31 t314.length co31)) (fun _ hk => hk.2) (.slice Ao32 t317.length co32)) (fun _ hk => hk.2) (.slice Ao33 t320.length co33)) (fun _ h_ => h_.1))) hb); have n2_ := Aside0.mk (Kd.R_below (by (with_reducible repeat (first | apply Kd.R_alloc | apply Kd.R_drewN | apply Kd.R_drew)); exact (Kd.R_mono (Kd.R_far (p := ⟨gb323, 4, none⟩) (Kd.R_far (p := ⟨gb323, 3, none⟩) (Kd.R_far (p := ⟨gb323, 2, none⟩) (Kd.R_far (p := ⟨gb323, 1, none⟩) (Kd.R_far (p := ⟨gb323, 0, none⟩) (Kd.R_types HO299.out BK323.out (by decide)) (fun _ hk => hk.2) (.slice Ao27 t308.length co27)) (fun _ hk => hk.2) (.slice Ao30 t311.length co30)) (fun _ hk => hk.2) (.slice Ao31 t314.length co31)) (fun _ hk => hk.2) (.slice Ao32 t317.length co32)) (fun _ hk => hk.2) (.slice Ao33 t320.length co33)) (fun _ h_ => h_.1))) hb); have n3_ := Aside0.mk (Kd.R_below (by (with_reducible repeat (first | apply Kd.R_alloc | apply Kd.R_drewN | apply Kd.R_drew)); exact (Kd.R_mono (Kd.R_far (p := ⟨gb323, 4, none⟩) (Kd.R_far (p := ⟨gb323, 3, none⟩) (Kd.R_far (p := ⟨gb323, 2, none⟩) (Kd.R_far (p := ⟨gb323, 1, none⟩) (Kd.R_far (p := ⟨gb323, 0, none⟩) (Kd.R_types HO302.out BK323.out (by decide)) (fun _ hk => hk.2) (.slice Ao27 t308.length co27)) (fun _ hk => hk.2) (.slice Ao30 t311.length co30)) (fun _ hk => hk.2) (.slice Ao31 t314.length co31)) (fun _ hk => hk.2) (.slice Ao32 t317.length co32)) (fun _ hk => hk.2) (.slice Ao33 t320.length co33)) (fun _ h_ => h_.1))) hb); have n4_ := Aside0.mk (Kd.R_below (by (with_reducible repeat (first | apply Kd.R_alloc | apply Kd.R_drewN | apply Kd.R_drew)); exact (Kd.R_mono (Kd.R_far (p := ⟨gb323, 4, none⟩) (Kd.R_far (p := ⟨gb323, 3, none⟩) (Kd.R_far (p := ⟨gb323, 2, none⟩) (Kd.R_far (p := ⟨gb323, 1, none⟩) (Kd.R_far (p := ⟨gb323, 0, none⟩) (Kd.R_types HO305.out BK323.out (by decide)) (fun _ hk => hk.2) (.slice Ao27 t308.length co27)) (fun _ hk => hk.2) (.slice Ao30 t311.length co30)) (fun _ hk => hk.2) (.slice Ao31 t314.length co31)) (fun _ hk => hk.2) (.slice Ao32 t317.length co32)) (fun _ hk => hk.2) (.slice Ao33 t320.length co33)) (fun _ h_ => h_.1))) hb); have n5_ := Aside0.mk (Kd.R_below (by (with_reducible repeat (first | apply Kd.R_alloc | apply Kd.R_drewN | apply Kd.R_drew)); exact (Kd.R_mono (Kd.R_far (p := ⟨gb323, 4, none⟩) (Kd.R_far (p := ⟨gb323, 3, none⟩) (Kd.R_far (p := ⟨gb323, 2, none⟩) (Kd.R_far (p := ⟨gb323, 1, none⟩) (Kd.R_far (p := ⟨gb323, 0, none⟩) (Kd.R_types HO310.out BK323.out (by decide)) (fun _ hk => hk.2) (.slice Ao27 t308.length co27)) (fun _ hk => hk.2) (.slice Ao30 t311.length co30)) (fun _ hk => hk.2) (.slice Ao31 t314.length co31)) (fun _ hk => hk.2) (.slice Ao32 t317.length co32)) (fun _ hk => hk.2) (.slice Ao33 t320.length co33)) (fun _ h_ => h_.1))) hb); have n6_ := Aside0.mk (Kd.R_below (by (with_reducible repeat (first | apply Kd.R_alloc | apply Kd.R_drewN | apply Kd.R_drew)); exact (Kd.R_mono (Kd.R_far (p := ⟨gb323, 4, none⟩) (Kd.R_far (p := ⟨gb323, 3, none⟩) (Kd.R_far (p := ⟨gb323, 2, none⟩) (Kd.R_far (p := ⟨gb323, 1, none⟩) (Kd.R_far (p := ⟨gb323, 0, none⟩) (Kd.R_types HO313.out BK323.out (by decide)) (fun _ hk => hk.2) (.slice Ao27 t308.length co27)) (fun _ hk => hk.2) (.slice Ao30 t311.length co30)) (fun _ hk => hk.2) (.slice Ao31 t314.length co31)) (fun _ hk => hk.2) (.slice Ao32 t317.length co32)) (fun _ hk => hk.2) (.slice Ao33 t320.length co33)) (fun _ h_ => h_.1))) hb); have n7_ := Aside0.mk (Kd.R_below (by (with_reducible repeat (first | apply Kd.R_alloc | apply Kd.R_drewN | apply Kd.R_drew)); exact (Kd.R_mono (Kd.R_far (p := ⟨gb323, 4, none⟩) (Kd.R_far (p := ⟨gb323, 3, none⟩) (Kd.R_far (p := ⟨gb323, 2, none⟩) (Kd.R_far (p := ⟨gb323, 1, none⟩) (Kd.R_far (p := ⟨gb323, 0, none⟩) (Kd.R_types HO316.out BK323.out (by decide)) (fun _ hk => hk.2) (.slice Ao27 t308.length co27)) (fun _ hk => hk.2) (.slice Ao30 t311.length co30)) (fun _ hk => hk.2) (.slice Ao31 t314.length co31)) (fun _ hk => hk.2) (.slice Ao32 t317.length co32)) (fun _ hk => hk.2) (.slice Ao33 t320.length co33)) (fun _ h_ => h_.1))) hb); have n8_ := Aside0.mk (Kd.R_below (by (with_reducible repeat (first | apply Kd.R_alloc | apply Kd.R_drewN | apply Kd.R_drew)); exact (Kd.R_mono (Kd.R_far (p := ⟨gb323, 4, none⟩) (Kd.R_far (p := ⟨gb323, 3, none⟩) (Kd.R_far (p := ⟨gb323, 2, none⟩) (Kd.R_far (p := ⟨gb323, 1, none⟩) (Kd.R_far (p := ⟨gb323, 0, none⟩) (Kd.R_types HO319.out BK323.out (by decide)) (fun _ hk => hk.2) (.slice Ao27 t308.length co27)) (fun _ hk => hk.2) (.slice Ao30 t311.length co30)) (fun _ hk => hk.2) (.slice Ao31 t314.length co31)) (fun _ hk => hk.2) (.slice Ao32 t317.length co32)) (fun _ hk => hk.2) (.slice Ao33 t320.length co33)) (fun _ h_ => h_.1))) hb); have n9_ := Aside0.mk (Kd.R_below (by (with_reducible repeat (first | apply Kd.R_alloc | apply Kd.R_drewN | apply Kd.R_drew)); exact (Kd.R_mono (Kd.R_far (p := ⟨gb323, 4, none⟩) (Kd.R_far (p := ⟨gb323, 3, none⟩) (Kd.R_far (p := ⟨gb323, 2, none⟩) (Kd.R_far (p := ⟨gb323, 1, none⟩) (Kd.R_far (p := ⟨gb323, 0, none⟩) (Kd.R_types HO322.out BK323.out (by decide)) (fun _ hk => hk.2) (.slice Ao27 t308.length co27)) (fun _ hk => hk.2) (.slice Ao30 t311.length co30)) (fun _ hk => hk.2) (.slice Ao31 t314.length co31)) (fun _ hk => hk.2) (.slice Ao32 t317.length co32)) (fun _ hk => hk.2) (.slice Ao33 t320.length co33)) (fun _ h_ => h_.1))) hb); have n10_ := Aside0.mk (blk_below (g := gb289) (o := .cells #[.slice A0_0 l0_0.length c0_0, .slice A0_1 l0_1.length c0_1, .slice A0_2 l0_2.length c0_2, .slice A0_3 l0_3.length c0_3, .slice A0_4 l0_4.length c0_4] 28 (0, 0)) (by (with_reducible repeat (first | refine blk_drewN ?_ _ | refine blk_drew ?_ | refine blk_alloc ?_ _)); refine blk_far ?_ NB289_323.out _; (with_reducible repeat (first | refine blk_drewN ?_ _ | refine blk_drew ?_ | refine blk_alloc ?_ _)); refine blk_far ?_ NB289_323.out _; (with_reducible repeat (first | refine blk_drewN ?_ _ | refine blk_drew ?_ | refine blk_alloc ?_ _)); refine blk_far ?_ NB289_323.out _; (with_reducible repeat (first | refine blk_drewN ?_ _ | refine blk_drew ?_ | refine blk_alloc ?_ _)); refine blk_far ?_ NB289_323.out _; (with_reducible repeat (first | refine blk_drewN ?_ _ | refine blk_drew ?_ | refine blk_alloc ?_ _)); refine blk_far ?_ NB289_323.out _; (with_reducible repeat (first | refine blk_drewN ?_ _ | refine blk_drew ?_ | refine blk_alloc ?_ _)); exact BK289.out) hb); have n11_ := Aside0.mk (blk_below (g := gb323) (o := .cells #[.slice Ao27 t308.length co27, .slice Ao30 t311.length co30, .slice Ao31 t314.length co31, .slice Ao32 t317.length co32, .slice Ao33 t320.length co33] 37 (0, 0)) (by (with_reducible repeat (first | refine blk_drewN ?_ _ | refine blk_drew ?_ | refine blk_alloc ?_ _)); refine blk_put (cs := #[.slice Ao27 t308.length co27, .slice Ao30 t311.length co30, .slice Ao31 t314.length co31, .slice Ao32 t317.length co32, .slice none 0 0]) ?_ 4 _ rfl; (with_reducible repeat (first | refine blk_drewN ?_ _ | refine blk_drew ?_ | refine blk_alloc ?_ _)); refine blk_put (cs := #[.slice Ao27 t308.length co27, .slice Ao30 t311.length co30, .slice Ao31 t314.length co31, .slice none 0 0, .slice none 0 0]) ?_ 3 _ rfl; (with_reducible repeat (first | refine blk_drewN ?_ _ | refine blk_drew ?_ | refine blk_alloc ?_ _)); refine blk_put (cs := #[.slice Ao27 t308.length co27, .slice Ao30 t311.length co30, .slice none 0 0, .slice none 0 0, .slice none 0 0]) ?_ 2 _ rfl; (with_reducible repeat (first | refine blk_drewN ?_ _ | refine blk_drew ?_ | refine blk_alloc ?_ _)); refine blk_put (cs := #[.slice Ao27 t308.length co27, .slice none 0 0, .slice none 0 0, .slice none 0 0, .slice none 0 0]) ?_ 1 _ rfl; (with_reducible repeat (first | refine blk_drewN ?_ _ | refine blk_drew ?_ | refine blk_alloc ?_ _)); refine blk_put (cs := #[.slice none 0 0, .slice none 0 0, .slice none 0 0, .slice none 0 0, .slice none 0 0]) ?_ 0 _ rfl; (with_reducible repeat (first | refine blk_drewN ?_ _ | refine blk_drew ?_ | refine blk_alloc ?_ _)); exact BK323.out) hb); have n12_ := Aside0.mk (below_step zt16 hb); clear HO293; clear HO296; clear HO299; clear HO302; clear HO305; clear HO310; clear HO313; clear HO316; clear HO319; clear HO322; clear BK289; clear BK323; clear HB; have HO293 := n0_; have HO296 := n1_; have HO299 := n2_; have HO302 := n3_; have HO305 := n4_; have HO310 := n5_; have HO313 := n6_; have HO316 := n7_; have HO319 := n8_; have HO322 := n9_; have BK289 := n10_; have BK323 := n11_; have HB := n12_; clear n0_ n1_ n2_ n3_ n4_ n5_ n6_ n7_ n8_ n9_ n10_ n11_ n12_; (try clear hb); (try clear hb2); (try clear hk); (try clear hi)))
  (try simp only [Act.put, List.setIfInBounds_toArray, List.set_cons_zero, List.set_cons_succ])
  go_cut [38] (fun v38 wc => ∃ (kq : Nat) (x38_11 : Bool), v38 = .bool x38_11 ∧ Aside0 (laws_FnExactKnown.j0 kq x38_11 l0_0 l0_1 l0_2 l0_3 l0_4 t308 t311 t314 t317 t320 = some r) ∧ Aside0 (kq ≤ k) ∧ Aside0 (Kd.R Kd.string 9 wc w.heap.size (fun _ => True) (.slice Ao27 t308.length co27) t308) ∧ Aside0 (Kd.R k78 78 wc w.heap.size (fun _ => True) (.slice Ao30 t311.length co30) t311) ∧ Aside0 (Kd.R k80 80 wc w.heap.size (fun _ => True) (.slice Ao31 t314.length co31) t314) ∧ Aside0 (Kd.R k77 77 wc w.heap.size (fun _ => True) (.slice Ao32 t317.length co32) t317) ∧ Aside0 (Kd.R k75 75 wc w.heap.size (fun _ => True) (.slice Ao33 t320.length co33) t320) ∧ Aside0 (wc.heap[gb289]? = some (.cells #[(.slice A0_0 l0_0.length c0_0), (.slice A0_1 l0_1.length c0_1), (.slice A0_2 l0_2.length c0_2), (.slice A0_3 l0_3.length c0_3), (.slice A0_4 l0_4.length c0_4)] 28 (0, 0))) ∧ Aside0 (wc.heap[gb323]? = some (.cells #[(.slice Ao27 t308.length co27), (.slice Ao30 t311.length co30), (.slice Ao31 t314.length co31), (.slice Ao32 t317.length co32), (.slice Ao33 t320.length co33)] 37 (0, 0))) ∧ Aside0 (Below w.heap.size w wc))
  case first =>
   have H := HC12.out
   clear HC12
   by_cases c35 : t324 = t306
   rw [if_pos c35] at H
   have c35b0 : (t324 == t306) = true := beq_iff_eq.mpr c35
   have c35b1 : (t324 != t306) = false := bne_eq_false_iff_eq.mpr c35
   clear c35
   (first | rw [c35b0] | (simp only [i64_w, i32_w]; rw [c35b0]) | skip)
   have H' := Aside0.mk H
   clear H
   rotate_left
   rw [if_neg c35] at H
   have c35b0 : (t324 == t306) = false := beq_eq_false_iff_ne.mpr c35
   have c35b1 : (t324 != t306) = true := bne_iff_ne.mpr c35
   (first | rw [c35b0] | (simp only [i64_w, i32_w]; rw [c35b0]) | skip)
   have H' := Aside0.mk H
   clear H
   rotate_left
   all_goals
    repeat (go_wp2; first | go_quiet (fail) | (go_meet; (case rel => exact ⟨_, ((t325 != t307)), zt10, H', ⟨by first | omega | exact Nat.le_refl _⟩, ⟨by (with_reducible repeat (first | apply Kd.R_alloc | apply Kd.R_drewN | apply Kd.R_drew)); exact Kd.R_mono HO310.out (fun _ hk => trivial)⟩, ⟨by (with_reducible repeat (first | apply Kd.R_alloc | apply Kd.R_drewN | apply Kd.R_drew)); exact Kd.R_mono HO313.out (fun _ hk => trivial)⟩, ⟨by (with_reducible repeat (first | apply Kd.R_alloc | apply Kd.R_drewN | apply Kd.R_drew)); exact Kd.R_mono HO316.out (fun _ hk => trivial)⟩, ⟨by (with_reducible repeat (first | apply Kd.R_alloc | apply Kd.R_drewN | apply Kd.R_drew)); exact Kd.R_mono HO319.out (fun _ hk => trivial)⟩, ⟨by (with_reducible repeat (first | apply Kd.R_alloc | apply Kd.R_drewN | apply Kd.R_drew)); exact Kd.R_mono HO322.out (fun _ hk => trivial)⟩, ⟨by (with_reducible repeat (first | refine blk_drewN ?_ _ | refine blk_drew ?_ | refine blk_alloc ?_ _)); exact BK289.out⟩, ⟨by (with_reducible repeat (first | refine blk_drewN ?_ _ | refine blk_drew ?_ | refine blk_alloc ?_ _)); exact BK323.out⟩, ⟨zt16⟩⟩)) | (go_meet; (case rel => exact ⟨_, (true), zt10, H', ⟨by first | omega | exact Nat.le_refl _⟩, ⟨by (with_reducible repeat (first | apply Kd.R_alloc | apply Kd.R_drewN | apply Kd.R_drew)); exact Kd.R_mono HO310.out (fun _ hk => trivial)⟩, ⟨by (with_reducible repeat (first | apply Kd.R_alloc | apply Kd.R_drewN | apply Kd.R_drew)); exact Kd.R_mono HO313.out (fun _ hk => trivial)⟩, ⟨by (with_reducible repeat (first | apply Kd.R_alloc | apply Kd.R_drewN | apply Kd.R_drew)); exact Kd.R_mono HO316.out (fun _ hk => trivial)⟩, ⟨by (with_reducible repeat (first | apply Kd.R_alloc | apply Kd.R_drewN | apply Kd.R_drew)); exact Kd.R_mono HO319.out (fun _ hk => trivial)⟩, ⟨by (with_reducible repeat (first | apply Kd.R_alloc | apply Kd.R_drewN | apply Kd.R_drew)); exact Kd.R_mono HO322.out (fun _ hk => trivial)⟩, ⟨by (with_reducible repeat (first | refine blk_drewN ?_ _ | refine blk_drew ?_ | refine blk_alloc ?_ _)); exact BK289.out⟩, ⟨by (with_reducible repeat (first | refine blk_drewN ?_ _ | refine blk_drew ?_ | refine blk_alloc ?_ _)); exact BK323.out⟩, ⟨zt16⟩⟩)))
  case rest =>
   clear HC12
   try clear c2
   try clear p2
   try clear c3
   try clear c4
   try clear c4b0
   try clear c5
   try clear c6
   try clear c7
   try clear c28
   try clear c35
   try clear c35b0
   try clear c35b1
   try clear hcz14_0
   try clear hcz14_1
   try clear hcz14_2
   try clear hcz14_3
   try clear hcz14_4
   try clear hcz16_0
   try clear hcz16_1
   try clear hcz16_2
   try clear hcz16_3
   try clear hcz16_4
   try clear hcz24_0
   try clear hcz24_1
   try clear hcz24_2
   try clear hcz24_3
   try clear hcz24_4
   try clear hcz29_0
   try clear hcz29_1
   try clear hcz29_2
   try clear hcz29_3
   try clear hcz29_4
   try clear hcz6_0
   try clear hcz6_1
   try clear hcz6_2
   try clear hcz6_3
   try clear hcz6_4
   try clear hfz14_0
   try clear hfz14_1
   try clear hfz14_2
   try clear hfz14_3
   try clear hfz14_4
   try clear hfz16_0
   try clear hfz16_1
   try clear hfz16_2
   try clear hfz16_3
   try clear hfz16_4
   try clear hfz24_0
   try clear hfz24_1
   try clear hfz24_2
   try clear hfz24_3
   try clear hfz24_4
   try clear hfz29_0
   try clear hfz29_1
   try clear hfz29_2
   try clear hfz29_3
   try clear hfz29_4
   try clear hfz6_0
   try clear hfz6_1
   try clear hfz6_2
   try clear hfz6_3
   try clear hfz6_4
   obtain ⟨kq, x38_11, rfl, HA, HJ11, HO_324000, HO_324001, HO_324002, HO_324003, HO_324004, BK289, BK323, HB⟩ := hcut
   cases kq with
   | zero => exact absurd HA.out (by simp [laws_FnExactKnown.j0])
   | succ kj11 =>
    have H := HA.out
    clear HA
    simp only [laws_FnExactKnown.j0] at H
    by_cases c36 : x38_11 = true
    ·subst c36
     rw [if_pos rfl] at H
     exact absurd ((Option.some.inj H).trans HRT.out) (by decide)
    ·replace c36 := Bool.eq_false_iff.mpr c36
     subst c36
     rw [if_neg (show ¬ (false = true) by decide)] at H
     replace H := bnd H
     obtain ⟨⟨t326, t329, t332, t335, t338⟩, A37, H⟩ := H
     try dsimp only at H
     replace H := bnd H
     obtain ⟨t341, A38, H⟩ := H
     try dsimp only at H
     by_cases c39 : t341 = true
     ·subst c39
      rw [if_pos rfl] at H
      obtain rfl := Option.some.inj H
      try go_wp2
      have n0_ := Aside0.mk (Kd.R_drew HO_324000.out)
      have n1_ := Aside0.mk (Kd.R_drew HO_324001.out)
      have n2_ := Aside0.mk (Kd.R_drew HO_324002.out)
      have n3_ := Aside0.mk (Kd.R_drew HO_324003.out)
      have n4_ := Aside0.mk (Kd.R_drew HO_324004.out)
      have n5_ := Aside0.mk (blk_drew BK289.out)
      have n6_ := Aside0.mk (blk_drew BK323.out)
      have n7_ := Aside0.mk (below_drew1 HB.out)
      clear HO_324000
      clear HO_324001
      clear HO_324002
      clear HO_324003
      clear HO_324004
      clear BK289
      clear BK323
      clear HB
      have HO_324000 := n0_
      have HO_324001 := n1_
      have HO_324002 := n2_
      have HO_324003 := n3_
      have HO_324004 := n4_
      have BK289 := n5_
      have BK323 := n6_
      have HB := n7_
      clear n0_ n1_ n2_ n3_ n4_ n5_ n6_ n7_
      refine start_ (n := 5) (S := fun w' => w'.cell? ⟨gb323, 0, none⟩ = some (.slice Ao27 t308.length co27) ∧ w'.cell? ⟨gb323, 1, none⟩ = some (.slice Ao30 t311.length co30) ∧ w'.cell? ⟨gb323, 2, none⟩ = some (.slice Ao31 t314.length co31) ∧ w'.cell? ⟨gb323, 3, none⟩ = some (.slice Ao32 t317.length co32) ∧ w'.cell? ⟨gb323, 4, none⟩ = some (.slice Ao33 t320.length co33) ∧ w'.cell? ⟨gb289, 0, none⟩ = some (.slice A0_0 l0_0.length c0_0) ∧ w'.cell? ⟨gb289, 1, none⟩ = some (.slice A0_1 l0_1.length c0_1) ∧ w'.cell? ⟨gb289, 2, none⟩ = some (.slice A0_2 l0_2.length c0_2) ∧ w'.cell? ⟨gb289, 3, none⟩ = some (.slice A0_3 l0_3.length c0_3) ∧ w'.cell? ⟨gb289, 4, none⟩ = some (.slice A0_4 l0_4.length c0_4)) (ds := []) #[false, false, false, false, false] (by kernel_rfl) rfl rfl ⟨(blk_cell BK323.out 0).trans rfl, (blk_cell BK323.out 1).trans rfl, (blk_cell BK323.out 2).trans rfl, (blk_cell BK323.out 3).trans rfl, (blk_cell BK323.out 4).trans rfl, (blk_cell BK289.out 0).trans rfl, (blk_cell BK289.out 1).trans rfl, (blk_cell BK289.out 2).trans rfl, (blk_cell BK289.out 3).trans rfl, (blk_cell BK289.out 4).trans rfl⟩ (fun hHeld => ?_)
      generalize wc.drew = w40 at HO_324000 HO_324001 HO_324002 HO_324003 HO_324004 BK289 BK323 HB hHeld ⊢
      refine take_ (i := 0) (N := some 39) (v := ?_) (a' := ?_) #[true, false, false, false, false] rfl rfl (by kernel_rfl) (fun _ _ _ h => h) (Or.inl ⟨by rfl, ?_⟩) hHeld ?_ ?_
      rotate_left
      ·rintro w' ⟨s0, s1, s2, s3, s4, s5, s6, s7, s8, s9⟩
       go_simp
       with_reducible rfl
      rotate_left
      ·simp only [Act.put, List.setIfInBounds_toArray, List.set_cons_zero, List.set_cons_succ, i64_w, i32_w]
       rfl
      refine take_ (i := 1) (N := some 40) (v := ?_) (a' := ?_) #[true, true, false, false, false] rfl rfl (by kernel_rfl) (fun _ _ _ h => h) (Or.inl ⟨by rfl, ?_⟩) hHeld ?_ ?_
      rotate_left
      ·rintro w' ⟨s0, s1, s2, s3, s4, s5, s6, s7, s8, s9⟩
       go_simp
       with_reducible rfl
      rotate_left
      ·simp only [Act.put, List.setIfInBounds_toArray, List.set_cons_zero, List.set_cons_succ, i64_w, i32_w]
       rfl
      refine one_ (i := 2) (N := some 41) #[true, true, true, false, false] rfl rfl (by kernel_rfl) (by decide) (fun K hK => ?_)
      refine goes_ Tryd.func6 (by kernel_rfl) rfl #[.agg #[.slice A0_0 l0_0.length c0_0, .slice A0_1 l0_1.length c0_1, .slice A0_2 l0_2.length c0_2, .slice A0_3 l0_3.length c0_3, .slice A0_4 l0_4.length c0_4]] (by rfl) rfl rfl zt5 ?_
      with_reducible refine (laws_toMod.calls kj11 _ _ l0_0 _ _ l0_1 _ _ l0_2 _ _ l0_3 _ _ l0_4 t326 t329 t332 t335 t338 _ ?side1 ?side2 ?side3 ?side4 ?side5 ?side6 ?side7 ?side8 ?side9 ?side10 A37.out).mono ?_
      (case side1 => exact cz (Kd.C_below HR0_0.out HB.out))
      (case side2 => exact HC0_0.out)
      (case side3 => exact cz (Kd.C_below HR0_1.out HB.out))
      (case side4 => exact HC0_1.out)
      (case side5 => exact cz (Kd.C_below HR0_2.out HB.out))
      (case side6 => exact HC0_2.out)
      (case side7 => exact cz (Kd.C_below HR0_3.out HB.out))
      (case side8 => exact HC0_3.out)
      (case side9 => exact cz (Kd.C_below HR0_4.out HB.out))
      (case side10 => exact HC0_4.out)
      rintro e w41 ⟨v327, v330, v333, v336, v339, rfl, ho0, ho1, ho2, ho3, ho4, hb⟩
      refine ⟨_, rfl, ?_⟩
      have n0_ := Aside0.mk (Kd.R_elder' (rz HO_324000.out) (Kd.R_base ho0) hb)
      have n1_ := Aside0.mk (Kd.R_elder' (rz HO_324001.out) (Kd.R_base ho1) hb)
      have n2_ := Aside0.mk (Kd.R_elder' (rz HO_324002.out) (Kd.R_base ho2) hb)
      have n3_ := Aside0.mk (Kd.R_elder' (rz HO_324003.out) (Kd.R_base ho3) hb)
      have n4_ := Aside0.mk (Kd.R_elder' (rz HO_324004.out) (Kd.R_base ho4) hb)
      have n5_ := Aside0.mk (Kd.R_lower (Kd.R_new' ho0 (Kd.R_lt (rz HO_324000.out))) (below_size zt16))
      have n6_ := Aside0.mk (Kd.R_lower (Kd.R_new' ho1 (Kd.R_lt (rz HO_324001.out))) (below_size zt16))
      have n7_ := Aside0.mk (Kd.R_lower (Kd.R_new' ho2 (Kd.R_lt (rz HO_324002.out))) (below_size zt16))
      have n8_ := Aside0.mk (Kd.R_lower (Kd.R_new' ho3 (Kd.R_lt (rz HO_324003.out))) (below_size zt16))
      have n9_ := Aside0.mk (Kd.R_lower (Kd.R_new' ho4 (Kd.R_lt (rz HO_324004.out))) (below_size zt16))
      have n10_ := Aside0.mk (blk_below (g := gb289) (o := .cells #[.slice A0_0 l0_0.length c0_0, .slice A0_1 l0_1.length c0_1, .slice A0_2 l0_2.length c0_2, .slice A0_3 l0_3.length c0_3, .slice A0_4 l0_4.length c0_4] 28 (0, 0)) (oz BK289.out) hb)
      have n11_ := Aside0.mk (blk_below (g := gb323) (o := .cells #[.slice Ao27 t308.length co27, .slice Ao30 t311.length co30, .slice Ao31 t314.length co31, .slice Ao32 t317.length co32, .slice Ao33 t320.length co33] 37 (0, 0)) (oz BK323.out) hb)
      have n12_ := Aside0.mk (below_step zt16 hb)
      clear HO_324000
      clear HO_324001
      clear HO_324002
      clear HO_324003
      clear HO_324004
      clear BK289
      clear BK323
      clear HB
      have HO_324000 := n0_
      have HO_324001 := n1_
      have HO_324002 := n2_
      have HO_324003 := n3_
      have HO_324004 := n4_
      have HO328 := n5_
      have HO331 := n6_
      have HO334 := n7_
      have HO337 := n8_
      have HO340 := n9_
      have BK289 := n10_
      have BK323 := n11_
      have HB := n12_
      clear n0_ n1_ n2_ n3_ n4_ n5_ n6_ n7_ n8_ n9_ n10_ n11_ n12_
      (try clear hb)
      (try clear hb2)
      (try clear hk)
      (try clear hi)
      (try clear ho0)
      (try clear ho1)
      (try clear ho2)
      (try clear ho3)
      (try clear ho4)
      obtain ⟨Ao42, co42, eo42⟩ := Kd.R_slice HO328.out
      (first | subst eo42 | (injection eo42 with f1_ f2_ f3_; have f4_ := f1_.symm; have f5_ := f3_.symm; clear f1_ f2_ f3_; subst f4_; subst f5_))
      obtain ⟨Ao43, co43, eo43⟩ := Kd.R_slice HO331.out
      (first | subst eo43 | (injection eo43 with f1_ f2_ f3_; have f4_ := f1_.symm; have f5_ := f3_.symm; clear f1_ f2_ f3_; subst f4_; subst f5_))
      obtain ⟨Ao44, co44, eo44⟩ := Kd.R_slice HO334.out
      (first | subst eo44 | (injection eo44 with f1_ f2_ f3_; have f4_ := f1_.symm; have f5_ := f3_.symm; clear f1_ f2_ f3_; subst f4_; subst f5_))
      obtain ⟨Ao45, co45, eo45⟩ := Kd.R_slice HO337.out
      (first | subst eo45 | (injection eo45 with f1_ f2_ f3_; have f4_ := f1_.symm; have f5_ := f3_.symm; clear f1_ f2_ f3_; subst f4_; subst f5_))
      obtain ⟨Ao46, co46, eo46⟩ := Kd.R_slice HO340.out
      (first | subst eo46 | (injection eo46 with f1_ f2_ f3_; have f4_ := f1_.symm; have f5_ := f3_.symm; clear f1_ f2_ f3_; subst f4_; subst f5_))
      refine hK.out _ _ ⟨(blk_cell BK323.out 0).trans rfl, (blk_cell BK323.out 1).trans rfl, (blk_cell BK323.out 2).trans rfl, (blk_cell BK323.out 3).trans rfl, (blk_cell BK323.out 4).trans rfl, (blk_cell BK289.out 0).trans rfl, (blk_cell BK289.out 1).trans rfl, (blk_cell BK289.out 2).trans rfl, (blk_cell BK289.out 3).trans rfl, (blk_cell BK289.out 4).trans rfl⟩ (fun hHeld => ?_)
      clear hK K
      refine norm_ (a' := ?_) ?_ ?_
      rotate_left
      ·show Act.put _ (some 41) _ = _
       simp only [Act.put, List.setIfInBounds_toArray, List.set_cons_zero, List.set_cons_succ, i64_w, i32_w]
       rfl
      refine one_ (i := 3) (N := some 42) #[true, true, true, true, false] rfl rfl (by kernel_rfl) (by decide) (fun K hK => ?_)
      refine goes_ Tryd.func8 (by kernel_rfl) rfl #[.agg #[.slice Ao27 t308.length co27, .slice Ao30 t311.length co30, .slice Ao31 t314.length co31, .slice Ao32 t317.length co32, .slice Ao33 t320.length co33], .agg #[.slice Ao42 t326.length co42, .slice Ao43 t329.length co43, .slice Ao44 t332.length co44, .slice Ao45 t335.length co45, .slice Ao46 t338.length co46]] (by rfl) rfl rfl zt5 ?_
      with_reducible refine (laws_eqMod.calls kj11 _ _ t308 _ _ t311 _ _ t314 _ _ t317 _ _ t320 _ _ t326 _ _ t329 _ _ t332 _ _ t335 _ _ t338 true _ ?side1 ?side2 ?side3 ?side4 ?side5 ?side6 ?side7 ?side8 ?side9 ?side10 ?side11 ?side12 ?side13 ?side14 ?side15 ?side16 ?side17 ?side18 ?side19 ?side20 A38.out rfl).mono ?_
      (case side1 => exact cz (Kd.R_reads' HO_324000.out).2.2)
      (case side2 => exact (Kd.R_reads' HO_324000.out).2.1)
      (case side3 => exact cz (Kd.R_reads' HO_324001.out).2.2)
      (case side4 => exact (Kd.R_reads' HO_324001.out).2.1)
      (case side5 => exact cz (Kd.R_reads' HO_324002.out).2.2)
      (case side6 => exact (Kd.R_reads' HO_324002.out).2.1)
      (case side7 => exact cz (Kd.R_reads' HO_324003.out).2.2)
      (case side8 => exact (Kd.R_reads' HO_324003.out).2.1)
      (case side9 => exact cz (Kd.R_reads' HO_324004.out).2.2)
      (case side10 => exact (Kd.R_reads' HO_324004.out).2.1)
      (case side11 => exact cz (Kd.R_reads' HO328.out).2.2)
      (case side12 => exact (Kd.R_reads' HO328.out).2.1)
      (case side13 => exact cz (Kd.R_reads' HO331.out).2.2)
      (case side14 => exact (Kd.R_reads' HO331.out).2.1)
      (case side15 => exact cz (Kd.R_reads' HO334.out).2.2)
      (case side16 => exact (Kd.R_reads' HO334.out).2.1)
      (case side17 => exact cz (Kd.R_reads' HO337.out).2.2)
      (case side18 => exact (Kd.R_reads' HO337.out).2.1)
      (case side19 => exact cz (Kd.R_reads' HO340.out).2.2)
      (case side20 => exact (Kd.R_reads' HO340.out).2.1)
      rintro e w47 ⟨rfl, hb⟩
      refine ⟨_, rfl, ?_⟩
      have n0_ := Aside0.mk (Kd.R_below (rz HO_324000.out) hb)
      have n1_ := Aside0.mk (Kd.R_below (rz HO_324001.out) hb)
      have n2_ := Aside0.mk (Kd.R_below (rz HO_324002.out) hb)
      have n3_ := Aside0.mk (Kd.R_below (rz HO_324003.out) hb)
      have n4_ := Aside0.mk (Kd.R_below (rz HO_324004.out) hb)
      have n5_ := Aside0.mk (Kd.R_below (rz HO328.out) hb)
      have n6_ := Aside0.mk (Kd.R_below (rz HO331.out) hb)
      have n7_ := Aside0.mk (Kd.R_below (rz HO334.out) hb)
      have n8_ := Aside0.mk (Kd.R_below (rz HO337.out) hb)
      have n9_ := Aside0.mk (Kd.R_below (rz HO340.out) hb)
      have n10_ := Aside0.mk (blk_below (g := gb289) (o := .cells #[.slice A0_0 l0_0.length c0_0, .slice A0_1 l0_1.length c0_1, .slice A0_2 l0_2.length c0_2, .slice A0_3 l0_3.length c0_3, .slice A0_4 l0_4.length c0_4] 28 (0, 0)) (oz BK289.out) hb)
      have n11_ := Aside0.mk (blk_below (g := gb323) (o := .cells #[.slice Ao27 t308.length co27, .slice Ao30 t311.length co30, .slice Ao31 t314.length co31, .slice Ao32 t317.length co32, .slice Ao33 t320.length co33] 37 (0, 0)) (oz BK323.out) hb)
      have n12_ := Aside0.mk (below_step zt16 hb)
      clear HO_324000
      clear HO_324001
      clear HO_324002
      clear HO_324003
      clear HO_324004
      clear HO328
      clear HO331
      clear HO334
      clear HO337
      clear HO340
      clear BK289
      clear BK323
      clear HB
      have HO_324000 := n0_
      have HO_324001 := n1_
      have HO_324002 := n2_
      have HO_324003 := n3_
      have HO_324004 := n4_
      have HO328 := n5_
      have HO331 := n6_
      have HO334 := n7_
      have HO337 := n8_
      have HO340 := n9_
      have BK289 := n10_
      have BK323 := n11_
      have HB := n12_
      clear n0_ n1_ n2_ n3_ n4_ n5_ n6_ n7_ n8_ n9_ n10_ n11_ n12_
      (try clear hb)
      (try clear hb2)
      (try clear hk)
      (try clear hi)
      refine hK.out _ _ ⟨(blk_cell BK323.out 0).trans rfl, (blk_cell BK323.out 1).trans rfl, (blk_cell BK323.out 2).trans rfl, (blk_cell BK323.out 3).trans rfl, (blk_cell BK323.out 4).trans rfl, (blk_cell BK289.out 0).trans rfl, (blk_cell BK289.out 1).trans rfl, (blk_cell BK289.out 2).trans rfl, (blk_cell BK289.out 3).trans rfl, (blk_cell BK289.out 4).trans rfl⟩ (fun hHeld => ?_)
      clear hK K
      refine norm_ (a' := ?_) ?_ ?_
      rotate_left
      ·show Act.put _ (some 42) _ = _
       simp only [Act.put, List.setIfInBounds_toArray, List.set_cons_zero, List.set_cons_succ, i64_w, i32_w]
       rfl
      refine pure_ (i := 4) (N := some 43) (v := ?_) (a' := ?_) #[true, true, true, true, true] rfl rfl (by kernel_rfl) (fun _ _ _ h => h) (Or.inl ⟨by rfl, ?_⟩) ?_ ?_
      rotate_left
      ·intro w'
       go_simp
       with_reducible rfl
      rotate_left
      ·simp only [Act.put, List.setIfInBounds_toArray, List.set_cons_zero, List.set_cons_succ, i64_w, i32_w]
       rfl
      refine done_ (by kernel_rfl) ?_
      try go_wp2
      go_ret
      exact ⟨zt8, zt16⟩
     ·replace c39 := Bool.eq_false_iff.mpr c39
      subst c39
      rw [if_neg (show ¬ (false = true) by decide)] at H
      exact absurd ((Option.some.inj H).trans HRT.out) (by decide)

end Go.Proofs.YtnakdhpefkllmaaDoor.PFnExactKnown

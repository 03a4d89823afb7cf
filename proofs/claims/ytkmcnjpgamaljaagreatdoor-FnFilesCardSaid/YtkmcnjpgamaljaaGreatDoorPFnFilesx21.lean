-- Out of the kit's print, with contracts of mine among it (myprint.py).
import Derived.Test.YtkmcnjpgamaljaaGreatDoorPFnFilesx0
import Derived.Test.YtkmcnjpgamaljaaGreatDoorPFnFilesx2
import Derived.Test.YtkmcnjpgamaljaaGreatDoorPFnFilesx3
import Derived.Test.YtkmcnjpgamaljaaGreatDoorPFnFilesx6
import Derived.Test.YtkmcnjpgamaljaaGreatDoorPFnFilesx10
import Derived.Test.YtkmcnjpgamaljaaGreatDoorPFnFilesx11
import Derived.Test.YtkmcnjpgamaljaaGreatDoorPFnFilesx16
import Derived.Test.YtkmcnjpgamaljaaGreatDoorPFnFilesx18
import Derived.Test.YtkmcnjpgamaljaaGreatDoorPFnFilesx19
import Derived.Test.YtkmcnjpgamaljaaGreatDoorPFnFilesx20
namespace Go.Proofs.YtkmcnjpgamaljaaGreatDoor.PFnFiles
open Go.RowKit Go.Proofs.YtkmcnjpgamaljaaGreatDoorW.PrintWords Go.Proofs.YtkmcnjpgamaljaaGreatDoorW.PrintLast Go.Proofs.YtkmcnjpgamaljaaGreatDoorW.PrintMore
attribute [local go_sem] max2_int min2_int max_two min_two max_three min_three max_four min_four   -- for this text's walks alone
set_option linter.unusedVariables false
set_option linter.unusedSimpArgs false

/-! ### laws_FnFiles: function 3 -/
mutual
def laws_FnFiles.j0 : Nat → List Int → Bool → Option (Bool)
 | 0, _, _ => none
 | k + 1, x0, x46 => if x46 = true then (some false) else ((spec_DrawReadFiles.f k x0).bind fun t601 => ((impl_ReadFiles.f k t601).bind fun bt602 => ((spec_ReadFiles.f k t601).bind fun bt606 => (if (bt602.2 != bt606.2) = true then (laws_FnFiles.j1 k x0 true) else (if bt602.2 = true then ((impl_ShowFiles.f k bt602.1).bind fun t610 => (laws_FnFiles.j1 k x0 (t610.toList != t601.toList))) else (laws_FnFiles.j1 k x0 false))))))
def laws_FnFiles.j1 : Nat → List Int → Bool → Option (Bool)
 | 0, _, _ => none
 | k + 1, x0, x70 => if x70 = true then (some false) else ((spec_DrawPutFile.f k x0).bind fun bt611 => ((impl_PutFile.f k bt611.1 bt611.2.1 bt611.2.2).bind fun bt617 => ((spec_FilesOk.f k bt611.1).bind fun t621 => (if t621 = true then (if bt617.2 = true then ((impl_Find.f k bt617.1 bt611.2.1).bind fun bt623 => ((spec_Find.f k bt611.1 bt611.2.1).bind fun bt625 => ((impl_DropFile.f k bt617.1 bt611.2.1).bind fun bt627 => ((impl_Changed.f k bt611.1 bt617.1).bind fun t631 => ((spec_Find.f k bt611.1 bt611.2.1).bind fun bt634 => (if bt623.2 = true then (if bt623.1.toList = bt611.2.2.toList then (if bt627.2 = true then (if (bt627.1.length : Int) = (wrap64 ((bt617.1.length : Int) - 1)) then (if bt625.2 = true then (if bt634.1.toList = bt611.2.2.toList then (if (t631.length : Int) = 0 then (some true) else (some false)) else (if (t631.length : Int) = 1 then (if 0 < (t631.length : Int) then (if (rdOf ByteArray.empty t631 0).toList = bt611.2.1.toList then (some true) else (some false)) else (none)) else (some false))) else (if (t631.length : Int) = 1 then (if 0 < (t631.length : Int) then (if (rdOf ByteArray.empty t631 0).toList = bt611.2.1.toList then ((laws_sameFiles.f k bt627.1 bt611.1).bind fun t638 => (some t638)) else (some false)) else (none)) else (some false))) else (some false)) else (some false)) else (some false)) else (some false))))))) else ((laws_sameFiles.f k bt611.1 bt617.1).bind fun t622 => (some t622))) else (if (bt617.1.length : Int) = 0 then (some (!bt617.2)) else (some false))))))
end
def laws_FnFiles.f (k : Nat) (l0 : List Int) : Option (Bool) := (laws_big.f l0).bind fun t590 => (if t590 = true then (some true) else ((spec_DrawShowFiles.f k l0).bind fun t591 => ((impl_ShowFiles.f k t591).bind fun t594 => ((impl_ReadFiles.f k t594).bind fun bt595 => ((spec_FilesOk.f k t591).bind fun t599 => (if (bt595.2 != t599) = true then (laws_FnFiles.j0 k l0 true) else (if bt595.2 = true then ((laws_sameFiles.f k bt595.1 t591).bind fun t600 => (laws_FnFiles.j0 k l0 (!t600))) else (laws_FnFiles.j0 k l0 false))))))))
theorem laws_FnFiles.mono_l : ∀ k, (∀ y0 y1, LeO (laws_FnFiles.j0 k y0 y1) (laws_FnFiles.j0 (k + 1) y0 y1)) ∧ (∀ y0 y1, LeO (laws_FnFiles.j1 k y0 y1) (laws_FnFiles.j1 (k + 1) y0 y1))
 | 0 => ⟨fun _ _ r h => by simp [laws_FnFiles.j0] at h, fun _ _ r h => by simp [laws_FnFiles.j1] at h⟩
 | k + 1 => by
  obtain ⟨ih0, ih1⟩ := laws_FnFiles.mono_l k
  refine ⟨?_, ?_⟩
  ·intro y0 y1
   unfold laws_FnFiles.j0
   repeat' (first | (with_reducible first | exact ih0 _ _ | exact ih1 _ _ | exact impl_Changed.mono _ _ _ | exact impl_DropFile.mono _ _ _ | exact impl_Find.mono _ _ _ | exact impl_PutFile.mono _ _ _ _ | exact impl_ReadFiles.mono _ _ | exact impl_ShowFiles.mono _ _ | exact laws_sameFiles.mono _ _ _ | exact spec_DrawPutFile.mono _ _ | exact spec_DrawReadFiles.mono _ _ | exact spec_DrawShowFiles.mono _ _ | exact spec_FilesOk.mono _ _ | exact spec_Find.mono _ _ _ | exact spec_ReadFiles.mono _ _ | exact LeO.refl _ | exact LeO.none _ | refine LeO.ite ?_ ?_ | refine LeO.bind ?_ (fun _ => ?_)) | exact LeO.none _ | refine LeO.ite ?_ ?_ | refine LeO.bind ?_ (fun _ => ?_))
  ·intro y0 y1
   unfold laws_FnFiles.j1
   repeat' (first | (with_reducible first | exact ih0 _ _ | exact ih1 _ _ | exact impl_Changed.mono _ _ _ | exact impl_DropFile.mono _ _ _ | exact impl_Find.mono _ _ _ | exact impl_PutFile.mono _ _ _ _ | exact impl_ReadFiles.mono _ _ | exact impl_ShowFiles.mono _ _ | exact laws_sameFiles.mono _ _ _ | exact spec_DrawPutFile.mono _ _ | exact spec_DrawReadFiles.mono _ _ | exact spec_DrawShowFiles.mono _ _ | exact spec_FilesOk.mono _ _ | exact spec_Find.mono _ _ _ | exact spec_ReadFiles.mono _ _ | exact LeO.refl _ | exact LeO.none _ | refine LeO.ite ?_ ?_ | refine LeO.bind ?_ (fun _ => ?_)) | exact LeO.none _ | refine LeO.ite ?_ ?_ | refine LeO.bind ?_ (fun _ => ?_))
theorem laws_FnFiles.mono : ∀ a0 k, LeO (laws_FnFiles.f k a0) (laws_FnFiles.f (k + 1) a0) := by
 intro a0 k
 obtain ⟨ih0, ih1⟩ := laws_FnFiles.mono_l k
 unfold laws_FnFiles.f
 repeat' (first | (with_reducible first | exact ih0 _ _ | exact ih1 _ _ | exact impl_Changed.mono _ _ _ | exact impl_DropFile.mono _ _ _ | exact impl_Find.mono _ _ _ | exact impl_PutFile.mono _ _ _ _ | exact impl_ReadFiles.mono _ _ | exact impl_ShowFiles.mono _ _ | exact laws_sameFiles.mono _ _ _ | exact spec_DrawPutFile.mono _ _ | exact spec_DrawReadFiles.mono _ _ | exact spec_DrawShowFiles.mono _ _ | exact spec_FilesOk.mono _ _ | exact spec_Find.mono _ _ _ | exact spec_ReadFiles.mono _ _ | exact LeO.refl _ | exact LeO.none _ | refine LeO.ite ?_ ?_ | refine LeO.bind ?_ (fun _ => ?_)) | exact LeO.none _ | refine LeO.ite ?_ ?_ | refine LeO.bind ?_ (fun _ => ?_))
set_option maxHeartbeats 8000000 in
set_option maxRecDepth 100000 in
theorem laws_FnFiles.calls (k : Nat) (A0 : Option Addr) (c0 : Nat) (l0 : List Int) (r : Bool) (w : World) (hr0 : Kd.C (Kd.int .u8) w A0 l0.length l0) (hc0 : l0.length ≤ c0) (HT : TabsL w) (h : laws_FnFiles.f k l0 = some r) :
  Calls Tryz.prog 3 #[.slice A0 l0.length c0] w fun e w' => e = .returned (.bool r) ∧ Below w.heap.size w w' := by
 have HTA := Aside0.mk HT
 clear HT
 have hu33 := Tryz.underlying33
 have HR0 := Aside0.mk hr0
 have HC0 := Aside0.mk hc0
 clear hr0 hc0
 have HB := Aside0.mk (Below.refl w.heap.size w)
 try unfold laws_FnFiles.f at h
 have H := h
 clear h
 replace H := bnd H
 obtain ⟨t590, A2, H⟩ := H
 try dsimp only at H
 by_cases c3 : t590 = true
 ·subst c3
  rw [if_pos rfl] at H
  obtain rfl := Option.some.inj H
  go_enter Tryz.func3, Tryz.ntmps3
  go_wp2_with (first | (go_at_call 4; (with_reducible refine (laws_big.calls _ _ l0 true _ ?side1 ?side2 A2.out).mono ?_); (case side1 => exact cz HR0.out); (case side2 => exact HC0.out); rintro e w' ⟨rfl, ⟨nd, rfl⟩⟩; (try first | exact ⟨rfl, _, World.drewN_drewN _ _ _⟩ | exact ⟨rfl, _, Eq.trans (World.drewN_drewN _ _ _) (congrArg (World.drewN _) (Nat.add_assoc _ _ _))⟩)))
  repeat (go_quiet (first | (go_at_call 4; (with_reducible refine (laws_big.calls _ _ l0 true _ ?side1 ?side2 A2.out).mono ?_); (case side1 => exact cz HR0.out); (case side2 => exact HC0.out); rintro e w' ⟨rfl, ⟨nd, rfl⟩⟩; (try first | exact ⟨rfl, _, World.drewN_drewN _ _ _⟩ | exact ⟨rfl, _, Eq.trans (World.drewN_drewN _ _ _) (congrArg (World.drewN _) (Nat.add_assoc _ _ _))⟩))); try go_wp2_with (first | (go_at_call 4; (with_reducible refine (laws_big.calls _ _ l0 true _ ?side1 ?side2 A2.out).mono ?_); (case side1 => exact cz HR0.out); (case side2 => exact HC0.out); rintro e w' ⟨rfl, ⟨nd, rfl⟩⟩; (try first | exact ⟨rfl, _, World.drewN_drewN _ _ _⟩ | exact ⟨rfl, _, Eq.trans (World.drewN_drewN _ _ _) (congrArg (World.drewN _) (Nat.add_assoc _ _ _))⟩))))
  go_ret
  exact ⟨zt10, zt3⟩
 ·replace c3 := Bool.eq_false_iff.mpr c3
  subst c3
  rw [if_neg (show ¬ (false = true) by decide)] at H
  replace H := bnd H
  obtain ⟨t591, A4, H⟩ := H
  try dsimp only at H
  replace H := bnd H
  obtain ⟨t594, A5, H⟩ := H
  try dsimp only at H
  replace H := bnd H
  obtain ⟨⟨t595, t596⟩, A6, H⟩ := H
  try dsimp only at H
  have HC7 := Aside0.mk H
  clear H
  go_enter Tryz.func3, Tryz.ntmps3
  go_upto_region 5 with (first | (go_at_call 4; (with_reducible refine (laws_big.calls _ _ l0 false _ ?side1 ?side2 A2.out).mono ?_); (case side1 => exact cz HR0.out); (case side2 => exact HC0.out); rintro e w' ⟨rfl, ⟨nd, rfl⟩⟩; (try first | exact ⟨rfl, _, World.drewN_drewN _ _ _⟩ | exact ⟨rfl, _, Eq.trans (World.drewN_drewN _ _ _) (congrArg (World.drewN _) (Nat.add_assoc _ _ _))⟩)) | (go_at_call 5; (with_reducible refine (spec_DrawShowFiles.calls k _ _ l0 t591 _ ?side1 ?side2 A4.out).mono ?_); (case side1 => exact cz HR0.out); (case side2 => exact HC0.out); rintro e w8 ⟨v592, rfl, ho0, hb⟩; have n0_ := Aside0.mk (Kd.R_lower ho0 (below_size zt3)); have n1_ := Aside0.mk (below_step zt3 hb); clear HB; have HO593 := n0_; have HB := n1_; clear n0_ n1_; (try clear hb); (try clear hb2); (try clear hk); (try clear hi); (try clear ho0); obtain ⟨Ao9, co9, eo9⟩ := Kd.R_slice HO593.out; subst eo9) | (go_at_call 7; (with_reducible refine (impl_ShowFiles.calls k _ _ t591 t594 _ ?side1 ?side2 (TabsL.below HTA.out zt3) A5.out).mono ?_); (case side1 => exact cz (Kd.R_reads' HO593.out).2.2); (case side2 => exact (Kd.R_reads' HO593.out).2.1); rintro e w10 ⟨rfl, hb⟩; have n0_ := Aside0.mk (Kd.R_below (rz HO593.out) hb); have n1_ := Aside0.mk (below_step zt3 hb); clear HO593; clear HB; have HO593 := n0_; have HB := n1_; clear n0_ n1_; (try clear hb); (try clear hb2); (try clear hk); (try clear hi)) | (go_at_call 6; (with_reducible refine (impl_ReadFiles.calls k t594 t595 t596 _ (TabsL.below HTA.out zt3) A6.out).mono ?_); rintro e w11 ⟨v597, rfl, ho0, hb⟩; have n0_ := Aside0.mk (Kd.R_elder' (rz HO593.out) (Kd.R_base ho0) hb); have n1_ := Aside0.mk (Kd.R_lower (Kd.R_new' ho0 (Kd.R_lt (rz HO593.out))) (below_size zt3)); have n2_ := Aside0.mk (below_step zt3 hb); clear HO593; clear HB; have HO593 := n0_; have HO598 := n1_; have HB := n2_; clear n0_ n1_ n2_; (try clear hb); (try clear hb2); (try clear hk); (try clear hi); (try clear ho0)))
  repeat (go_quiet (first | (go_at_call 4; (with_reducible refine (laws_big.calls _ _ l0 false _ ?side1 ?side2 A2.out).mono ?_); (case side1 => exact cz HR0.out); (case side2 => exact HC0.out); rintro e w' ⟨rfl, ⟨nd, rfl⟩⟩; (try first | exact ⟨rfl, _, World.drewN_drewN _ _ _⟩ | exact ⟨rfl, _, Eq.trans (World.drewN_drewN _ _ _) (congrArg (World.drewN _) (Nat.add_assoc _ _ _))⟩)) | (go_at_call 5; (with_reducible refine (spec_DrawShowFiles.calls k _ _ l0 t591 _ ?side1 ?side2 A4.out).mono ?_); (case side1 => exact cz HR0.out); (case side2 => exact HC0.out); rintro e w8 ⟨v592, rfl, ho0, hb⟩; have n0_ := Aside0.mk (Kd.R_lower ho0 (below_size zt3)); have n1_ := Aside0.mk (below_step zt3 hb); clear HB; have HO593 := n0_; have HB := n1_; clear n0_ n1_; (try clear hb); (try clear hb2); (try clear hk); (try clear hi); (try clear ho0); obtain ⟨Ao9, co9, eo9⟩ := Kd.R_slice HO593.out; subst eo9) | (go_at_call 7; (with_reducible refine (impl_ShowFiles.calls k _ _ t591 t594 _ ?side1 ?side2 (TabsL.below HTA.out zt3) A5.out).mono ?_); (case side1 => exact cz (Kd.R_reads' HO593.out).2.2); (case side2 => exact (Kd.R_reads' HO593.out).2.1); rintro e w10 ⟨rfl, hb⟩; have n0_ := Aside0.mk (Kd.R_below (rz HO593.out) hb); have n1_ := Aside0.mk (below_step zt3 hb); clear HO593; clear HB; have HO593 := n0_; have HB := n1_; clear n0_ n1_; (try clear hb); (try clear hb2); (try clear hk); (try clear hi)) | (go_at_call 6; (with_reducible refine (impl_ReadFiles.calls k t594 t595 t596 _ (TabsL.below HTA.out zt3) A6.out).mono ?_); rintro e w11 ⟨v597, rfl, ho0, hb⟩; have n0_ := Aside0.mk (Kd.R_elder' (rz HO593.out) (Kd.R_base ho0) hb); have n1_ := Aside0.mk (Kd.R_lower (Kd.R_new' ho0 (Kd.R_lt (rz HO593.out))) (below_size zt3)); have n2_ := Aside0.mk (below_step zt3 hb); clear HO593; clear HB; have HO593 := n0_; have HO598 := n1_; have HB := n2_; clear n0_ n1_ n2_; (try clear hb); (try clear hb2); (try clear hk); (try clear hi); (try clear ho0))); go_upto_region 5 with (first | (go_at_call 4; (with_reducible refine (laws_big.calls _ _ l0 false _ ?side1 ?side2 A2.out).mono ?_); (case side1 => exact cz HR0.out); (case side2 => exact HC0.out); rintro e w' ⟨rfl, ⟨nd, rfl⟩⟩; (try first | exact ⟨rfl, _, World.drewN_drewN _ _ _⟩ | exact ⟨rfl, _, Eq.trans (World.drewN_drewN _ _ _) (congrArg (World.drewN _) (Nat.add_assoc _ _ _))⟩)) | (go_at_call 5; (with_reducible refine (spec_DrawShowFiles.calls k _ _ l0 t591 _ ?side1 ?side2 A4.out).mono ?_); (case side1 => exact cz HR0.out); (case side2 => exact HC0.out); rintro e w8 ⟨v592, rfl, ho0, hb⟩; have n0_ := Aside0.mk (Kd.R_lower ho0 (below_size zt3)); have n1_ := Aside0.mk (below_step zt3 hb); clear HB; have HO593 := n0_; have HB := n1_; clear n0_ n1_; (try clear hb); (try clear hb2); (try clear hk); (try clear hi); (try clear ho0); obtain ⟨Ao9, co9, eo9⟩ := Kd.R_slice HO593.out; subst eo9) | (go_at_call 7; (with_reducible refine (impl_ShowFiles.calls k _ _ t591 t594 _ ?side1 ?side2 (TabsL.below HTA.out zt3) A5.out).mono ?_); (case side1 => exact cz (Kd.R_reads' HO593.out).2.2); (case side2 => exact (Kd.R_reads' HO593.out).2.1); rintro e w10 ⟨rfl, hb⟩; have n0_ := Aside0.mk (Kd.R_below (rz HO593.out) hb); have n1_ := Aside0.mk (below_step zt3 hb); clear HO593; clear HB; have HO593 := n0_; have HB := n1_; clear n0_ n1_; (try clear hb); (try clear hb2); (try clear hk); (try clear hi)) | (go_at_call 6; (with_reducible refine (impl_ReadFiles.calls k t594 t595 t596 _ (TabsL.below HTA.out zt3) A6.out).mono ?_); rintro e w11 ⟨v597, rfl, ho0, hb⟩; have n0_ := Aside0.mk (Kd.R_elder' (rz HO593.out) (Kd.R_base ho0) hb); have n1_ := Aside0.mk (Kd.R_lower (Kd.R_new' ho0 (Kd.R_lt (rz HO593.out))) (below_size zt3)); have n2_ := Aside0.mk (below_step zt3 hb); clear HO593; clear HB; have HO593 := n0_; have HO598 := n1_; have HB := n2_; clear n0_ n1_ n2_; (try clear hb); (try clear hb2); (try clear hk); (try clear hi); (try clear ho0))))
  (try simp only [Act.put, List.setIfInBounds_toArray, List.set_cons_zero, List.set_cons_succ])
  go_cut [46] (fun v46 wc => ∃ (kq : Nat) (x46_6 : Bool), v46 = .bool x46_6 ∧ Aside0 (laws_FnFiles.j0 kq l0 x46_6 = some r) ∧ Aside0 (kq ≤ k) ∧ Aside0 (Below w.heap.size w wc))
  case first =>
   have H := HC7.out
   clear HC7
   replace H := bnd H
   obtain ⟨t599, A12, H⟩ := H
   try dsimp only at H
   by_cases c13 : (t596 != t599) = true
   rw [if_pos c13] at H
   have c13b0 : (t596 != t599) = true := c13
   (try (have c13b1 : decide (t596 = t599) = false := by simpa using c13))
   (try (have c13b2 : (t596 == t599) = false := by simpa using c13))
   (try (have c13b3 : ¬ (t596 = t599) := by simpa using c13))
   clear c13
   (first | rw [c13b0] | (simp only [i64_w, i32_w]; rw [c13b0]) | skip)
   have H' := Aside0.mk H
   clear H
   rotate_left
   rw [if_neg c13] at H
   have c13b0 : (t596 != t599) = false := by simpa using c13
   (try (have c13b1 : decide (t596 = t599) = true := by simpa using c13))
   (try (have c13b2 : (t596 == t599) = true := by simpa using c13))
   clear c13
   (first | rw [c13b0] | (simp only [i64_w, i32_w]; rw [c13b0]) | skip)
   by_cases c15 : t596 = true
   subst c15
   rw [if_pos rfl] at H
   replace H := bnd H
   obtain ⟨t600, A16, H⟩ := H
   try dsimp only at H
   have H' := Aside0.mk H
   clear H
   rotate_left
   replace c15 := Bool.eq_false_iff.mpr c15
   subst c15
   rw [if_neg (show ¬ (false = true) by decide)] at H
   have H' := Aside0.mk H
   clear H
   rotate_left
   all_goals
    as_aux_lemma =>
     repeat (go_wp2_with (first | (go_at_call 8; (with_reducible refine (spec_FilesOk.calls k _ _ t591 t599 _ ?side1 ?side2 A12.out).mono ?_); (case side1 => exact cz (Kd.R_reads' HO593.out).2.2); (case side2 => exact (Kd.R_reads' HO593.out).2.1); rintro e w7000 ⟨rfl, hb⟩; have n0_ := Aside0.mk (Kd.R_below (rz HO593.out) hb); have n1_ := Aside0.mk (Kd.R_below (rz HO598.out) hb); have n2_ := Aside0.mk (below_step zt3 hb); clear HO593; clear HO598; clear HB; have HO593 := n0_; have HO598 := n1_; have HB := n2_; clear n0_ n1_ n2_; (try clear hb); (try clear hb2); (try clear hk); (try clear hi); obtain ⟨Ao7001, co7001, eo7001⟩ := Kd.R_slice HO598.out; subst eo7001) | (go_at_call 8; (with_reducible refine (spec_FilesOk.calls k _ _ t591 t599 _ ?side1 ?side2 A12.out).mono ?_); (case side1 => exact cz (Kd.R_reads' HO593.out).2.2); (case side2 => exact (Kd.R_reads' HO593.out).2.1); rintro e w7000 ⟨rfl, hb⟩; have n0_ := Aside0.mk (Kd.R_below (rz HO593.out) hb); have n1_ := Aside0.mk (Kd.R_below (rz HO598.out) hb); have n2_ := Aside0.mk (below_step zt3 hb); clear HO593; clear HO598; clear HB; have HO593 := n0_; have HO598 := n1_; have HB := n2_; clear n0_ n1_ n2_; (try clear hb); (try clear hb2); (try clear hk); (try clear hi)) | (go_at_call 9; (with_reducible refine (laws_sameFiles.calls k _ _ t595 _ _ t591 t600 _ ?side1 ?side2 ?side3 ?side4 A16.out).mono ?_); (case side1 => exact cz (Kd.R_reads' HO598.out).2.2); (case side2 => exact (Kd.R_reads' HO598.out).2.1); (case side3 => exact cz (Kd.R_reads' HO593.out).2.2); (case side4 => exact (Kd.R_reads' HO593.out).2.1); rintro e w' ⟨rfl, ⟨nd, rfl⟩⟩; (try first | exact ⟨rfl, _, World.drewN_drewN _ _ _⟩ | exact ⟨rfl, _, Eq.trans (World.drewN_drewN _ _ _) (congrArg (World.drewN _) (Nat.add_assoc _ _ _))⟩))); first | go_quiet (fail) | (go_meet; (case rel => exact ⟨_, (true), zt12, H', ⟨by first | omega | exact Nat.le_refl _⟩, ⟨zt3⟩⟩)) | (go_meet; (case rel => exact ⟨_, (!t600), zt12, H', ⟨by first | omega | exact Nat.le_refl _⟩, ⟨zt3⟩⟩)) | (go_meet; (case rel => exact ⟨_, (false), zt12, H', ⟨by first | omega | exact Nat.le_refl _⟩, ⟨zt3⟩⟩)))
  case rest =>
   clear HC7
   try clear c1
   try clear p2
   try clear c3
   try clear c13
   try clear c13b0
   try clear c13b1
   try clear c13b2
   try clear c15
   obtain ⟨kq, x46_6, rfl, HA, HJ6, HB⟩ := hcut
   cases kq with
   | zero => exact absurd HA.out (by simp [laws_FnFiles.j0])
   | succ kj6 =>
    have H := HA.out
    clear HA
    simp only [laws_FnFiles.j0] at H
    by_cases c20 : x46_6 = true
    ·subst c20
     rw [if_pos rfl] at H
     obtain rfl := Option.some.inj H
     go_wp2
     repeat (go_quiet (fail); try go_wp2)
     go_ret
     exact ⟨zt10, zt3⟩
    ·replace c20 := Bool.eq_false_iff.mpr c20
     subst c20
     rw [if_neg (show ¬ (false = true) by decide)] at H
     replace H := bnd H
     obtain ⟨t601, A21, H⟩ := H
     try dsimp only at H
     replace H := bnd H
     obtain ⟨⟨t602, t603⟩, A22, H⟩ := H
     try dsimp only at H
     replace H := bnd H
     obtain ⟨⟨t606, t607⟩, A23, H⟩ := H
     try dsimp only at H
     have HC24 := Aside0.mk H
     clear H
     go_upto_region 10 with (first | (go_at_call 10; (with_reducible refine (spec_DrawReadFiles.calls kj6 _ _ l0 t601 _ ?side1 ?side2 A21.out).mono ?_); (case side1 => exact cz (Kd.C_below HR0.out HB.out)); (case side2 => exact HC0.out); rintro e w25 ⟨rfl, hb⟩; have n0_ := Aside0.mk (below_step zt3 hb); clear HB; have HB := n0_; clear n0_; (try clear hb); (try clear hb2); (try clear hk); (try clear hi)) | (go_at_call 6; (with_reducible refine (impl_ReadFiles.calls kj6 t601 t602 t603 _ (TabsL.below HTA.out zt3) A22.out).mono ?_); rintro e w26 ⟨v604, rfl, ho0, hb⟩; have n0_ := Aside0.mk (Kd.R_lower ho0 (below_size zt3)); have n1_ := Aside0.mk (below_step zt3 hb); clear HB; have HO605 := n0_; have HB := n1_; clear n0_ n1_; (try clear hb); (try clear hb2); (try clear hk); (try clear hi); (try clear ho0)) | (go_at_call 11; (with_reducible refine (spec_ReadFiles.calls kj6 t601 t606 t607 _ A23.out).mono ?_); rintro e w27 ⟨v608, rfl, ho0, hb⟩; have n0_ := Aside0.mk (Kd.R_elder' (rz HO605.out) (Kd.R_base ho0) hb); have n1_ := Aside0.mk (Kd.R_lower (Kd.R_new' ho0 (Kd.R_lt (rz HO605.out))) (below_size zt3)); have n2_ := Aside0.mk (below_step zt3 hb); clear HO605; clear HB; have HO605 := n0_; have HO609 := n1_; have HB := n2_; clear n0_ n1_ n2_; (try clear hb); (try clear hb2); (try clear hk); (try clear hi); (try clear ho0)))
     repeat (go_quiet (first | (go_at_call 10; (with_reducible refine (spec_DrawReadFiles.calls kj6 _ _ l0 t601 _ ?side1 ?side2 A21.out).mono ?_); (case side1 => exact cz (Kd.C_below HR0.out HB.out)); (case side2 => exact HC0.out); rintro e w25 ⟨rfl, hb⟩; have n0_ := Aside0.mk (below_step zt3 hb); clear HB; have HB := n0_; clear n0_; (try clear hb); (try clear hb2); (try clear hk); (try clear hi)) | (go_at_call 6; (with_reducible refine (impl_ReadFiles.calls kj6 t601 t602 t603 _ (TabsL.below HTA.out zt3) A22.out).mono ?_); rintro e w26 ⟨v604, rfl, ho0, hb⟩; have n0_ := Aside0.mk (Kd.R_lower ho0 (below_size zt3)); have n1_ := Aside0.mk (below_step zt3 hb); clear HB; have HO605 := n0_; have HB := n1_; clear n0_ n1_; (try clear hb); (try clear hb2); (try clear hk); (try clear hi); (try clear ho0)) | (go_at_call 11; (with_reducible refine (spec_ReadFiles.calls kj6 t601 t606 t607 _ A23.out).mono ?_); rintro e w27 ⟨v608, rfl, ho0, hb⟩; have n0_ := Aside0.mk (Kd.R_elder' (rz HO605.out) (Kd.R_base ho0) hb); have n1_ := Aside0.mk (Kd.R_lower (Kd.R_new' ho0 (Kd.R_lt (rz HO605.out))) (below_size zt3)); have n2_ := Aside0.mk (below_step zt3 hb); clear HO605; clear HB; have HO605 := n0_; have HO609 := n1_; have HB := n2_; clear n0_ n1_ n2_; (try clear hb); (try clear hb2); (try clear hk); (try clear hi); (try clear ho0))); go_upto_region 10 with (first | (go_at_call 10; (with_reducible refine (spec_DrawReadFiles.calls kj6 _ _ l0 t601 _ ?side1 ?side2 A21.out).mono ?_); (case side1 => exact cz (Kd.C_below HR0.out HB.out)); (case side2 => exact HC0.out); rintro e w25 ⟨rfl, hb⟩; have n0_ := Aside0.mk (below_step zt3 hb); clear HB; have HB := n0_; clear n0_; (try clear hb); (try clear hb2); (try clear hk); (try clear hi)) | (go_at_call 6; (with_reducible refine (impl_ReadFiles.calls kj6 t601 t602 t603 _ (TabsL.below HTA.out zt3) A22.out).mono ?_); rintro e w26 ⟨v604, rfl, ho0, hb⟩; have n0_ := Aside0.mk (Kd.R_lower ho0 (below_size zt3)); have n1_ := Aside0.mk (below_step zt3 hb); clear HB; have HO605 := n0_; have HB := n1_; clear n0_ n1_; (try clear hb); (try clear hb2); (try clear hk); (try clear hi); (try clear ho0)) | (go_at_call 11; (with_reducible refine (spec_ReadFiles.calls kj6 t601 t606 t607 _ A23.out).mono ?_); rintro e w27 ⟨v608, rfl, ho0, hb⟩; have n0_ := Aside0.mk (Kd.R_elder' (rz HO605.out) (Kd.R_base ho0) hb); have n1_ := Aside0.mk (Kd.R_lower (Kd.R_new' ho0 (Kd.R_lt (rz HO605.out))) (below_size zt3)); have n2_ := Aside0.mk (below_step zt3 hb); clear HO605; clear HB; have HO605 := n0_; have HO609 := n1_; have HB := n2_; clear n0_ n1_ n2_; (try clear hb); (try clear hb2); (try clear hk); (try clear hi); (try clear ho0))))
     (try simp only [Act.put, List.setIfInBounds_toArray, List.set_cons_zero, List.set_cons_succ])
     go_cut [70] (fun v70 wc => ∃ (kq : Nat) (x70_23 : Bool), v70 = .bool x70_23 ∧ Aside0 (laws_FnFiles.j1 kq l0 x70_23 = some r) ∧ Aside0 (kq ≤ kj6) ∧ Aside0 (Below w.heap.size w wc))
     case first =>
      have H := HC24.out
      clear HC24
      by_cases c28 : (t603 != t607) = true
      rw [if_pos c28] at H
      have c28b0 : (t603 != t607) = true := c28
      (try (have c28b1 : decide (t603 = t607) = false := by simpa using c28))
      (try (have c28b2 : (t603 == t607) = false := by simpa using c28))
      (try (have c28b3 : ¬ (t603 = t607) := by simpa using c28))
      clear c28
      (first | rw [c28b0] | (simp only [i64_w, i32_w]; rw [c28b0]) | skip)
      have H' := Aside0.mk H
      clear H
      rotate_left
      rw [if_neg c28] at H
      have c28b0 : (t603 != t607) = false := by simpa using c28
      (try (have c28b1 : decide (t603 = t607) = true := by simpa using c28))
      (try (have c28b2 : (t603 == t607) = true := by simpa using c28))
      clear c28
      (first | rw [c28b0] | (simp only [i64_w, i32_w]; rw [c28b0]) | skip)
      by_cases c29 : t603 = true
      subst c29
      rw [if_pos rfl] at H
      replace H := bnd H
      obtain ⟨t610, A30, H⟩ := H
      try dsimp only at H
      have H' := Aside0.mk H
      clear H
      obtain ⟨Ao31, co31, eo31⟩ := Kd.R_slice HO605.out
      subst eo31
      rotate_left
      replace c29 := Bool.eq_false_iff.mpr c29
      subst c29
      rw [if_neg (show ¬ (false = true) by decide)] at H
      have H' := Aside0.mk H
      clear H
      rotate_left
      all_goals
       as_aux_lemma =>
        repeat (go_wp2_with (first | (go_at_call 7; (with_reducible refine (impl_ShowFiles.calls kj6 _ _ t602 t610 _ ?side1 ?side2 (TabsL.below HTA.out zt3) A30.out).mono ?_); (case side1 => exact cz (Kd.R_reads' HO605.out).2.2); (case side2 => exact (Kd.R_reads' HO605.out).2.1); rintro e w7000 ⟨rfl, hb⟩; have n0_ := Aside0.mk (Kd.R_below (rz HO605.out) hb); have n1_ := Aside0.mk (Kd.R_below (rz HO609.out) hb); have n2_ := Aside0.mk (below_step zt3 hb); clear HO605; clear HO609; clear HB; have HO605 := n0_; have HO609 := n1_; have HB := n2_; clear n0_ n1_ n2_; (try clear hb); (try clear hb2); (try clear hk); (try clear hi))); first | go_quiet (fail) | (go_meet; (case rel => exact ⟨_, (true), zt12, H', ⟨zt39⟩, ⟨zt3⟩⟩)) | (go_meet; (case rel => exact ⟨_, ((t610.toList != t601.toList)), zt12, H', ⟨zt39⟩, ⟨zt3⟩⟩)) | (go_meet; (case rel => exact ⟨_, (false), zt12, H', ⟨zt39⟩, ⟨zt3⟩⟩)))
     case rest =>
      clear HC24
      try clear c1
      try clear c2
      try clear p2
      try clear c3
      try clear c13
      try clear c13b0
      try clear c13b1
      try clear c13b2
      try clear c15
      try clear c20
      try clear c28
      try clear c28b0
      try clear c28b1
      try clear c28b2
      try clear c29
      try clear p2
      obtain ⟨kq, x70_23, rfl, HA, HJ23, HB⟩ := hcut
      cases kq with
      | zero => exact absurd HA.out (by simp [laws_FnFiles.j1])
      | succ kj23 =>
       have H := HA.out
       clear HA
       simp only [laws_FnFiles.j1] at H
       by_cases c33 : x70_23 = true
       subst c33
       rw [if_pos rfl] at H
       obtain rfl := Option.some.inj H
       rotate_left
       replace c33 := Bool.eq_false_iff.mpr c33
       subst c33
       rw [if_neg (show ¬ (false = true) by decide)] at H
       replace H := bnd H
       obtain ⟨⟨t611, t614, t615⟩, A34, H⟩ := H
       try dsimp only at H
       replace H := bnd H
       obtain ⟨⟨t617, t620⟩, A35, H⟩ := H
       try dsimp only at H
       replace H := bnd H
       obtain ⟨t621, A36, H⟩ := H
       try dsimp only at H
       by_cases c37 : t621 = true
       subst c37
       rw [if_pos rfl] at H
       by_cases c38 : t620 = true
       subst c38
       rw [if_pos rfl] at H
       replace H := bnd H
       obtain ⟨⟨t623, t624⟩, A39, H⟩ := H
       try dsimp only at H
       replace H := bnd H
       obtain ⟨⟨t625, t626⟩, A40, H⟩ := H
       try dsimp only at H
       replace H := bnd H
       obtain ⟨⟨t627, t628⟩, A41, H⟩ := H
       try dsimp only at H
       replace H := bnd H
       obtain ⟨t631, A42, H⟩ := H
       try dsimp only at H
       replace H := bnd H
       obtain ⟨⟨t634, t635⟩, A43, H⟩ := H
       try dsimp only at H
       by_cases c44 : t624 = true
       subst c44
       rw [if_pos rfl] at H
       by_cases c45 : t623.toList = t615.toList
       rw [if_pos c45] at H
       have c45b0 := beq_iff_eq.mpr c45
       have c45b1 := bne_eq_false_iff_eq.mpr c45
       clear c45
       by_cases c46 : t628 = true
       subst c46
       rw [if_pos rfl] at H
       by_cases c47 : (t627.length : Int) = (wrap64 ((t617.length : Int) - 1))
       rw [if_pos c47] at H
       have c47b0 := beq_iff_eq.mpr c47
       have c47b1 := bne_eq_false_iff_eq.mpr c47
       clear c47
       by_cases c48 : t626 = true
       subst c48
       rw [if_pos rfl] at H
       by_cases c49 : t634.toList = t615.toList
       rw [if_pos c49] at H
       have c49b0 := beq_iff_eq.mpr c49
       have c49b1 := bne_eq_false_iff_eq.mpr c49
       clear c49
       by_cases c50 : (t631.length : Int) = 0
       rw [if_pos c50] at H
       have c50b0 := beq_iff_eq.mpr c50
       have c50b1 := bne_eq_false_iff_eq.mpr c50
       clear c50
       obtain rfl := Option.some.inj H
       rotate_left
       rw [if_neg c50] at H
       have c50b0 := beq_eq_false_iff_ne.mpr c50
       have c50b1 := bne_iff_ne.mpr c50
       have c50b2 : ¬ (t631 = []) := fun h_ => c50 (by rw [h_]; rfl)
       obtain rfl := Option.some.inj H
       rotate_left
       rw [if_neg c49] at H
       have c49b0 := beq_eq_false_iff_ne.mpr c49
       have c49b1 := bne_iff_ne.mpr c49
       by_cases c93 : (t631.length : Int) = 1
       rw [if_pos c93] at H
       have c93b0 := beq_iff_eq.mpr c93
       have c93b1 := bne_eq_false_iff_eq.mpr c93
       clear c93
       replace H := it0 H
       obtain ⟨c94, H⟩ := H
       have c94b0 := decide_eq_true c94
       have c94b1 : decide (0 < t631.length) = true := decide_eq_true (by omega)
       clear c94
       by_cases c95 : (rdOf ByteArray.empty t631 0).toList = t614.toList
       rw [if_pos c95] at H
       have c95b0 := beq_iff_eq.mpr c95
       have c95b1 := bne_eq_false_iff_eq.mpr c95
       clear c95
       obtain rfl := Option.some.inj H
       rotate_left
       rw [if_neg c95] at H
       have c95b0 := beq_eq_false_iff_ne.mpr c95
       have c95b1 := bne_iff_ne.mpr c95
       obtain rfl := Option.some.inj H
       rotate_left
       rw [if_neg c93] at H
       have c93b0 := beq_eq_false_iff_ne.mpr c93
       have c93b1 := bne_iff_ne.mpr c93
       obtain rfl := Option.some.inj H
       rotate_left
       replace c48 := Bool.eq_false_iff.mpr c48
       subst c48
       rw [if_neg (show ¬ (false = true) by decide)] at H
       by_cases c159 : (t631.length : Int) = 1
       rw [if_pos c159] at H
       have c159b0 := beq_iff_eq.mpr c159
       have c159b1 := bne_eq_false_iff_eq.mpr c159
       clear c159
       replace H := it0 H
       obtain ⟨c160, H⟩ := H
       have c160b0 := decide_eq_true c160
       have c160b1 : decide (0 < t631.length) = true := decide_eq_true (by omega)
       clear c160
       by_cases c161 : (rdOf ByteArray.empty t631 0).toList = t614.toList
       rw [if_pos c161] at H
       have c161b0 := beq_iff_eq.mpr c161
       have c161b1 := bne_eq_false_iff_eq.mpr c161
       clear c161
       replace H := bnd H
       obtain ⟨t638, A162, H⟩ := H
       try dsimp only at H
       obtain rfl := Option.some.inj H
       rotate_left
       rw [if_neg c161] at H
       have c161b0 := beq_eq_false_iff_ne.mpr c161
       have c161b1 := bne_iff_ne.mpr c161
       obtain rfl := Option.some.inj H
       rotate_left
       rw [if_neg c159] at H
       have c159b0 := beq_eq_false_iff_ne.mpr c159
       have c159b1 := bne_iff_ne.mpr c159
       obtain rfl := Option.some.inj H
       rotate_left
       rw [if_neg c47] at H
       have c47b0 := beq_eq_false_iff_ne.mpr c47
       have c47b1 := bne_iff_ne.mpr c47
       obtain rfl := Option.some.inj H
       rotate_left
       replace c46 := Bool.eq_false_iff.mpr c46
       subst c46
       rw [if_neg (show ¬ (false = true) by decide)] at H
       obtain rfl := Option.some.inj H
       rotate_left
       rw [if_neg c45] at H
       have c45b0 := beq_eq_false_iff_ne.mpr c45
       have c45b1 := bne_iff_ne.mpr c45
       obtain rfl := Option.some.inj H
       rotate_left
       replace c44 := Bool.eq_false_iff.mpr c44
       subst c44
       rw [if_neg (show ¬ (false = true) by decide)] at H
       obtain rfl := Option.some.inj H
       rotate_left
       replace c38 := Bool.eq_false_iff.mpr c38
       subst c38
       rw [if_neg (show ¬ (false = true) by decide)] at H
       replace H := bnd H
       obtain ⟨t622, A302, H⟩ := H
       try dsimp only at H
       obtain rfl := Option.some.inj H
       rotate_left
       replace c37 := Bool.eq_false_iff.mpr c37
       subst c37
       rw [if_neg (show ¬ (false = true) by decide)] at H
       by_cases c312 : (t617.length : Int) = 0
       rw [if_pos c312] at H
       have c312b0 := beq_iff_eq.mpr c312
       have c312b1 := bne_eq_false_iff_eq.mpr c312
       clear c312
       obtain rfl := Option.some.inj H
       rotate_left
       rw [if_neg c312] at H
       have c312b0 := beq_eq_false_iff_ne.mpr c312
       have c312b1 := bne_iff_ne.mpr c312
       have c312b2 : ¬ (t617 = []) := fun h_ => c312 (by rw [h_]; rfl)
       obtain rfl := Option.some.inj H
       rotate_left
       all_goals
        as_aux_lemma =>
         repeat (go_wp2_with (first | (go_at_call 15; (with_reducible refine (spec_Find.calls kj23 _ _ t611 t614 t634 t635 _ ?side1 ?side2 A43.out).mono ?_); (case side1 => exact cz (Kd.R_reads' HO7002.out).2.2); (case side2 => exact (Kd.R_reads' HO7002.out).2.1); rintro e w7026 ⟨rfl, hb⟩; have n0_ := Aside0.mk (Kd.R_below (rz HO7002.out) hb); have n1_ := Aside0.mk (Kd.R_below (rz HO7011.out) hb); have n2_ := Aside0.mk (Kd.R_below (rz HO7021.out) hb); have n3_ := Aside0.mk (Kd.R_below (rz HO7024.out) hb); have n4_ := Aside0.mk (blk_below (g := gb7003) (o := .cells #[.string t614, .string t615] 33 (0, 0)) (oz BK7003.out) hb); have n5_ := Aside0.mk (below_step zt11 hb); clear HO7002; clear HO7011; clear HO7021; clear HO7024; clear BK7003; clear HB; have HO7002 := n0_; have HO7011 := n1_; have HO7021 := n2_; have HO7024 := n3_; have BK7003 := n4_; have HB := n5_; clear n0_ n1_ n2_ n3_ n4_ n5_; (try clear hb); (try clear hb2); (try clear hk); (try clear hi); have hcz7027_0 : w7026.cell? ⟨gb7003, 0, none⟩ = some (.string t614) := (blk_cell BK7003.out 0).trans rfl; have hcz7027_1 : w7026.cell? ⟨gb7003, 1, none⟩ = some (.string t615) := (blk_cell BK7003.out 1).trans rfl; have hfz7027_0 := blk_frozen BK7003.out 0; have hfz7027_1 := blk_frozen BK7003.out 1; obtain ⟨Ao7028, co7028, eo7028⟩ := Kd.R_slice HO7021.out; subst eo7028; obtain ⟨Ao7029, co7029, eo7029⟩ := Kd.R_slice HO7024.out; subst eo7029; have p7030 : 0 ≤ (0 : Int) := (by omega); have q7030 : 0 < (t631.length : Int) := of_decide_eq_true zt8; obtain ⟨ad7030, e7030, hx7030_0⟩ := Kd.at_string (Kd.R_reads' HO7024.out).2.2 0 p7030 q7030; cases e7030; have qi7030 : (0 < t631.length) = True := eq_true (by omega); (try rw [show ((0 : Int)).toNat = 0 from rfl] at hx7030_0); (try rw [Addr.add_zero'] at hx7030_0); replace p7030 := eq_true p7030; replace q7030 := eq_true q7030) | (go_at_call 17; (with_reducible refine (impl_Changed.calls kj23 _ _ t611 _ _ t617 t631 _ ?side1 ?side2 ?side3 ?side4 (TabsL.below HTA.out zt11) A42.out).mono ?_); (case side1 => exact cz (Kd.R_reads' HO7002.out).2.2); (case side2 => exact (Kd.R_reads' HO7002.out).2.1); (case side3 => exact cz (Kd.R_reads' HO7011.out).2.2); (case side4 => exact (Kd.R_reads' HO7011.out).2.1); rintro e w7022 ⟨v7023, rfl, ho0, hb⟩; have n0_ := Aside0.mk (Kd.R_below (rz HO7002.out) hb); have n1_ := Aside0.mk (Kd.R_below (rz HO7011.out) hb); have n2_ := Aside0.mk (Kd.R_below (rz HO7021.out) hb); have n3_ := Aside0.mk (Kd.R_lower ho0 (below_size zt11)); have n4_ := Aside0.mk (blk_below (g := gb7003) (o := .cells #[.string t614, .string t615] 33 (0, 0)) (oz BK7003.out) hb); have n5_ := Aside0.mk (below_step zt11 hb); clear HO7002; clear HO7011; clear HO7021; clear BK7003; clear HB; have HO7002 := n0_; have HO7011 := n1_; have HO7021 := n2_; have HO7024 := n3_; have BK7003 := n4_; have HB := n5_; clear n0_ n1_ n2_ n3_ n4_ n5_; (try clear hb); (try clear hb2); (try clear hk); (try clear hi); (try clear ho0); have hcz7025_0 : w7022.cell? ⟨gb7003, 0, none⟩ = some (.string t614) := (blk_cell BK7003.out 0).trans rfl; have hcz7025_1 : w7022.cell? ⟨gb7003, 1, none⟩ = some (.string t615) := (blk_cell BK7003.out 1).trans rfl; have hfz7025_0 := blk_frozen BK7003.out 0; have hfz7025_1 := blk_frozen BK7003.out 1) | ((with_reducible refine gate_store (t := 33) (p := 12) rfl ?_); (try (rw [drewN_self w7004]; generalize hq_ : World.drewN w7004 _ = w7004; have n0_ := Aside0.mk (Kd.R_at hq_ HO7002.out); have n1_ := Aside0.mk (blk_at hq_ BK7003.out); have n2_ := Aside0.mk (below_at hq_ HB.out); clear hq_ HO7002 BK7003 HB; have HO7002 := n0_; have BK7003 := n1_; have HB := n2_; clear n0_ n1_ n2_)); refine store_event (t := 33) (p := 12) (v := ?vo_w7006) (w1 := ((w7004.setCell ⟨gb7003, 0, none⟩ (.string t614)).setCell ⟨gb7003, 1, none⟩ (.string t615))) ?hg ?ho ?hn ?hr ?_; (case ho => rfl); (case hg => rfl); (case hn => rfl); (case hr => first | (go_simp; done) | (go_simp; rfl)); intro w7006 hw; have n0_ : Aside0 (Kd.R k33 33 w7006 w.heap.size (fun k_ => k_ ≠ gb7003) v7001 t611) := ⟨(by rw [hw]; exact (by (with_reducible repeat (first | apply Kd.R_alloc | apply Kd.R_drewN | apply Kd.R_drew)); exact Kd.R_mono (Kd.R_far (p := ⟨gb7003, 1, none⟩) (Kd.R_far (p := ⟨gb7003, 0, none⟩) (Kd.R_mono HO7002.out (fun k_ hk => (⟨hk, hk.2⟩ : _ ∧ k_ ≠ gb7003))) (fun _ hk => hk.2) (.string t614)) (fun _ hk => hk.2) (.string t615)) (fun _ hk => hk.1.2)))⟩; have n1_ : Aside0 (w7006.heap[gb7003]? = some (.cells #[.string t614, .string t615] 33 (0, 0))) := ⟨(by rw [hw]; exact (by (with_reducible repeat (first | refine blk_drewN ?_ _ | refine blk_drew ?_ | refine blk_alloc ?_ _)); refine blk_put (cs := #[.string t614, .string (⟨#[]⟩ : ByteArray)]) ?_ 1 _ rfl; (with_reducible repeat (first | refine blk_drewN ?_ _ | refine blk_drew ?_ | refine blk_alloc ?_ _)); refine blk_put (cs := #[.string (⟨#[]⟩ : ByteArray), .string (⟨#[]⟩ : ByteArray)]) ?_ 0 _ rfl; (with_reducible repeat (first | refine blk_drewN ?_ _ | refine blk_drew ?_ | refine blk_alloc ?_ _)); exact BK7003.out))⟩; have n2_ : Aside0 (Below w.heap.size w w7006) := ⟨(by rw [hw]; exact zt11)⟩; clear hw; clear HO7002; clear BK7003; clear HB; have HO7002 := n0_; have BK7003 := n1_; have HB := n2_; clear n0_ n1_ n2_; have hcz7007_0 : w7006.cell? ⟨gb7003, 0, none⟩ = some (.string t614) := (blk_cell BK7003.out 0).trans rfl; have hcz7007_1 : w7006.cell? ⟨gb7003, 1, none⟩ = some (.string t615) := (blk_cell BK7003.out 1).trans rfl; have hfz7007_0 := blk_frozen BK7003.out 0; have hfz7007_1 := blk_frozen BK7003.out 1; obtain ⟨Ao7008, co7008, eo7008⟩ := Kd.R_slice HO7002.out; subst eo7008) | (go_at_call 16; (with_reducible refine (impl_DropFile.calls kj23 _ _ t617 t614 t627 false _ ?side1 ?side2 (TabsL.below HTA.out zt11) A41.out).mono ?_); (case side1 => exact cz (Kd.R_reads' HO7011.out).2.2); (case side2 => exact (Kd.R_reads' HO7011.out).2.1); rintro e w7019 ⟨v7020, rfl, ho0, hb⟩; have n0_ := Aside0.mk (Kd.R_elder' (rz HO7002.out) (Kd.R_base ho0) hb); have n1_ := Aside0.mk (Kd.R_elder' (rz HO7011.out) (Kd.R_base ho0) hb); have n2_ := Aside0.mk (Kd.R_lower (Kd.R_newB (Kd.R_new' (Kd.R_new' ho0 (Kd.R_lt (rz HO7002.out))) (Kd.R_lt (rz HO7011.out))) (g := gb7003) (o := .cells #[.string t614, .string t615] 33 (0, 0)) (oz BK7003.out)) (below_size zt11)); have n3_ := Aside0.mk (blk_below (g := gb7003) (o := .cells #[.string t614, .string t615] 33 (0, 0)) (oz BK7003.out) hb); have n4_ := Aside0.mk (below_step zt11 hb); clear HO7002; clear HO7011; clear BK7003; clear HB; have HO7002 := n0_; have HO7011 := n1_; have HO7021 := n2_; have BK7003 := n3_; have HB := n4_; clear n0_ n1_ n2_ n3_ n4_; (try clear hb); (try clear hb2); (try clear hk); (try clear hi); (try clear ho0)) | (go_at_call 16; (with_reducible refine (impl_DropFile.calls kj23 _ _ t617 t614 t627 true _ ?side1 ?side2 (TabsL.below HTA.out zt11) A41.out).mono ?_); (case side1 => exact cz (Kd.R_reads' HO7011.out).2.2); (case side2 => exact (Kd.R_reads' HO7011.out).2.1); rintro e w7019 ⟨v7020, rfl, ho0, hb⟩; have n0_ := Aside0.mk (Kd.R_elder' (rz HO7002.out) (Kd.R_base ho0) hb); have n1_ := Aside0.mk (Kd.R_elder' (rz HO7011.out) (Kd.R_base ho0) hb); have n2_ := Aside0.mk (Kd.R_lower (Kd.R_newB (Kd.R_new' (Kd.R_new' ho0 (Kd.R_lt (rz HO7002.out))) (Kd.R_lt (rz HO7011.out))) (g := gb7003) (o := .cells #[.string t614, .string t615] 33 (0, 0)) (oz BK7003.out)) (below_size zt11)); have n3_ := Aside0.mk (blk_below (g := gb7003) (o := .cells #[.string t614, .string t615] 33 (0, 0)) (oz BK7003.out) hb); have n4_ := Aside0.mk (below_step zt11 hb); clear HO7002; clear HO7011; clear BK7003; clear HB; have HO7002 := n0_; have HO7011 := n1_; have HO7021 := n2_; have BK7003 := n3_; have HB := n4_; clear n0_ n1_ n2_ n3_ n4_; (try clear hb); (try clear hb2); (try clear hk); (try clear hi); (try clear ho0)) | (go_at_call 16; (with_reducible refine (impl_DropFile.calls kj23 _ _ t617 t614 t627 t628 _ ?side1 ?side2 (TabsL.below HTA.out zt11) A41.out).mono ?_); (case side1 => exact cz (Kd.R_reads' HO7011.out).2.2); (case side2 => exact (Kd.R_reads' HO7011.out).2.1); rintro e w7019 ⟨v7020, rfl, ho0, hb⟩; have n0_ := Aside0.mk (Kd.R_elder' (rz HO7002.out) (Kd.R_base ho0) hb); have n1_ := Aside0.mk (Kd.R_elder' (rz HO7011.out) (Kd.R_base ho0) hb); have n2_ := Aside0.mk (Kd.R_lower (Kd.R_newB (Kd.R_new' (Kd.R_new' ho0 (Kd.R_lt (rz HO7002.out))) (Kd.R_lt (rz HO7011.out))) (g := gb7003) (o := .cells #[.string t614, .string t615] 33 (0, 0)) (oz BK7003.out)) (below_size zt11)); have n3_ := Aside0.mk (blk_below (g := gb7003) (o := .cells #[.string t614, .string t615] 33 (0, 0)) (oz BK7003.out) hb); have n4_ := Aside0.mk (below_step zt11 hb); clear HO7002; clear HO7011; clear BK7003; clear HB; have HO7002 := n0_; have HO7011 := n1_; have HO7021 := n2_; have BK7003 := n3_; have HB := n4_; clear n0_ n1_ n2_ n3_ n4_; (try clear hb); (try clear hb2); (try clear hk); (try clear hi); (try clear ho0)) | (go_at_call 15; (with_reducible refine (spec_Find.calls kj23 _ _ t611 t614 t634 t635 _ ?side1 ?side2 A43.out).mono ?_); (case side1 => exact cz (Kd.R_reads' HO7002.out).2.2); (case side2 => exact (Kd.R_reads' HO7002.out).2.1); rintro e w7026 ⟨rfl, hb⟩; have n0_ := Aside0.mk (Kd.R_below (rz HO7002.out) hb); have n1_ := Aside0.mk (Kd.R_below (rz HO7011.out) hb); have n2_ := Aside0.mk (Kd.R_below (rz HO7021.out) hb); have n3_ := Aside0.mk (Kd.R_below (rz HO7024.out) hb); have n4_ := Aside0.mk (blk_below (g := gb7003) (o := .cells #[.string t614, .string t615] 33 (0, 0)) (oz BK7003.out) hb); have n5_ := Aside0.mk (below_step zt11 hb); clear HO7002; clear HO7011; clear HO7021; clear HO7024; clear BK7003; clear HB; have HO7002 := n0_; have HO7011 := n1_; have HO7021 := n2_; have HO7024 := n3_; have BK7003 := n4_; have HB := n5_; clear n0_ n1_ n2_ n3_ n4_ n5_; (try clear hb); (try clear hb2); (try clear hk); (try clear hi); have hcz7027_0 : w7026.cell? ⟨gb7003, 0, none⟩ = some (.string t614) := (blk_cell BK7003.out 0).trans rfl; have hcz7027_1 : w7026.cell? ⟨gb7003, 1, none⟩ = some (.string t615) := (blk_cell BK7003.out 1).trans rfl; have hfz7027_0 := blk_frozen BK7003.out 0; have hfz7027_1 := blk_frozen BK7003.out 1; obtain ⟨Ao7028, co7028, eo7028⟩ := Kd.R_slice HO7021.out; subst eo7028; obtain ⟨Ao7029, co7029, eo7029⟩ := Kd.R_slice HO7024.out; subst eo7029) | (go_at_call 15; (with_reducible refine (spec_Find.calls kj23 _ _ t611 t614 t634 t635 _ ?side1 ?side2 A43.out).mono ?_); (case side1 => exact cz (Kd.R_reads' HO7002.out).2.2); (case side2 => exact (Kd.R_reads' HO7002.out).2.1); rintro e w7026 ⟨rfl, hb⟩; have n0_ := Aside0.mk (Kd.R_below (rz HO7002.out) hb); have n1_ := Aside0.mk (Kd.R_below (rz HO7011.out) hb); have n2_ := Aside0.mk (Kd.R_below (rz HO7021.out) hb); have n3_ := Aside0.mk (Kd.R_below (rz HO7024.out) hb); have n4_ := Aside0.mk (blk_below (g := gb7003) (o := .cells #[.string t614, .string t615] 33 (0, 0)) (oz BK7003.out) hb); have n5_ := Aside0.mk (below_step zt11 hb); clear HO7002; clear HO7011; clear HO7021; clear HO7024; clear BK7003; clear HB; have HO7002 := n0_; have HO7011 := n1_; have HO7021 := n2_; have HO7024 := n3_; have BK7003 := n4_; have HB := n5_; clear n0_ n1_ n2_ n3_ n4_ n5_; (try clear hb); (try clear hb2); (try clear hk); (try clear hi); have hcz7027_0 : w7026.cell? ⟨gb7003, 0, none⟩ = some (.string t614) := (blk_cell BK7003.out 0).trans rfl; have hcz7027_1 : w7026.cell? ⟨gb7003, 1, none⟩ = some (.string t615) := (blk_cell BK7003.out 1).trans rfl; have hfz7027_0 := blk_frozen BK7003.out 0; have hfz7027_1 := blk_frozen BK7003.out 1; obtain ⟨Ao7028, co7028, eo7028⟩ := Kd.R_slice HO7021.out; subst eo7028) | (go_at_call 15; (with_reducible refine (spec_Find.calls kj23 _ _ t611 t614 t634 t635 _ ?side1 ?side2 A43.out).mono ?_); (case side1 => exact cz (Kd.R_reads' HO7002.out).2.2); (case side2 => exact (Kd.R_reads' HO7002.out).2.1); rintro e w7026 ⟨rfl, hb⟩; have n0_ := Aside0.mk (Kd.R_below (rz HO7002.out) hb); have n1_ := Aside0.mk (Kd.R_below (rz HO7011.out) hb); have n2_ := Aside0.mk (Kd.R_below (rz HO7021.out) hb); have n3_ := Aside0.mk (Kd.R_below (rz HO7024.out) hb); have n4_ := Aside0.mk (blk_below (g := gb7003) (o := .cells #[.string t614, .string t615] 33 (0, 0)) (oz BK7003.out) hb); have n5_ := Aside0.mk (below_step zt11 hb); clear HO7002; clear HO7011; clear HO7021; clear HO7024; clear BK7003; clear HB; have HO7002 := n0_; have HO7011 := n1_; have HO7021 := n2_; have HO7024 := n3_; have BK7003 := n4_; have HB := n5_; clear n0_ n1_ n2_ n3_ n4_ n5_; (try clear hb); (try clear hb2); (try clear hk); (try clear hi); have hcz7027_0 : w7026.cell? ⟨gb7003, 0, none⟩ = some (.string t614) := (blk_cell BK7003.out 0).trans rfl; have hcz7027_1 : w7026.cell? ⟨gb7003, 1, none⟩ = some (.string t615) := (blk_cell BK7003.out 1).trans rfl; have hfz7027_0 := blk_frozen BK7003.out 0; have hfz7027_1 := blk_frozen BK7003.out 1) | (go_at_call 13; (with_reducible refine (impl_PutFile.calls kj23 (fun k_ => some k_ = (.slice Ao7008 t611.length co7008 : Value).ownBlock) _ _ t611 t614 t615 t617 false _ ?side1 (TabsL.below HTA.out zt11) A35.out).mono ?_); (case side1 => exact Kd.R_V (Kd.R_tight rfl (HO7002.out))); rintro e w7009 ⟨v7010, rfl, ho0, hb⟩; have n0_ := Aside0.mk (Kd.R_elder' (rz HO7002.out) (Kd.R_base ho0) hb); have n1_ := Aside0.mk (Kd.R_lower (Kd.R_newB (Kd.R_new' (Kd.R_mono (ok' := fun k_ => True) ho0 (fun _ hk_ => trivial)) (Kd.R_lt (rz HO7002.out))) (g := gb7003) (o := .cells #[.string t614, .string t615] 33 (0, 0)) (oz BK7003.out)) (below_size zt11)); have n2_ := Aside0.mk (blk_below (g := gb7003) (o := .cells #[.string t614, .string t615] 33 (0, 0)) (oz BK7003.out) hb); have n3_ := Aside0.mk (below_step zt11 hb); clear HO7002; clear BK7003; clear HB; have HO7002 := n0_; have HO7011 := n1_; have BK7003 := n2_; have HB := n3_; clear n0_ n1_ n2_ n3_; (try clear hb); (try clear hb2); (try clear hk); (try clear hi); (try clear ho0)) | (go_at_call 13; (with_reducible refine (impl_PutFile.calls kj23 (fun k_ => some k_ = (.slice Ao7008 t611.length co7008 : Value).ownBlock) _ _ t611 t614 t615 t617 true _ ?side1 (TabsL.below HTA.out zt11) A35.out).mono ?_); (case side1 => exact Kd.R_V (Kd.R_tight rfl (HO7002.out))); rintro e w7009 ⟨v7010, rfl, ho0, hb⟩; have n0_ := Aside0.mk (Kd.R_elder' (rz HO7002.out) (Kd.R_base ho0) hb); have n1_ := Aside0.mk (Kd.R_lower (Kd.R_newB (Kd.R_new' (Kd.R_mono (ok' := fun k_ => True) ho0 (fun _ hk_ => trivial)) (Kd.R_lt (rz HO7002.out))) (g := gb7003) (o := .cells #[.string t614, .string t615] 33 (0, 0)) (oz BK7003.out)) (below_size zt11)); have n2_ := Aside0.mk (blk_below (g := gb7003) (o := .cells #[.string t614, .string t615] 33 (0, 0)) (oz BK7003.out) hb); have n3_ := Aside0.mk (below_step zt11 hb); clear HO7002; clear BK7003; clear HB; have HO7002 := n0_; have HO7011 := n1_; have BK7003 := n2_; have HB := n3_; clear n0_ n1_ n2_ n3_; (try clear hb); (try clear hb2); (try clear hk); (try clear hi); (try clear ho0)) | (go_at_call 13; (with_reducible refine (impl_PutFile.calls kj23 (fun k_ => some k_ = (.slice Ao7008 t611.length co7008 : Value).ownBlock) _ _ t611 t614 t615 t617 t620 _ ?side1 (TabsL.below HTA.out zt11) A35.out).mono ?_); (case side1 => exact Kd.R_V (Kd.R_tight rfl (HO7002.out))); rintro e w7009 ⟨v7010, rfl, ho0, hb⟩; have n0_ := Aside0.mk (Kd.R_elder' (rz HO7002.out) (Kd.R_base ho0) hb); have n1_ := Aside0.mk (Kd.R_lower (Kd.R_newB (Kd.R_new' (Kd.R_mono (ok' := fun k_ => True) ho0 (fun _ hk_ => trivial)) (Kd.R_lt (rz HO7002.out))) (g := gb7003) (o := .cells #[.string t614, .string t615] 33 (0, 0)) (oz BK7003.out)) (below_size zt11)); have n2_ := Aside0.mk (blk_below (g := gb7003) (o := .cells #[.string t614, .string t615] 33 (0, 0)) (oz BK7003.out) hb); have n3_ := Aside0.mk (below_step zt11 hb); clear HO7002; clear BK7003; clear HB; have HO7002 := n0_; have HO7011 := n1_; have BK7003 := n2_; have HB := n3_; clear n0_ n1_ n2_ n3_; (try clear hb); (try clear hb2); (try clear hk); (try clear hi); (try clear ho0)) | (go_at_call 14; (with_reducible refine (impl_Find.calls kj23 _ _ t617 t614 t623 false _ ?side1 ?side2 (TabsL.below HTA.out zt11) A39.out).mono ?_); (case side1 => exact cz (Kd.R_reads' HO7011.out).2.2); (case side2 => exact (Kd.R_reads' HO7011.out).2.1); rintro e w7015 ⟨rfl, hb⟩; have n0_ := Aside0.mk (Kd.R_below (rz HO7002.out) hb); have n1_ := Aside0.mk (Kd.R_below (rz HO7011.out) hb); have n2_ := Aside0.mk (blk_below (g := gb7003) (o := .cells #[.string t614, .string t615] 33 (0, 0)) (oz BK7003.out) hb); have n3_ := Aside0.mk (below_step zt11 hb); clear HO7002; clear HO7011; clear BK7003; clear HB; have HO7002 := n0_; have HO7011 := n1_; have BK7003 := n2_; have HB := n3_; clear n0_ n1_ n2_ n3_; (try clear hb); (try clear hb2); (try clear hk); (try clear hi); have hcz7016_0 : w7015.cell? ⟨gb7003, 0, none⟩ = some (.string t614) := (blk_cell BK7003.out 0).trans rfl; have hcz7016_1 : w7015.cell? ⟨gb7003, 1, none⟩ = some (.string t615) := (blk_cell BK7003.out 1).trans rfl; have hfz7016_0 := blk_frozen BK7003.out 0; have hfz7016_1 := blk_frozen BK7003.out 1) | (go_at_call 14; (with_reducible refine (impl_Find.calls kj23 _ _ t617 t614 t623 true _ ?side1 ?side2 (TabsL.below HTA.out zt11) A39.out).mono ?_); (case side1 => exact cz (Kd.R_reads' HO7011.out).2.2); (case side2 => exact (Kd.R_reads' HO7011.out).2.1); rintro e w7015 ⟨rfl, hb⟩; have n0_ := Aside0.mk (Kd.R_below (rz HO7002.out) hb); have n1_ := Aside0.mk (Kd.R_below (rz HO7011.out) hb); have n2_ := Aside0.mk (blk_below (g := gb7003) (o := .cells #[.string t614, .string t615] 33 (0, 0)) (oz BK7003.out) hb); have n3_ := Aside0.mk (below_step zt11 hb); clear HO7002; clear HO7011; clear BK7003; clear HB; have HO7002 := n0_; have HO7011 := n1_; have BK7003 := n2_; have HB := n3_; clear n0_ n1_ n2_ n3_; (try clear hb); (try clear hb2); (try clear hk); (try clear hi); have hcz7016_0 : w7015.cell? ⟨gb7003, 0, none⟩ = some (.string t614) := (blk_cell BK7003.out 0).trans rfl; have hcz7016_1 : w7015.cell? ⟨gb7003, 1, none⟩ = some (.string t615) := (blk_cell BK7003.out 1).trans rfl; have hfz7016_0 := blk_frozen BK7003.out 0; have hfz7016_1 := blk_frozen BK7003.out 1) | (go_at_call 15; (with_reducible refine (spec_Find.calls kj23 _ _ t611 t614 t634 t635 _ ?side1 ?side2 A43.out).mono ?_); (case side1 => exact cz (Kd.R_reads' HO7002.out).2.2); (case side2 => exact (Kd.R_reads' HO7002.out).2.1); rintro e w7026 ⟨rfl, hb⟩; have n0_ := Aside0.mk (Kd.R_below (rz HO7002.out) hb); have n1_ := Aside0.mk (Kd.R_below (rz HO7011.out) hb); have n2_ := Aside0.mk (Kd.R_below (rz HO7021.out) hb); have n3_ := Aside0.mk (Kd.R_below (rz HO7024.out) hb); have n4_ := Aside0.mk (blk_below (g := gb7003) (o := .cells #[.string t614, .string t615] 33 (0, 0)) (oz BK7003.out) hb); have n5_ := Aside0.mk (below_step zt11 hb); clear HO7002; clear HO7011; clear HO7021; clear HO7024; clear BK7003; clear HB; have HO7002 := n0_; have HO7011 := n1_; have HO7021 := n2_; have HO7024 := n3_; have BK7003 := n4_; have HB := n5_; clear n0_ n1_ n2_ n3_ n4_ n5_; (try clear hb); (try clear hb2); (try clear hk); (try clear hi)) | (go_at_call 8; (with_reducible refine (spec_FilesOk.calls kj23 _ _ t611 true _ ?side1 ?side2 A36.out).mono ?_); (case side1 => exact cz (Kd.R_reads' HO7002.out).2.2); (case side2 => exact (Kd.R_reads' HO7002.out).2.1); rintro e w7012 ⟨rfl, hb⟩; have n0_ := Aside0.mk (Kd.R_below (rz HO7002.out) hb); have n1_ := Aside0.mk (Kd.R_below (rz HO7011.out) hb); have n2_ := Aside0.mk (blk_below (g := gb7003) (o := .cells #[.string t614, .string t615] 33 (0, 0)) (oz BK7003.out) hb); have n3_ := Aside0.mk (below_step zt11 hb); clear HO7002; clear HO7011; clear BK7003; clear HB; have HO7002 := n0_; have HO7011 := n1_; have BK7003 := n2_; have HB := n3_; clear n0_ n1_ n2_ n3_; (try clear hb); (try clear hb2); (try clear hk); (try clear hi); have hcz7013_0 : w7012.cell? ⟨gb7003, 0, none⟩ = some (.string t614) := (blk_cell BK7003.out 0).trans rfl; have hcz7013_1 : w7012.cell? ⟨gb7003, 1, none⟩ = some (.string t615) := (blk_cell BK7003.out 1).trans rfl; have hfz7013_0 := blk_frozen BK7003.out 0; have hfz7013_1 := blk_frozen BK7003.out 1; obtain ⟨Ao7014, co7014, eo7014⟩ := Kd.R_slice HO7011.out; subst eo7014) | ((with_reducible refine gate_dst (N := 12) rfl ?_); (try (refine gate_guard (by rfl) ?_; dsimp only)); refine box_event ?hg (N := 12) ?hd (cs := #[.string (⟨#[]⟩ : ByteArray), .string (⟨#[]⟩ : ByteArray)]) (t := 33) ?hr ?_; (case hd => rfl); (case hg => rfl); (case hr => first | (go_simp; done) | (go_simp; rfl)); intro gb7003 hg w7004 hbox hb; have n0_ := Aside0.mk (Kd.R_below (Kd.R_elderB (rz HO7002.out) gb7003 (Nat.le_of_eq hg.symm)) hb); have n1_ := Aside0.mk (below_step zt3 hb); have n2_ := Aside0.mk (hbox); have n3_ := Aside0.mk ((zt13 : w.heap.size ≤ gb7003)); have n4_ := Aside0.mk ((zt13 : w.heap.size ≤ gb7003)); clear HO7002; clear HB; have HO7002 := n0_; have HB := n1_; have BK7003 := n2_; have GW7003 := n3_; have GE7003 := n4_; clear n0_ n1_ n2_ n3_ n4_; clear hb hbox hg; have hcz7005_0 : w7004.cell? ⟨gb7003, 0, none⟩ = some (.string (⟨#[]⟩ : ByteArray)) := (blk_cell BK7003.out 0).trans rfl; have hcz7005_1 : w7004.cell? ⟨gb7003, 1, none⟩ = some (.string (⟨#[]⟩ : ByteArray)) := (blk_cell BK7003.out 1).trans rfl; have hfz7005_0 := blk_frozen BK7003.out 0; have hfz7005_1 := blk_frozen BK7003.out 1) | (go_at_call 15; (with_reducible refine (spec_Find.calls kj23 _ _ t611 t614 t625 false _ ?side1 ?side2 A40.out).mono ?_); (case side1 => exact cz (Kd.R_reads' HO7002.out).2.2); (case side2 => exact (Kd.R_reads' HO7002.out).2.1); rintro e w7017 ⟨rfl, hb⟩; have n0_ := Aside0.mk (Kd.R_below (rz HO7002.out) hb); have n1_ := Aside0.mk (Kd.R_below (rz HO7011.out) hb); have n2_ := Aside0.mk (blk_below (g := gb7003) (o := .cells #[.string t614, .string t615] 33 (0, 0)) (oz BK7003.out) hb); have n3_ := Aside0.mk (below_step zt11 hb); clear HO7002; clear HO7011; clear BK7003; clear HB; have HO7002 := n0_; have HO7011 := n1_; have BK7003 := n2_; have HB := n3_; clear n0_ n1_ n2_ n3_; (try clear hb); (try clear hb2); (try clear hk); (try clear hi); have hcz7018_0 : w7017.cell? ⟨gb7003, 0, none⟩ = some (.string t614) := (blk_cell BK7003.out 0).trans rfl; have hcz7018_1 : w7017.cell? ⟨gb7003, 1, none⟩ = some (.string t615) := (blk_cell BK7003.out 1).trans rfl; have hfz7018_0 := blk_frozen BK7003.out 0; have hfz7018_1 := blk_frozen BK7003.out 1) | (go_at_call 15; (with_reducible refine (spec_Find.calls kj23 _ _ t611 t614 t625 true _ ?side1 ?side2 A40.out).mono ?_); (case side1 => exact cz (Kd.R_reads' HO7002.out).2.2); (case side2 => exact (Kd.R_reads' HO7002.out).2.1); rintro e w7017 ⟨rfl, hb⟩; have n0_ := Aside0.mk (Kd.R_below (rz HO7002.out) hb); have n1_ := Aside0.mk (Kd.R_below (rz HO7011.out) hb); have n2_ := Aside0.mk (blk_below (g := gb7003) (o := .cells #[.string t614, .string t615] 33 (0, 0)) (oz BK7003.out) hb); have n3_ := Aside0.mk (below_step zt11 hb); clear HO7002; clear HO7011; clear BK7003; clear HB; have HO7002 := n0_; have HO7011 := n1_; have BK7003 := n2_; have HB := n3_; clear n0_ n1_ n2_ n3_; (try clear hb); (try clear hb2); (try clear hk); (try clear hi); have hcz7018_0 : w7017.cell? ⟨gb7003, 0, none⟩ = some (.string t614) := (blk_cell BK7003.out 0).trans rfl; have hcz7018_1 : w7017.cell? ⟨gb7003, 1, none⟩ = some (.string t615) := (blk_cell BK7003.out 1).trans rfl; have hfz7018_0 := blk_frozen BK7003.out 0; have hfz7018_1 := blk_frozen BK7003.out 1) | (go_at_call 15; (with_reducible refine (spec_Find.calls kj23 _ _ t611 t614 t625 t626 _ ?side1 ?side2 A40.out).mono ?_); (case side1 => exact cz (Kd.R_reads' HO7002.out).2.2); (case side2 => exact (Kd.R_reads' HO7002.out).2.1); rintro e w7017 ⟨rfl, hb⟩; have n0_ := Aside0.mk (Kd.R_below (rz HO7002.out) hb); have n1_ := Aside0.mk (Kd.R_below (rz HO7011.out) hb); have n2_ := Aside0.mk (blk_below (g := gb7003) (o := .cells #[.string t614, .string t615] 33 (0, 0)) (oz BK7003.out) hb); have n3_ := Aside0.mk (below_step zt11 hb); clear HO7002; clear HO7011; clear BK7003; clear HB; have HO7002 := n0_; have HO7011 := n1_; have BK7003 := n2_; have HB := n3_; clear n0_ n1_ n2_ n3_; (try clear hb); (try clear hb2); (try clear hk); (try clear hi); have hcz7018_0 : w7017.cell? ⟨gb7003, 0, none⟩ = some (.string t614) := (blk_cell BK7003.out 0).trans rfl; have hcz7018_1 : w7017.cell? ⟨gb7003, 1, none⟩ = some (.string t615) := (blk_cell BK7003.out 1).trans rfl; have hfz7018_0 := blk_frozen BK7003.out 0; have hfz7018_1 := blk_frozen BK7003.out 1) | (go_at_call 8; (with_reducible refine (spec_FilesOk.calls kj23 _ _ t611 false _ ?side1 ?side2 A36.out).mono ?_); (case side1 => exact cz (Kd.R_reads' HO7002.out).2.2); (case side2 => exact (Kd.R_reads' HO7002.out).2.1); rintro e w7012 ⟨rfl, hb⟩; have n0_ := Aside0.mk (Kd.R_below (rz HO7002.out) hb); have n1_ := Aside0.mk (Kd.R_below (rz HO7011.out) hb); have n2_ := Aside0.mk (blk_below (g := gb7003) (o := .cells #[.string t614, .string t615] 33 (0, 0)) (oz BK7003.out) hb); have n3_ := Aside0.mk (below_step zt11 hb); clear HO7002; clear HO7011; clear BK7003; clear HB; have HO7002 := n0_; have HO7011 := n1_; have BK7003 := n2_; have HB := n3_; clear n0_ n1_ n2_ n3_; (try clear hb); (try clear hb2); (try clear hk); (try clear hi); obtain ⟨Ao7013, co7013, eo7013⟩ := Kd.R_slice HO7011.out; subst eo7013) | (go_at_call 8; (with_reducible refine (spec_FilesOk.calls kj23 _ _ t611 true _ ?side1 ?side2 A36.out).mono ?_); (case side1 => exact cz (Kd.R_reads' HO7002.out).2.2); (case side2 => exact (Kd.R_reads' HO7002.out).2.1); rintro e w7012 ⟨rfl, hb⟩; have n0_ := Aside0.mk (Kd.R_below (rz HO7002.out) hb); have n1_ := Aside0.mk (Kd.R_below (rz HO7011.out) hb); have n2_ := Aside0.mk (blk_below (g := gb7003) (o := .cells #[.string t614, .string t615] 33 (0, 0)) (oz BK7003.out) hb); have n3_ := Aside0.mk (below_step zt11 hb); clear HO7002; clear HO7011; clear BK7003; clear HB; have HO7002 := n0_; have HO7011 := n1_; have BK7003 := n2_; have HB := n3_; clear n0_ n1_ n2_ n3_; (try clear hb); (try clear hb2); (try clear hk); (try clear hi); obtain ⟨Ao7013, co7013, eo7013⟩ := Kd.R_slice HO7011.out; subst eo7013) | (go_at_call 12; (with_reducible refine (spec_DrawPutFile.calls kj23 _ _ l0 t611 t614 t615 _ ?side1 ?side2 A34.out).mono ?_); (case side1 => exact cz (Kd.C_below HR0.out HB.out)); (case side2 => exact HC0.out); rintro e w7000 ⟨v7001, rfl, ho0, hb⟩; have n0_ := Aside0.mk (Kd.R_lower ho0 (below_size zt3)); have n1_ := Aside0.mk (below_step zt3 hb); clear HB; have HO7002 := n0_; have HB := n1_; clear n0_ n1_; (try clear hb); (try clear hb2); (try clear hk); (try clear hi); (try clear ho0)) | (go_at_call 9; (with_reducible refine (laws_sameFiles.calls kj23 _ _ t627 _ _ t611 t638 _ ?side1 ?side2 ?side3 ?side4 A162.out).mono ?_); (case side1 => exact cz (Kd.R_reads' HO7021.out).2.2); (case side2 => exact (Kd.R_reads' HO7021.out).2.1); (case side3 => exact cz (Kd.R_reads' HO7002.out).2.2); (case side4 => exact (Kd.R_reads' HO7002.out).2.1); rintro e w' ⟨rfl, ⟨nd, rfl⟩⟩; (try first | exact ⟨rfl, _, World.drewN_drewN _ _ _⟩ | exact ⟨rfl, _, Eq.trans (World.drewN_drewN _ _ _) (congrArg (World.drewN _) (Nat.add_assoc _ _ _))⟩)) | (go_at_call 9; (with_reducible refine (laws_sameFiles.calls kj23 _ _ t611 _ _ t617 t622 _ ?side1 ?side2 ?side3 ?side4 A302.out).mono ?_); (case side1 => exact cz (Kd.R_reads' HO7002.out).2.2); (case side2 => exact (Kd.R_reads' HO7002.out).2.1); (case side3 => exact cz (Kd.R_reads' HO7011.out).2.2); (case side4 => exact (Kd.R_reads' HO7011.out).2.1); rintro e w' ⟨rfl, ⟨nd, rfl⟩⟩; (try first | exact ⟨rfl, _, World.drewN_drewN _ _ _⟩ | exact ⟨rfl, _, Eq.trans (World.drewN_drewN _ _ _) (congrArg (World.drewN _) (Nat.add_assoc _ _ _))⟩))); first | go_quiet (fail) | (go_ret; exact ⟨zt10, zt3⟩) | (go_ret; exact ⟨zt10, zt11⟩))

end Go.Proofs.YtkmcnjpgamaljaaGreatDoor.PFnFiles

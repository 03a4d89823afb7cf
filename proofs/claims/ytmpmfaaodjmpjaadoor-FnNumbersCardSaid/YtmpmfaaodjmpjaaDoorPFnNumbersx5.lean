-- Out of the kit's print, with contracts of mine among it (myprint.py).
import Derived.Test.YtmpmfaaodjmpjaaDoorPFnNumbersx0
import Derived.Test.YtmpmfaaodjmpjaaDoorPFnNumbersx1
import Derived.Test.YtmpmfaaodjmpjaaDoorPFnNumbersx2
import Derived.Test.YtmpmfaaodjmpjaaDoorPFnNumbersx3
import Derived.Test.YtmpmfaaodjmpjaaDoorPFnNumbersx4
namespace Go.Proofs.YtmpmfaaodjmpjaaDoor.PFnNumbers
open Go.RowKit Go.Proofs.YtmpmfaaodjmpjaaDoorW.PrintWords Go.Proofs.YtmpmfaaodjmpjaaDoorW.PrintLast Go.Proofs.YtmpmfaaodjmpjaaDoorW.PrintMore
attribute [local go_sem] max2_int min2_int max_two min_two max_three min_three max_four min_four   -- for this text's walks alone
set_option linter.unusedVariables false
set_option linter.unusedSimpArgs false

/-! ### laws_FnNumbers: function 9 -/
mutual
def laws_FnNumbers.j0 : Nat → List Int → Int → ByteArray → Bool → Option (Bool)
  | 0, _, _, _, _ => none
  | k + 1, x0, x3, x4, x55 => if x55 = true then (some false) else ((impl_Fixed.f k x3 7).bind fun t274 => (if t274.size + x4.size ≤ 9223372036854775807 then ((impl_ReadFixed.f k (t274 ++ x4) 7).bind fun bt275 => (if t274.toList = ([] : List UInt8) then (if x3 < 0 then (laws_FnNumbers.j1 k x0 x3 x4 ((t274.toList == ([] : List UInt8)) != true)) else (laws_FnNumbers.j1 k x0 x3 x4 ((t274.toList == ([] : List UInt8)) != (decide (x3 ≥ 72057594037927936))))) else (if bt275.2 = true then (if bt275.1 = x3 then (if (t274.size : Int) = 7 then (if x3 < 0 then (laws_FnNumbers.j1 k x0 x3 x4 ((t274.toList == ([] : List UInt8)) != true)) else (laws_FnNumbers.j1 k x0 x3 x4 ((t274.toList == ([] : List UInt8)) != (decide (x3 ≥ 72057594037927936))))) else (laws_FnNumbers.j1 k x0 x3 x4 true)) else (laws_FnNumbers.j1 k x0 x3 x4 true)) else (laws_FnNumbers.j1 k x0 x3 x4 true)))) else (none)))
def laws_FnNumbers.j1 : Nat → List Int → Int → ByteArray → Bool → Option (Bool)
  | 0, _, _, _, _ => none
  | k + 1, x0, x3, x4, x91 => if x91 = true then (some false) else ((impl_Dec.f x3).bind fun t277 => ((impl_ReadDec.f t277).bind fun bt278 => (if x3 > (-1000000000) then (if (bt278.2 != (decide (x3 < 1000000000))) = true then (laws_FnNumbers.j2 k x0 x4 true) else (if bt278.2 = true then (laws_FnNumbers.j2 k x0 x4 (bt278.1 != x3)) else (laws_FnNumbers.j2 k x0 x4 false))) else (if (bt278.2 != false) = true then (laws_FnNumbers.j2 k x0 x4 true) else (if bt278.2 = true then (laws_FnNumbers.j2 k x0 x4 (bt278.1 != x3)) else (laws_FnNumbers.j2 k x0 x4 false))))))
def laws_FnNumbers.j2 : Nat → List Int → ByteArray → Bool → Option (Bool)
  | 0, _, _, _ => none
  | k + 1, x0, x4, x113 => if x113 = true then (some false) else ((impl_Hex.f k x4).bind fun t280 => ((impl_Unhex.f k t280).bind fun bt281 => ((spec_DrawReadVar.f k x0).bind fun t283 => ((impl_ReadVar.f k t283).bind fun bt284 => (if bt281.2 = true then (if bt281.1.toList = x4.toList then (if bt284.2 = 0 then (some true) else ((impl_Var.f k bt284.1).bind fun t286 => ((spec_DrawReadVar.f k x0).bind fun t287 => (if 0 ≤ bt284.2 then (if bt284.2 ≤ (t287.size : Int) then (some (t286.toList == (t287.extract 0 (bt284.2 : Int).toNat).toList)) else (none)) else (none))))) else (some false)) else (some false))))))
end
def laws_FnNumbers.f (k : Nat) (l0 : List Int) : Option (Bool) := (laws_big.f l0).bind fun t268 => (if t268 = true then (some true) else ((spec_DrawVar.f k l0).bind fun t269 => ((spec_DrawHex.f k l0).bind fun t270 => ((impl_Var.f k t269).bind fun t271 => (if t271.size + t270.size ≤ 9223372036854775807 then ((impl_ReadVar.f k (t271 ++ t270)).bind fun bt272 => (if t269 ≥ 0 then (if ((t271.toList != ([] : List UInt8)) != (decide (t269 ≤ 562949953421311))) = true then (laws_FnNumbers.j0 k l0 t269 t270 true) else (if t271.toList = ([] : List UInt8) then (laws_FnNumbers.j0 k l0 t269 t270 false) else (if bt272.1 = t269 then (laws_FnNumbers.j0 k l0 t269 t270 (bt272.2 != (t271.size : Int))) else (laws_FnNumbers.j0 k l0 t269 t270 true)))) else (if ((t271.toList != ([] : List UInt8)) != false) = true then (laws_FnNumbers.j0 k l0 t269 t270 true) else (if t271.toList = ([] : List UInt8) then (laws_FnNumbers.j0 k l0 t269 t270 false) else (if bt272.1 = t269 then (laws_FnNumbers.j0 k l0 t269 t270 (bt272.2 != (t271.size : Int))) else (laws_FnNumbers.j0 k l0 t269 t270 true)))))) else (none))))))
theorem laws_FnNumbers.mono_l : ∀ k, (∀ y0 y1 y2 y3, LeO (laws_FnNumbers.j0 k y0 y1 y2 y3) (laws_FnNumbers.j0 (k + 1) y0 y1 y2 y3)) ∧ (∀ y0 y1 y2 y3, LeO (laws_FnNumbers.j1 k y0 y1 y2 y3) (laws_FnNumbers.j1 (k + 1) y0 y1 y2 y3)) ∧ (∀ y0 y1 y2, LeO (laws_FnNumbers.j2 k y0 y1 y2) (laws_FnNumbers.j2 (k + 1) y0 y1 y2))
  | 0 => ⟨fun _ _ _ _ r h => by simp [laws_FnNumbers.j0] at h, fun _ _ _ _ r h => by simp [laws_FnNumbers.j1] at h, fun _ _ _ r h => by simp [laws_FnNumbers.j2] at h⟩
  | k + 1 => by
    obtain ⟨ih0, ih1, ih2⟩ := laws_FnNumbers.mono_l k
    refine ⟨?_, ?_, ?_⟩
    · intro y0 y1 y2 y3
      unfold laws_FnNumbers.j0
      repeat' first
      | (with_reducible exact ih0 _ _ _ _)
      | (with_reducible exact ih1 _ _ _ _)
      | (with_reducible exact ih2 _ _ _)
      | (with_reducible exact impl_Fixed.mono _ _ _)
      | (with_reducible exact impl_Hex.mono _ _)
      | (with_reducible exact impl_ReadFixed.mono _ _ _)
      | (with_reducible exact impl_ReadVar.mono _ _)
      | (with_reducible exact impl_Unhex.mono _ _)
      | (with_reducible exact impl_Var.mono _ _)
      | (with_reducible exact spec_DrawHex.mono _ _)
      | (with_reducible exact spec_DrawReadVar.mono _ _)
      | (with_reducible exact spec_DrawVar.mono _ _)
      | (with_reducible exact LeO.refl _)
      | (with_reducible exact LeO.none _)
      | (with_reducible refine LeO.ite ?_ ?_)
      | (with_reducible refine LeO.bind ?_ (fun _ => ?_))
      | exact ih0 _ _ _ _
      | exact ih1 _ _ _ _
      | exact ih2 _ _ _
      | exact impl_Fixed.mono _ _ _
      | exact impl_Hex.mono _ _
      | exact impl_ReadFixed.mono _ _ _
      | exact impl_ReadVar.mono _ _
      | exact impl_Unhex.mono _ _
      | exact impl_Var.mono _ _
      | exact spec_DrawHex.mono _ _
      | exact spec_DrawReadVar.mono _ _
      | exact spec_DrawVar.mono _ _
      | exact LeO.none _
      | refine LeO.ite ?_ ?_
      | refine LeO.bind ?_ (fun _ => ?_)
    · intro y0 y1 y2 y3
      unfold laws_FnNumbers.j1
      repeat' first
      | (with_reducible exact ih0 _ _ _ _)
      | (with_reducible exact ih1 _ _ _ _)
      | (with_reducible exact ih2 _ _ _)
      | (with_reducible exact impl_Fixed.mono _ _ _)
      | (with_reducible exact impl_Hex.mono _ _)
      | (with_reducible exact impl_ReadFixed.mono _ _ _)
      | (with_reducible exact impl_ReadVar.mono _ _)
      | (with_reducible exact impl_Unhex.mono _ _)
      | (with_reducible exact impl_Var.mono _ _)
      | (with_reducible exact spec_DrawHex.mono _ _)
      | (with_reducible exact spec_DrawReadVar.mono _ _)
      | (with_reducible exact spec_DrawVar.mono _ _)
      | (with_reducible exact LeO.refl _)
      | (with_reducible exact LeO.none _)
      | (with_reducible refine LeO.ite ?_ ?_)
      | (with_reducible refine LeO.bind ?_ (fun _ => ?_))
      | exact ih0 _ _ _ _
      | exact ih1 _ _ _ _
      | exact ih2 _ _ _
      | exact impl_Fixed.mono _ _ _
      | exact impl_Hex.mono _ _
      | exact impl_ReadFixed.mono _ _ _
      | exact impl_ReadVar.mono _ _
      | exact impl_Unhex.mono _ _
      | exact impl_Var.mono _ _
      | exact spec_DrawHex.mono _ _
      | exact spec_DrawReadVar.mono _ _
      | exact spec_DrawVar.mono _ _
      | exact LeO.none _
      | refine LeO.ite ?_ ?_
      | refine LeO.bind ?_ (fun _ => ?_)
    · intro y0 y1 y2
      unfold laws_FnNumbers.j2
      repeat' first
      | (with_reducible exact ih0 _ _ _ _)
      | (with_reducible exact ih1 _ _ _ _)
      | (with_reducible exact ih2 _ _ _)
      | (with_reducible exact impl_Fixed.mono _ _ _)
      | (with_reducible exact impl_Hex.mono _ _)
      | (with_reducible exact impl_ReadFixed.mono _ _ _)
      | (with_reducible exact impl_ReadVar.mono _ _)
      | (with_reducible exact impl_Unhex.mono _ _)
      | (with_reducible exact impl_Var.mono _ _)
      | (with_reducible exact spec_DrawHex.mono _ _)
      | (with_reducible exact spec_DrawReadVar.mono _ _)
      | (with_reducible exact spec_DrawVar.mono _ _)
      | (with_reducible exact LeO.refl _)
      | (with_reducible exact LeO.none _)
      | (with_reducible refine LeO.ite ?_ ?_)
      | (with_reducible refine LeO.bind ?_ (fun _ => ?_))
      | exact ih0 _ _ _ _
      | exact ih1 _ _ _ _
      | exact ih2 _ _ _
      | exact impl_Fixed.mono _ _ _
      | exact impl_Hex.mono _ _
      | exact impl_ReadFixed.mono _ _ _
      | exact impl_ReadVar.mono _ _
      | exact impl_Unhex.mono _ _
      | exact impl_Var.mono _ _
      | exact spec_DrawHex.mono _ _
      | exact spec_DrawReadVar.mono _ _
      | exact spec_DrawVar.mono _ _
      | exact LeO.none _
      | refine LeO.ite ?_ ?_
      | refine LeO.bind ?_ (fun _ => ?_)
theorem laws_FnNumbers.mono : ∀ a0 k, LeO (laws_FnNumbers.f k a0) (laws_FnNumbers.f (k + 1) a0) := by
  intro a0 k
  obtain ⟨ih0, ih1, ih2⟩ := laws_FnNumbers.mono_l k
  unfold laws_FnNumbers.f
  repeat' first
      | (with_reducible exact ih0 _ _ _ _)
      | (with_reducible exact ih1 _ _ _ _)
      | (with_reducible exact ih2 _ _ _)
      | (with_reducible exact impl_Fixed.mono _ _ _)
      | (with_reducible exact impl_Hex.mono _ _)
      | (with_reducible exact impl_ReadFixed.mono _ _ _)
      | (with_reducible exact impl_ReadVar.mono _ _)
      | (with_reducible exact impl_Unhex.mono _ _)
      | (with_reducible exact impl_Var.mono _ _)
      | (with_reducible exact spec_DrawHex.mono _ _)
      | (with_reducible exact spec_DrawReadVar.mono _ _)
      | (with_reducible exact spec_DrawVar.mono _ _)
      | (with_reducible exact LeO.refl _)
      | (with_reducible exact LeO.none _)
      | (with_reducible refine LeO.ite ?_ ?_)
      | (with_reducible refine LeO.bind ?_ (fun _ => ?_))
      | exact ih0 _ _ _ _
      | exact ih1 _ _ _ _
      | exact ih2 _ _ _
      | exact impl_Fixed.mono _ _ _
      | exact impl_Hex.mono _ _
      | exact impl_ReadFixed.mono _ _ _
      | exact impl_ReadVar.mono _ _
      | exact impl_Unhex.mono _ _
      | exact impl_Var.mono _ _
      | exact spec_DrawHex.mono _ _
      | exact spec_DrawReadVar.mono _ _
      | exact spec_DrawVar.mono _ _
      | exact LeO.none _
      | refine LeO.ite ?_ ?_
      | refine LeO.bind ?_ (fun _ => ?_)
set_option maxHeartbeats 8000000 in
set_option maxRecDepth 100000 in
theorem laws_FnNumbers.calls (k : Nat) (A0 : Option Addr) (c0 : Nat) (l0 : List Int) (r : Bool) (w : World) (hr0 : Kd.C (Kd.int .u8) w A0 l0.length l0) (hc0 : l0.length ≤ c0) (HT : TabsE w) (h : laws_FnNumbers.f k l0 = some r) :
    Calls Tryd.prog 9 #[.slice A0 l0.length c0] w fun e w' => e = .returned (.bool r) ∧ Below w.heap.size w w' := by
  have HTA := Aside0.mk HT
  clear HT
  have HR0 := Aside0.mk hr0
  have HC0 := Aside0.mk hc0
  clear hr0 hc0
  have HB := Aside0.mk (Below.refl w.heap.size w)
  have H : ((laws_big.f l0).bind fun t268 => (if t268 = true then (some true) else ((spec_DrawVar.f k l0).bind fun t269 => ((spec_DrawHex.f k l0).bind fun t270 => ((impl_Var.f k t269).bind fun t271 => (if t271.size + t270.size ≤ 9223372036854775807 then ((impl_ReadVar.f k (t271 ++ t270)).bind fun bt272 => (if t269 ≥ 0 then (if ((t271.toList != ([] : List UInt8)) != (decide (t269 ≤ 562949953421311))) = true then (laws_FnNumbers.j0 k l0 t269 t270 true) else (if t271.toList = ([] : List UInt8) then (laws_FnNumbers.j0 k l0 t269 t270 false) else (if bt272.1 = t269 then (laws_FnNumbers.j0 k l0 t269 t270 (bt272.2 != (t271.size : Int))) else (laws_FnNumbers.j0 k l0 t269 t270 true)))) else (if ((t271.toList != ([] : List UInt8)) != false) = true then (laws_FnNumbers.j0 k l0 t269 t270 true) else (if t271.toList = ([] : List UInt8) then (laws_FnNumbers.j0 k l0 t269 t270 false) else (if bt272.1 = t269 then (laws_FnNumbers.j0 k l0 t269 t270 (bt272.2 != (t271.size : Int))) else (laws_FnNumbers.j0 k l0 t269 t270 true)))))) else (none))))))) = some r := h
  clear h
  replace H := Option.bind_eq_some_iff.mp H
  obtain ⟨t268, A20, H⟩ := H
  replace H : (if t268 = true then (some true) else ((spec_DrawVar.f k l0).bind fun t269 => ((spec_DrawHex.f k l0).bind fun t270 => ((impl_Var.f k t269).bind fun t271 => (if t271.size + t270.size ≤ 9223372036854775807 then ((impl_ReadVar.f k (t271 ++ t270)).bind fun bt272 => (if t269 ≥ 0 then (if ((t271.toList != ([] : List UInt8)) != (decide (t269 ≤ 562949953421311))) = true then (laws_FnNumbers.j0 k l0 t269 t270 true) else (if t271.toList = ([] : List UInt8) then (laws_FnNumbers.j0 k l0 t269 t270 false) else (if bt272.1 = t269 then (laws_FnNumbers.j0 k l0 t269 t270 (bt272.2 != (t271.size : Int))) else (laws_FnNumbers.j0 k l0 t269 t270 true)))) else (if ((t271.toList != ([] : List UInt8)) != false) = true then (laws_FnNumbers.j0 k l0 t269 t270 true) else (if t271.toList = ([] : List UInt8) then (laws_FnNumbers.j0 k l0 t269 t270 false) else (if bt272.1 = t269 then (laws_FnNumbers.j0 k l0 t269 t270 (bt272.2 != (t271.size : Int))) else (laws_FnNumbers.j0 k l0 t269 t270 true)))))) else (none)))))) = some r := H
  have A2 := Aside0.mk A20
  clear A20
  by_cases c3 : t268 = true
  · subst c3
    have H1 : (some true) = some r := by rw [if_pos rfl] at H; exact H
    clear H
    have H := H1
    clear H1
    obtain rfl := Option.some.inj H
    go_enter Tryd.func9, Tryd.ntmps9
    go_wp2_with (first | ((with_reducible refine gate_callee (f := 28) rfl ?_); refine goesL_ (some 18) rfl rfl Tryd.func28 (by kernel_rfl) rfl #[.slice A0 l0.length c0] rfl (by (try simp only [List.map_toArray, List.map_cons, List.map_nil]); first | done | rfl | (simp only [List.length_drop, List.length_take]; rfl)) ?_; (with_reducible refine (laws_big.calls _ _ l0 true _ ?side1 ?side2 A2.out).mono ?_); (case side1 => repeat (first | exact HR0.out | (with_reducible refine Kd.C_alloc ?_ _) | (with_reducible refine Kd.C_drewN ?_ _) | (with_reducible refine Kd.C_drew ?_))); (case side2 => exact HC0.out); rintro e w' ⟨rfl, ⟨nd, rfl⟩⟩; refine ⟨_, rfl, ?_⟩))
    go_ret
    exact ⟨by first | rfl | (simp [errW_none, errW_some] <;> rfl) | (simp [*, errW_none, errW_some] <;> rfl), by repeat (first | (with_reducible first | exact HB.out | apply below_alloc | apply pw_below_drewN | apply below_drew1) | exact HB.out)⟩
  · replace c3 := Bool.eq_false_iff.mpr c3
    subst c3
    have H1 : ((spec_DrawVar.f k l0).bind fun t269 => ((spec_DrawHex.f k l0).bind fun t270 => ((impl_Var.f k t269).bind fun t271 => (if t271.size + t270.size ≤ 9223372036854775807 then ((impl_ReadVar.f k (t271 ++ t270)).bind fun bt272 => (if t269 ≥ 0 then (if ((t271.toList != ([] : List UInt8)) != (decide (t269 ≤ 562949953421311))) = true then (laws_FnNumbers.j0 k l0 t269 t270 true) else (if t271.toList = ([] : List UInt8) then (laws_FnNumbers.j0 k l0 t269 t270 false) else (if bt272.1 = t269 then (laws_FnNumbers.j0 k l0 t269 t270 (bt272.2 != (t271.size : Int))) else (laws_FnNumbers.j0 k l0 t269 t270 true)))) else (if ((t271.toList != ([] : List UInt8)) != false) = true then (laws_FnNumbers.j0 k l0 t269 t270 true) else (if t271.toList = ([] : List UInt8) then (laws_FnNumbers.j0 k l0 t269 t270 false) else (if bt272.1 = t269 then (laws_FnNumbers.j0 k l0 t269 t270 (bt272.2 != (t271.size : Int))) else (laws_FnNumbers.j0 k l0 t269 t270 true)))))) else (none))))) = some r := by rw [if_neg (show ¬ (false = true) by decide)] at H; exact H
    clear H
    have H := H1
    clear H1
    replace H := Option.bind_eq_some_iff.mp H
    obtain ⟨t269, A40, H⟩ := H
    replace H : ((spec_DrawHex.f k l0).bind fun t270 => ((impl_Var.f k t269).bind fun t271 => (if t271.size + t270.size ≤ 9223372036854775807 then ((impl_ReadVar.f k (t271 ++ t270)).bind fun bt272 => (if t269 ≥ 0 then (if ((t271.toList != ([] : List UInt8)) != (decide (t269 ≤ 562949953421311))) = true then (laws_FnNumbers.j0 k l0 t269 t270 true) else (if t271.toList = ([] : List UInt8) then (laws_FnNumbers.j0 k l0 t269 t270 false) else (if bt272.1 = t269 then (laws_FnNumbers.j0 k l0 t269 t270 (bt272.2 != (t271.size : Int))) else (laws_FnNumbers.j0 k l0 t269 t270 true)))) else (if ((t271.toList != ([] : List UInt8)) != false) = true then (laws_FnNumbers.j0 k l0 t269 t270 true) else (if t271.toList = ([] : List UInt8) then (laws_FnNumbers.j0 k l0 t269 t270 false) else (if bt272.1 = t269 then (laws_FnNumbers.j0 k l0 t269 t270 (bt272.2 != (t271.size : Int))) else (laws_FnNumbers.j0 k l0 t269 t270 true)))))) else (none)))) = some r := H
    have A4 := Aside0.mk A40
    clear A40
    replace H := Option.bind_eq_some_iff.mp H
    obtain ⟨t270, A50, H⟩ := H
    replace H : ((impl_Var.f k t269).bind fun t271 => (if t271.size + t270.size ≤ 9223372036854775807 then ((impl_ReadVar.f k (t271 ++ t270)).bind fun bt272 => (if t269 ≥ 0 then (if ((t271.toList != ([] : List UInt8)) != (decide (t269 ≤ 562949953421311))) = true then (laws_FnNumbers.j0 k l0 t269 t270 true) else (if t271.toList = ([] : List UInt8) then (laws_FnNumbers.j0 k l0 t269 t270 false) else (if bt272.1 = t269 then (laws_FnNumbers.j0 k l0 t269 t270 (bt272.2 != (t271.size : Int))) else (laws_FnNumbers.j0 k l0 t269 t270 true)))) else (if ((t271.toList != ([] : List UInt8)) != false) = true then (laws_FnNumbers.j0 k l0 t269 t270 true) else (if t271.toList = ([] : List UInt8) then (laws_FnNumbers.j0 k l0 t269 t270 false) else (if bt272.1 = t269 then (laws_FnNumbers.j0 k l0 t269 t270 (bt272.2 != (t271.size : Int))) else (laws_FnNumbers.j0 k l0 t269 t270 true)))))) else (none))) = some r := H
    have A5 := Aside0.mk A50
    clear A50
    replace H := Option.bind_eq_some_iff.mp H
    obtain ⟨t271, A60, H⟩ := H
    replace H : (if t271.size + t270.size ≤ 9223372036854775807 then ((impl_ReadVar.f k (t271 ++ t270)).bind fun bt272 => (if t269 ≥ 0 then (if ((t271.toList != ([] : List UInt8)) != (decide (t269 ≤ 562949953421311))) = true then (laws_FnNumbers.j0 k l0 t269 t270 true) else (if t271.toList = ([] : List UInt8) then (laws_FnNumbers.j0 k l0 t269 t270 false) else (if bt272.1 = t269 then (laws_FnNumbers.j0 k l0 t269 t270 (bt272.2 != (t271.size : Int))) else (laws_FnNumbers.j0 k l0 t269 t270 true)))) else (if ((t271.toList != ([] : List UInt8)) != false) = true then (laws_FnNumbers.j0 k l0 t269 t270 true) else (if t271.toList = ([] : List UInt8) then (laws_FnNumbers.j0 k l0 t269 t270 false) else (if bt272.1 = t269 then (laws_FnNumbers.j0 k l0 t269 t270 (bt272.2 != (t271.size : Int))) else (laws_FnNumbers.j0 k l0 t269 t270 true)))))) else (none)) = some r := H
    have A6 := Aside0.mk A60
    clear A60
    by_cases c7 : t271.size + t270.size ≤ 9223372036854775807
    · rw [if_pos c7] at H
      have c7b0 := eq_true c7
      have c7b1 : decide (t271.size + t270.size ≤ 9223372036854775807) = true := decide_eq_true c7
      try have c7b2 : (9223372036854775807 < t271.size + t270.size) = False := eq_false (Nat.not_lt.2 c7)
      replace H := Option.bind_eq_some_iff.mp H
      obtain ⟨⟨t272, t273⟩, A80, H⟩ := H
      replace H : (if t269 ≥ 0 then (if ((t271.toList != ([] : List UInt8)) != (decide (t269 ≤ 562949953421311))) = true then (laws_FnNumbers.j0 k l0 t269 t270 true) else (if t271.toList = ([] : List UInt8) then (laws_FnNumbers.j0 k l0 t269 t270 false) else (if t272 = t269 then (laws_FnNumbers.j0 k l0 t269 t270 (t273 != (t271.size : Int))) else (laws_FnNumbers.j0 k l0 t269 t270 true)))) else (if ((t271.toList != ([] : List UInt8)) != false) = true then (laws_FnNumbers.j0 k l0 t269 t270 true) else (if t271.toList = ([] : List UInt8) then (laws_FnNumbers.j0 k l0 t269 t270 false) else (if t272 = t269 then (laws_FnNumbers.j0 k l0 t269 t270 (t273 != (t271.size : Int))) else (laws_FnNumbers.j0 k l0 t269 t270 true))))) = some r := H
      have A8 := Aside0.mk A80
      clear A80
      have HC9 := Aside0.mk H
      clear H
      go_enter Tryd.func9, Tryd.ntmps9
      go_upto_region 7 with (first | ((with_reducible refine gate_callee (f := 28) rfl ?_); refine goesL_ (some 18) rfl rfl Tryd.func28 (by kernel_rfl) rfl #[.slice A0 l0.length c0] rfl (by (try simp only [List.map_toArray, List.map_cons, List.map_nil]); first | done | rfl | (simp only [List.length_drop, List.length_take]; rfl)) ?_; (with_reducible refine (laws_big.calls _ _ l0 false _ ?side1 ?side2 A2.out).mono ?_); (case side1 => repeat (first | exact HR0.out | (with_reducible refine Kd.C_alloc ?_ _) | (with_reducible refine Kd.C_drewN ?_ _) | (with_reducible refine Kd.C_drew ?_))); (case side2 => exact HC0.out); rintro e w' ⟨rfl, ⟨nd, rfl⟩⟩; refine ⟨_, rfl, ?_⟩) | ((with_reducible refine gate_callee (f := 39) rfl ?_); refine goesL_ (some 20) rfl rfl Tryd.func39 (by kernel_rfl) rfl #[.slice A0 l0.length c0] rfl (by (try simp only [List.map_toArray, List.map_cons, List.map_nil]); first | done | rfl | (simp only [List.length_drop, List.length_take]; rfl)) ?_; (with_reducible refine (spec_DrawVar.calls k _ _ l0 t269 _ ?side1 ?side2 A4.out).mono ?_); (case side1 => repeat (first | exact HR0.out | (with_reducible refine Kd.C_alloc ?_ _) | (with_reducible refine Kd.C_drewN ?_ _) | (with_reducible refine Kd.C_drew ?_))); (case side2 => exact HC0.out); rintro e w10 ⟨rfl, hb⟩; refine ⟨_, rfl, ?_⟩; have n0_ := Aside0.mk (below_step (by repeat (first | (with_reducible first | exact HB.out | apply below_alloc | apply pw_below_drewN | apply below_drew1) | exact HB.out)) hb); clear HB; have HB := n0_; clear n0_; (try clear hb); (try clear hb2); (try clear hk); (try clear hi)) | ((with_reducible refine gate_callee (f := 40) rfl ?_); refine goesL_ (some 22) rfl rfl Tryd.func40 (by kernel_rfl) rfl #[.slice A0 l0.length c0] rfl (by (try simp only [List.map_toArray, List.map_cons, List.map_nil]); first | done | rfl | (simp only [List.length_drop, List.length_take]; rfl)) ?_; (with_reducible refine (spec_DrawHex.calls k _ _ l0 t270 _ ?side1 ?side2 A5.out).mono ?_); (case side1 => repeat (first | exact (Kd.C_below HR0.out HB.out) | (with_reducible refine Kd.C_alloc ?_ _) | (with_reducible refine Kd.C_drewN ?_ _) | (with_reducible refine Kd.C_drew ?_))); (case side2 => exact HC0.out); rintro e w11 ⟨rfl, hb⟩; refine ⟨_, rfl, ?_⟩; have n0_ := Aside0.mk (below_step (by repeat (first | (with_reducible first | exact HB.out | apply below_alloc | apply pw_below_drewN | apply below_drew1) | exact HB.out)) hb); clear HB; have HB := n0_; clear n0_; (try clear hb); (try clear hb2); (try clear hk); (try clear hi)) | ((with_reducible refine gate_callee (f := 41) rfl ?_); refine goesL_ (some 24) rfl rfl Tryd.func41 (by kernel_rfl) rfl #[.int .i64 t269] rfl (by (try simp only [List.map_toArray, List.map_cons, List.map_nil]); first | done | rfl | (simp only [List.length_drop, List.length_take]; rfl)) ?_; (with_reducible refine (impl_Var.calls k t269 t271 _ A6.out).mono ?_); rintro e w12 ⟨rfl, hb⟩; refine ⟨_, rfl, ?_⟩; have n0_ := Aside0.mk (below_step (by repeat (first | (with_reducible first | exact HB.out | apply below_alloc | apply pw_below_drewN | apply below_drew1) | exact HB.out)) hb); clear HB; have HB := n0_; clear n0_; (try clear hb); (try clear hb2); (try clear hk); (try clear hi)) | ((with_reducible refine gate_callee (f := 42) rfl ?_); refine goesL_ (some 29) rfl rfl Tryd.func42 (by kernel_rfl) rfl #[.string (t271 ++ t270)] rfl (by (try simp only [List.map_toArray, List.map_cons, List.map_nil]); first | done | rfl | (simp only [List.length_drop, List.length_take]; rfl)) ?_; (with_reducible refine (impl_ReadVar.calls k (t271 ++ t270) t272 t273 _ A8.out).mono ?_); rintro e w' ⟨rfl, ⟨nd, rfl⟩⟩; refine ⟨_, rfl, ?_⟩))
      (try simp only [Act.put, List.setIfInBounds_toArray, List.set_cons_zero, List.set_cons_succ])
      go_cut [55] (fun v55 wc => ∃ (kq : Nat) (x55_8 : Bool), v55 = .bool x55_8 ∧ Aside0 (laws_FnNumbers.j0 kq l0 t269 t270 x55_8 = some r) ∧ Aside0 (kq ≤ k) ∧ Aside0 (Below w.heap.size w wc))
      case first =>
        have H := HC9.out
        clear HC9
        by_cases c13 : t269 ≥ 0
        · rw [if_pos c13] at H
          have c13b0 : decide (0 ≤ t269) = true := decide_eq_true c13
          clear c13
          (first | rw [c13b0] | (simp only [i64_w, i32_w]; rw [c13b0]) | skip)
          by_cases c14 : ((t271.toList != ([] : List UInt8)) != (decide (t269 ≤ 562949953421311))) = true
          · rw [if_pos c14] at H
            have c14b0 : ((t271.toList != ([] : List UInt8)) != (decide (t269 ≤ 562949953421311))) = true := c14
            have c14b5 : (t271.toList.isEmpty = !decide (t269 ≤ 562949953421311)) = False := by have h_ := c14b0; revert h_; cases t271.toList <;> cases decide (t269 ≤ 562949953421311) <;> simp
            (try (have c14b1 : decide ((t271.toList != ([] : List UInt8)) = (decide (t269 ≤ 562949953421311))) = false := by simpa using c14))
            (try (have c14b2 : ((t271.toList != ([] : List UInt8)) == (decide (t269 ≤ 562949953421311))) = false := by simpa using c14))
            (try (have c14b3 : ¬ ((t271.toList != ([] : List UInt8)) = (decide (t269 ≤ 562949953421311))) := by simpa using c14))
            clear c14
            have H' := Aside0.mk H
            clear H
            go_wp2
            go_meet
            case rel => exact ⟨_, (true), (by first | rfl | (simp; done) | (simp [*]; done)), H', ⟨by first | omega | exact Nat.le_refl _⟩, ⟨by repeat (first | (with_reducible first | exact HB.out | apply below_alloc | apply pw_below_drewN | apply below_drew1) | exact HB.out)⟩⟩
          · rw [if_neg c14] at H
            have c14b0 : ((t271.toList != ([] : List UInt8)) != (decide (t269 ≤ 562949953421311))) = false := by simpa using c14
            have c14b5 : (t271.toList.isEmpty = !decide (t269 ≤ 562949953421311)) = True := by have h_ := c14b0; revert h_; cases t271.toList <;> cases decide (t269 ≤ 562949953421311) <;> simp
            (try (have c14b1 : decide ((t271.toList != ([] : List UInt8)) = (decide (t269 ≤ 562949953421311))) = true := by simpa using c14))
            (try (have c14b2 : ((t271.toList != ([] : List UInt8)) == (decide (t269 ≤ 562949953421311))) = true := by simpa using c14))
            clear c14
            by_cases c15 : t271.toList = ([] : List UInt8)
            · rw [if_pos c15] at H
              have c15b0 : (t271.toList == ([] : List UInt8)) = true := beq_iff_eq.mpr c15
              have c15b1 : (t271.toList != ([] : List UInt8)) = false := bne_eq_false_iff_eq.mpr c15
              have c15b2 : t271.toList.isEmpty = true := by have h_ := c15b0; simpa using h_
              have c15b6 : ¬ (t269 ≤ 562949953421311) := by have h_ := c14b5; rw [c15b2] at h_; simpa using h_
              (first | rw [c15b2] | skip)
              clear c15
              have H' := Aside0.mk H
              clear H
              go_wp2
              go_meet
              case rel => exact ⟨_, (false), (by first | rfl | (simp; done) | (simp [*]; done)), H', ⟨by first | omega | exact Nat.le_refl _⟩, ⟨by repeat (first | (with_reducible first | exact HB.out | apply below_alloc | apply pw_below_drewN | apply below_drew1) | exact HB.out)⟩⟩
            · rw [if_neg c15] at H
              have c15b0 : (t271.toList == ([] : List UInt8)) = false := beq_eq_false_iff_ne.mpr c15
              have c15b1 : (t271.toList != ([] : List UInt8)) = true := bne_iff_ne.mpr c15
              have c15b2 : t271.toList.isEmpty = false := by have h_ := c15b0; simpa using h_
              have c15b6 : (t269 ≤ 562949953421311) := by have h_ := c14b5; rw [c15b2] at h_; simpa using h_
              (first | rw [c15b2] | skip)
              by_cases c16 : t272 = t269
              · rw [if_pos c16] at H
                have c16b0 : (t272 == t269) = true := beq_iff_eq.mpr c16
                have c16b1 : (t272 != t269) = false := bne_eq_false_iff_eq.mpr c16
                clear c16
                have H' := Aside0.mk H
                clear H
                go_wp2
                go_meet
                case rel => exact ⟨_, ((t273 != (t271.size : Int))), (by first | rfl | (simp; done) | (simp [*]; done)), H', ⟨by first | omega | exact Nat.le_refl _⟩, ⟨by repeat (first | (with_reducible first | exact HB.out | apply below_alloc | apply pw_below_drewN | apply below_drew1) | exact HB.out)⟩⟩
              · rw [if_neg c16] at H
                have c16b0 : (t272 == t269) = false := beq_eq_false_iff_ne.mpr c16
                have c16b1 : (t272 != t269) = true := bne_iff_ne.mpr c16
                have H' := Aside0.mk H
                clear H
                go_wp2
                go_meet
                case rel => exact ⟨_, (true), (by first | rfl | (simp; done) | (simp [*]; done)), H', ⟨by first | omega | exact Nat.le_refl _⟩, ⟨by repeat (first | (with_reducible first | exact HB.out | apply below_alloc | apply pw_below_drewN | apply below_drew1) | exact HB.out)⟩⟩
        · rw [if_neg c13] at H
          have c13b0 : decide (0 ≤ t269) = false := decide_eq_false c13
          clear c13
          (first | rw [c13b0] | (simp only [i64_w, i32_w]; rw [c13b0]) | skip)
          by_cases c17 : ((t271.toList != ([] : List UInt8)) != false) = true
          · rw [if_pos c17] at H
            have c17b0 : ((t271.toList != ([] : List UInt8)) != false) = true := c17
            have c17b5 : t271.toList.isEmpty = false := by have h_ := c17b0; simpa using h_
            (try (have c17b1 : decide ((t271.toList != ([] : List UInt8)) = false) = false := by simpa using c17))
            (try (have c17b2 : ((t271.toList != ([] : List UInt8)) == false) = false := by simpa using c17))
            (try (have c17b3 : ¬ ((t271.toList != ([] : List UInt8)) = false) := by simpa using c17))
            clear c17
            have H' := Aside0.mk H
            clear H
            go_wp2
            go_meet
            case rel => exact ⟨_, (true), (by first | rfl | (simp; done) | (simp [*]; done)), H', ⟨by first | omega | exact Nat.le_refl _⟩, ⟨by repeat (first | (with_reducible first | exact HB.out | apply below_alloc | apply pw_below_drewN | apply below_drew1) | exact HB.out)⟩⟩
          · rw [if_neg c17] at H
            have c17b0 : ((t271.toList != ([] : List UInt8)) != false) = false := by simpa using c17
            have c17b5 : t271.toList.isEmpty = true := by have h_ := c17b0; simpa using h_
            (try (have c17b1 : decide ((t271.toList != ([] : List UInt8)) = false) = true := by simpa using c17))
            (try (have c17b2 : ((t271.toList != ([] : List UInt8)) == false) = true := by simpa using c17))
            clear c17
            by_cases c18 : t271.toList = ([] : List UInt8)
            · rw [if_pos c18] at H
              have c18b0 : (t271.toList == ([] : List UInt8)) = true := beq_iff_eq.mpr c18
              have c18b1 : (t271.toList != ([] : List UInt8)) = false := bne_eq_false_iff_eq.mpr c18
              have c18b2 : t271.toList.isEmpty = true := by have h_ := c18b0; simpa using h_
              (first | rw [c18b2] | skip)
              clear c18
              have H' := Aside0.mk H
              clear H
              go_wp2
              go_meet
              case rel => exact ⟨_, (false), (by first | rfl | (simp; done) | (simp [*]; done)), H', ⟨by first | omega | exact Nat.le_refl _⟩, ⟨by repeat (first | (with_reducible first | exact HB.out | apply below_alloc | apply pw_below_drewN | apply below_drew1) | exact HB.out)⟩⟩
            · rw [if_neg c18] at H
              have c18b0 : (t271.toList == ([] : List UInt8)) = false := beq_eq_false_iff_ne.mpr c18
              have c18b1 : (t271.toList != ([] : List UInt8)) = true := bne_iff_ne.mpr c18
              have c18b2 : t271.toList.isEmpty = false := by have h_ := c18b0; simpa using h_
              exact absurd c17b5 (by rw [c18b2]; simp)
      case rest =>
        clear HC9
        try clear c1
        try clear c2
        try clear p2
        try clear c3
        try clear c4
        try clear c7
        try clear c7b0
        try clear c7b1
        try clear c7b2
        try clear c9
        try clear c13
        try clear c13b0
        try clear c14
        try clear c14b0
        try clear c14b1
        try clear c14b2
        try clear c15
        try clear c15b0
        try clear c15b1
        try clear c16
        try clear c16b0
        try clear c16b1
        try clear c17
        try clear c17b0
        try clear c17b1
        try clear c17b2
        try clear c18
        try clear c18b0
        try clear c18b1
        try clear c19
        try clear c19b0
        try clear c19b1
        obtain ⟨kq, x55_8, rfl, HA, HJ8, HB⟩ := hcut
        cases kq with
        | zero => exact absurd HA.out (by simp [laws_FnNumbers.j0])
        | succ kj8 =>
          have H := HA.out
          clear HA
          simp only [laws_FnNumbers.j0] at H
          by_cases c20 : x55_8 = true
          · subst c20
            have H1 : (some false) = some r := by rw [if_pos rfl] at H; exact H
            clear H
            have H := H1
            clear H1
            obtain rfl := Option.some.inj H
            go_wp2
            go_ret
            exact ⟨by first | rfl | (simp [errW_none, errW_some] <;> rfl) | (simp [*, errW_none, errW_some] <;> rfl), by repeat (first | (with_reducible first | exact HB.out | apply below_alloc | apply pw_below_drewN | apply below_drew1) | exact HB.out)⟩
          · replace c20 := Bool.eq_false_iff.mpr c20
            subst c20
            have H1 : ((impl_Fixed.f kj8 t269 7).bind fun t274 => (if t274.size + t270.size ≤ 9223372036854775807 then ((impl_ReadFixed.f kj8 (t274 ++ t270) 7).bind fun bt275 => (if t274.toList = ([] : List UInt8) then (if t269 < 0 then (laws_FnNumbers.j1 kj8 l0 t269 t270 ((t274.toList == ([] : List UInt8)) != true)) else (laws_FnNumbers.j1 kj8 l0 t269 t270 ((t274.toList == ([] : List UInt8)) != (decide (t269 ≥ 72057594037927936))))) else (if bt275.2 = true then (if bt275.1 = t269 then (if (t274.size : Int) = 7 then (if t269 < 0 then (laws_FnNumbers.j1 kj8 l0 t269 t270 ((t274.toList == ([] : List UInt8)) != true)) else (laws_FnNumbers.j1 kj8 l0 t269 t270 ((t274.toList == ([] : List UInt8)) != (decide (t269 ≥ 72057594037927936))))) else (laws_FnNumbers.j1 kj8 l0 t269 t270 true)) else (laws_FnNumbers.j1 kj8 l0 t269 t270 true)) else (laws_FnNumbers.j1 kj8 l0 t269 t270 true)))) else (none))) = some r := by rw [if_neg (show ¬ (false = true) by decide)] at H; exact H
            clear H
            have H := H1
            clear H1
            replace H := Option.bind_eq_some_iff.mp H
            obtain ⟨t274, A210, H⟩ := H
            replace H : (if t274.size + t270.size ≤ 9223372036854775807 then ((impl_ReadFixed.f kj8 (t274 ++ t270) 7).bind fun bt275 => (if t274.toList = ([] : List UInt8) then (if t269 < 0 then (laws_FnNumbers.j1 kj8 l0 t269 t270 ((t274.toList == ([] : List UInt8)) != true)) else (laws_FnNumbers.j1 kj8 l0 t269 t270 ((t274.toList == ([] : List UInt8)) != (decide (t269 ≥ 72057594037927936))))) else (if bt275.2 = true then (if bt275.1 = t269 then (if (t274.size : Int) = 7 then (if t269 < 0 then (laws_FnNumbers.j1 kj8 l0 t269 t270 ((t274.toList == ([] : List UInt8)) != true)) else (laws_FnNumbers.j1 kj8 l0 t269 t270 ((t274.toList == ([] : List UInt8)) != (decide (t269 ≥ 72057594037927936))))) else (laws_FnNumbers.j1 kj8 l0 t269 t270 true)) else (laws_FnNumbers.j1 kj8 l0 t269 t270 true)) else (laws_FnNumbers.j1 kj8 l0 t269 t270 true)))) else (none)) = some r := H
            have A21 := Aside0.mk A210
            clear A210
            by_cases c22 : t274.size + t270.size ≤ 9223372036854775807
            · rw [if_pos c22] at H
              have c22b0 := eq_true c22
              have c22b1 : decide (t274.size + t270.size ≤ 9223372036854775807) = true := decide_eq_true c22
              try have c22b2 : (9223372036854775807 < t274.size + t270.size) = False := eq_false (Nat.not_lt.2 c22)
              replace H := Option.bind_eq_some_iff.mp H
              obtain ⟨⟨t275, t276⟩, A230, H⟩ := H
              replace H : (if t274.toList = ([] : List UInt8) then (if t269 < 0 then (laws_FnNumbers.j1 kj8 l0 t269 t270 ((t274.toList == ([] : List UInt8)) != true)) else (laws_FnNumbers.j1 kj8 l0 t269 t270 ((t274.toList == ([] : List UInt8)) != (decide (t269 ≥ 72057594037927936))))) else (if t276 = true then (if t275 = t269 then (if (t274.size : Int) = 7 then (if t269 < 0 then (laws_FnNumbers.j1 kj8 l0 t269 t270 ((t274.toList == ([] : List UInt8)) != true)) else (laws_FnNumbers.j1 kj8 l0 t269 t270 ((t274.toList == ([] : List UInt8)) != (decide (t269 ≥ 72057594037927936))))) else (laws_FnNumbers.j1 kj8 l0 t269 t270 true)) else (laws_FnNumbers.j1 kj8 l0 t269 t270 true)) else (laws_FnNumbers.j1 kj8 l0 t269 t270 true))) = some r := H
              have A23 := Aside0.mk A230
              clear A230
              have HC24 := Aside0.mk H
              clear H
              go_upto_region 11 with (first | ((with_reducible refine gate_callee (f := 43) rfl ?_); refine goesL_ (some 57) rfl rfl Tryd.func43 (by kernel_rfl) rfl #[.int .i64 t269, .int .i64 7] rfl (by (try simp only [List.map_toArray, List.map_cons, List.map_nil]); first | done | rfl | (simp only [List.length_drop, List.length_take]; rfl)) ?_; (with_reducible refine (impl_Fixed.calls kj8 t269 7 t274 _ A21.out).mono ?_); rintro e w25 ⟨rfl, hb⟩; refine ⟨_, rfl, ?_⟩; have n0_ := Aside0.mk (below_step (by repeat (first | (with_reducible first | exact HB.out | apply below_alloc | apply pw_below_drewN | apply below_drew1) | exact HB.out)) hb); clear HB; have HB := n0_; clear n0_; (try clear hb); (try clear hb2); (try clear hk); (try clear hi)) | ((with_reducible refine gate_callee (f := 44) rfl ?_); refine goesL_ (some 62) rfl rfl Tryd.func44 (by kernel_rfl) rfl #[.string (t274 ++ t270), .int .i64 7] rfl (by (try simp only [List.map_toArray, List.map_cons, List.map_nil]); first | done | rfl | (simp only [List.length_drop, List.length_take]; rfl)) ?_; (with_reducible refine (impl_ReadFixed.calls kj8 (t274 ++ t270) 7 t275 t276 _ A23.out).mono ?_); rintro e w' ⟨rfl, ⟨nd, rfl⟩⟩; refine ⟨_, rfl, ?_⟩))
              (try simp only [Act.put, List.setIfInBounds_toArray, List.set_cons_zero, List.set_cons_succ])
              go_cut [91] (fun v91 wc => ∃ (kq : Nat) (x91_23 : Bool), v91 = .bool x91_23 ∧ Aside0 (laws_FnNumbers.j1 kq l0 t269 t270 x91_23 = some r) ∧ Aside0 (kq ≤ kj8) ∧ Aside0 (Below w.heap.size w wc))
              case first =>
                have H := HC24.out
                clear HC24
                by_cases c26 : t274.toList = ([] : List UInt8)
                · rw [if_pos c26] at H
                  have c26b0 : (t274.toList == ([] : List UInt8)) = true := beq_iff_eq.mpr c26
                  have c26b1 : (t274.toList != ([] : List UInt8)) = false := bne_eq_false_iff_eq.mpr c26
                  have c26b2 : t274.toList.isEmpty = true := by have h_ := c26b0; simpa using h_
                  (first | rw [c26b2] | skip)
                  clear c26
                  (first | rw [c26b0] | (simp only [i64_w, i32_w]; rw [c26b0]) | skip)
                  by_cases c27 : t269 < 0
                  · rw [if_pos c27] at H
                    have c27b0 : decide (t269 < 0) = true := decide_eq_true c27
                    clear c27
                    have H' := Aside0.mk H
                    clear H
                    go_wp2
                    go_meet
                    case rel => exact ⟨_, (((t274.toList == ([] : List UInt8)) != true)), (by first | rfl | (simp; done) | (simp [*]; done)), H', ⟨by have := HJ8.out; first | omega | exact Nat.le_refl _⟩, ⟨by repeat (first | (with_reducible first | exact HB.out | apply below_alloc | apply pw_below_drewN | apply below_drew1) | exact HB.out)⟩⟩
                  · rw [if_neg c27] at H
                    have c27b0 : decide (t269 < 0) = false := decide_eq_false c27
                    clear c27
                    have H' := Aside0.mk H
                    clear H
                    go_wp2
                    go_meet
                    case rel => exact ⟨_, (((t274.toList == ([] : List UInt8)) != (decide (t269 ≥ 72057594037927936)))), (by first | rfl | (simp; done) | (simp [*]; done)), H', ⟨by have := HJ8.out; first | omega | exact Nat.le_refl _⟩, ⟨by repeat (first | (with_reducible first | exact HB.out | apply below_alloc | apply pw_below_drewN | apply below_drew1) | exact HB.out)⟩⟩
                · rw [if_neg c26] at H
                  have c26b0 : (t274.toList == ([] : List UInt8)) = false := beq_eq_false_iff_ne.mpr c26
                  have c26b1 : (t274.toList != ([] : List UInt8)) = true := bne_iff_ne.mpr c26
                  have c26b2 : t274.toList.isEmpty = false := by have h_ := c26b0; simpa using h_
                  (first | rw [c26b2] | skip)
                  (first | rw [c26b0] | (simp only [i64_w, i32_w]; rw [c26b0]) | skip)
                  by_cases c28 : t276 = true
                  · subst c28
                    have H1 : (if t275 = t269 then (if (t274.size : Int) = 7 then (if t269 < 0 then (laws_FnNumbers.j1 kj8 l0 t269 t270 ((t274.toList == ([] : List UInt8)) != true)) else (laws_FnNumbers.j1 kj8 l0 t269 t270 ((t274.toList == ([] : List UInt8)) != (decide (t269 ≥ 72057594037927936))))) else (laws_FnNumbers.j1 kj8 l0 t269 t270 true)) else (laws_FnNumbers.j1 kj8 l0 t269 t270 true)) = some r := by rw [if_pos rfl] at H; exact H
                    clear H
                    have H := H1
                    clear H1
                    by_cases c29 : t275 = t269
                    · rw [if_pos c29] at H
                      have c29b0 : (t275 == t269) = true := beq_iff_eq.mpr c29
                      have c29b1 : (t275 != t269) = false := bne_eq_false_iff_eq.mpr c29
                      clear c29
                      by_cases c30 : (t274.size : Int) = 7
                      · rw [if_pos c30] at H
                        have c30b0 : ((t274.size : Int) == 7) = true := beq_iff_eq.mpr c30
                        have c30b1 : ((t274.size : Int) != 7) = false := bne_eq_false_iff_eq.mpr c30
                        clear c30
                        by_cases c31 : t269 < 0
                        · rw [if_pos c31] at H
                          have c31b0 : decide (t269 < 0) = true := decide_eq_true c31
                          clear c31
                          have H' := Aside0.mk H
                          clear H
                          go_wp2
                          go_meet
                          case rel => exact ⟨_, (((t274.toList == ([] : List UInt8)) != true)), (by first | rfl | (simp; done) | (simp [*]; done)), H', ⟨by have := HJ8.out; first | omega | exact Nat.le_refl _⟩, ⟨by repeat (first | (with_reducible first | exact HB.out | apply below_alloc | apply pw_below_drewN | apply below_drew1) | exact HB.out)⟩⟩
                        · rw [if_neg c31] at H
                          have c31b0 : decide (t269 < 0) = false := decide_eq_false c31
                          clear c31
                          have H' := Aside0.mk H
                          clear H
                          go_wp2
                          go_meet
                          case rel => exact ⟨_, (((t274.toList == ([] : List UInt8)) != (decide (t269 ≥ 72057594037927936)))), (by first | rfl | (simp; done) | (simp [*]; done)), H', ⟨by have := HJ8.out; first | omega | exact Nat.le_refl _⟩, ⟨by repeat (first | (with_reducible first | exact HB.out | apply below_alloc | apply pw_below_drewN | apply below_drew1) | exact HB.out)⟩⟩
                      · rw [if_neg c30] at H
                        have c30b0 : ((t274.size : Int) == 7) = false := beq_eq_false_iff_ne.mpr c30
                        have c30b1 : ((t274.size : Int) != 7) = true := bne_iff_ne.mpr c30
                        have H' := Aside0.mk H
                        clear H
                        go_wp2
                        go_meet
                        case rel => exact ⟨_, (true), (by first | rfl | (simp; done) | (simp [*]; done)), H', ⟨by have := HJ8.out; first | omega | exact Nat.le_refl _⟩, ⟨by repeat (first | (with_reducible first | exact HB.out | apply below_alloc | apply pw_below_drewN | apply below_drew1) | exact HB.out)⟩⟩
                    · rw [if_neg c29] at H
                      have c29b0 : (t275 == t269) = false := beq_eq_false_iff_ne.mpr c29
                      have c29b1 : (t275 != t269) = true := bne_iff_ne.mpr c29
                      have H' := Aside0.mk H
                      clear H
                      go_wp2
                      go_meet
                      case rel => exact ⟨_, (true), (by first | rfl | (simp; done) | (simp [*]; done)), H', ⟨by have := HJ8.out; first | omega | exact Nat.le_refl _⟩, ⟨by repeat (first | (with_reducible first | exact HB.out | apply below_alloc | apply pw_below_drewN | apply below_drew1) | exact HB.out)⟩⟩
                  · replace c28 := Bool.eq_false_iff.mpr c28
                    subst c28
                    have H1 : (laws_FnNumbers.j1 kj8 l0 t269 t270 true) = some r := by rw [if_neg (show ¬ (false = true) by decide)] at H; exact H
                    clear H
                    have H := H1
                    clear H1
                    have H' := Aside0.mk H
                    clear H
                    go_wp2
                    go_meet
                    case rel => exact ⟨_, (true), (by first | rfl | (simp; done) | (simp [*]; done)), H', ⟨by have := HJ8.out; first | omega | exact Nat.le_refl _⟩, ⟨by repeat (first | (with_reducible first | exact HB.out | apply below_alloc | apply pw_below_drewN | apply below_drew1) | exact HB.out)⟩⟩
              case rest =>
                clear HC24
                try clear c1
                try clear c2
                try clear p2
                try clear c3
                try clear c4
                try clear c7
                try clear c7b0
                try clear c7b1
                try clear c7b2
                try clear c9
                try clear c13
                try clear c13b0
                try clear c14
                try clear c14b0
                try clear c14b1
                try clear c14b2
                try clear c15
                try clear c15b0
                try clear c15b1
                try clear c16
                try clear c16b0
                try clear c16b1
                try clear c17
                try clear c17b0
                try clear c17b1
                try clear c17b2
                try clear c18
                try clear c18b0
                try clear c18b1
                try clear c19
                try clear c19b0
                try clear c19b1
                try clear c20
                try clear c22
                try clear c22b0
                try clear c22b1
                try clear c22b2
                try clear c26
                try clear c26b0
                try clear c26b1
                try clear c27
                try clear c27b0
                try clear c28
                try clear c29
                try clear c29b0
                try clear c29b1
                try clear c30
                try clear c30b0
                try clear c30b1
                try clear c31
                try clear c31b0
                try clear p2
                obtain ⟨kq, x91_23, rfl, HA, HJ23, HB⟩ := hcut
                cases kq with
                | zero => exact absurd HA.out (by simp [laws_FnNumbers.j1])
                | succ kj23 =>
                  have H := HA.out
                  clear HA
                  simp only [laws_FnNumbers.j1] at H
                  by_cases c32 : x91_23 = true
                  · subst c32
                    have H1 : (some false) = some r := by rw [if_pos rfl] at H; exact H
                    clear H
                    have H := H1
                    clear H1
                    obtain rfl := Option.some.inj H
                    go_wp2
                    go_ret
                    exact ⟨by first | rfl | (simp [errW_none, errW_some] <;> rfl) | (simp [*, errW_none, errW_some] <;> rfl), by repeat (first | (with_reducible first | exact HB.out | apply below_alloc | apply pw_below_drewN | apply below_drew1) | exact HB.out)⟩
                  · replace c32 := Bool.eq_false_iff.mpr c32
                    subst c32
                    have H1 : ((impl_Dec.f t269).bind fun t277 => ((impl_ReadDec.f t277).bind fun bt278 => (if t269 > (-1000000000) then (if (bt278.2 != (decide (t269 < 1000000000))) = true then (laws_FnNumbers.j2 kj23 l0 t270 true) else (if bt278.2 = true then (laws_FnNumbers.j2 kj23 l0 t270 (bt278.1 != t269)) else (laws_FnNumbers.j2 kj23 l0 t270 false))) else (if (bt278.2 != false) = true then (laws_FnNumbers.j2 kj23 l0 t270 true) else (if bt278.2 = true then (laws_FnNumbers.j2 kj23 l0 t270 (bt278.1 != t269)) else (laws_FnNumbers.j2 kj23 l0 t270 false)))))) = some r := by rw [if_neg (show ¬ (false = true) by decide)] at H; exact H
                    clear H
                    have H := H1
                    clear H1
                    replace H := Option.bind_eq_some_iff.mp H
                    obtain ⟨t277, A330, H⟩ := H
                    replace H : ((impl_ReadDec.f t277).bind fun bt278 => (if t269 > (-1000000000) then (if (bt278.2 != (decide (t269 < 1000000000))) = true then (laws_FnNumbers.j2 kj23 l0 t270 true) else (if bt278.2 = true then (laws_FnNumbers.j2 kj23 l0 t270 (bt278.1 != t269)) else (laws_FnNumbers.j2 kj23 l0 t270 false))) else (if (bt278.2 != false) = true then (laws_FnNumbers.j2 kj23 l0 t270 true) else (if bt278.2 = true then (laws_FnNumbers.j2 kj23 l0 t270 (bt278.1 != t269)) else (laws_FnNumbers.j2 kj23 l0 t270 false))))) = some r := H
                    have A33 := Aside0.mk A330
                    clear A330
                    replace H := Option.bind_eq_some_iff.mp H
                    obtain ⟨⟨t278, t279⟩, A340, H⟩ := H
                    replace H : (if t269 > (-1000000000) then (if (t279 != (decide (t269 < 1000000000))) = true then (laws_FnNumbers.j2 kj23 l0 t270 true) else (if t279 = true then (laws_FnNumbers.j2 kj23 l0 t270 (t278 != t269)) else (laws_FnNumbers.j2 kj23 l0 t270 false))) else (if (t279 != false) = true then (laws_FnNumbers.j2 kj23 l0 t270 true) else (if t279 = true then (laws_FnNumbers.j2 kj23 l0 t270 (t278 != t269)) else (laws_FnNumbers.j2 kj23 l0 t270 false)))) = some r := H
                    have A34 := Aside0.mk A340
                    clear A340
                    have HC35 := Aside0.mk H
                    clear H
                    go_upto_region 14 with (first | ((with_reducible refine gate_callee (f := 46) rfl ?_); refine goesL_ (some 94) rfl rfl Tryd.func46 (by kernel_rfl) rfl #[.int .i64 t269] rfl (by (try simp only [List.map_toArray, List.map_cons, List.map_nil]); first | done | rfl | (simp only [List.length_drop, List.length_take]; rfl)) ?_; (with_reducible refine (impl_Dec.calls t269 t277 _ (TabsE.below HTA.out (by repeat (first | (with_reducible first | exact HB.out | apply below_alloc | apply pw_below_drewN | apply below_drew1) | exact HB.out))) A33.out).mono ?_); rintro e w36 ⟨rfl, hb⟩; refine ⟨_, rfl, ?_⟩; have n0_ := Aside0.mk (below_step (by repeat (first | (with_reducible first | exact HB.out | apply below_alloc | apply pw_below_drewN | apply below_drew1) | exact HB.out)) hb); clear HB; have HB := n0_; clear n0_; (try clear hb); (try clear hb2); (try clear hk); (try clear hi)) | ((with_reducible refine gate_callee (f := 45) rfl ?_); refine goesL_ (some 95) rfl rfl Tryd.func45 (by kernel_rfl) rfl #[.string t277] rfl (by (try simp only [List.map_toArray, List.map_cons, List.map_nil]); first | done | rfl | (simp only [List.length_drop, List.length_take]; rfl)) ?_; (with_reducible refine (impl_ReadDec.calls t277 t278 t279 _ (TabsE.below HTA.out (by repeat (first | (with_reducible first | exact HB.out | apply below_alloc | apply pw_below_drewN | apply below_drew1) | exact HB.out))) A34.out).mono ?_); rintro e w37 ⟨rfl, hb⟩; refine ⟨_, rfl, ?_⟩; have n0_ := Aside0.mk (below_step (by repeat (first | (with_reducible first | exact HB.out | apply below_alloc | apply pw_below_drewN | apply below_drew1) | exact HB.out)) hb); clear HB; have HB := n0_; clear n0_; (try clear hb); (try clear hb2); (try clear hk); (try clear hi)))
                    (try simp only [Act.put, List.setIfInBounds_toArray, List.set_cons_zero, List.set_cons_succ])
                    go_cut [113] (fun v113 wc => ∃ (kq : Nat) (x113_34 : Bool), v113 = .bool x113_34 ∧ Aside0 (laws_FnNumbers.j2 kq l0 t270 x113_34 = some r) ∧ Aside0 (kq ≤ kj23) ∧ Aside0 (Below w.heap.size w wc))
                    case first =>
                      have H := HC35.out
                      clear HC35
                      by_cases c38 : t269 > (-1000000000)
                      · rw [if_pos c38] at H
                        have c38b0 : decide ((-1000000000) < t269) = true := decide_eq_true c38
                        clear c38
                        (first | rw [c38b0] | (simp only [i64_w, i32_w]; rw [c38b0]) | skip)
                        by_cases c39 : (t279 != (decide (t269 < 1000000000))) = true
                        · rw [if_pos c39] at H
                          have c39b0 : (t279 != (decide (t269 < 1000000000))) = true := c39
                          (try (have c39b1 : decide (t279 = (decide (t269 < 1000000000))) = false := by simpa using c39))
                          (try (have c39b2 : (t279 == (decide (t269 < 1000000000))) = false := by simpa using c39))
                          (try (have c39b3 : ¬ (t279 = (decide (t269 < 1000000000))) := by simpa using c39))
                          clear c39
                          have H' := Aside0.mk H
                          clear H
                          go_wp2
                          go_meet
                          case rel => exact ⟨_, (true), (by first | rfl | (simp; done) | (simp [*]; done)), H', ⟨by have := HJ8.out; have := HJ23.out; first | omega | exact Nat.le_refl _⟩, ⟨by repeat (first | (with_reducible first | exact HB.out | apply below_alloc | apply pw_below_drewN | apply below_drew1) | exact HB.out)⟩⟩
                        · rw [if_neg c39] at H
                          have c39b0 : (t279 != (decide (t269 < 1000000000))) = false := by simpa using c39
                          (try (have c39b1 : decide (t279 = (decide (t269 < 1000000000))) = true := by simpa using c39))
                          (try (have c39b2 : (t279 == (decide (t269 < 1000000000))) = true := by simpa using c39))
                          clear c39
                          by_cases c40 : t279 = true
                          · subst c40
                            have H1 : (laws_FnNumbers.j2 kj23 l0 t270 (t278 != t269)) = some r := by rw [if_pos rfl] at H; exact H
                            clear H
                            have H := H1
                            clear H1
                            have H' := Aside0.mk H
                            clear H
                            go_wp2
                            go_meet
                            case rel => exact ⟨_, ((t278 != t269)), (by first | rfl | (simp; done) | (simp [*]; done)), H', ⟨by have := HJ8.out; have := HJ23.out; first | omega | exact Nat.le_refl _⟩, ⟨by repeat (first | (with_reducible first | exact HB.out | apply below_alloc | apply pw_below_drewN | apply below_drew1) | exact HB.out)⟩⟩
                          · replace c40 := Bool.eq_false_iff.mpr c40
                            subst c40
                            have H1 : (laws_FnNumbers.j2 kj23 l0 t270 false) = some r := by rw [if_neg (show ¬ (false = true) by decide)] at H; exact H
                            clear H
                            have H := H1
                            clear H1
                            have H' := Aside0.mk H
                            clear H
                            go_wp2
                            go_meet
                            case rel => exact ⟨_, (false), (by first | rfl | (simp; done) | (simp [*]; done)), H', ⟨by have := HJ8.out; have := HJ23.out; first | omega | exact Nat.le_refl _⟩, ⟨by repeat (first | (with_reducible first | exact HB.out | apply below_alloc | apply pw_below_drewN | apply below_drew1) | exact HB.out)⟩⟩
                      · rw [if_neg c38] at H
                        have c38b0 : decide ((-1000000000) < t269) = false := decide_eq_false c38
                        clear c38
                        (first | rw [c38b0] | (simp only [i64_w, i32_w]; rw [c38b0]) | skip)
                        by_cases c41 : (t279 != false) = true
                        · rw [if_pos c41] at H
                          have c41b0 : (t279 != false) = true := c41
                          (try (have c41b1 : decide (t279 = false) = false := by simpa using c41))
                          (try (have c41b2 : (t279 == false) = false := by simpa using c41))
                          (try (have c41b3 : ¬ (t279 = false) := by simpa using c41))
                          clear c41
                          have H' := Aside0.mk H
                          clear H
                          go_wp2
                          go_meet
                          case rel => exact ⟨_, (true), (by first | rfl | (simp; done) | (simp [*]; done)), H', ⟨by have := HJ8.out; have := HJ23.out; first | omega | exact Nat.le_refl _⟩, ⟨by repeat (first | (with_reducible first | exact HB.out | apply below_alloc | apply pw_below_drewN | apply below_drew1) | exact HB.out)⟩⟩
                        · rw [if_neg c41] at H
                          have c41b0 : (t279 != false) = false := by simpa using c41
                          (try (have c41b1 : decide (t279 = false) = true := by simpa using c41))
                          (try (have c41b2 : (t279 == false) = true := by simpa using c41))
                          clear c41
                          by_cases c42 : t279 = true
                          · subst c42
                            have H1 : (laws_FnNumbers.j2 kj23 l0 t270 (t278 != t269)) = some r := by rw [if_pos rfl] at H; exact H
                            clear H
                            have H := H1
                            clear H1
                            have H' := Aside0.mk H
                            clear H
                            go_wp2
                            go_meet
                            case rel => exact ⟨_, ((t278 != t269)), (by first | rfl | (simp; done) | (simp [*]; done)), H', ⟨by have := HJ8.out; have := HJ23.out; first | omega | exact Nat.le_refl _⟩, ⟨by repeat (first | (with_reducible first | exact HB.out | apply below_alloc | apply pw_below_drewN | apply below_drew1) | exact HB.out)⟩⟩
                          · replace c42 := Bool.eq_false_iff.mpr c42
                            subst c42
                            have H1 : (laws_FnNumbers.j2 kj23 l0 t270 false) = some r := by rw [if_neg (show ¬ (false = true) by decide)] at H; exact H
                            clear H
                            have H := H1
                            clear H1
                            have H' := Aside0.mk H
                            clear H
                            go_wp2
                            go_meet
                            case rel => exact ⟨_, (false), (by first | rfl | (simp; done) | (simp [*]; done)), H', ⟨by have := HJ8.out; have := HJ23.out; first | omega | exact Nat.le_refl _⟩, ⟨by repeat (first | (with_reducible first | exact HB.out | apply below_alloc | apply pw_below_drewN | apply below_drew1) | exact HB.out)⟩⟩
                    case rest =>
                      clear HC35
                      try clear c1
                      try clear c2
                      try clear p2
                      try clear c3
                      try clear c4
                      try clear c7
                      try clear c7b0
                      try clear c7b1
                      try clear c7b2
                      try clear c9
                      try clear c13
                      try clear c13b0
                      try clear c14
                      try clear c14b0
                      try clear c14b1
                      try clear c14b2
                      try clear c15
                      try clear c15b0
                      try clear c15b1
                      try clear c16
                      try clear c16b0
                      try clear c16b1
                      try clear c17
                      try clear c17b0
                      try clear c17b1
                      try clear c17b2
                      try clear c18
                      try clear c18b0
                      try clear c18b1
                      try clear c19
                      try clear c19b0
                      try clear c19b1
                      try clear c20
                      try clear c22
                      try clear c22b0
                      try clear c22b1
                      try clear c22b2
                      try clear c26
                      try clear c26b0
                      try clear c26b1
                      try clear c27
                      try clear c27b0
                      try clear c28
                      try clear c29
                      try clear c29b0
                      try clear c29b1
                      try clear c30
                      try clear c30b0
                      try clear c30b1
                      try clear c31
                      try clear c31b0
                      try clear c32
                      try clear c38
                      try clear c38b0
                      try clear c39
                      try clear c39b0
                      try clear c39b1
                      try clear c39b2
                      try clear c40
                      try clear c41
                      try clear c41b0
                      try clear c41b1
                      try clear c41b2
                      try clear c42
                      try clear p2
                      obtain ⟨kq, x113_34, rfl, HA, HJ34, HB⟩ := hcut
                      cases kq with
                      | zero => exact absurd HA.out (by simp [laws_FnNumbers.j2])
                      | succ kj34 =>
                        have H := HA.out
                        clear HA
                        simp only [laws_FnNumbers.j2] at H
                        by_cases c43 : x113_34 = true
                        · subst c43
                          have H1 : (some false) = some r := by rw [if_pos rfl] at H; exact H
                          clear H
                          have H := H1
                          clear H1
                          obtain rfl := Option.some.inj H
                          go_wp2
                          go_ret
                          exact ⟨by first | rfl | (simp [errW_none, errW_some] <;> rfl) | (simp [*, errW_none, errW_some] <;> rfl), by repeat (first | (with_reducible first | exact HB.out | apply below_alloc | apply pw_below_drewN | apply below_drew1) | exact HB.out)⟩
                        · replace c43 := Bool.eq_false_iff.mpr c43
                          subst c43
                          have H1 : ((impl_Hex.f kj34 t270).bind fun t280 => ((impl_Unhex.f kj34 t280).bind fun bt281 => ((spec_DrawReadVar.f kj34 l0).bind fun t283 => ((impl_ReadVar.f kj34 t283).bind fun bt284 => (if bt281.2 = true then (if bt281.1.toList = t270.toList then (if bt284.2 = 0 then (some true) else ((impl_Var.f kj34 bt284.1).bind fun t286 => ((spec_DrawReadVar.f kj34 l0).bind fun t287 => (if 0 ≤ bt284.2 then (if bt284.2 ≤ (t287.size : Int) then (some (t286.toList == (t287.extract 0 (bt284.2 : Int).toNat).toList)) else (none)) else (none))))) else (some false)) else (some false)))))) = some r := by rw [if_neg (show ¬ (false = true) by decide)] at H; exact H
                          clear H
                          have H := H1
                          clear H1
                          replace H := Option.bind_eq_some_iff.mp H
                          obtain ⟨t280, A440, H⟩ := H
                          replace H : ((impl_Unhex.f kj34 t280).bind fun bt281 => ((spec_DrawReadVar.f kj34 l0).bind fun t283 => ((impl_ReadVar.f kj34 t283).bind fun bt284 => (if bt281.2 = true then (if bt281.1.toList = t270.toList then (if bt284.2 = 0 then (some true) else ((impl_Var.f kj34 bt284.1).bind fun t286 => ((spec_DrawReadVar.f kj34 l0).bind fun t287 => (if 0 ≤ bt284.2 then (if bt284.2 ≤ (t287.size : Int) then (some (t286.toList == (t287.extract 0 (bt284.2 : Int).toNat).toList)) else (none)) else (none))))) else (some false)) else (some false))))) = some r := H
                          have A44 := Aside0.mk A440
                          clear A440
                          replace H := Option.bind_eq_some_iff.mp H
                          obtain ⟨⟨t281, t282⟩, A450, H⟩ := H
                          replace H : ((spec_DrawReadVar.f kj34 l0).bind fun t283 => ((impl_ReadVar.f kj34 t283).bind fun bt284 => (if t282 = true then (if t281.toList = t270.toList then (if bt284.2 = 0 then (some true) else ((impl_Var.f kj34 bt284.1).bind fun t286 => ((spec_DrawReadVar.f kj34 l0).bind fun t287 => (if 0 ≤ bt284.2 then (if bt284.2 ≤ (t287.size : Int) then (some (t286.toList == (t287.extract 0 (bt284.2 : Int).toNat).toList)) else (none)) else (none))))) else (some false)) else (some false)))) = some r := H
                          have A45 := Aside0.mk A450
                          clear A450
                          replace H := Option.bind_eq_some_iff.mp H
                          obtain ⟨t283, A460, H⟩ := H
                          replace H : ((impl_ReadVar.f kj34 t283).bind fun bt284 => (if t282 = true then (if t281.toList = t270.toList then (if bt284.2 = 0 then (some true) else ((impl_Var.f kj34 bt284.1).bind fun t286 => ((spec_DrawReadVar.f kj34 l0).bind fun t287 => (if 0 ≤ bt284.2 then (if bt284.2 ≤ (t287.size : Int) then (some (t286.toList == (t287.extract 0 (bt284.2 : Int).toNat).toList)) else (none)) else (none))))) else (some false)) else (some false))) = some r := H
                          have A46 := Aside0.mk A460
                          clear A460
                          replace H := Option.bind_eq_some_iff.mp H
                          obtain ⟨⟨t284, t285⟩, A470, H⟩ := H
                          replace H : (if t282 = true then (if t281.toList = t270.toList then (if t285 = 0 then (some true) else ((impl_Var.f kj34 t284).bind fun t286 => ((spec_DrawReadVar.f kj34 l0).bind fun t287 => (if 0 ≤ t285 then (if t285 ≤ (t287.size : Int) then (some (t286.toList == (t287.extract 0 (t285 : Int).toNat).toList)) else (none)) else (none))))) else (some false)) else (some false)) = some r := H
                          have A47 := Aside0.mk A470
                          clear A470
                          by_cases c48 : t282 = true
                          · subst c48
                            have H1 : (if t281.toList = t270.toList then (if t285 = 0 then (some true) else ((impl_Var.f kj34 t284).bind fun t286 => ((spec_DrawReadVar.f kj34 l0).bind fun t287 => (if 0 ≤ t285 then (if t285 ≤ (t287.size : Int) then (some (t286.toList == (t287.extract 0 (t285 : Int).toNat).toList)) else (none)) else (none))))) else (some false)) = some r := by rw [if_pos rfl] at H; exact H
                            clear H
                            have H := H1
                            clear H1
                            by_cases c49 : t281.toList = t270.toList
                            · rw [if_pos c49] at H
                              have c49b0 : (t281.toList == t270.toList) = true := beq_iff_eq.mpr c49
                              have c49b1 : (t281.toList != t270.toList) = false := bne_eq_false_iff_eq.mpr c49
                              clear c49
                              by_cases c50 : t285 = 0
                              · rw [if_pos c50] at H
                                have c50b0 : (t285 == 0) = true := beq_iff_eq.mpr c50
                                have c50b1 : (t285 != 0) = false := bne_eq_false_iff_eq.mpr c50
                                clear c50
                                obtain rfl := Option.some.inj H
                                go_wp2_with (first | ((with_reducible refine gate_callee (f := 48) rfl ?_); refine goesL_ (some 116) rfl rfl Tryd.func48 (by kernel_rfl) rfl #[.string t270] rfl (by (try simp only [List.map_toArray, List.map_cons, List.map_nil]); first | done | rfl | (simp only [List.length_drop, List.length_take]; rfl)) ?_; (with_reducible refine (impl_Hex.calls kj34 t270 t280 _ A44.out).mono ?_); rintro e w51 ⟨rfl, hb⟩; refine ⟨_, rfl, ?_⟩; have n0_ := Aside0.mk (below_step (by repeat (first | (with_reducible first | exact HB.out | apply below_alloc | apply pw_below_drewN | apply below_drew1) | exact HB.out)) hb); clear HB; have HB := n0_; clear n0_; (try clear hb); (try clear hb2); (try clear hk); (try clear hi)) | ((with_reducible refine gate_callee (f := 47) rfl ?_); refine goesL_ (some 117) rfl rfl Tryd.func47 (by kernel_rfl) rfl #[.string t280] rfl (by (try simp only [List.map_toArray, List.map_cons, List.map_nil]); first | done | rfl | (simp only [List.length_drop, List.length_take]; rfl)) ?_; (with_reducible refine (impl_Unhex.calls kj34 t280 t281 true _ A45.out).mono ?_); rintro e w52 ⟨rfl, hb⟩; refine ⟨_, rfl, ?_⟩; have n0_ := Aside0.mk (below_step (by repeat (first | (with_reducible first | exact HB.out | apply below_alloc | apply pw_below_drewN | apply below_drew1) | exact HB.out)) hb); clear HB; have HB := n0_; clear n0_; (try clear hb); (try clear hb2); (try clear hk); (try clear hi)) | ((with_reducible refine gate_callee (f := 49) rfl ?_); refine goesL_ (some 122) rfl rfl Tryd.func49 (by kernel_rfl) rfl #[.slice A0 l0.length c0] rfl (by (try simp only [List.map_toArray, List.map_cons, List.map_nil]); first | done | rfl | (simp only [List.length_drop, List.length_take]; rfl)) ?_; (with_reducible refine (spec_DrawReadVar.calls kj34 _ _ l0 t283 _ ?side1 ?side2 A46.out).mono ?_); (case side1 => repeat (first | exact (Kd.C_below HR0.out HB.out) | (with_reducible refine Kd.C_alloc ?_ _) | (with_reducible refine Kd.C_drewN ?_ _) | (with_reducible refine Kd.C_drew ?_))); (case side2 => exact HC0.out); rintro e w53 ⟨rfl, hb⟩; refine ⟨_, rfl, ?_⟩; have n0_ := Aside0.mk (below_step (by repeat (first | (with_reducible first | exact HB.out | apply below_alloc | apply pw_below_drewN | apply below_drew1) | exact HB.out)) hb); clear HB; have HB := n0_; clear n0_; (try clear hb); (try clear hb2); (try clear hk); (try clear hi)) | ((with_reducible refine gate_callee (f := 42) rfl ?_); refine goesL_ (some 123) rfl rfl Tryd.func42 (by kernel_rfl) rfl #[.string t283] rfl (by (try simp only [List.map_toArray, List.map_cons, List.map_nil]); first | done | rfl | (simp only [List.length_drop, List.length_take]; rfl)) ?_; (with_reducible refine (impl_ReadVar.calls kj34 t283 t284 t285 _ A47.out).mono ?_); rintro e w' ⟨rfl, ⟨nd, rfl⟩⟩; refine ⟨_, rfl, ?_⟩))
                                go_ret
                                exact ⟨by first | rfl | (simp [errW_none, errW_some] <;> rfl) | (simp [*, errW_none, errW_some] <;> rfl), by repeat (first | (with_reducible first | exact HB.out | apply below_alloc | apply pw_below_drewN | apply below_drew1) | exact HB.out)⟩
                              · rw [if_neg c50] at H
                                have c50b0 : (t285 == 0) = false := beq_eq_false_iff_ne.mpr c50
                                have c50b1 : (t285 != 0) = true := bne_iff_ne.mpr c50
                                replace H := Option.bind_eq_some_iff.mp H
                                obtain ⟨t286, A540, H⟩ := H
                                replace H : ((spec_DrawReadVar.f kj34 l0).bind fun t287 => (if 0 ≤ t285 then (if t285 ≤ (t287.size : Int) then (some (t286.toList == (t287.extract 0 (t285 : Int).toNat).toList)) else (none)) else (none))) = some r := H
                                have A54 := Aside0.mk A540
                                clear A540
                                replace H := Option.bind_eq_some_iff.mp H
                                obtain ⟨t287, A550, H⟩ := H
                                replace H : (if 0 ≤ t285 then (if t285 ≤ (t287.size : Int) then (some (t286.toList == (t287.extract 0 (t285 : Int).toNat).toList)) else (none)) else (none)) = some r := H
                                have A55 := Aside0.mk A550
                                clear A550
                                by_cases c56 : 0 ≤ t285
                                · rw [if_pos c56] at H
                                  have c56b0 := eq_true c56
                                  have c56b1 : decide (0 ≤ t285) = true := decide_eq_true c56
                                  clear c56
                                  by_cases c57 : t285 ≤ (t287.size : Int)
                                  · rw [if_pos c57] at H
                                    have c57b0 := eq_true c57
                                    have c57b1 : decide (t285 ≤ (t287.size : Int)) = true := decide_eq_true c57
                                    clear c57
                                    obtain rfl := Option.some.inj H
                                    go_wp2_with (first | ((with_reducible refine gate_callee (f := 48) rfl ?_); refine goesL_ (some 116) rfl rfl Tryd.func48 (by kernel_rfl) rfl #[.string t270] rfl (by (try simp only [List.map_toArray, List.map_cons, List.map_nil]); first | done | rfl | (simp only [List.length_drop, List.length_take]; rfl)) ?_; (with_reducible refine (impl_Hex.calls kj34 t270 t280 _ A44.out).mono ?_); rintro e w58 ⟨rfl, hb⟩; refine ⟨_, rfl, ?_⟩; have n0_ := Aside0.mk (below_step (by repeat (first | (with_reducible first | exact HB.out | apply below_alloc | apply pw_below_drewN | apply below_drew1) | exact HB.out)) hb); clear HB; have HB := n0_; clear n0_; (try clear hb); (try clear hb2); (try clear hk); (try clear hi)) | ((with_reducible refine gate_callee (f := 47) rfl ?_); refine goesL_ (some 117) rfl rfl Tryd.func47 (by kernel_rfl) rfl #[.string t280] rfl (by (try simp only [List.map_toArray, List.map_cons, List.map_nil]); first | done | rfl | (simp only [List.length_drop, List.length_take]; rfl)) ?_; (with_reducible refine (impl_Unhex.calls kj34 t280 t281 true _ A45.out).mono ?_); rintro e w59 ⟨rfl, hb⟩; refine ⟨_, rfl, ?_⟩; have n0_ := Aside0.mk (below_step (by repeat (first | (with_reducible first | exact HB.out | apply below_alloc | apply pw_below_drewN | apply below_drew1) | exact HB.out)) hb); clear HB; have HB := n0_; clear n0_; (try clear hb); (try clear hb2); (try clear hk); (try clear hi)) | ((with_reducible refine gate_callee (f := 49) rfl ?_); refine goesL_ (some 122) rfl rfl Tryd.func49 (by kernel_rfl) rfl #[.slice A0 l0.length c0] rfl (by (try simp only [List.map_toArray, List.map_cons, List.map_nil]); first | done | rfl | (simp only [List.length_drop, List.length_take]; rfl)) ?_; (with_reducible refine (spec_DrawReadVar.calls kj34 _ _ l0 t283 _ ?side1 ?side2 A46.out).mono ?_); (case side1 => repeat (first | exact (Kd.C_below HR0.out HB.out) | (with_reducible refine Kd.C_alloc ?_ _) | (with_reducible refine Kd.C_drewN ?_ _) | (with_reducible refine Kd.C_drew ?_))); (case side2 => exact HC0.out); rintro e w60 ⟨rfl, hb⟩; refine ⟨_, rfl, ?_⟩; have n0_ := Aside0.mk (below_step (by repeat (first | (with_reducible first | exact HB.out | apply below_alloc | apply pw_below_drewN | apply below_drew1) | exact HB.out)) hb); clear HB; have HB := n0_; clear n0_; (try clear hb); (try clear hb2); (try clear hk); (try clear hi)) | ((with_reducible refine gate_callee (f := 42) rfl ?_); refine goesL_ (some 123) rfl rfl Tryd.func42 (by kernel_rfl) rfl #[.string t283] rfl (by (try simp only [List.map_toArray, List.map_cons, List.map_nil]); first | done | rfl | (simp only [List.length_drop, List.length_take]; rfl)) ?_; (with_reducible refine (impl_ReadVar.calls kj34 t283 t284 t285 _ A47.out).mono ?_); rintro e w' ⟨rfl, ⟨nd, rfl⟩⟩; refine ⟨_, rfl, ?_⟩) | (go_at_call 41; (with_reducible refine (impl_Var.calls kj34 t284 t286 _ A54.out).mono ?_); rintro e w61 ⟨rfl, hb⟩; have n0_ := Aside0.mk (below_step (by repeat (first | (with_reducible first | exact HB.out | apply below_alloc | apply pw_below_drewN | apply below_drew1) | exact HB.out)) hb); clear HB; have HB := n0_; clear n0_; (try clear hb); (try clear hb2); (try clear hk); (try clear hi)) | (go_at_call 49; (with_reducible refine (spec_DrawReadVar.calls kj34 _ _ l0 t287 _ ?side1 ?side2 A55.out).mono ?_); (case side1 => repeat (first | exact (Kd.C_below HR0.out HB.out) | (with_reducible refine Kd.C_alloc ?_ _) | (with_reducible refine Kd.C_drewN ?_ _) | (with_reducible refine Kd.C_drew ?_))); (case side2 => exact HC0.out); rintro e w62 ⟨rfl, hb⟩; have n0_ := Aside0.mk (below_step (by repeat (first | (with_reducible first | exact HB.out | apply below_alloc | apply pw_below_drewN | apply below_drew1) | exact HB.out)) hb); clear HB; have HB := n0_; clear n0_; (try clear hb); (try clear hb2); (try clear hk); (try clear hi)))
                                    go_ret
                                    exact ⟨by first | rfl | (simp [errW_none, errW_some] <;> rfl) | (simp [*, errW_none, errW_some] <;> rfl), by repeat (first | (with_reducible first | exact HB.out | apply below_alloc | apply pw_below_drewN | apply below_drew1) | exact HB.out)⟩
                                  · rw [if_neg c57] at H
                                    exact absurd H (by simp)
                                · rw [if_neg c56] at H
                                  exact absurd H (by simp)
                            · rw [if_neg c49] at H
                              have c49b0 : (t281.toList == t270.toList) = false := beq_eq_false_iff_ne.mpr c49
                              have c49b1 : (t281.toList != t270.toList) = true := bne_iff_ne.mpr c49
                              obtain rfl := Option.some.inj H
                              go_wp2_with (first | ((with_reducible refine gate_callee (f := 48) rfl ?_); refine goesL_ (some 116) rfl rfl Tryd.func48 (by kernel_rfl) rfl #[.string t270] rfl (by (try simp only [List.map_toArray, List.map_cons, List.map_nil]); first | done | rfl | (simp only [List.length_drop, List.length_take]; rfl)) ?_; (with_reducible refine (impl_Hex.calls kj34 t270 t280 _ A44.out).mono ?_); rintro e w63 ⟨rfl, hb⟩; refine ⟨_, rfl, ?_⟩; have n0_ := Aside0.mk (below_step (by repeat (first | (with_reducible first | exact HB.out | apply below_alloc | apply pw_below_drewN | apply below_drew1) | exact HB.out)) hb); clear HB; have HB := n0_; clear n0_; (try clear hb); (try clear hb2); (try clear hk); (try clear hi)) | ((with_reducible refine gate_callee (f := 47) rfl ?_); refine goesL_ (some 117) rfl rfl Tryd.func47 (by kernel_rfl) rfl #[.string t280] rfl (by (try simp only [List.map_toArray, List.map_cons, List.map_nil]); first | done | rfl | (simp only [List.length_drop, List.length_take]; rfl)) ?_; (with_reducible refine (impl_Unhex.calls kj34 t280 t281 true _ A45.out).mono ?_); rintro e w64 ⟨rfl, hb⟩; refine ⟨_, rfl, ?_⟩; have n0_ := Aside0.mk (below_step (by repeat (first | (with_reducible first | exact HB.out | apply below_alloc | apply pw_below_drewN | apply below_drew1) | exact HB.out)) hb); clear HB; have HB := n0_; clear n0_; (try clear hb); (try clear hb2); (try clear hk); (try clear hi)) | ((with_reducible refine gate_callee (f := 49) rfl ?_); refine goesL_ (some 122) rfl rfl Tryd.func49 (by kernel_rfl) rfl #[.slice A0 l0.length c0] rfl (by (try simp only [List.map_toArray, List.map_cons, List.map_nil]); first | done | rfl | (simp only [List.length_drop, List.length_take]; rfl)) ?_; (with_reducible refine (spec_DrawReadVar.calls kj34 _ _ l0 t283 _ ?side1 ?side2 A46.out).mono ?_); (case side1 => repeat (first | exact (Kd.C_below HR0.out HB.out) | (with_reducible refine Kd.C_alloc ?_ _) | (with_reducible refine Kd.C_drewN ?_ _) | (with_reducible refine Kd.C_drew ?_))); (case side2 => exact HC0.out); rintro e w65 ⟨rfl, hb⟩; refine ⟨_, rfl, ?_⟩; have n0_ := Aside0.mk (below_step (by repeat (first | (with_reducible first | exact HB.out | apply below_alloc | apply pw_below_drewN | apply below_drew1) | exact HB.out)) hb); clear HB; have HB := n0_; clear n0_; (try clear hb); (try clear hb2); (try clear hk); (try clear hi)) | ((with_reducible refine gate_callee (f := 42) rfl ?_); refine goesL_ (some 123) rfl rfl Tryd.func42 (by kernel_rfl) rfl #[.string t283] rfl (by (try simp only [List.map_toArray, List.map_cons, List.map_nil]); first | done | rfl | (simp only [List.length_drop, List.length_take]; rfl)) ?_; (with_reducible refine (impl_ReadVar.calls kj34 t283 t284 t285 _ A47.out).mono ?_); rintro e w' ⟨rfl, ⟨nd, rfl⟩⟩; refine ⟨_, rfl, ?_⟩))
                              go_ret
                              exact ⟨by first | rfl | (simp [errW_none, errW_some] <;> rfl) | (simp [*, errW_none, errW_some] <;> rfl), by repeat (first | (with_reducible first | exact HB.out | apply below_alloc | apply pw_below_drewN | apply below_drew1) | exact HB.out)⟩
                          · replace c48 := Bool.eq_false_iff.mpr c48
                            subst c48
                            have H1 : (some false) = some r := by rw [if_neg (show ¬ (false = true) by decide)] at H; exact H
                            clear H
                            have H := H1
                            clear H1
                            obtain rfl := Option.some.inj H
                            go_wp2_with (first | ((with_reducible refine gate_callee (f := 48) rfl ?_); refine goesL_ (some 116) rfl rfl Tryd.func48 (by kernel_rfl) rfl #[.string t270] rfl (by (try simp only [List.map_toArray, List.map_cons, List.map_nil]); first | done | rfl | (simp only [List.length_drop, List.length_take]; rfl)) ?_; (with_reducible refine (impl_Hex.calls kj34 t270 t280 _ A44.out).mono ?_); rintro e w66 ⟨rfl, hb⟩; refine ⟨_, rfl, ?_⟩; have n0_ := Aside0.mk (below_step (by repeat (first | (with_reducible first | exact HB.out | apply below_alloc | apply pw_below_drewN | apply below_drew1) | exact HB.out)) hb); clear HB; have HB := n0_; clear n0_; (try clear hb); (try clear hb2); (try clear hk); (try clear hi)) | ((with_reducible refine gate_callee (f := 47) rfl ?_); refine goesL_ (some 117) rfl rfl Tryd.func47 (by kernel_rfl) rfl #[.string t280] rfl (by (try simp only [List.map_toArray, List.map_cons, List.map_nil]); first | done | rfl | (simp only [List.length_drop, List.length_take]; rfl)) ?_; (with_reducible refine (impl_Unhex.calls kj34 t280 t281 false _ A45.out).mono ?_); rintro e w67 ⟨rfl, hb⟩; refine ⟨_, rfl, ?_⟩; have n0_ := Aside0.mk (below_step (by repeat (first | (with_reducible first | exact HB.out | apply below_alloc | apply pw_below_drewN | apply below_drew1) | exact HB.out)) hb); clear HB; have HB := n0_; clear n0_; (try clear hb); (try clear hb2); (try clear hk); (try clear hi)) | ((with_reducible refine gate_callee (f := 49) rfl ?_); refine goesL_ (some 122) rfl rfl Tryd.func49 (by kernel_rfl) rfl #[.slice A0 l0.length c0] rfl (by (try simp only [List.map_toArray, List.map_cons, List.map_nil]); first | done | rfl | (simp only [List.length_drop, List.length_take]; rfl)) ?_; (with_reducible refine (spec_DrawReadVar.calls kj34 _ _ l0 t283 _ ?side1 ?side2 A46.out).mono ?_); (case side1 => repeat (first | exact (Kd.C_below HR0.out HB.out) | (with_reducible refine Kd.C_alloc ?_ _) | (with_reducible refine Kd.C_drewN ?_ _) | (with_reducible refine Kd.C_drew ?_))); (case side2 => exact HC0.out); rintro e w68 ⟨rfl, hb⟩; refine ⟨_, rfl, ?_⟩; have n0_ := Aside0.mk (below_step (by repeat (first | (with_reducible first | exact HB.out | apply below_alloc | apply pw_below_drewN | apply below_drew1) | exact HB.out)) hb); clear HB; have HB := n0_; clear n0_; (try clear hb); (try clear hb2); (try clear hk); (try clear hi)) | ((with_reducible refine gate_callee (f := 42) rfl ?_); refine goesL_ (some 123) rfl rfl Tryd.func42 (by kernel_rfl) rfl #[.string t283] rfl (by (try simp only [List.map_toArray, List.map_cons, List.map_nil]); first | done | rfl | (simp only [List.length_drop, List.length_take]; rfl)) ?_; (with_reducible refine (impl_ReadVar.calls kj34 t283 t284 t285 _ A47.out).mono ?_); rintro e w' ⟨rfl, ⟨nd, rfl⟩⟩; refine ⟨_, rfl, ?_⟩))
                            go_ret
                            exact ⟨by first | rfl | (simp [errW_none, errW_some] <;> rfl) | (simp [*, errW_none, errW_some] <;> rfl), by repeat (first | (with_reducible first | exact HB.out | apply below_alloc | apply pw_below_drewN | apply below_drew1) | exact HB.out)⟩
            · rw [if_neg c22] at H
              exact absurd H (by simp)
    · rw [if_neg c7] at H
      exact absurd H (by simp)

end Go.Proofs.YtmpmfaaodjmpjaaDoor.PFnNumbers

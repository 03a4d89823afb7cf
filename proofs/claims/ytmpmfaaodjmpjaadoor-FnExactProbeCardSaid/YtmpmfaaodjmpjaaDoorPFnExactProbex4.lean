-- Out of the kit's print, with contracts of mine among it (myprint.py).
import Derived.Test.YtmpmfaaodjmpjaaDoorPFnExactProbex0
import Derived.Test.YtmpmfaaodjmpjaaDoorPFnExactProbex2
import Derived.Test.YtmpmfaaodjmpjaaDoorPFnExactProbex3
namespace Go.Proofs.YtmpmfaaodjmpjaaDoor.PFnExactProbe
open Go.RowKit Go.Proofs.YtmpmfaaodjmpjaaDoorW.PrintWords Go.Proofs.YtmpmfaaodjmpjaaDoorW.PrintLast Go.Proofs.YtmpmfaaodjmpjaaDoorW.PrintMore
attribute [local go_sem] max2_int min2_int max_two min_two max_three min_three max_four min_four   -- for this text's walks alone
set_option linter.unusedVariables false
set_option linter.unusedSimpArgs false

/-! ### impl_Candidates: function 22 -/
mutual
def impl_Candidates.j1 : Nat → List ByteArray → Option (List ByteArray)
 | 0, _ => none
 | k + 1, x5 => impl_Candidates.l1 k (([] : List ByteArray)) x5 (x5.length : Int) 0
def impl_Candidates.l1 : Nat → List ByteArray → List ByteArray → Int → Int → Option (List ByteArray)
 | 0, _, _, _, _ => none
 | k + 1, x8, x42, x43, x44 => if x44 < x43 then (if 0 ≤ x44 then (if x44 < (x42.length : Int) then (if (rdOf ByteArray.empty x42 x44).toList = ([] : List UInt8) then (impl_Candidates.l1 k x8 x42 x43 (wrap64 (x44 + 1))) else (if (rdOf ByteArray.empty x42 x44).size + 3 ≤ 9223372036854775807 then (if (rdOf ByteArray.empty x42 x44).size + 9 ≤ 9223372036854775807 then ((some (([rdOf ByteArray.empty x42 x44, (rdOf ByteArray.empty x42 x44) ++ (⟨#[46, 106, 115]⟩ : ByteArray), (rdOf ByteArray.empty x42 x44) ++ (⟨#[47, 105, 110, 100, 101, 120, 46, 106, 115]⟩ : ByteArray)] : List ByteArray) : List ByteArray)).bind fun y180 => (impl_Candidates.l2 k x8 x42 x43 x44 y180 (y180.length : Int) 0)) else (none)) else (none))) else (none)) else (none)) else (some x8)
def impl_Candidates.l2 : Nat → List ByteArray → List ByteArray → Int → Int → List ByteArray → Int → Int → Option (List ByteArray)
 | 0, _, _, _, _, _, _, _ => none
 | k + 1, x8, x42, x43, x44, x55, x56, x57 => if x57 < x56 then (if 0 ≤ x57 then (if x57 < (x55.length : Int) then ((impl_isPath.f k (rdOf ByteArray.empty x55 x57)).bind fun t184 => (if t184 = true then ((slices_Contains_string_string.f k x8 (rdOf ByteArray.empty x55 x57)).bind fun t185 => (if t185 = true then (impl_Candidates.l2 k x8 x42 x43 x44 x55 x56 (wrap64 (x57 + 1))) else (if x8.length < 8796093022208 then (impl_Candidates.l2 k (x8 ++ [rdOf ByteArray.empty x55 x57]) x42 x43 x44 x55 x56 (wrap64 (x57 + 1))) else (none)))) else (impl_Candidates.l2 k x8 x42 x43 x44 x55 x56 (wrap64 (x57 + 1))))) else (none)) else (none)) else (impl_Candidates.l1 k x8 x42 x43 (wrap64 (x44 + 1)))
def impl_Candidates.l0 : Nat → ByteArray → List ByteArray → List ByteArray → Int → Int → Option (List ByteArray)
 | 0, _, _, _, _, _ => none
 | k + 1, x1, x5, x26, x27, x28 => if x28 < x27 then (if 0 ≤ x28 then (if x28 < (x26.length : Int) then (if (rdOf ByteArray.empty x26 x28).size + 5 ≤ 9223372036854775807 then (if ((rdOf ByteArray.empty x26 x28) ++ (⟨#[47, 108, 105, 98, 47]⟩ : ByteArray)).size + x1.size ≤ 9223372036854775807 then ((impl_Clean.f k (((rdOf ByteArray.empty x26 x28) ++ (⟨#[47, 108, 105, 98, 47]⟩ : ByteArray)) ++ x1)).bind fun t172 => (if x5.length < 8796093022208 then (impl_Candidates.l0 k x1 (x5 ++ [t172]) x26 x27 (wrap64 (x28 + 1))) else (none))) else (none)) else (none)) else (none)) else (none)) else (impl_Candidates.j1 k x5)
end
def impl_Candidates.f (k : Nat) (a0 : ByteArray) (a1 : ByteArray) : Option (List ByteArray) := (impl_isPath.f k a0).bind fun t159 => (if t159 = true then ((some (([] : List ByteArray) : List ByteArray)).bind fun y160 => ((impl_isNear.f a1).bind fun t163 => (if t163 = true then ((impl_Resolve.f k a0 a1).bind fun t164 => (if y160.length < 8796093022208 then (impl_Candidates.j1 k (y160 ++ [t164])) else (none))) else ((impl_Up.f k a0).bind fun t168 => (impl_Candidates.l0 k a1 y160 t168 (t168.length : Int) 0))))) else (some ([] : List ByteArray)))
theorem impl_Candidates.mono_l : ∀ k, (∀ y0, LeO (impl_Candidates.j1 k y0) (impl_Candidates.j1 (k + 1) y0)) ∧ (∀ y0 y1 y2 y3, LeO (impl_Candidates.l1 k y0 y1 y2 y3) (impl_Candidates.l1 (k + 1) y0 y1 y2 y3)) ∧ (∀ y0 y1 y2 y3 y4 y5 y6, LeO (impl_Candidates.l2 k y0 y1 y2 y3 y4 y5 y6) (impl_Candidates.l2 (k + 1) y0 y1 y2 y3 y4 y5 y6)) ∧ (∀ y0 y1 y2 y3 y4, LeO (impl_Candidates.l0 k y0 y1 y2 y3 y4) (impl_Candidates.l0 (k + 1) y0 y1 y2 y3 y4))
 | 0 => ⟨fun _ r h => by simp [impl_Candidates.j1] at h, fun _ _ _ _ r h => by simp [impl_Candidates.l1] at h, fun _ _ _ _ _ _ _ r h => by simp [impl_Candidates.l2] at h, fun _ _ _ _ _ r h => by simp [impl_Candidates.l0] at h⟩
 | k + 1 => by
  obtain ⟨ih0, ih1, ih2, ih3⟩ := impl_Candidates.mono_l k
  refine ⟨?_, ?_, ?_, ?_⟩
  ·intro y0
   unfold impl_Candidates.j1
   repeat' first
   | (with_reducible exact ih0 _)
   | (with_reducible exact ih1 _ _ _ _)
   | (with_reducible exact ih2 _ _ _ _ _ _ _)
   | (with_reducible exact ih3 _ _ _ _ _)
   | (with_reducible exact impl_Clean.mono _ _)
   | (with_reducible exact impl_Resolve.mono _ _ _)
   | (with_reducible exact impl_Up.mono _ _)
   | (with_reducible exact impl_isPath.mono _ _)
   | (with_reducible exact slices_Contains_string_string.mono _ _ _)
   | (with_reducible exact LeO.refl _)
   | (with_reducible exact LeO.none _)
   | (with_reducible refine LeO.ite ?_ ?_)
   | (with_reducible refine LeO.bind ?_ (fun _ => ?_))
   | exact ih0 _
   | exact ih1 _ _ _ _
   | exact ih2 _ _ _ _ _ _ _
   | exact ih3 _ _ _ _ _
   | exact impl_Clean.mono _ _
   | exact impl_Resolve.mono _ _ _
   | exact impl_Up.mono _ _
   | exact impl_isPath.mono _ _
   | exact slices_Contains_string_string.mono _ _ _
   | exact LeO.none _
   | refine LeO.ite ?_ ?_
   | refine LeO.bind ?_ (fun _ => ?_)
  ·intro y0 y1 y2 y3
   unfold impl_Candidates.l1
   repeat' first
   | (with_reducible exact ih0 _)
   | (with_reducible exact ih1 _ _ _ _)
   | (with_reducible exact ih2 _ _ _ _ _ _ _)
   | (with_reducible exact ih3 _ _ _ _ _)
   | (with_reducible exact impl_Clean.mono _ _)
   | (with_reducible exact impl_Resolve.mono _ _ _)
   | (with_reducible exact impl_Up.mono _ _)
   | (with_reducible exact impl_isPath.mono _ _)
   | (with_reducible exact slices_Contains_string_string.mono _ _ _)
   | (with_reducible exact LeO.refl _)
   | (with_reducible exact LeO.none _)
   | (with_reducible refine LeO.ite ?_ ?_)
   | (with_reducible refine LeO.bind ?_ (fun _ => ?_))
   | exact ih0 _
   | exact ih1 _ _ _ _
   | exact ih2 _ _ _ _ _ _ _
   | exact ih3 _ _ _ _ _
   | exact impl_Clean.mono _ _
   | exact impl_Resolve.mono _ _ _
   | exact impl_Up.mono _ _
   | exact impl_isPath.mono _ _
   | exact slices_Contains_string_string.mono _ _ _
   | exact LeO.none _
   | refine LeO.ite ?_ ?_
   | refine LeO.bind ?_ (fun _ => ?_)
  ·intro y0 y1 y2 y3 y4 y5 y6
   unfold impl_Candidates.l2
   repeat' first
   | (with_reducible exact ih0 _)
   | (with_reducible exact ih1 _ _ _ _)
   | (with_reducible exact ih2 _ _ _ _ _ _ _)
   | (with_reducible exact ih3 _ _ _ _ _)
   | (with_reducible exact impl_Clean.mono _ _)
   | (with_reducible exact impl_Resolve.mono _ _ _)
   | (with_reducible exact impl_Up.mono _ _)
   | (with_reducible exact impl_isPath.mono _ _)
   | (with_reducible exact slices_Contains_string_string.mono _ _ _)
   | (with_reducible exact LeO.refl _)
   | (with_reducible exact LeO.none _)
   | (with_reducible refine LeO.ite ?_ ?_)
   | (with_reducible refine LeO.bind ?_ (fun _ => ?_))
   | exact ih0 _
   | exact ih1 _ _ _ _
   | exact ih2 _ _ _ _ _ _ _
   | exact ih3 _ _ _ _ _
   | exact impl_Clean.mono _ _
   | exact impl_Resolve.mono _ _ _
   | exact impl_Up.mono _ _
   | exact impl_isPath.mono _ _
   | exact slices_Contains_string_string.mono _ _ _
   | exact LeO.none _
   | refine LeO.ite ?_ ?_
   | refine LeO.bind ?_ (fun _ => ?_)
  ·intro y0 y1 y2 y3 y4
   unfold impl_Candidates.l0
   repeat' first
   | (with_reducible exact ih0 _)
   | (with_reducible exact ih1 _ _ _ _)
   | (with_reducible exact ih2 _ _ _ _ _ _ _)
   | (with_reducible exact ih3 _ _ _ _ _)
   | (with_reducible exact impl_Clean.mono _ _)
   | (with_reducible exact impl_Resolve.mono _ _ _)
   | (with_reducible exact impl_Up.mono _ _)
   | (with_reducible exact impl_isPath.mono _ _)
   | (with_reducible exact slices_Contains_string_string.mono _ _ _)
   | (with_reducible exact LeO.refl _)
   | (with_reducible exact LeO.none _)
   | (with_reducible refine LeO.ite ?_ ?_)
   | (with_reducible refine LeO.bind ?_ (fun _ => ?_))
   | exact ih0 _
   | exact ih1 _ _ _ _
   | exact ih2 _ _ _ _ _ _ _
   | exact ih3 _ _ _ _ _
   | exact impl_Clean.mono _ _
   | exact impl_Resolve.mono _ _ _
   | exact impl_Up.mono _ _
   | exact impl_isPath.mono _ _
   | exact slices_Contains_string_string.mono _ _ _
   | exact LeO.none _
   | refine LeO.ite ?_ ?_
   | refine LeO.bind ?_ (fun _ => ?_)
theorem impl_Candidates.mono : ∀ a0 a1 k, LeO (impl_Candidates.f k a0 a1) (impl_Candidates.f (k + 1) a0 a1) := by
 intro a0 a1 k
 obtain ⟨ih0, ih1, ih2, ih3⟩ := impl_Candidates.mono_l k
 unfold impl_Candidates.f
 repeat' first
   | (with_reducible exact ih0 _)
   | (with_reducible exact ih1 _ _ _ _)
   | (with_reducible exact ih2 _ _ _ _ _ _ _)
   | (with_reducible exact ih3 _ _ _ _ _)
   | (with_reducible exact impl_Clean.mono _ _)
   | (with_reducible exact impl_Resolve.mono _ _ _)
   | (with_reducible exact impl_Up.mono _ _)
   | (with_reducible exact impl_isPath.mono _ _)
   | (with_reducible exact slices_Contains_string_string.mono _ _ _)
   | (with_reducible exact LeO.refl _)
   | (with_reducible exact LeO.none _)
   | (with_reducible refine LeO.ite ?_ ?_)
   | (with_reducible refine LeO.bind ?_ (fun _ => ?_))
   | exact ih0 _
   | exact ih1 _ _ _ _
   | exact ih2 _ _ _ _ _ _ _
   | exact ih3 _ _ _ _ _
   | exact impl_Clean.mono _ _
   | exact impl_Resolve.mono _ _ _
   | exact impl_Up.mono _ _
   | exact impl_isPath.mono _ _
   | exact slices_Contains_string_string.mono _ _ _
   | exact LeO.none _
   | refine LeO.ite ?_ ?_
   | refine LeO.bind ?_ (fun _ => ?_)
set_option maxHeartbeats 8000000 in
set_option maxRecDepth 100000 in
theorem impl_Candidates.calls (k : Nat) (a0 : ByteArray) (a1 : ByteArray) (r : List ByteArray) (w : World) (HT : TabsL w) (h : impl_Candidates.f k a0 a1 = some r) :
  Calls Tryd.prog 22 #[.string a0, .string a1] w fun e w' => ∃ v0_ : Value, e = .returned (v0_) ∧ Kd.R Kd.string 9 w' w.heap.size (fun _ => True) v0_ r ∧ Below w.heap.size w w' := by
 have HTA := Aside0.mk HT
 clear HT
 have HB := Aside0.mk (Below.refl w.heap.size w)
 have H : ((impl_isPath.f k a0).bind fun t159 => (if t159 = true then ((some (([] : List ByteArray) : List ByteArray)).bind fun y160 => ((impl_isNear.f a1).bind fun t163 => (if t163 = true then ((impl_Resolve.f k a0 a1).bind fun t164 => (if y160.length < 8796093022208 then (impl_Candidates.j1 k (y160 ++ [t164])) else (none))) else ((impl_Up.f k a0).bind fun t168 => (impl_Candidates.l0 k a1 y160 t168 (t168.length : Int) 0))))) else (some ([] : List ByteArray)))) = some r := h
 clear h
 replace H := Option.bind_eq_some_iff.mp H
 obtain ⟨t159, A30, H⟩ := H
 replace H : (if t159 = true then ((some (([] : List ByteArray) : List ByteArray)).bind fun y160 => ((impl_isNear.f a1).bind fun t163 => (if t163 = true then ((impl_Resolve.f k a0 a1).bind fun t164 => (if y160.length < 8796093022208 then (impl_Candidates.j1 k (y160 ++ [t164])) else (none))) else ((impl_Up.f k a0).bind fun t168 => (impl_Candidates.l0 k a1 y160 t168 (t168.length : Int) 0))))) else (some ([] : List ByteArray))) = some r := H
 have A3 := Aside0.mk A30
 clear A30
 by_cases c4 : t159 = true
 ·subst c4
  have H1 : ((some (([] : List ByteArray) : List ByteArray)).bind fun y160 => ((impl_isNear.f a1).bind fun t163 => (if t163 = true then ((impl_Resolve.f k a0 a1).bind fun t164 => (if y160.length < 8796093022208 then (impl_Candidates.j1 k (y160 ++ [t164])) else (none))) else ((impl_Up.f k a0).bind fun t168 => (impl_Candidates.l0 k a1 y160 t168 (t168.length : Int) 0))))) = some r := by rw [if_pos rfl] at H; exact H
  clear H
  have H := H1
  clear H1
  obtain ⟨y160, hy160⟩ : ∃ y_ : List ByteArray, y_ = (([] : List ByteArray)) := ⟨_, rfl⟩
  replace H : ((impl_isNear.f a1).bind fun t163 => (if t163 = true then ((impl_Resolve.f k a0 a1).bind fun t164 => (if y160.length < 8796093022208 then (impl_Candidates.j1 k (y160 ++ [t164])) else (none))) else ((impl_Up.f k a0).bind fun t168 => (impl_Candidates.l0 k a1 y160 t168 (t168.length : Int) 0)))) = some r := by first | (rw [hy160]; with_reducible exact H) | (have H2_ := (Option.bind_some _ _).symm.trans H; rw [hy160]; with_reducible exact H2_) | (have H2_ := (Option.bind_some _ _).symm.trans H; with_reducible exact H2_) | with_reducible exact H | (rw [hy160]; exact H) | exact H
  have Ny160 := Aside0.mk hy160
  clear hy160
  replace H := Option.bind_eq_some_iff.mp H
  obtain ⟨t163, A50, H⟩ := H
  replace H : (if t163 = true then ((impl_Resolve.f k a0 a1).bind fun t164 => (if y160.length < 8796093022208 then (impl_Candidates.j1 k (y160 ++ [t164])) else (none))) else ((impl_Up.f k a0).bind fun t168 => (impl_Candidates.l0 k a1 y160 t168 (t168.length : Int) 0))) = some r := H
  have A5 := Aside0.mk A50
  clear A50
  have HC6 := Aside0.mk H
  clear H
  go_enter Tryd.func22, Tryd.ntmps22
  go_upto_if 18 with (first | ((with_reducible refine gate_callee (f := 77) rfl ?_); refine goesL_ (some 14) rfl rfl Tryd.func77 (by kernel_rfl) rfl #[.string a0] rfl (by (try simp only [List.map_toArray, List.map_cons, List.map_nil]); first | done | rfl | (simp only [List.length_drop, List.length_take]; rfl)) ?_; (with_reducible refine (impl_isPath.calls k a0 true _ A3.out).mono ?_); rintro e w' ⟨rfl, ⟨nd, rfl⟩⟩; refine ⟨_, rfl, ?_⟩) | ((with_reducible refine gate_dst (N := 16) rfl ?_); refine Kd.R_lit Kd.string _ 9 ?hg (N := 16) ?hd (xs := ([] : List ByteArray)) (inner := []) (ok := fun _ => True) (okp := fun _ => True) ?hr ?hp (fun _ hk => hk) trivial (Below.refl _ _) (Nat.le_refl _) (by simp) ?_; (case hd => rfl); (case hg => rfl); (case hr => first | (go_simp; done) | (go_simp; rfl)); (case hp => exact (Reps.none _ _)); intro v161 w7 ho8 hb hg_ hnew_; clear hg_ hnew_; (first | rw [← Ny160.out] at ho8 | (simp only [Int.reduceToNat] at ho8; rw [← Ny160.out] at ho8)); have n0_ := Aside0.mk (Kd.R_lower ho8 (below_size (by repeat (first | (with_reducible first | exact HB.out | apply below_alloc | apply pw_below_drewN | apply below_drew1) | exact HB.out)))); have n1_ := Aside0.mk (below_step (by repeat (first | (with_reducible first | exact HB.out | apply below_alloc | apply pw_below_drewN | apply below_drew1) | exact HB.out)) hb); clear HB; have HO162 := n0_; have HB := n1_; clear n0_ n1_; clear hb ho8) | ((with_reducible refine gate_callee (f := 78) rfl ?_); refine goesL_ (some 18) rfl rfl Tryd.func78 (by kernel_rfl) rfl #[.string a1] rfl (by (try simp only [List.map_toArray, List.map_cons, List.map_nil]); first | done | rfl | (simp only [List.length_drop, List.length_take]; rfl)) ?_; (with_reducible refine (impl_isNear.calls a1 t163 _ A5.out).mono ?_); rintro e w' ⟨rfl, ⟨nd, rfl⟩⟩; refine ⟨_, rfl, ?_⟩))
  (try simp only [Act.put, List.setIfInBounds_toArray, List.set_cons_zero, List.set_cons_succ])
  go_cut [5] (fun v5 wc => ∃ (kq : Nat) (x5_5 : List ByteArray), Aside0 (impl_Candidates.j1 kq x5_5 = some r) ∧ Aside0 (kq ≤ k) ∧ Aside0 (Kd.R Kd.string 9 wc w.heap.size (fun _ => True) v5 x5_5) ∧ Aside0 (Below w.heap.size w wc))
  case first =>
   have H := HC6.out
   clear HC6
   by_cases c9 : t163 = true
   ·subst c9
    have H1 : ((impl_Resolve.f k a0 a1).bind fun t164 => (if y160.length < 8796093022208 then (impl_Candidates.j1 k (y160 ++ [t164])) else (none))) = some r := by rw [if_pos rfl] at H; exact H
    clear H
    have H := H1
    clear H1
    replace H := Option.bind_eq_some_iff.mp H
    obtain ⟨t164, A100, H⟩ := H
    replace H : (if y160.length < 8796093022208 then (impl_Candidates.j1 k (y160 ++ [t164])) else (none)) = some r := H
    have A10 := Aside0.mk A100
    clear A100
    by_cases c11 : y160.length < 8796093022208
    ·rw [if_pos c11] at H
     have LMc11 := Aside0.mk c11
     clear c11
     obtain ⟨y165, hy165⟩ : ∃ y_ : List ByteArray, y_ = (y160 ++ [t164]) := ⟨_, rfl⟩
     replace H : (impl_Candidates.j1 k y165) = some r := by first | (rw [hy165]; with_reducible exact H) | (have H2_ := (Option.bind_some _ _).symm.trans H; rw [hy165]; with_reducible exact H2_) | (have H2_ := (Option.bind_some _ _).symm.trans H; with_reducible exact H2_) | with_reducible exact H | (rw [hy165]; exact H) | exact H
     have Ny165 := Aside0.mk hy165
     clear hy165
     have H' := Aside0.mk H
     clear H
     go_wp2_with (first | ((with_reducible refine gate_callee (f := 79) rfl ?_); refine goesL_ (some 22) rfl rfl Tryd.func79 (by kernel_rfl) rfl #[.string a0, .string a1] rfl (by (try simp only [List.map_toArray, List.map_cons, List.map_nil]); first | done | rfl | (simp only [List.length_drop, List.length_take]; rfl)) ?_; (with_reducible refine (impl_Resolve.calls k a0 a1 t164 _ (TabsL.below HTA.out (by repeat (first | (with_reducible first | exact HB.out | apply below_alloc | apply pw_below_drewN | apply below_drew1) | exact HB.out))) A10.out).mono ?_); rintro e w12 ⟨rfl, hb⟩; refine ⟨_, rfl, ?_⟩; have n0_ := Aside0.mk (Kd.R_below (by (with_reducible repeat (first | apply Kd.R_alloc | apply Kd.R_drewN | apply Kd.R_drew)); exact HO162.out) hb); have n1_ := Aside0.mk (below_step (by repeat (first | (with_reducible first | exact HB.out | apply below_alloc | apply pw_below_drewN | apply below_drew1) | exact HB.out)) hb); clear HO162; clear HB; have HO162 := n0_; have HB := n1_; clear n0_ n1_; (try clear hb); (try clear hb2); (try clear hk); (try clear hi)) | ((with_reducible refine gate_builtin (b := .append) (xs := #[.tmp 19, .tmp 23]) rfl ?_); at_builtin; refine Kd.R_append Kd.string (w0 := w) w.heap.size rfl (.tmp 19) (.tmp 23) 31 9 (.string ⟨#[]⟩) 16 rfl Tryd.underlying31 info9 rfl (by decide) (by omega) v161 y160 t164 [.string t164] (fun _ => True) (fun _ => False) rfl rfl ?aP (fun _ hk => hk.elim) ?aF ?aO ?aB ?aS ?aL ?_; (case aP => exact rfl); (case aB => exact (by repeat (first | (with_reducible first | exact HB.out | apply below_alloc | apply pw_below_drewN | apply below_drew1) | exact HB.out))); (case aF => exact (fun _ _ => trivial)); (case aO => exact (by (with_reducible repeat (first | apply Kd.R_alloc | apply Kd.R_drewN | apply Kd.R_drew)); exact HO162.out)); (case aS => exact (below_size (by repeat (first | (with_reducible first | exact HB.out | apply below_alloc | apply pw_below_drewN | apply below_drew1) | exact HB.out)))); (case aL => have := LMc11.out; omega); intro v166 w13 ho hb hg hat; rw [← Ny165.out] at ho; have n0_ := Aside0.mk (hb); have n1_ := Aside0.mk (ho); clear HB; clear HO162; have HB := n0_; have HO167 := n1_; clear n0_ n1_; clear ho hb hg hat))
     go_meet
     case rel => exact ⟨_, (y165), H', ⟨by first | omega | exact Nat.le_refl _⟩, ⟨by (with_reducible repeat (first | apply Kd.R_alloc | apply Kd.R_drewN | apply Kd.R_drew)); (first | exact HO167.out | exact Kd.R_mono HO167.out (fun k_ h_ => by first | exact h_ | (simpa [Value.ownBlock] using h_) | (have e_ : ∀ (A : Option Addr) (n m c : Nat), (Value.slice A n c).ownBlock = (Value.slice A m c).ownBlock := (fun A n m c => by cases A <;> rfl); rw [e_ _ _ 0 _] at h_ ⊢; exact h_)))⟩, ⟨by repeat (first | (with_reducible first | exact HB.out | apply below_alloc | apply pw_below_drewN | apply below_drew1) | exact HB.out)⟩⟩
    ·rw [if_neg c11] at H
     exact absurd H (by simp)
   ·replace c9 := Bool.eq_false_iff.mpr c9
    subst c9
    have H1 : ((impl_Up.f k a0).bind fun t168 => (impl_Candidates.l0 k a1 y160 t168 (t168.length : Int) 0)) = some r := by rw [if_neg (show ¬ (false = true) by decide)] at H; exact H
    clear H
    have H := H1
    clear H1
    replace H := Option.bind_eq_some_iff.mp H
    obtain ⟨t168, A140, H⟩ := H
    replace H : (impl_Candidates.l0 k a1 y160 t168 (t168.length : Int) 0) = some r := H
    have A14 := Aside0.mk A140
    clear A140
    have H' := Aside0.mk H
    clear H
    go_wp2_with (first | ((with_reducible refine gate_callee (f := 80) rfl ?_); refine goesL_ (some 26) rfl rfl Tryd.func80 (by kernel_rfl) rfl #[.string a0] rfl (by (try simp only [List.map_toArray, List.map_cons, List.map_nil]); first | done | rfl | (simp only [List.length_drop, List.length_take]; rfl)) ?_; (with_reducible refine (impl_Up.calls k a0 t168 _ (TabsL.below HTA.out (by repeat (first | (with_reducible first | exact HB.out | apply below_alloc | apply pw_below_drewN | apply below_drew1) | exact HB.out))) A14.out).mono ?_); rintro e w15 ⟨v169, rfl, ho0, hb⟩; refine ⟨_, rfl, ?_⟩; have n0_ := Aside0.mk (Kd.R_elder' (by (with_reducible repeat (first | apply Kd.R_alloc | apply Kd.R_drewN | apply Kd.R_drew)); exact HO162.out) (Kd.R_base ho0) hb); have n1_ := Aside0.mk (Kd.R_lower (Kd.R_new' ho0 (Kd.R_lt (by (with_reducible repeat (first | apply Kd.R_alloc | apply Kd.R_drewN | apply Kd.R_drew)); exact HO162.out))) (below_size (by repeat (first | (with_reducible first | exact HB.out | apply below_alloc | apply pw_below_drewN | apply below_drew1) | exact HB.out)))); have n2_ := Aside0.mk (below_step (by repeat (first | (with_reducible first | exact HB.out | apply below_alloc | apply pw_below_drewN | apply below_drew1) | exact HB.out)) hb); clear HO162; clear HB; have HO162 := n0_; have HO170 := n1_; have HB := n2_; clear n0_ n1_ n2_; (try clear hb); (try clear hb2); (try clear hk); (try clear hi); (try clear ho0); obtain ⟨Ao16, co16, eo16⟩ := Kd.R_slice HO170.out; subst eo16))
    go_loopg [5, 28] k (fun kq v5 v28 w' => ∃ (x5_1 : List ByteArray) (x28_1 : Int), v28 = .int .i64 x28_1 ∧ Aside0 (impl_Candidates.l0 kq a1 x5_1 t168 (t168.length : Int) x28_1 = some r) ∧ Aside0 (kq ≤ k) ∧ Aside0 (Kd.R Kd.string 9 w' w.heap.size (fun k_ => some k_ ≠ ((.slice Ao16 t168.length co16) : Value).ownBlock) v5 x5_1) ∧ Aside0 (Kd.R Kd.string 9 w' w.heap.size (fun k_ => some k_ ≠ (v5 : Value).ownBlock) (.slice Ao16 t168.length co16) t168) ∧ Aside0 (Below w.heap.size w w'))
    case atStart => exact ⟨(y160), (0), (by first | rfl | (simp; done) | (simp [*]; done)), H', ⟨Nat.le_refl _⟩, ⟨by (with_reducible repeat (first | apply Kd.R_alloc | apply Kd.R_drewN | apply Kd.R_drew)); exact Kd.R_mono HO162.out (fun _ hk => hk.2)⟩, ⟨by (with_reducible repeat (first | apply Kd.R_alloc | apply Kd.R_drewN | apply Kd.R_drew)); exact Kd.R_mono HO170.out (fun _ hk => hk.2)⟩, ⟨by repeat (first | (with_reducible first | exact HB.out | apply below_alloc | apply pw_below_drewN | apply below_drew1) | exact HB.out)⟩⟩
    case round =>
     clear H'
     try clear c1
     try clear c2
     try clear p2
     try clear c4
     try clear c7
     try clear c8
     try clear c9
     try clear c11
     obtain ⟨x5_1, x28_1, rfl, HA, HK1, HO_5, HO_26, HB⟩ := hrel
     cases gk with
     | zero => exact absurd HA.out (by simp [impl_Candidates.l0])
     | succ k1 =>
      have H := HA.out
      clear HA
      simp only [impl_Candidates.l0] at H
      by_cases c17 : x28_1 < (t168.length : Int)
      ·rw [if_pos c17] at H
       have c17b0 : decide (x28_1 < (t168.length : Int)) = true := decide_eq_true c17
       clear c17
       (first | rw [c17b0] | (simp only [i64_w, i32_w]; rw [c17b0]) | skip)
       by_cases c18 : 0 ≤ x28_1
       ·rw [if_pos c18] at H
        have c18b0 : decide (0 ≤ x28_1) = true := decide_eq_true c18
        clear c18
        by_cases c19 : x28_1 < (t168.length : Int)
        ·rw [if_pos c19] at H
         have c19b0 : decide (x28_1 < (t168.length : Int)) = true := decide_eq_true c19
         clear c19
         by_cases c20 : (rdOf ByteArray.empty t168 x28_1).size + 5 ≤ 9223372036854775807
         ·rw [if_pos c20] at H
          have c20b0 := eq_true c20
          have c20b1 : decide ((rdOf ByteArray.empty t168 x28_1).size + 5 ≤ 9223372036854775807) = true := decide_eq_true c20
          try have c20b2 : (9223372036854775807 < (rdOf ByteArray.empty t168 x28_1).size + 5) = False := eq_false (Nat.not_lt.2 c20)
          by_cases c21 : ((rdOf ByteArray.empty t168 x28_1) ++ (⟨#[47, 108, 105, 98, 47]⟩ : ByteArray)).size + a1.size ≤ 9223372036854775807
          ·rw [if_pos c21] at H
           have c21b0 := eq_true c21
           have c21b1 : decide (((rdOf ByteArray.empty t168 x28_1) ++ (⟨#[47, 108, 105, 98, 47]⟩ : ByteArray)).size + a1.size ≤ 9223372036854775807) = true := decide_eq_true c21
           try have c21b2 : (9223372036854775807 < ((rdOf ByteArray.empty t168 x28_1) ++ (⟨#[47, 108, 105, 98, 47]⟩ : ByteArray)).size + a1.size) = False := eq_false (Nat.not_lt.2 c21)
           replace H := Option.bind_eq_some_iff.mp H
           obtain ⟨t172, A220, H⟩ := H
           replace H : (if x5_1.length < 8796093022208 then (impl_Candidates.l0 k1 a1 (x5_1 ++ [t172]) t168 (t168.length : Int) (wrap64 (x28_1 + 1))) else (none)) = some r := H
           have A22 := Aside0.mk A220
           clear A220
           by_cases c23 : x5_1.length < 8796093022208
           ·rw [if_pos c23] at H
            have LMc23 := Aside0.mk c23
            clear c23
            obtain ⟨y173, hy173⟩ : ∃ y_ : List ByteArray, y_ = (x5_1 ++ [t172]) := ⟨_, rfl⟩
            replace H : (impl_Candidates.l0 k1 a1 y173 t168 (t168.length : Int) (wrap64 (x28_1 + 1))) = some r := by first | (rw [hy173]; with_reducible exact H) | (have H2_ := (Option.bind_some _ _).symm.trans H; rw [hy173]; with_reducible exact H2_) | (have H2_ := (Option.bind_some _ _).symm.trans H; with_reducible exact H2_) | with_reducible exact H | (rw [hy173]; exact H) | exact H
            have Ny173 := Aside0.mk hy173
            clear hy173
            have H' := Aside0.mk H
            clear H
            have p171 : 0 ≤ (x28_1 : Int) := of_decide_eq_true (by first | (with_reducible assumption) | assumption)
            have q171 : x28_1 < (t168.length : Int) := of_decide_eq_true (by first | (with_reducible assumption) | assumption)
            obtain ⟨ad171, e171, hx171_0⟩ := Kd.at_string (Kd.R_reads' HO_26.out).2.2 x28_1 p171 q171
            cases e171
            replace p171 := eq_true p171
            replace q171 := eq_true q171
            go_wp2_with (first | ((with_reducible refine gate_callee (f := 81) rfl ?_); refine goesL_ (some 37) rfl rfl Tryd.func81 (by kernel_rfl) rfl #[.string (((rdOf ByteArray.empty t168 x28_1) ++ (⟨#[47, 108, 105, 98, 47]⟩ : ByteArray)) ++ a1)] rfl (by (try simp only [List.map_toArray, List.map_cons, List.map_nil]); first | done | rfl | (simp only [List.length_drop, List.length_take]; rfl)) ?_; (with_reducible refine (impl_Clean.calls k1 (((rdOf ByteArray.empty t168 x28_1) ++ (⟨#[47, 108, 105, 98, 47]⟩ : ByteArray)) ++ a1) t172 _ (TabsL.below HTA.out (by repeat (first | (with_reducible first | exact HB.out | apply below_alloc | apply pw_below_drewN | apply below_drew1) | exact HB.out))) A22.out).mono ?_); rintro e w24 ⟨rfl, hb⟩; refine ⟨_, rfl, ?_⟩; have n0_ := Aside0.mk (Kd.R_below (by (with_reducible repeat (first | apply Kd.R_alloc | apply Kd.R_drewN | apply Kd.R_drew)); exact HO_5.out) hb); have n1_ := Aside0.mk (Kd.R_below (by (with_reducible repeat (first | apply Kd.R_alloc | apply Kd.R_drewN | apply Kd.R_drew)); exact HO_26.out) hb); have n2_ := Aside0.mk (below_step (by repeat (first | (with_reducible first | exact HB.out | apply below_alloc | apply pw_below_drewN | apply below_drew1) | exact HB.out)) hb); clear HO_5; clear HO_26; clear HB; have HO_5 := n0_; have HO_26 := n1_; have HB := n2_; clear n0_ n1_ n2_; (try clear hb); (try clear hb2); (try clear hk); (try clear hi)) | ((with_reducible refine gate_builtin (b := .append) (xs := #[.tmp 32, .tmp 38]) rfl ?_); at_builtin; refine Kd.R_append Kd.string (w0 := w) w.heap.size rfl (.tmp 32) (.tmp 38) 31 9 (.string ⟨#[]⟩) 16 rfl Tryd.underlying31 info9 rfl (by decide) (by omega) u5 x5_1 t172 [.string t172] (fun k_ => some k_ ≠ (.slice (some ad171) t168.length co16 : Value).ownBlock) (fun _ => False) rfl rfl ?aP (fun _ hk => hk.elim) ?aF ?aO ?aB ?aS ?aL ?_; (case aP => exact rfl); (case aB => exact (by repeat (first | (with_reducible first | exact HB.out | apply below_alloc | apply pw_below_drewN | apply below_drew1) | exact HB.out))); (case aF => exact (fun k_ hk => Kd.fresh' (Kd.R_lt (by (with_reducible repeat (first | apply Kd.R_alloc | apply Kd.R_drewN | apply Kd.R_drew)); exact HO_26.out)) k_ hk)); (case aO => exact (by (with_reducible repeat (first | apply Kd.R_alloc | apply Kd.R_drewN | apply Kd.R_drew)); exact HO_5.out)); (case aS => exact (below_size (by repeat (first | (with_reducible first | exact HB.out | apply below_alloc | apply pw_below_drewN | apply below_drew1) | exact HB.out)))); (case aL => have := LMc23.out; omega); intro v174 w25 ho hb hg hat; rw [← Ny173.out] at ho; have n0_ := Aside0.mk (Kd.R_after (ok := (fun _ => True)) (by (with_reducible repeat (first | apply Kd.R_alloc | apply Kd.R_drewN | apply Kd.R_drew)); exact Kd.R_mono HO_26.out (fun _ hk => ⟨trivial, hk⟩)) hg hat); have n1_ := Aside0.mk (hb); have n2_ := Aside0.mk (ho); clear HO_26; clear HB; clear HO_5; have HO_26 := n0_; have HB := n1_; have HO175 := n2_; clear n0_ n1_ n2_; clear ho hb hg hat))
            go_roundg k1
            case measure => have := HK1.out; omega
            case rel => exact ⟨(y173), (wrap64 (x28_1 + 1)), (by first | rfl | (simp; done) | (simp [*]; done)), H', ⟨by have := HK1.out; omega⟩, ⟨by (with_reducible repeat (first | apply Kd.R_alloc | apply Kd.R_drewN | apply Kd.R_drew)); (first | exact HO175.out | exact Kd.R_mono HO175.out (fun k_ h_ => by first | exact h_ | (simpa [Value.ownBlock] using h_) | (have e_ : ∀ (A : Option Addr) (n m c : Nat), (Value.slice A n c).ownBlock = (Value.slice A m c).ownBlock := (fun A n m c => by cases A <;> rfl); rw [e_ _ _ 0 _] at h_ ⊢; exact h_)))⟩, ⟨by (with_reducible repeat (first | apply Kd.R_alloc | apply Kd.R_drewN | apply Kd.R_drew)); exact Kd.R_mono HO_26.out (fun _ hk => hk.2)⟩, ⟨by repeat (first | (with_reducible first | exact HB.out | apply below_alloc | apply pw_below_drewN | apply below_drew1) | exact HB.out)⟩⟩
           ·rw [if_neg c23] at H
            exact absurd H (by simp)
          ·rw [if_neg c21] at H
           exact absurd H (by simp)
         ·rw [if_neg c20] at H
          exact absurd H (by simp)
        ·rw [if_neg c19] at H
         exact absurd H (by simp)
       ·rw [if_neg c18] at H
        exact absurd H (by simp)
      ·rw [if_neg c17] at H
       have c17b0 : decide (x28_1 < (t168.length : Int)) = false := decide_eq_false c17
       clear c17
       (first | rw [c17b0] | (simp only [i64_w, i32_w]; rw [c17b0]) | skip)
       have H' := Aside0.mk H
       clear H
       go_wp2
       go_meet
       case rel => exact ⟨_, (x5_1), H', ⟨by have := HK1.out; first | omega | exact Nat.le_refl _⟩, ⟨by (with_reducible repeat (first | apply Kd.R_alloc | apply Kd.R_drewN | apply Kd.R_drew)); exact Kd.R_mono HO_5.out (fun _ hk => trivial)⟩, ⟨by repeat (first | (with_reducible first | exact HB.out | apply below_alloc | apply pw_below_drewN | apply below_drew1) | exact HB.out)⟩⟩
  case rest =>
   clear HC6
   try clear c1
   try clear p1
   try clear q1
   try clear hx1
   try clear c2
   try clear p2
   try clear c4
   try clear p6
   try clear c7
   try clear c8
   try clear c9
   try clear c11
   try clear c17
   try clear c17b0
   try clear p17
   try clear q17
   try clear hx17
   try clear c18
   try clear c18b0
   try clear c19
   try clear c19b0
   try clear c20
   try clear c20b0
   try clear c20b1
   try clear c20b2
   try clear c21
   try clear c21b0
   try clear c21b1
   try clear c21b2
   try clear c22
   try clear c23
   try clear hx171_0
   try clear p171
   try clear p2
   try clear q171
   obtain ⟨kq, x5_5, HA, HJ5, HO_5, HB⟩ := hcut
   cases kq with
   | zero => exact absurd HA.out (by simp [impl_Candidates.j1])
   | succ kj5 =>
    have H := HA.out
    clear HA
    simp only [impl_Candidates.j1] at H
    obtain ⟨y176, hy176⟩ : ∃ y_ : List ByteArray, y_ = (([] : List ByteArray)) := ⟨_, rfl⟩
    replace H : (impl_Candidates.l1 kj5 y176 x5_5 (x5_5.length : Int) 0) = some r := by first | (rw [hy176]; with_reducible exact H) | (have H2_ := (Option.bind_some _ _).symm.trans H; rw [hy176]; with_reducible exact H2_) | (have H2_ := (Option.bind_some _ _).symm.trans H; with_reducible exact H2_) | with_reducible exact H | (rw [hy176]; exact H) | exact H
    have Ny176 := Aside0.mk hy176
    clear hy176
    have H' := Aside0.mk H
    clear H
    go_wp2_with (first | ((with_reducible refine gate_dst (N := 41) rfl ?_); refine Kd.R_lit Kd.string _ 9 ?hg (N := 41) ?hd (xs := ([] : List ByteArray)) (inner := []) (ok := fun _ => True) (okp := fun _ => True) ?hr ?hp (fun _ hk => hk) trivial (Below.refl _ _) (Nat.le_refl _) (by simp) ?_; (case hd => rfl); (case hg => rfl); (case hr => first | (go_simp; done) | (go_simp; rfl)); (case hp => exact (Reps.none _ _)); intro v177 w26 ho27 hb hg_ hnew_; clear hg_ hnew_; (first | rw [← Ny176.out] at ho27 | (simp only [Int.reduceToNat] at ho27; rw [← Ny176.out] at ho27)); have n0_ := Aside0.mk (Kd.R_elder' (by (with_reducible repeat (first | apply Kd.R_alloc | apply Kd.R_drewN | apply Kd.R_drew)); exact HO_5.out) (Kd.R_base ho27) hb); have n1_ := Aside0.mk (Kd.R_lower (Kd.R_new' ho27 (Kd.R_lt (by (with_reducible repeat (first | apply Kd.R_alloc | apply Kd.R_drewN | apply Kd.R_drew)); exact HO_5.out))) (below_size (by repeat (first | (with_reducible first | exact HB.out | apply below_alloc | apply pw_below_drewN | apply below_drew1) | exact HB.out)))); have n2_ := Aside0.mk (below_step (by repeat (first | (with_reducible first | exact HB.out | apply below_alloc | apply pw_below_drewN | apply below_drew1) | exact HB.out)) hb); clear HO_5; clear HB; have HO_5 := n0_; have HO178 := n1_; have HB := n2_; clear n0_ n1_ n2_; clear hb ho27; obtain ⟨Ao28, co28, eo28⟩ := Kd.R_slice HO_5.out; subst eo28))
    go_loopg [8, 44] kj5 (fun kq v8 v44 w' => ∃ (x8_2 : List ByteArray) (x44_2 : Int), v44 = .int .i64 x44_2 ∧ Aside0 (impl_Candidates.l1 kq x8_2 x5_5 (x5_5.length : Int) x44_2 = some r) ∧ Aside0 (kq ≤ kj5) ∧ Aside0 (Kd.R Kd.string 9 w' w.heap.size (fun k_ => some k_ ≠ ((.slice Ao28 x5_5.length co28) : Value).ownBlock) v8 x8_2) ∧ Aside0 (Kd.R Kd.string 9 w' w.heap.size (fun k_ => some k_ ≠ (v8 : Value).ownBlock) (.slice Ao28 x5_5.length co28) x5_5) ∧ Aside0 (Below w.heap.size w w'))
    case atStart => exact ⟨(y176), (0), (by first | rfl | (simp; done) | (simp [*]; done)), H', ⟨Nat.le_refl _⟩, ⟨by (with_reducible repeat (first | apply Kd.R_alloc | apply Kd.R_drewN | apply Kd.R_drew)); exact Kd.R_mono HO178.out (fun _ hk => hk.2)⟩, ⟨by (with_reducible repeat (first | apply Kd.R_alloc | apply Kd.R_drewN | apply Kd.R_drew)); exact Kd.R_mono HO_5.out (fun _ hk => hk.2)⟩, ⟨by repeat (first | (with_reducible first | exact HB.out | apply below_alloc | apply pw_below_drewN | apply below_drew1) | exact HB.out)⟩⟩
    case round =>
     clear H'
     try clear c1
     try clear p1
     try clear q1
     try clear hx1
     try clear c2
     try clear p2
     try clear c4
     try clear p6
     try clear c7
     try clear c8
     try clear c9
     try clear c11
     try clear c17
     try clear c17b0
     try clear p17
     try clear q17
     try clear hx17
     try clear c18
     try clear c18b0
     try clear c19
     try clear c19b0
     try clear c20
     try clear c20b0
     try clear c20b1
     try clear c20b2
     try clear c21
     try clear c21b0
     try clear c21b1
     try clear c21b2
     try clear c22
     try clear c23
     try clear hx171_0
     try clear p1
     try clear p17
     try clear p171
     try clear p2
     try clear p6
     try clear q1
     try clear q17
     try clear q171
     obtain ⟨x8_2, x44_2, rfl, HA, HK2, HO_8, HO_42, HB⟩ := hrel
     cases gk with
     | zero => exact absurd HA.out (by simp [impl_Candidates.l1])
     | succ k2 =>
      have H := HA.out
      clear HA
      simp only [impl_Candidates.l1] at H
      by_cases c29 : x44_2 < (x5_5.length : Int)
      ·rw [if_pos c29] at H
       have c29b0 : decide (x44_2 < (x5_5.length : Int)) = true := decide_eq_true c29
       clear c29
       by_cases c30 : 0 ≤ x44_2
       ·rw [if_pos c30] at H
        have c30b0 : decide (0 ≤ x44_2) = true := decide_eq_true c30
        clear c30
        by_cases c31 : x44_2 < (x5_5.length : Int)
        ·rw [if_pos c31] at H
         have c31b0 : decide (x44_2 < (x5_5.length : Int)) = true := decide_eq_true c31
         clear c31
         by_cases c32 : (rdOf ByteArray.empty x5_5 x44_2).toList = ([] : List UInt8)
         ·rw [if_pos c32] at H
          have c32b0 : ((rdOf ByteArray.empty x5_5 x44_2).toList == ([] : List UInt8)) = true := beq_iff_eq.mpr c32
          have c32b1 : ((rdOf ByteArray.empty x5_5 x44_2).toList != ([] : List UInt8)) = false := bne_eq_false_iff_eq.mpr c32
          have c32b2 : (rdOf ByteArray.empty x5_5 x44_2).toList.isEmpty = true := by have h_ := c32b0; simpa using h_
          (first | rw [c32b2] | skip)
          clear c32
          have H' := Aside0.mk H
          clear H
          have p179 : 0 ≤ (x44_2 : Int) := of_decide_eq_true (by first | (with_reducible assumption) | assumption)
          have q179 : x44_2 < (x5_5.length : Int) := of_decide_eq_true (by first | (with_reducible assumption) | assumption)
          obtain ⟨ad179, e179, hx179_0⟩ := Kd.at_string (Kd.R_reads' HO_42.out).2.2 x44_2 p179 q179
          cases e179
          replace p179 := eq_true p179
          replace q179 := eq_true q179
          go_wp2
          go_roundg k2
          case measure => have := HJ5.out; have := HK2.out; omega
          case rel => exact ⟨(x8_2), (wrap64 (x44_2 + 1)), (by first | rfl | (simp; done) | (simp [*]; done)), H', ⟨by have := HJ5.out; have := HK2.out; omega⟩, ⟨by (with_reducible repeat (first | apply Kd.R_alloc | apply Kd.R_drewN | apply Kd.R_drew)); (first | exact HO_8.out | exact Kd.R_mono HO_8.out (fun k_ h_ => by first | exact h_ | (simpa [Value.ownBlock] using h_) | (have e_ : ∀ (A : Option Addr) (n m c : Nat), (Value.slice A n c).ownBlock = (Value.slice A m c).ownBlock := (fun A n m c => by cases A <;> rfl); rw [e_ _ _ 0 _] at h_ ⊢; exact h_)))⟩, ⟨by (with_reducible repeat (first | apply Kd.R_alloc | apply Kd.R_drewN | apply Kd.R_drew)); (first | exact HO_42.out | exact Kd.R_mono HO_42.out (fun k_ h_ => by first | exact h_ | (simpa [Value.ownBlock] using h_) | (have e_ : ∀ (A : Option Addr) (n m c : Nat), (Value.slice A n c).ownBlock = (Value.slice A m c).ownBlock := (fun A n m c => by cases A <;> rfl); rw [e_ _ _ 0 _] at h_ ⊢; exact h_)))⟩, ⟨by repeat (first | (with_reducible first | exact HB.out | apply below_alloc | apply pw_below_drewN | apply below_drew1) | exact HB.out)⟩⟩
         ·rw [if_neg c32] at H
          have c32b0 : ((rdOf ByteArray.empty x5_5 x44_2).toList == ([] : List UInt8)) = false := beq_eq_false_iff_ne.mpr c32
          have c32b1 : ((rdOf ByteArray.empty x5_5 x44_2).toList != ([] : List UInt8)) = true := bne_iff_ne.mpr c32
          have c32b2 : (rdOf ByteArray.empty x5_5 x44_2).toList.isEmpty = false := by have h_ := c32b0; simpa using h_
          (first | rw [c32b2] | skip)
          by_cases c33 : (rdOf ByteArray.empty x5_5 x44_2).size + 3 ≤ 9223372036854775807
          ·rw [if_pos c33] at H
           have c33b0 := eq_true c33
           have c33b1 : decide ((rdOf ByteArray.empty x5_5 x44_2).size + 3 ≤ 9223372036854775807) = true := decide_eq_true c33
           try have c33b2 : (9223372036854775807 < (rdOf ByteArray.empty x5_5 x44_2).size + 3) = False := eq_false (Nat.not_lt.2 c33)
           by_cases c34 : (rdOf ByteArray.empty x5_5 x44_2).size + 9 ≤ 9223372036854775807
           ·rw [if_pos c34] at H
            have c34b0 := eq_true c34
            have c34b1 : decide ((rdOf ByteArray.empty x5_5 x44_2).size + 9 ≤ 9223372036854775807) = true := decide_eq_true c34
            try have c34b2 : (9223372036854775807 < (rdOf ByteArray.empty x5_5 x44_2).size + 9) = False := eq_false (Nat.not_lt.2 c34)
            obtain ⟨y180, hy180⟩ : ∃ y_ : List ByteArray, y_ = (([rdOf ByteArray.empty x5_5 x44_2, (rdOf ByteArray.empty x5_5 x44_2) ++ (⟨#[46, 106, 115]⟩ : ByteArray), (rdOf ByteArray.empty x5_5 x44_2) ++ (⟨#[47, 105, 110, 100, 101, 120, 46, 106, 115]⟩ : ByteArray)] : List ByteArray)) := ⟨_, rfl⟩
            replace H : (impl_Candidates.l2 k2 x8_2 x5_5 (x5_5.length : Int) x44_2 y180 (y180.length : Int) 0) = some r := by first | (rw [hy180]; with_reducible exact H) | (have H2_ := (Option.bind_some _ _).symm.trans H; rw [hy180]; with_reducible exact H2_) | (have H2_ := (Option.bind_some _ _).symm.trans H; with_reducible exact H2_) | with_reducible exact H | (rw [hy180]; exact H) | exact H
            have Ny180 := Aside0.mk hy180
            clear hy180
            have H' := Aside0.mk H
            clear H
            have p179 : 0 ≤ (x44_2 : Int) := of_decide_eq_true (by first | (with_reducible assumption) | assumption)
            have q179 : x44_2 < (x5_5.length : Int) := of_decide_eq_true (by first | (with_reducible assumption) | assumption)
            obtain ⟨ad179, e179, hx179_0⟩ := Kd.at_string (Kd.R_reads' HO_42.out).2.2 x44_2 p179 q179
            cases e179
            replace p179 := eq_true p179
            replace q179 := eq_true q179
            go_wp2_with (first | ((with_reducible refine gate_dst (N := 55) rfl ?_); refine Kd.R_lit Kd.string _ 9 ?hg (N := 55) ?hd (xs := ([rdOf ByteArray.empty x5_5 x44_2, (rdOf ByteArray.empty x5_5 x44_2) ++ (⟨#[46, 106, 115]⟩ : ByteArray), (rdOf ByteArray.empty x5_5 x44_2) ++ (⟨#[47, 105, 110, 100, 101, 120, 46, 106, 115]⟩ : ByteArray)] : List ByteArray)) (inner := [.string (rdOf ByteArray.empty x5_5 x44_2), .string ((rdOf ByteArray.empty x5_5 x44_2) ++ (⟨#[46, 106, 115]⟩ : ByteArray)), .string ((rdOf ByteArray.empty x5_5 x44_2) ++ (⟨#[47, 105, 110, 100, 101, 120, 46, 106, 115]⟩ : ByteArray))]) (ok := fun _ => True) (okp := fun _ => True) ?hr ?hp (fun _ hk => hk) trivial (Below.refl _ _) (Nat.le_refl _) (by simp) ?_; (case hd => rfl); (case hg => rfl); (case hr => first | (go_simp; done) | (go_simp; rfl)); (case hp => exact (Reps.one (show Kd.M Kd.string _ _ _ (rdOf ByteArray.empty x5_5 x44_2) [.string (rdOf ByteArray.empty x5_5 x44_2)] from rfl) (Reps.one (show Kd.M Kd.string _ _ _ ((rdOf ByteArray.empty x5_5 x44_2) ++ (⟨#[46, 106, 115]⟩ : ByteArray)) [.string ((rdOf ByteArray.empty x5_5 x44_2) ++ (⟨#[46, 106, 115]⟩ : ByteArray))] from rfl) (Reps.one (show Kd.M Kd.string _ _ _ ((rdOf ByteArray.empty x5_5 x44_2) ++ (⟨#[47, 105, 110, 100, 101, 120, 46, 106, 115]⟩ : ByteArray)) [.string ((rdOf ByteArray.empty x5_5 x44_2) ++ (⟨#[47, 105, 110, 100, 101, 120, 46, 106, 115]⟩ : ByteArray))] from rfl) (Reps.none _ _))))); intro v181 w35 ho36 hb hg_ hnew_; clear hg_ hnew_; (first | rw [← Ny180.out] at ho36 | (simp only [Int.reduceToNat] at ho36; rw [← Ny180.out] at ho36)); have n0_ := Aside0.mk (Kd.R_elder' (by (with_reducible repeat (first | apply Kd.R_alloc | apply Kd.R_drewN | apply Kd.R_drew)); exact HO_8.out) (Kd.R_base ho36) hb); have n1_ := Aside0.mk (Kd.R_elder' (by (with_reducible repeat (first | apply Kd.R_alloc | apply Kd.R_drewN | apply Kd.R_drew)); exact HO_42.out) (Kd.R_base ho36) hb); have n2_ := Aside0.mk (Kd.R_lower (Kd.R_new' (Kd.R_new' ho36 (Kd.R_lt (by (with_reducible repeat (first | apply Kd.R_alloc | apply Kd.R_drewN | apply Kd.R_drew)); exact HO_8.out))) (Kd.R_lt (by (with_reducible repeat (first | apply Kd.R_alloc | apply Kd.R_drewN | apply Kd.R_drew)); exact HO_42.out))) (below_size (by repeat (first | (with_reducible first | exact HB.out | apply below_alloc | apply pw_below_drewN | apply below_drew1) | exact HB.out)))); have n3_ := Aside0.mk (below_step (by repeat (first | (with_reducible first | exact HB.out | apply below_alloc | apply pw_below_drewN | apply below_drew1) | exact HB.out)) hb); clear HO_8; clear HO_42; clear HB; have HO_8 := n0_; have HO_42 := n1_; have HO182 := n2_; have HB := n3_; clear n0_ n1_ n2_ n3_; clear hb ho36; obtain ⟨Ao37, co37, eo37⟩ := Kd.R_slice HO182.out; subst eo37))
            go_loopg [8, 57] k2 (fun kq v8 v57 w' => ∃ (x8_3 : List ByteArray) (x57_3 : Int), v57 = .int .i64 x57_3 ∧ Aside0 (impl_Candidates.l2 kq x8_3 x5_5 (x5_5.length : Int) x44_2 y180 (y180.length : Int) x57_3 = some r) ∧ Aside0 (kq ≤ k2) ∧ Aside0 (Kd.R Kd.string 9 w' w.heap.size (fun k_ => some k_ ≠ ((.slice (some ad179) x5_5.length co28) : Value).ownBlock ∧ some k_ ≠ ((.slice Ao37 y180.length co37) : Value).ownBlock) v8 x8_3) ∧ Aside0 (Kd.R Kd.string 9 w' w.heap.size (fun k_ => some k_ ≠ (v8 : Value).ownBlock ∧ some k_ ≠ ((.slice Ao37 y180.length co37) : Value).ownBlock) (.slice (some ad179) x5_5.length co28) x5_5) ∧ Aside0 (Kd.R Kd.string 9 w' w.heap.size (fun k_ => some k_ ≠ (v8 : Value).ownBlock ∧ some k_ ≠ ((.slice (some ad179) x5_5.length co28) : Value).ownBlock) (.slice Ao37 y180.length co37) y180) ∧ Aside0 (Below w.heap.size w w'))
            case atStart => exact ⟨(x8_2), (0), (by first | rfl | (simp; done) | (simp [*]; done)), H', ⟨Nat.le_refl _⟩, ⟨by (with_reducible repeat (first | apply Kd.R_alloc | apply Kd.R_drewN | apply Kd.R_drew)); exact HO_8.out⟩, ⟨by (with_reducible repeat (first | apply Kd.R_alloc | apply Kd.R_drewN | apply Kd.R_drew)); exact HO_42.out⟩, ⟨by (with_reducible repeat (first | apply Kd.R_alloc | apply Kd.R_drewN | apply Kd.R_drew)); exact Kd.R_mono HO182.out (fun _ hk => ⟨(by first | exact hk.1.2 | (revert hk; (try simp only [and_imp]); intros; assumption)), (by first | exact hk.2 | (revert hk; (try simp only [and_imp]); intros; assumption))⟩)⟩, ⟨by repeat (first | (with_reducible first | exact HB.out | apply below_alloc | apply pw_below_drewN | apply below_drew1) | exact HB.out)⟩⟩
            case round =>
             clear H'
             try clear c1
             try clear p1
             try clear q1
             try clear hx1
             try clear c2
             try clear p2
             try clear c3
             try clear c4
             try clear p6
             try clear c7
             try clear c8
             try clear c9
             try clear c11
             try clear c17
             try clear c17b0
             try clear p17
             try clear q17
             try clear hx17
             try clear c18
             try clear c18b0
             try clear c19
             try clear c19b0
             try clear c20
             try clear c20b0
             try clear c20b1
             try clear c20b2
             try clear c21
             try clear c21b0
             try clear c21b1
             try clear c21b2
             try clear c22
             try clear c23
             try clear c29
             try clear c29b0
             try clear c30
             try clear c30b0
             try clear c31
             try clear c31b0
             try clear c32
             try clear c32b0
             try clear c32b1
             try clear c33
             try clear c33b0
             try clear c33b1
             try clear c33b2
             try clear c34
             try clear c34b0
             try clear c34b1
             try clear c34b2
             try clear hx171_0
             try clear hx179_0
             try clear p1
             try clear p17
             try clear p171
             try clear p179
             try clear p2
             try clear p6
             try clear q1
             try clear q17
             try clear q171
             try clear q179
             obtain ⟨x8_3, x57_3, rfl, HA, HK3, HO_8, HO_42, HO_55, HB⟩ := hrel
             cases gk with
             | zero => exact absurd HA.out (by simp [impl_Candidates.l2])
             | succ k3 =>
              have H := HA.out
              clear HA
              simp only [impl_Candidates.l2] at H
              by_cases c38 : x57_3 < (y180.length : Int)
              ·rw [if_pos c38] at H
               have c38b0 : decide (x57_3 < (y180.length : Int)) = true := decide_eq_true c38
               clear c38
               by_cases c39 : 0 ≤ x57_3
               ·rw [if_pos c39] at H
                have c39b0 : decide (0 ≤ x57_3) = true := decide_eq_true c39
                clear c39
                by_cases c40 : x57_3 < (y180.length : Int)
                ·rw [if_pos c40] at H
                 have c40b0 : decide (x57_3 < (y180.length : Int)) = true := decide_eq_true c40
                 clear c40
                 replace H := Option.bind_eq_some_iff.mp H
                 obtain ⟨t184, A410, H⟩ := H
                 replace H : (if t184 = true then ((slices_Contains_string_string.f k3 x8_3 (rdOf ByteArray.empty y180 x57_3)).bind fun t185 => (if t185 = true then (impl_Candidates.l2 k3 x8_3 x5_5 (x5_5.length : Int) x44_2 y180 (y180.length : Int) (wrap64 (x57_3 + 1))) else (if x8_3.length < 8796093022208 then (impl_Candidates.l2 k3 (x8_3 ++ [rdOf ByteArray.empty y180 x57_3]) x5_5 (x5_5.length : Int) x44_2 y180 (y180.length : Int) (wrap64 (x57_3 + 1))) else (none)))) else (impl_Candidates.l2 k3 x8_3 x5_5 (x5_5.length : Int) x44_2 y180 (y180.length : Int) (wrap64 (x57_3 + 1)))) = some r := H
                 have A41 := Aside0.mk A410
                 clear A410
                 by_cases c42 : t184 = true
                 ·subst c42
                  have H1 : ((slices_Contains_string_string.f k3 x8_3 (rdOf ByteArray.empty y180 x57_3)).bind fun t185 => (if t185 = true then (impl_Candidates.l2 k3 x8_3 x5_5 (x5_5.length : Int) x44_2 y180 (y180.length : Int) (wrap64 (x57_3 + 1))) else (if x8_3.length < 8796093022208 then (impl_Candidates.l2 k3 (x8_3 ++ [rdOf ByteArray.empty y180 x57_3]) x5_5 (x5_5.length : Int) x44_2 y180 (y180.length : Int) (wrap64 (x57_3 + 1))) else (none)))) = some r := by rw [if_pos rfl] at H; exact H
                  clear H
                  have H := H1
                  clear H1
                  replace H := Option.bind_eq_some_iff.mp H
                  obtain ⟨t185, A430, H⟩ := H
                  replace H : (if t185 = true then (impl_Candidates.l2 k3 x8_3 x5_5 (x5_5.length : Int) x44_2 y180 (y180.length : Int) (wrap64 (x57_3 + 1))) else (if x8_3.length < 8796093022208 then (impl_Candidates.l2 k3 (x8_3 ++ [rdOf ByteArray.empty y180 x57_3]) x5_5 (x5_5.length : Int) x44_2 y180 (y180.length : Int) (wrap64 (x57_3 + 1))) else (none))) = some r := H
                  have A43 := Aside0.mk A430
                  clear A430
                  by_cases c44 : t185 = true
                  ·subst c44
                   have H1 : (impl_Candidates.l2 k3 x8_3 x5_5 (x5_5.length : Int) x44_2 y180 (y180.length : Int) (wrap64 (x57_3 + 1))) = some r := by rw [if_pos rfl] at H; exact H
                   clear H
                   have H := H1
                   clear H1
                   have H' := Aside0.mk H
                   clear H
                   have p183 : 0 ≤ (x57_3 : Int) := of_decide_eq_true (by first | (with_reducible assumption) | assumption)
                   have q183 : x57_3 < (y180.length : Int) := of_decide_eq_true (by first | (with_reducible assumption) | assumption)
                   obtain ⟨ad183, e183, hx183_0⟩ := Kd.at_string (Kd.R_reads' HO_55.out).2.2 x57_3 p183 q183
                   cases e183
                   replace p183 := eq_true p183
                   replace q183 := eq_true q183
                   go_wp2_with (first | ((with_reducible refine gate_callee (f := 77) rfl ?_); refine goesL_ (some 62) rfl rfl Tryd.func77 (by kernel_rfl) rfl #[.string (rdOf ByteArray.empty y180 x57_3)] rfl (by (try simp only [List.map_toArray, List.map_cons, List.map_nil]); first | done | rfl | (simp only [List.length_drop, List.length_take]; rfl)) ?_; (with_reducible refine (impl_isPath.calls k3 (rdOf ByteArray.empty y180 x57_3) true _ A41.out).mono ?_); rintro e w' ⟨rfl, ⟨nd, rfl⟩⟩; refine ⟨_, rfl, ?_⟩; obtain ⟨Ao45, co45, eo45⟩ := Kd.R_slice HO_8.out; subst eo45) | (go_at_call 82; (with_reducible refine (slices_Contains_string_string.calls k3 _ _ x8_3 (rdOf ByteArray.empty y180 x57_3) true _ ?side1 ?side2 A43.out).mono ?_); (case side1 => repeat (first | exact (Kd.R_reads' HO_8.out).2.2 | (with_reducible refine Kd.C_alloc ?_ _) | (with_reducible refine Kd.C_drewN ?_ _) | (with_reducible refine Kd.C_drew ?_))); (case side2 => exact (Kd.R_reads' HO_8.out).2.1); rintro e w' ⟨rfl, ⟨nd, rfl⟩⟩))
                   go_roundg k3
                   case measure => have := HJ5.out; have := HK2.out; have := HK3.out; omega
                   case rel => exact ⟨(x8_3), (wrap64 (x57_3 + 1)), (by first | rfl | (simp; done) | (simp [*]; done)), H', ⟨by have := HJ5.out; have := HK2.out; have := HK3.out; omega⟩, ⟨by (with_reducible repeat (first | apply Kd.R_alloc | apply Kd.R_drewN | apply Kd.R_drew)); (first | exact HO_8.out | exact Kd.R_mono HO_8.out (fun k_ h_ => by first | exact h_ | (simpa [Value.ownBlock] using h_) | (have e_ : ∀ (A : Option Addr) (n m c : Nat), (Value.slice A n c).ownBlock = (Value.slice A m c).ownBlock := (fun A n m c => by cases A <;> rfl); rw [e_ _ _ 0 _] at h_ ⊢; exact h_)))⟩, ⟨by (with_reducible repeat (first | apply Kd.R_alloc | apply Kd.R_drewN | apply Kd.R_drew)); (first | exact HO_42.out | exact Kd.R_mono HO_42.out (fun k_ h_ => by first | exact h_ | (simpa [Value.ownBlock] using h_) | (have e_ : ∀ (A : Option Addr) (n m c : Nat), (Value.slice A n c).ownBlock = (Value.slice A m c).ownBlock := (fun A n m c => by cases A <;> rfl); rw [e_ _ _ 0 _] at h_ ⊢; exact h_)))⟩, ⟨by (with_reducible repeat (first | apply Kd.R_alloc | apply Kd.R_drewN | apply Kd.R_drew)); (first | exact HO_55.out | exact Kd.R_mono HO_55.out (fun k_ h_ => by first | exact h_ | (simpa [Value.ownBlock] using h_) | (have e_ : ∀ (A : Option Addr) (n m c : Nat), (Value.slice A n c).ownBlock = (Value.slice A m c).ownBlock := (fun A n m c => by cases A <;> rfl); rw [e_ _ _ 0 _] at h_ ⊢; exact h_)))⟩, ⟨by repeat (first | (with_reducible first | exact HB.out | apply below_alloc | apply pw_below_drewN | apply below_drew1) | exact HB.out)⟩⟩
                  ·replace c44 := Bool.eq_false_iff.mpr c44
                   subst c44
                   have H1 : (if x8_3.length < 8796093022208 then (impl_Candidates.l2 k3 (x8_3 ++ [rdOf ByteArray.empty y180 x57_3]) x5_5 (x5_5.length : Int) x44_2 y180 (y180.length : Int) (wrap64 (x57_3 + 1))) else (none)) = some r := by rw [if_neg (show ¬ (false = true) by decide)] at H; exact H
                   clear H
                   have H := H1
                   clear H1
                   by_cases c46 : x8_3.length < 8796093022208
                   ·rw [if_pos c46] at H
                    have LMc46 := Aside0.mk c46
                    clear c46
                    obtain ⟨y186, hy186⟩ : ∃ y_ : List ByteArray, y_ = (x8_3 ++ [rdOf ByteArray.empty y180 x57_3]) := ⟨_, rfl⟩
                    replace H : (impl_Candidates.l2 k3 y186 x5_5 (x5_5.length : Int) x44_2 y180 (y180.length : Int) (wrap64 (x57_3 + 1))) = some r := by first | (rw [hy186]; with_reducible exact H) | (have H2_ := (Option.bind_some _ _).symm.trans H; rw [hy186]; with_reducible exact H2_) | (have H2_ := (Option.bind_some _ _).symm.trans H; with_reducible exact H2_) | with_reducible exact H | (rw [hy186]; exact H) | exact H
                    have Ny186 := Aside0.mk hy186
                    clear hy186
                    have H' := Aside0.mk H
                    clear H
                    have p183 : 0 ≤ (x57_3 : Int) := of_decide_eq_true (by first | (with_reducible assumption) | assumption)
                    have q183 : x57_3 < (y180.length : Int) := of_decide_eq_true (by first | (with_reducible assumption) | assumption)
                    obtain ⟨ad183, e183, hx183_0⟩ := Kd.at_string (Kd.R_reads' HO_55.out).2.2 x57_3 p183 q183
                    cases e183
                    replace p183 := eq_true p183
                    replace q183 := eq_true q183
                    go_wp2_with (first | ((with_reducible refine gate_callee (f := 77) rfl ?_); refine goesL_ (some 62) rfl rfl Tryd.func77 (by kernel_rfl) rfl #[.string (rdOf ByteArray.empty y180 x57_3)] rfl (by (try simp only [List.map_toArray, List.map_cons, List.map_nil]); first | done | rfl | (simp only [List.length_drop, List.length_take]; rfl)) ?_; (with_reducible refine (impl_isPath.calls k3 (rdOf ByteArray.empty y180 x57_3) true _ A41.out).mono ?_); rintro e w' ⟨rfl, ⟨nd, rfl⟩⟩; refine ⟨_, rfl, ?_⟩; obtain ⟨Ao47, co47, eo47⟩ := Kd.R_slice HO_8.out; subst eo47) | (go_at_call 82; (with_reducible refine (slices_Contains_string_string.calls k3 _ _ x8_3 (rdOf ByteArray.empty y180 x57_3) false _ ?side1 ?side2 A43.out).mono ?_); (case side1 => repeat (first | exact (Kd.R_reads' HO_8.out).2.2 | (with_reducible refine Kd.C_alloc ?_ _) | (with_reducible refine Kd.C_drewN ?_ _) | (with_reducible refine Kd.C_drew ?_))); (case side2 => exact (Kd.R_reads' HO_8.out).2.1); rintro e w' ⟨rfl, ⟨nd, rfl⟩⟩) | ((with_reducible refine gate_builtin (b := .append) (xs := #[.tmp 69, .tmp 71]) rfl ?_); at_builtin; refine Kd.R_append Kd.string (w0 := w) w.heap.size rfl (.tmp 69) (.tmp 71) 31 9 (.string ⟨#[]⟩) 16 rfl Tryd.underlying31 info9 rfl (by decide) (by omega) (.slice Ao47 x8_3.length co47) x8_3 (rdOf ByteArray.empty y180 x57_3) [.string (rdOf ByteArray.empty y180 x57_3)] (fun k_ => some k_ ≠ (.slice (some ad179) x5_5.length co28 : Value).ownBlock ∧ some k_ ≠ (.slice (some ad183) y180.length co37 : Value).ownBlock) (fun _ => False) rfl rfl ?aP (fun _ hk => hk.elim) ?aF ?aO ?aB ?aS ?aL ?_; (case aP => exact rfl); (case aB => exact (by repeat (first | (with_reducible first | exact HB.out | apply below_alloc | apply pw_below_drewN | apply below_drew1) | exact HB.out))); (case aF => exact (fun k_ hk => ⟨Kd.fresh' (Kd.R_lt (by (with_reducible repeat (first | apply Kd.R_alloc | apply Kd.R_drewN | apply Kd.R_drew)); exact HO_42.out)) k_ hk, Kd.fresh' (Kd.R_lt (by (with_reducible repeat (first | apply Kd.R_alloc | apply Kd.R_drewN | apply Kd.R_drew)); exact HO_55.out)) k_ hk⟩)); (case aO => exact (by (with_reducible repeat (first | apply Kd.R_alloc | apply Kd.R_drewN | apply Kd.R_drew)); exact HO_8.out)); (case aS => exact (below_size (by repeat (first | (with_reducible first | exact HB.out | apply below_alloc | apply pw_below_drewN | apply below_drew1) | exact HB.out)))); (case aL => have := LMc46.out; omega); intro v187 w48 ho hb hg hat; rw [← Ny186.out] at ho; have n0_ := Aside0.mk (Kd.R_after (ok := (fun k_ => some k_ ≠ (.slice (some ad183) y180.length co37 : Value).ownBlock)) (by (with_reducible repeat (first | apply Kd.R_alloc | apply Kd.R_drewN | apply Kd.R_drew)); exact Kd.R_mono HO_42.out (fun _ hk => ⟨(by first | exact hk.2 | (revert hk; (try simp only [and_imp]); intros; assumption)), (by first | exact hk.1 | (revert hk; (try simp only [and_imp]); intros; assumption))⟩)) hg hat); have n1_ := Aside0.mk (Kd.R_after (ok := (fun k_ => some k_ ≠ (.slice (some ad179) x5_5.length co28 : Value).ownBlock)) (by (with_reducible repeat (first | apply Kd.R_alloc | apply Kd.R_drewN | apply Kd.R_drew)); exact Kd.R_mono HO_55.out (fun _ hk => ⟨(by first | exact hk.2 | (revert hk; (try simp only [and_imp]); intros; assumption)), (by first | exact hk.1 | (revert hk; (try simp only [and_imp]); intros; assumption))⟩)) hg hat); have n2_ := Aside0.mk (hb); have n3_ := Aside0.mk (ho); clear HO_42; clear HO_55; clear HB; clear HO_8; have HO_42 := n0_; have HO_55 := n1_; have HB := n2_; have HO188 := n3_; clear n0_ n1_ n2_ n3_; clear ho hb hg hat))
                    go_roundg k3
                    case measure => have := HJ5.out; have := HK2.out; have := HK3.out; omega
                    case rel => exact ⟨(y186), (wrap64 (x57_3 + 1)), (by first | rfl | (simp; done) | (simp [*]; done)), H', ⟨by have := HJ5.out; have := HK2.out; have := HK3.out; omega⟩, ⟨by (with_reducible repeat (first | apply Kd.R_alloc | apply Kd.R_drewN | apply Kd.R_drew)); (first | exact HO188.out | exact Kd.R_mono HO188.out (fun k_ h_ => by first | exact h_ | (simpa [Value.ownBlock] using h_) | (have e_ : ∀ (A : Option Addr) (n m c : Nat), (Value.slice A n c).ownBlock = (Value.slice A m c).ownBlock := (fun A n m c => by cases A <;> rfl); rw [e_ _ _ 0 _] at h_ ⊢; exact h_)))⟩, ⟨by (with_reducible repeat (first | apply Kd.R_alloc | apply Kd.R_drewN | apply Kd.R_drew)); exact Kd.R_mono HO_42.out (fun _ hk => ⟨(by first | exact hk.2 | (revert hk; (try simp only [and_imp]); intros; assumption)), (by first | exact hk.1 | (revert hk; (try simp only [and_imp]); intros; assumption))⟩)⟩, ⟨by (with_reducible repeat (first | apply Kd.R_alloc | apply Kd.R_drewN | apply Kd.R_drew)); exact Kd.R_mono HO_55.out (fun _ hk => ⟨(by first | exact hk.2 | (revert hk; (try simp only [and_imp]); intros; assumption)), (by first | exact hk.1 | (revert hk; (try simp only [and_imp]); intros; assumption))⟩)⟩, ⟨by repeat (first | (with_reducible first | exact HB.out | apply below_alloc | apply pw_below_drewN | apply below_drew1) | exact HB.out)⟩⟩
                   ·rw [if_neg c46] at H
                    exact absurd H (by simp)
                 ·replace c42 := Bool.eq_false_iff.mpr c42
                  subst c42
                  have H1 : (impl_Candidates.l2 k3 x8_3 x5_5 (x5_5.length : Int) x44_2 y180 (y180.length : Int) (wrap64 (x57_3 + 1))) = some r := by rw [if_neg (show ¬ (false = true) by decide)] at H; exact H
                  clear H
                  have H := H1
                  clear H1
                  have H' := Aside0.mk H
                  clear H
                  have p183 : 0 ≤ (x57_3 : Int) := of_decide_eq_true (by first | (with_reducible assumption) | assumption)
                  have q183 : x57_3 < (y180.length : Int) := of_decide_eq_true (by first | (with_reducible assumption) | assumption)
                  obtain ⟨ad183, e183, hx183_0⟩ := Kd.at_string (Kd.R_reads' HO_55.out).2.2 x57_3 p183 q183
                  cases e183
                  replace p183 := eq_true p183
                  replace q183 := eq_true q183
                  go_wp2_with (first | ((with_reducible refine gate_callee (f := 77) rfl ?_); refine goesL_ (some 62) rfl rfl Tryd.func77 (by kernel_rfl) rfl #[.string (rdOf ByteArray.empty y180 x57_3)] rfl (by (try simp only [List.map_toArray, List.map_cons, List.map_nil]); first | done | rfl | (simp only [List.length_drop, List.length_take]; rfl)) ?_; (with_reducible refine (impl_isPath.calls k3 (rdOf ByteArray.empty y180 x57_3) false _ A41.out).mono ?_); rintro e w' ⟨rfl, ⟨nd, rfl⟩⟩; refine ⟨_, rfl, ?_⟩))
                  go_roundg k3
                  case measure => have := HJ5.out; have := HK2.out; have := HK3.out; omega
                  case rel => exact ⟨(x8_3), (wrap64 (x57_3 + 1)), (by first | rfl | (simp; done) | (simp [*]; done)), H', ⟨by have := HJ5.out; have := HK2.out; have := HK3.out; omega⟩, ⟨by (with_reducible repeat (first | apply Kd.R_alloc | apply Kd.R_drewN | apply Kd.R_drew)); (first | exact HO_8.out | exact Kd.R_mono HO_8.out (fun k_ h_ => by first | exact h_ | (simpa [Value.ownBlock] using h_) | (have e_ : ∀ (A : Option Addr) (n m c : Nat), (Value.slice A n c).ownBlock = (Value.slice A m c).ownBlock := (fun A n m c => by cases A <;> rfl); rw [e_ _ _ 0 _] at h_ ⊢; exact h_)))⟩, ⟨by (with_reducible repeat (first | apply Kd.R_alloc | apply Kd.R_drewN | apply Kd.R_drew)); (first | exact HO_42.out | exact Kd.R_mono HO_42.out (fun k_ h_ => by first | exact h_ | (simpa [Value.ownBlock] using h_) | (have e_ : ∀ (A : Option Addr) (n m c : Nat), (Value.slice A n c).ownBlock = (Value.slice A m c).ownBlock := (fun A n m c => by cases A <;> rfl); rw [e_ _ _ 0 _] at h_ ⊢; exact h_)))⟩, ⟨by (with_reducible repeat (first | apply Kd.R_alloc | apply Kd.R_drewN | apply Kd.R_drew)); (first | exact HO_55.out | exact Kd.R_mono HO_55.out (fun k_ h_ => by first | exact h_ | (simpa [Value.ownBlock] using h_) | (have e_ : ∀ (A : Option Addr) (n m c : Nat), (Value.slice A n c).ownBlock = (Value.slice A m c).ownBlock := (fun A n m c => by cases A <;> rfl); rw [e_ _ _ 0 _] at h_ ⊢; exact h_)))⟩, ⟨by repeat (first | (with_reducible first | exact HB.out | apply below_alloc | apply pw_below_drewN | apply below_drew1) | exact HB.out)⟩⟩
                ·rw [if_neg c40] at H
                 exact absurd H (by simp)
               ·rw [if_neg c39] at H
                exact absurd H (by simp)
              ·rw [if_neg c38] at H
               have c38b0 : decide (x57_3 < (y180.length : Int)) = false := decide_eq_false c38
               clear c38
               have H' := Aside0.mk H
               clear H
               go_wp2
               go_roundg k3
               case measure => have := HJ5.out; have := HK2.out; have := HK3.out; omega
               case rel => exact ⟨(x8_3), (wrap64 (x44_2 + 1)), (by first | rfl | (simp; done) | (simp [*]; done)), H', ⟨by have := HJ5.out; have := HK2.out; have := HK3.out; omega⟩, ⟨by (with_reducible repeat (first | apply Kd.R_alloc | apply Kd.R_drewN | apply Kd.R_drew)); exact Kd.R_mono HO_8.out (fun _ hk => hk.1)⟩, ⟨by (with_reducible repeat (first | apply Kd.R_alloc | apply Kd.R_drewN | apply Kd.R_drew)); exact Kd.R_mono HO_42.out (fun _ hk => hk.1)⟩, ⟨by repeat (first | (with_reducible first | exact HB.out | apply below_alloc | apply pw_below_drewN | apply below_drew1) | exact HB.out)⟩⟩
           ·rw [if_neg c34] at H
            exact absurd H (by simp)
          ·rw [if_neg c33] at H
           exact absurd H (by simp)
        ·rw [if_neg c31] at H
         exact absurd H (by simp)
       ·rw [if_neg c30] at H
        exact absurd H (by simp)
      ·rw [if_neg c29] at H
       have c29b0 : decide (x44_2 < (x5_5.length : Int)) = false := decide_eq_false c29
       clear c29
       obtain rfl := Option.some.inj H
       go_wp2
       go_ret
       exact ⟨_, by first | rfl | (simp [errW_none, errW_some] <;> rfl) | (simp [*, errW_none, errW_some] <;> rfl), by (with_reducible repeat (first | apply Kd.R_alloc | apply Kd.R_drewN | apply Kd.R_drew)); exact Kd.R_mono HO_8.out (fun _ hk => trivial), by repeat (first | (with_reducible first | exact HB.out | apply below_alloc | apply pw_below_drewN | apply below_drew1) | exact HB.out)⟩
 ·replace c4 := Bool.eq_false_iff.mpr c4
  subst c4
  have H1 : (some ([] : List ByteArray)) = some r := by rw [if_neg (show ¬ (false = true) by decide)] at H; exact H
  clear H
  have H := H1
  clear H1
  obtain rfl := Option.some.inj H
  go_enter Tryd.func22, Tryd.ntmps22
  go_wp2_with (first | ((with_reducible refine gate_callee (f := 77) rfl ?_); refine goesL_ (some 14) rfl rfl Tryd.func77 (by kernel_rfl) rfl #[.string a0] rfl (by (try simp only [List.map_toArray, List.map_cons, List.map_nil]); first | done | rfl | (simp only [List.length_drop, List.length_take]; rfl)) ?_; (with_reducible refine (impl_isPath.calls k a0 false _ A3.out).mono ?_); rintro e w' ⟨rfl, ⟨nd, rfl⟩⟩; refine ⟨_, rfl, ?_⟩))
  go_ret
  exact ⟨_, by first | rfl | (simp [errW_none, errW_some] <;> rfl) | (simp [*, errW_none, errW_some] <;> rfl), by first | exact Kd.R_nil _ _ _ _ _ | exact Kd.N_nil _ _ _ _ _ | exact Kd.V_nil _ _ _ _ _ | exact Kd.Q_nil _ _ _ _ _ | exact Kd.S_nil _ _ _ _ _, by repeat (first | (with_reducible first | exact HB.out | apply below_alloc | apply pw_below_drewN | apply below_drew1) | exact HB.out)⟩

end Go.Proofs.YtmpmfaaodjmpjaaDoor.PFnExactProbe

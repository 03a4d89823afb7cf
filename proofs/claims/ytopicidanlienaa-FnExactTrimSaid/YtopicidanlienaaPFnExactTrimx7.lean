-- Out of the kit's print, with contracts of mine among it (myprint.py).
import Derived.Test.YtopicidanlienaaPFnExactTrimx0
import Derived.Test.YtopicidanlienaaPFnExactTrimx6
namespace Go.Proofs.Ytopicidanlienaa.PFnExactTrim
open Go.RowKit Go.Proofs.YtopicidanlienaaW.PrintWords Go.Proofs.YtopicidanlienaaW.PrintLast Go.Proofs.YtopicidanlienaaW.PrintMore
attribute [local go_sem] max2_int min2_int max_two min_two max_three min_three max_four min_four   -- for this text's walks alone
set_option linter.unusedVariables false
set_option linter.unusedSimpArgs false

/-! ### spec_l8Put: function 26 -/
def spec_l8Put.l0 : Nat → List ByteArray → ByteArray → List ByteArray → Bool → Int → Option (List ByteArray)
 | 0, _, _, _, _, _ => none
 | k + 1, x0, x1, x5, x6, x7 => if x7 < (x0.length : Int) then (if x6 = true then (if 0 ≤ x7 then (if x5.length < 8796093022208 then (spec_l8Put.l0 k x0 x1 (x5 ++ [rdOf ByteArray.empty x0 x7]) x6 (wrap64 (x7 + 1))) else (none)) else (none)) else (if 0 ≤ x7 then (if (Op.bytesLess x1.toList ((rdOf ByteArray.empty x0 x7).toList)) = true then (if x5.length < 8796093022208 then ((some (x5 ++ [x1] : List ByteArray)).bind fun y271 => (if y271.length < 8796093022208 then (spec_l8Put.l0 k x0 x1 (y271 ++ [rdOf ByteArray.empty x0 x7]) true (wrap64 (x7 + 1))) else (none))) else (none)) else (if x5.length < 8796093022208 then (spec_l8Put.l0 k x0 x1 (x5 ++ [rdOf ByteArray.empty x0 x7]) x6 (wrap64 (x7 + 1))) else (none))) else (none))) else (if x6 = true then (some x5) else (if x5.length < 8796093022208 then (some (x5 ++ [x1])) else (none)))
def spec_l8Put.f (k : Nat) (l0 : List ByteArray) (a1 : ByteArray) : Option (List ByteArray) := (spec_l6In.f k l0 a1).bind fun t262 => (if t262 = true then (some l0) else (spec_l8Put.l0 k l0 a1 (([] : List ByteArray)) false 0))
theorem spec_l8Put.mono_l : ∀ k, (∀ y0 y1 y2 y3 y4, LeO (spec_l8Put.l0 k y0 y1 y2 y3 y4) (spec_l8Put.l0 (k + 1) y0 y1 y2 y3 y4))
 | 0 => fun _ _ _ _ _ r h => by simp [spec_l8Put.l0] at h
 | k + 1 => by
  have ih0 := spec_l8Put.mono_l k
  ·intro y0 y1 y2 y3 y4
   unfold spec_l8Put.l0
   repeat' (first | (with_reducible first | exact ih0 _ _ _ _ _ | exact spec_l6In.mono _ _ _ | exact LeO.refl _ | exact LeO.none _ | refine LeO.ite ?_ ?_ | refine LeO.bind ?_ (fun _ => ?_)) | exact LeO.none _ | refine LeO.ite ?_ ?_ | refine LeO.bind ?_ (fun _ => ?_))
theorem spec_l8Put.mono : ∀ a0 a1 k, LeO (spec_l8Put.f k a0 a1) (spec_l8Put.f (k + 1) a0 a1) := by
 intro a0 a1 k
 have ih0 := spec_l8Put.mono_l k
 unfold spec_l8Put.f
 repeat' (first | (with_reducible first | exact ih0 _ _ _ _ _ | exact spec_l6In.mono _ _ _ | exact LeO.refl _ | exact LeO.none _ | refine LeO.ite ?_ ?_ | refine LeO.bind ?_ (fun _ => ?_)) | exact LeO.none _ | refine LeO.ite ?_ ?_ | refine LeO.bind ?_ (fun _ => ?_))
set_option maxHeartbeats 8000000 in
set_option maxRecDepth 100000 in
theorem spec_l8Put.calls (k : Nat) (P0_ : Nat → Prop) (u9000_ : Value) (l0 : List ByteArray) (a1 : ByteArray) (r : List ByteArray) (w0 w : World) (hB : Below w0.heap.size w0 w) (ho0 : Kd.R Kd.string 9 w w0.heap.size P0_ u9000_ l0) (h : spec_l8Put.f k l0 a1 = some r) :
  Calls Try.prog 26 #[u9000_, .string a1] w fun e w' => ∃ v0_ : Value, e = .returned (v0_) ∧ Kd.R Kd.string 9 w' w0.heap.size (fun k_ => (P0_ k_ ∨ w.heap.size ≤ k_)) v0_ r ∧ Below w0.heap.size w0 w' ∧ Kept w w' (fun k_ => P0_ k_) := by
 have HO0 := Aside0.mk (show Kd.R Kd.string 9 w w0.heap.size (fun k_ => (P0_ k_ ∨ w.heap.size ≤ k_)) u9000_ l0 from Kd.R_mono ho0 (fun k_ hk => (.inl hk)))
 have HK := Aside0.mk (Kept.refl w (fun k_ => P0_ k_))
 have HW0 := Aside0.mk hB.size
 have HB := Aside0.mk hB
 clear hB
 try unfold spec_l8Put.f at h
 have H := h
 clear h
 replace H := bnd H
 obtain ⟨t262, A3, H⟩ := H
 try dsimp only at H
 by_cases c4 : t262 = true
 ·subst c4
  rw [if_pos rfl] at H
  obtain rfl := Option.some.inj H
  obtain ⟨Ao5, co5, eo5⟩ := Kd.R_slice HO0.out
  subst eo5
  go_enter Try.func26, Try.ntmps26
  go_wp2_with (first | ((with_reducible refine gate_callee (f := 46) rfl ?_); refine goesL_ (some 10) rfl rfl Try.func46 (by kernel_rfl) rfl #[.slice Ao5 l0.length co5, .string a1] rfl zt5 ?_; (with_reducible refine (spec_l6In.calls k _ _ l0 a1 true _ ?side1 ?side2 A3.out).mono ?_); (case side1 => exact cz (Kd.R_reads' HO0.out).2.2); (case side2 => exact (Kd.R_reads' HO0.out).2.1); rintro e w' ⟨rfl, ⟨nd, rfl⟩⟩; refine ⟨_, rfl, ?_⟩))
  go_ret
  exact ⟨_, zt8, zt39, zt3, zt7⟩
 ·replace c4 := Bool.eq_false_iff.mpr c4
  subst c4
  rw [if_neg (show ¬ (false = true) by decide)] at H
  obtain ⟨y263, hy263⟩ : ∃ y_ : List ByteArray, y_ = (([] : List ByteArray)) := ⟨_, rfl⟩
  replace H : (spec_l8Put.l0 k l0 a1 y263 false 0) = some r := by first | (rw [hy263]; with_reducible exact H) | (have H2_ := (Option.bind_some _ _).symm.trans H; rw [hy263]; with_reducible exact H2_) | (have H2_ := (Option.bind_some _ _).symm.trans H; with_reducible exact H2_) | with_reducible exact H | (rw [hy263]; exact H) | exact H
  have Ny263 := Aside0.mk hy263
  clear hy263
  have H' := Aside0.mk H
  clear H
  obtain ⟨Ao6, co6, eo6⟩ := Kd.R_slice HO0.out
  subst eo6
  go_enter Try.func26, Try.ntmps26
  go_wp2_with (first | ((with_reducible refine gate_callee (f := 46) rfl ?_); refine goesL_ (some 10) rfl rfl Try.func46 (by kernel_rfl) rfl #[.slice Ao6 l0.length co6, .string a1] rfl zt5 ?_; (with_reducible refine (spec_l6In.calls k _ _ l0 a1 false _ ?side1 ?side2 A3.out).mono ?_); (case side1 => exact cz (Kd.R_reads' HO0.out).2.2); (case side2 => exact (Kd.R_reads' HO0.out).2.1); rintro e w' ⟨rfl, ⟨nd, rfl⟩⟩; refine ⟨_, rfl, ?_⟩) | ((with_reducible refine gate_dst (N := 12) rfl ?_); refine Kd.R_lit Kd.string _ 9 ?hg (N := 12) ?hd (xs := ([] : List ByteArray)) (inner := []) (ok := fun _ => True) (okp := fun _ => True) ?hr ?hp (fun _ hk => hk) trivial (Below.refl _ _) (Nat.le_refl _) (by simp) ?_; (case hd => rfl); (case hg => rfl); (case hr => first | (go_simp; done) | (go_simp; rfl)); (case hp => exact (Reps.none _ _)); intro v264 w7 ho8 hb hg_ hnew_; clear hg_ hnew_; (first | rw [← Ny263.out] at ho8 | (simp only [Int.reduceToNat] at ho8; rw [← Ny263.out] at ho8)); have n0_ := Aside0.mk (Kd.R_elder' (rz HO0.out) (Kd.R_base ho8) hb); have n1_ := Aside0.mk (Kd.R_lower (Kd.R_new' (Kd.R_newM (M := fun k_ => (P0_ k_ ∨ w.heap.size ≤ k_)) ho8 zt28 (fun k_ h_ => .inr h_)) (Kd.R_lt (rz HO0.out))) (below_size zt3)); have n2_ := Aside0.mk (Kept.below (S := (fun k_ => P0_ k_)) zt7 hb); have n3_ := Aside0.mk (below_step zt3 hb); clear HO0; clear HK; clear HB; have HO0 := n0_; have HO265 := n1_; have HK := n2_; have HB := n3_; clear n0_ n1_ n2_ n3_; clear hb ho8))
  go_loopg [5, 6, 7] k (fun kq v5 v6 v7 w' => ∃ (x5_1 : List ByteArray) (x6_1 : Bool) (x7_1 : Int), v6 = .bool x6_1 ∧ v7 = .int .i64 x7_1 ∧ Aside0 (spec_l8Put.l0 kq l0 a1 x5_1 x6_1 x7_1 = some r) ∧ Aside0 (kq ≤ k) ∧ Aside0 (Kd.R Kd.string 9 w' w0.heap.size (fun k_ => (P0_ k_ ∨ w.heap.size ≤ k_) ∧ some k_ ≠ (v5 : Value).ownBlock) (.slice Ao6 l0.length co6) l0) ∧ Aside0 (Kd.R Kd.string 9 w' w0.heap.size (fun k_ => (P0_ k_ ∨ w.heap.size ≤ k_) ∧ some k_ ≠ ((.slice Ao6 l0.length co6) : Value).ownBlock) v5 x5_1) ∧ Aside0 (Kept w w' (fun k_ => P0_ k_)) ∧ Aside0 (Below w0.heap.size w0 w'))
  case atStart => exact ⟨(y263), (false), (0), zt9, zt9, H', ⟨Nat.le_refl _⟩, ⟨zt39⟩, ⟨by (with_reducible repeat (first | apply Kd.R_alloc | apply Kd.R_drewN | apply Kd.R_drew)); exact Kd.R_mono HO265.out (fun _ hk => ⟨(by first | exact hk.1.1 | (revert hk; (try simp only [and_imp]); intros; assumption)), (by first | exact hk.2 | (revert hk; (try simp only [and_imp]); intros; assumption))⟩)⟩, ⟨zt7⟩, ⟨zt3⟩⟩
  case round =>
   clear H'
   try clear c2
   try clear p2
   try clear c4
   obtain ⟨x5_1, x6_1, x7_1, rfl, rfl, HA, HK1, HO_0, HO_5, HK, HB⟩ := hrel
   cases gk with
   | zero => exact absurd HA.out (by simp [spec_l8Put.l0])
   | succ k1 =>
    have H := HA.out
    clear HA
    simp only [spec_l8Put.l0] at H
    by_cases c9 : x7_1 < (l0.length : Int)
    rw [if_pos c9] at H
    have c9b0 := decide_eq_true c9
    clear c9
    by_cases c10 : x6_1 = true
    subst c10
    rw [if_pos rfl] at H
    replace H := it0 H
    obtain ⟨c11, H⟩ := H
    have c11b0 : decide (0 ≤ x7_1) = true := decide_eq_true c11
    clear c11
    replace H := it0 H
    obtain ⟨c12, H⟩ := H
    have LMc12 := Aside0.mk c12
    clear c12
    obtain ⟨y267, hy267⟩ : ∃ y_ : List ByteArray, y_ = (x5_1 ++ [rdOf ByteArray.empty l0 x7_1]) := ⟨_, rfl⟩
    replace H : (spec_l8Put.l0 k1 l0 a1 y267 true (wrap64 (x7_1 + 1))) = some r := by first | (rw [hy267]; with_reducible exact H) | (have H2_ := (Option.bind_some _ _).symm.trans H; rw [hy267]; with_reducible exact H2_) | (have H2_ := (Option.bind_some _ _).symm.trans H; with_reducible exact H2_) | with_reducible exact H | (rw [hy267]; exact H) | exact H
    have Ny267 := Aside0.mk hy267
    clear hy267
    have H' := Aside0.mk H
    clear H
    have p266 : 0 ≤ (x7_1 : Int) := of_decide_eq_true zt4
    have q266 : x7_1 < (l0.length : Int) := of_decide_eq_true zt4
    obtain ⟨ad266, e266, hx266_0⟩ := Kd.at_string (Kd.R_reads' HO_0.out).2.2 x7_1 p266 q266
    cases e266
    replace p266 := eq_true p266
    replace q266 := eq_true q266
    rotate_left
    replace c10 := Bool.eq_false_iff.mpr c10
    subst c10
    rw [if_neg (show ¬ (false = true) by decide)] at H
    replace H := it0 H
    obtain ⟨c14, H⟩ := H
    have c14b0 : decide (0 ≤ x7_1) = true := decide_eq_true c14
    clear c14
    by_cases c15 : (Op.bytesLess a1.toList ((rdOf ByteArray.empty l0 x7_1).toList)) = true
    rw [if_pos c15] at H
    have c15b0 : (Op.bytesLess a1.toList ((rdOf ByteArray.empty l0 x7_1).toList)) = true := c15
    clear c15
    replace H := it0 H
    obtain ⟨c16, H⟩ := H
    have LMc16 := Aside0.mk c16
    clear c16
    obtain ⟨y271, hy271⟩ : ∃ y_ : List ByteArray, y_ = (x5_1 ++ [a1]) := ⟨_, rfl⟩
    rw [← hy271] at H
    have Ny271 := Aside0.mk hy271
    clear hy271
    replace H := it0 H
    obtain ⟨c17, H⟩ := H
    have LMc17 := Aside0.mk c17
    clear c17
    obtain ⟨y275, hy275⟩ : ∃ y_ : List ByteArray, y_ = (y271 ++ [rdOf ByteArray.empty l0 x7_1]) := ⟨_, rfl⟩
    replace H : (spec_l8Put.l0 k1 l0 a1 y275 true (wrap64 (x7_1 + 1))) = some r := by first | (rw [hy275]; with_reducible exact H) | (have H2_ := (Option.bind_some _ _).symm.trans H; rw [hy275]; with_reducible exact H2_) | (have H2_ := (Option.bind_some _ _).symm.trans H; with_reducible exact H2_) | with_reducible exact H | (rw [hy275]; exact H) | exact H
    have Ny275 := Aside0.mk hy275
    clear hy275
    have H' := Aside0.mk H
    clear H
    have p270 : 0 ≤ (x7_1 : Int) := of_decide_eq_true zt4
    have q270 : x7_1 < (l0.length : Int) := of_decide_eq_true zt4
    obtain ⟨ad270, e270, hx270_0⟩ := Kd.at_string (Kd.R_reads' HO_0.out).2.2 x7_1 p270 q270
    cases e270
    replace p270 := eq_true p270
    replace q270 := eq_true q270
    rotate_left
    rw [if_neg c15] at H
    have c15b0 : (Op.bytesLess a1.toList ((rdOf ByteArray.empty l0 x7_1).toList)) = false := by simpa using c15
    clear c15
    replace H := it0 H
    obtain ⟨c20, H⟩ := H
    have LMc20 := Aside0.mk c20
    clear c20
    obtain ⟨y279, hy279⟩ : ∃ y_ : List ByteArray, y_ = (x5_1 ++ [rdOf ByteArray.empty l0 x7_1]) := ⟨_, rfl⟩
    replace H : (spec_l8Put.l0 k1 l0 a1 y279 false (wrap64 (x7_1 + 1))) = some r := by first | (rw [hy279]; with_reducible exact H) | (have H2_ := (Option.bind_some _ _).symm.trans H; rw [hy279]; with_reducible exact H2_) | (have H2_ := (Option.bind_some _ _).symm.trans H; with_reducible exact H2_) | with_reducible exact H | (rw [hy279]; exact H) | exact H
    have Ny279 := Aside0.mk hy279
    clear hy279
    have H' := Aside0.mk H
    clear H
    have p270 : 0 ≤ (x7_1 : Int) := of_decide_eq_true zt4
    have q270 : x7_1 < (l0.length : Int) := of_decide_eq_true zt4
    obtain ⟨ad270, e270, hx270_0⟩ := Kd.at_string (Kd.R_reads' HO_0.out).2.2 x7_1 p270 q270
    cases e270
    replace p270 := eq_true p270
    replace q270 := eq_true q270
    have p278 : 0 ≤ (x7_1 : Int) := of_decide_eq_true zt4
    have q278 : x7_1 < (l0.length : Int) := of_decide_eq_true zt4
    obtain ⟨ad278, e278, hx278_0⟩ := Kd.at_string (Kd.R_reads' HO_0.out).2.2 x7_1 p278 q278
    obtain rfl : ad270 = ad278 := (by injection e278)
    replace p278 := eq_true p278
    replace q278 := eq_true q278
    rotate_left
    rw [if_neg c9] at H
    have c9b0 := decide_eq_false c9
    clear c9
    by_cases c22 : x6_1 = true
    subst c22
    rw [if_pos rfl] at H
    obtain rfl := Option.some.inj H
    rotate_left
    replace c22 := Bool.eq_false_iff.mpr c22
    subst c22
    rw [if_neg (show ¬ (false = true) by decide)] at H
    replace H := it0 H
    obtain ⟨c23, H⟩ := H
    have LMc23 := Aside0.mk c23
    clear c23
    obtain ⟨y282, hy282⟩ : ∃ y_ : List ByteArray, y_ = (x5_1 ++ [a1]) := ⟨_, rfl⟩
    replace H : (some y282) = some r := by first | (rw [hy282]; with_reducible exact H) | (have H2_ := (Option.bind_some _ _).symm.trans H; rw [hy282]; with_reducible exact H2_) | (have H2_ := (Option.bind_some _ _).symm.trans H; with_reducible exact H2_) | with_reducible exact H | (rw [hy282]; exact H) | exact H
    have Ny282 := Aside0.mk hy282
    clear hy282
    obtain rfl := Option.some.inj H
    rotate_left
    all_goals
     repeat (go_wp2_with (first | ((with_reducible refine gate_builtin (b := .append) (xs := #[.tmp 29, .tmp 31]) rfl ?_); at_builtin; refine Kd.R_append Kd.string (w0 := w0) w0.heap.size rfl (.tmp 29) (.tmp 31) 22 9 (.string ⟨#[]⟩) 16 rfl Try.underlying22 info9 rfl (by decide) (by omega) u5 x5_1 a1 [.string a1] (fun k_ => (P0_ k_ ∨ w.heap.size ≤ k_) ∧ some k_ ≠ (.slice (some ad270) l0.length co6 : Value).ownBlock) (fun _ => False) rfl rfl ?aP (fun _ hk => hk.elim) ?aF ?aO ?aB ?aS ?aL ?_; (case aP => exact rfl); (case aB => exact zt3); (case aF => exact (fun k_ hk => ⟨(.inr (Nat.le_trans zt28 hk)), Kd.fresh' (Kd.R_lt (rz HO_0.out)) k_ hk⟩)); (case aO => exact (rz HO_5.out)); (case aS => exact (below_size zt3)); (case aL => have := LMc16.out; omega); intro v7000 w7001 ho hb hg hat; rw [← Ny271.out] at ho; have n0_ := Aside0.mk (Kd.R_after (ok := (fun k_ => (P0_ k_ ∨ w.heap.size ≤ k_))) (rz HO_0.out) hg hat); have n1_ := Aside0.mk (hb); have n2_ := Aside0.mk (Kept.of_grown (S := (fun k_ => P0_ k_)) hg zt7 (fun k_ e_ => (HO_5.out.1 k_ e_).1)); have n3_ := Aside0.mk (ho); clear HO_0; clear HB; clear HK; clear HO_5; have HO_0 := n0_; have HB := n1_; have HK := n2_; have HO7002 := n3_; clear n0_ n1_ n2_ n3_; clear ho hb hg hat; have p7003 : 0 ≤ (x7_1 : Int) := of_decide_eq_true zt4; have q7003 : x7_1 < (l0.length : Int) := of_decide_eq_true zt4; obtain ⟨ad7003, e7003, hx7003_0⟩ := Kd.at_string (Kd.R_reads' HO_0.out).2.2 x7_1 p7003 q7003; obtain rfl : ad270 = ad7003 := (by injection e7003); replace p7003 := eq_true p7003; replace q7003 := eq_true q7003) | ((with_reducible refine gate_builtin (b := .append) (xs := #[.tmp 33, .tmp 38]) rfl ?_); at_builtin; refine Kd.R_append Kd.string (w0 := w0) w0.heap.size rfl (.tmp 33) (.tmp 38) 22 9 (.string ⟨#[]⟩) 16 rfl Try.underlying22 info9 rfl (by decide) (by omega) v7000 y271 (rdOf ByteArray.empty l0 x7_1) [.string (rdOf ByteArray.empty l0 x7_1)] (fun k_ => (P0_ k_ ∨ w.heap.size ≤ k_) ∧ some k_ ≠ (.slice (some ad270) l0.length co6 : Value).ownBlock) (fun _ => False) rfl rfl ?aP (fun _ hk => hk.elim) ?aF ?aO ?aB ?aS ?aL ?_; (case aP => exact rfl); (case aB => exact zt3); (case aF => exact (fun k_ hk => ⟨(.inr (Nat.le_trans zt28 hk)), Kd.fresh' (Kd.R_lt (rz HO_0.out)) k_ hk⟩)); (case aO => exact (rz HO7002.out)); (case aS => exact (below_size zt3)); (case aL => have := LMc17.out; omega); intro v7004 w7005 ho hb hg hat; rw [← Ny275.out] at ho; have n0_ := Aside0.mk (Kd.R_after (ok := (fun k_ => (P0_ k_ ∨ w.heap.size ≤ k_))) (rz HO_0.out) hg hat); have n1_ := Aside0.mk (hb); have n2_ := Aside0.mk (Kept.of_grown (S := (fun k_ => P0_ k_)) hg zt7 (fun k_ e_ => (HO7002.out.1 k_ e_).1)); have n3_ := Aside0.mk (ho); clear HO_0; clear HB; clear HK; clear HO7002; have HO_0 := n0_; have HB := n1_; have HK := n2_; have HO7006 := n3_; clear n0_ n1_ n2_ n3_; clear ho hb hg hat) | ((with_reducible refine gate_builtin (b := .append) (xs := #[.tmp 33, .tmp 38]) rfl ?_); at_builtin; refine Kd.R_append Kd.string (w0 := w0) w0.heap.size rfl (.tmp 33) (.tmp 38) 22 9 (.string ⟨#[]⟩) 16 rfl Try.underlying22 info9 rfl (by decide) (by omega) u5 x5_1 (rdOf ByteArray.empty l0 x7_1) [.string (rdOf ByteArray.empty l0 x7_1)] (fun k_ => (P0_ k_ ∨ w.heap.size ≤ k_) ∧ some k_ ≠ (.slice (some ad266) l0.length co6 : Value).ownBlock) (fun _ => False) rfl rfl ?aP (fun _ hk => hk.elim) ?aF ?aO ?aB ?aS ?aL ?_; (case aP => exact rfl); (case aB => exact zt3); (case aF => exact (fun k_ hk => ⟨(.inr (Nat.le_trans zt28 hk)), Kd.fresh' (Kd.R_lt (rz HO_0.out)) k_ hk⟩)); (case aO => exact (rz HO_5.out)); (case aS => exact (below_size zt3)); (case aL => have := LMc12.out; omega); intro v7000 w7001 ho hb hg hat; rw [← Ny267.out] at ho; have n0_ := Aside0.mk (Kd.R_after (ok := (fun k_ => (P0_ k_ ∨ w.heap.size ≤ k_))) (rz HO_0.out) hg hat); have n1_ := Aside0.mk (hb); have n2_ := Aside0.mk (Kept.of_grown (S := (fun k_ => P0_ k_)) hg zt7 (fun k_ e_ => (HO_5.out.1 k_ e_).1)); have n3_ := Aside0.mk (ho); clear HO_0; clear HB; clear HK; clear HO_5; have HO_0 := n0_; have HB := n1_; have HK := n2_; have HO7002 := n3_; clear n0_ n1_ n2_ n3_; clear ho hb hg hat) | ((with_reducible refine gate_builtin (b := .append) (xs := #[.tmp 33, .tmp 38]) rfl ?_); at_builtin; refine Kd.R_append Kd.string (w0 := w0) w0.heap.size rfl (.tmp 33) (.tmp 38) 22 9 (.string ⟨#[]⟩) 16 rfl Try.underlying22 info9 rfl (by decide) (by omega) u5 x5_1 (rdOf ByteArray.empty l0 x7_1) [.string (rdOf ByteArray.empty l0 x7_1)] (fun k_ => (P0_ k_ ∨ w.heap.size ≤ k_) ∧ some k_ ≠ (.slice (some ad270) l0.length co6 : Value).ownBlock) (fun _ => False) rfl rfl ?aP (fun _ hk => hk.elim) ?aF ?aO ?aB ?aS ?aL ?_; (case aP => exact rfl); (case aB => exact zt3); (case aF => exact (fun k_ hk => ⟨(.inr (Nat.le_trans zt28 hk)), Kd.fresh' (Kd.R_lt (rz HO_0.out)) k_ hk⟩)); (case aO => exact (rz HO_5.out)); (case aS => exact (below_size zt3)); (case aL => have := LMc20.out; omega); intro v7000 w7001 ho hb hg hat; rw [← Ny279.out] at ho; have n0_ := Aside0.mk (Kd.R_after (ok := (fun k_ => (P0_ k_ ∨ w.heap.size ≤ k_))) (rz HO_0.out) hg hat); have n1_ := Aside0.mk (hb); have n2_ := Aside0.mk (Kept.of_grown (S := (fun k_ => P0_ k_)) hg zt7 (fun k_ e_ => (HO_5.out.1 k_ e_).1)); have n3_ := Aside0.mk (ho); clear HO_0; clear HB; clear HK; clear HO_5; have HO_0 := n0_; have HB := n1_; have HK := n2_; have HO7002 := n3_; clear n0_ n1_ n2_ n3_; clear ho hb hg hat) | ((with_reducible refine gate_builtin (b := .append) (xs := #[.tmp 42, .tmp 44]) rfl ?_); at_builtin; refine Kd.R_append Kd.string (w0 := w0) w0.heap.size rfl (.tmp 42) (.tmp 44) 22 9 (.string ⟨#[]⟩) 16 rfl Try.underlying22 info9 rfl (by decide) (by omega) u5 x5_1 a1 [.string a1] (fun k_ => (P0_ k_ ∨ w.heap.size ≤ k_) ∧ some k_ ≠ (.slice Ao6 l0.length co6 : Value).ownBlock) (fun _ => False) rfl rfl ?aP (fun _ hk => hk.elim) ?aF ?aO ?aB ?aS ?aL ?_; (case aP => exact rfl); (case aB => exact zt3); (case aF => exact (fun k_ hk => ⟨(.inr (Nat.le_trans zt28 hk)), Kd.fresh' (Kd.R_lt (rz HO_0.out)) k_ hk⟩)); (case aO => exact (rz HO_5.out)); (case aS => exact (below_size zt3)); (case aL => have := LMc23.out; omega); intro v7000 w7001 ho hb hg hat; rw [← Ny282.out] at ho; have n0_ := Aside0.mk (Kd.R_after (ok := (fun k_ => (P0_ k_ ∨ w.heap.size ≤ k_))) (rz HO_0.out) hg hat); have n1_ := Aside0.mk (hb); have n2_ := Aside0.mk (Kept.of_grown (S := (fun k_ => P0_ k_)) hg zt7 (fun k_ e_ => (HO_5.out.1 k_ e_).1)); have n3_ := Aside0.mk (ho); clear HO_0; clear HB; clear HK; clear HO_5; have HO_0 := n0_; have HB := n1_; have HK := n2_; have HO7002 := n3_; clear n0_ n1_ n2_ n3_; clear ho hb hg hat)); first | go_quiet (fail) | (go_roundg k1; (case measure => have := HK1.out; omega); (case rel => exact ⟨(y267), (true), (wrap64 (x7_1 + 1)), zt9, zt9, H', ⟨by have := HK1.out; omega⟩, ⟨zt14⟩, ⟨zt21⟩, ⟨zt7⟩, ⟨zt3⟩⟩)) | (go_roundg k1; (case measure => have := HK1.out; omega); (case rel => exact ⟨(y275), (true), (wrap64 (x7_1 + 1)), zt9, zt9, H', ⟨by have := HK1.out; omega⟩, ⟨zt14⟩, ⟨by (with_reducible repeat (first | apply Kd.R_alloc | apply Kd.R_drewN | apply Kd.R_drew)); (first | exact HO7006.out | exact Kd.R_mono HO7006.out (fun k_ h_ => by first | exact h_ | (simpa [Value.ownBlock] using h_) | (have e_ : ∀ (A : Option Addr) (n m c : Nat), (Value.slice A n c).ownBlock = (Value.slice A m c).ownBlock := (fun A n m c => by cases A <;> rfl); rw [e_ _ _ 0 _] at h_ ⊢; exact h_)))⟩, ⟨zt7⟩, ⟨zt3⟩⟩)) | (go_roundg k1; (case measure => have := HK1.out; omega); (case rel => exact ⟨(y279), (false), (wrap64 (x7_1 + 1)), zt9, zt9, H', ⟨by have := HK1.out; omega⟩, ⟨zt14⟩, ⟨zt21⟩, ⟨zt7⟩, ⟨zt3⟩⟩)) | (go_ret; exact ⟨_, zt8, by (with_reducible repeat (first | apply Kd.R_alloc | apply Kd.R_drewN | apply Kd.R_drew)); exact Kd.R_mono HO_5.out (fun _ hk => hk.1), zt3, zt7⟩) | (go_ret; exact ⟨_, zt8, by (with_reducible repeat (first | apply Kd.R_alloc | apply Kd.R_drewN | apply Kd.R_drew)); exact Kd.R_mono HO7002.out (fun _ hk => hk.1), zt3, zt7⟩))

/-! ### spec_Uses: function 7 -/
mutual
def spec_Uses.l0 : Nat → List ByteArray → Int → List ByteArray → List (S73) → List (S55) → List (S53) → List (S50) → Option (List ByteArray)
 | 0, _, _, _, _, _, _, _ => none
 | k + 1, x3, x4, x286000, x286001, x286002, x286003, x286004 => if x4 < (x286004.length : Int) then (if 0 ≤ x4 then ((spec_l16Named.f ((rd_T50 x286004 x4).f0)).bind fun t290 => (if t290 = true then ((spec_l8Put.f k x3 ((rd_T50 x286004 x4).f2)).bind fun t292 => (spec_Uses.l0 k t292 (wrap64 (x4 + 1)) x286000 x286001 x286002 x286003 x286004)) else (spec_Uses.l0 k x3 (wrap64 (x4 + 1)) x286000 x286001 x286002 x286003 x286004))) else (none)) else (spec_Uses.l1 k x3 0 x286000 x286001 x286002 x286003 x286004)
def spec_Uses.l1 : Nat → List ByteArray → Int → List ByteArray → List (S73) → List (S55) → List (S53) → List (S50) → Option (List ByteArray)
 | 0, _, _, _, _, _, _, _ => none
 | k + 1, x3, x5, x286000, x286001, x286002, x286003, x286004 => if x5 < (x286003.length : Int) then (if 0 ≤ x5 then (if ((rd_T53 x286003 x5).f0) = 3 then ((spec_l8Put.f k x3 ((rd_T53 x286003 x5).f1)).bind fun t297 => (spec_Uses.l1 k t297 (wrap64 (x5 + 1)) x286000 x286001 x286002 x286003 x286004)) else (spec_Uses.l1 k x3 (wrap64 (x5 + 1)) x286000 x286001 x286002 x286003 x286004)) else (none)) else (spec_Uses.l2 k x3 0 x286000 x286001 x286002 x286003 x286004)
def spec_Uses.l2 : Nat → List ByteArray → Int → List ByteArray → List (S73) → List (S55) → List (S53) → List (S50) → Option (List ByteArray)
 | 0, _, _, _, _, _, _, _ => none
 | k + 1, x3, x6, x286000, x286001, x286002, x286003, x286004 => if x6 < (x286002.length : Int) then (if 0 ≤ x6 then (if ((rd_T55 x286002 x6).f0) = 1 then ((spec_l8Put.f k x3 ((rd_T55 x286002 x6).f2)).bind fun t302 => (spec_Uses.l2 k t302 (wrap64 (x6 + 1)) x286000 x286001 x286002 x286003 x286004)) else (spec_Uses.l2 k x3 (wrap64 (x6 + 1)) x286000 x286001 x286002 x286003 x286004)) else (none)) else (some x3)
end
def spec_Uses.f (k : Nat) (l0_0 : List ByteArray) (l0_1 : List (S73)) (l0_2 : List (S55)) (l0_3 : List (S53)) (l0_4 : List (S50)) : Option (List ByteArray) := spec_Uses.l0 k (([] : List ByteArray)) 0 l0_0 l0_1 l0_2 l0_3 l0_4
theorem spec_Uses.mono_l : ∀ k, (∀ y0 y1 y2 y3 y4 y5 y6, LeO (spec_Uses.l0 k y0 y1 y2 y3 y4 y5 y6) (spec_Uses.l0 (k + 1) y0 y1 y2 y3 y4 y5 y6)) ∧ (∀ y0 y1 y2 y3 y4 y5 y6, LeO (spec_Uses.l1 k y0 y1 y2 y3 y4 y5 y6) (spec_Uses.l1 (k + 1) y0 y1 y2 y3 y4 y5 y6)) ∧ (∀ y0 y1 y2 y3 y4 y5 y6, LeO (spec_Uses.l2 k y0 y1 y2 y3 y4 y5 y6) (spec_Uses.l2 (k + 1) y0 y1 y2 y3 y4 y5 y6))
 | 0 => ⟨fun _ _ _ _ _ _ _ r h => by simp [spec_Uses.l0] at h, fun _ _ _ _ _ _ _ r h => by simp [spec_Uses.l1] at h, fun _ _ _ _ _ _ _ r h => by simp [spec_Uses.l2] at h⟩
 | k + 1 => by
  obtain ⟨ih0, ih1, ih2⟩ := spec_Uses.mono_l k
  refine ⟨?_, ?_, ?_⟩
  ·intro y0 y1 y2 y3 y4 y5 y6
   unfold spec_Uses.l0
   repeat' (first | (with_reducible first | exact ih0 _ _ _ _ _ _ _ | exact ih1 _ _ _ _ _ _ _ | exact ih2 _ _ _ _ _ _ _ | exact spec_l8Put.mono _ _ _ | exact LeO.refl _ | exact LeO.none _ | refine LeO.ite ?_ ?_ | refine LeO.bind ?_ (fun _ => ?_)) | exact LeO.none _ | refine LeO.ite ?_ ?_ | refine LeO.bind ?_ (fun _ => ?_))
  ·intro y0 y1 y2 y3 y4 y5 y6
   unfold spec_Uses.l1
   repeat' (first | (with_reducible first | exact ih0 _ _ _ _ _ _ _ | exact ih1 _ _ _ _ _ _ _ | exact ih2 _ _ _ _ _ _ _ | exact spec_l8Put.mono _ _ _ | exact LeO.refl _ | exact LeO.none _ | refine LeO.ite ?_ ?_ | refine LeO.bind ?_ (fun _ => ?_)) | exact LeO.none _ | refine LeO.ite ?_ ?_ | refine LeO.bind ?_ (fun _ => ?_))
  ·intro y0 y1 y2 y3 y4 y5 y6
   unfold spec_Uses.l2
   repeat' (first | (with_reducible first | exact ih0 _ _ _ _ _ _ _ | exact ih1 _ _ _ _ _ _ _ | exact ih2 _ _ _ _ _ _ _ | exact spec_l8Put.mono _ _ _ | exact LeO.refl _ | exact LeO.none _ | refine LeO.ite ?_ ?_ | refine LeO.bind ?_ (fun _ => ?_)) | exact LeO.none _ | refine LeO.ite ?_ ?_ | refine LeO.bind ?_ (fun _ => ?_))
theorem spec_Uses.mono : ∀ a0 a1 a2 a3 a4 k, LeO (spec_Uses.f k a0 a1 a2 a3 a4) (spec_Uses.f (k + 1) a0 a1 a2 a3 a4) := by
 intro a0 a1 a2 a3 a4 k
 obtain ⟨ih0, ih1, ih2⟩ := spec_Uses.mono_l k
 unfold spec_Uses.f
 repeat' (first | (with_reducible first | exact ih0 _ _ _ _ _ _ _ | exact ih1 _ _ _ _ _ _ _ | exact ih2 _ _ _ _ _ _ _ | exact spec_l8Put.mono _ _ _ | exact LeO.refl _ | exact LeO.none _ | refine LeO.ite ?_ ?_ | refine LeO.bind ?_ (fun _ => ?_)) | exact LeO.none _ | refine LeO.ite ?_ ?_ | refine LeO.bind ?_ (fun _ => ?_))
set_option maxHeartbeats 8000000 in
set_option maxRecDepth 100000 in
theorem spec_Uses.calls (k : Nat) (A0_0 : Option Addr) (c0_0 : Nat) (l0_0 : List ByteArray) (A0_1 : Option Addr) (c0_1 : Nat) (l0_1 : List (S73)) (A0_2 : Option Addr) (c0_2 : Nat) (l0_2 : List (S55)) (A0_3 : Option Addr) (c0_3 : Nat) (l0_3 : List (S53)) (A0_4 : Option Addr) (c0_4 : Nat) (l0_4 : List (S50)) (r : List ByteArray) (w : World) (hr0_0 : Kd.C Kd.string w A0_0 l0_0.length l0_0) (hc0_0 : l0_0.length ≤ c0_0) (hr0_1 : Kd.C k73 w A0_1 l0_1.length l0_1) (hc0_1 : l0_1.length ≤ c0_1) (hr0_2 : Kd.C k55 w A0_2 l0_2.length l0_2) (hc0_2 : l0_2.length ≤ c0_2) (hr0_3 : Kd.C k53 w A0_3 l0_3.length l0_3) (hc0_3 : l0_3.length ≤ c0_3) (hr0_4 : Kd.C k50 w A0_4 l0_4.length l0_4) (hc0_4 : l0_4.length ≤ c0_4) (h : spec_Uses.f k l0_0 l0_1 l0_2 l0_3 l0_4 = some r) :
  Calls Try.prog 7 #[.agg #[.slice A0_0 l0_0.length c0_0, .slice A0_1 l0_1.length c0_1, .slice A0_2 l0_2.length c0_2, .slice A0_3 l0_3.length c0_3, .slice A0_4 l0_4.length c0_4]] w fun e w' => ∃ v0_ : Value, e = .returned (v0_) ∧ Kd.R Kd.string 9 w' w.heap.size (fun _ => True) v0_ r ∧ Below w.heap.size w w' := by
 have hu36 := Try.underlying36
 have HR0_0 := Aside0.mk hr0_0
 have HC0_0 := Aside0.mk hc0_0
 clear hr0_0 hc0_0
 have HR0_1 := Aside0.mk hr0_1
 have HC0_1 := Aside0.mk hc0_1
 clear hr0_1 hc0_1
 have HR0_2 := Aside0.mk hr0_2
 have HC0_2 := Aside0.mk hc0_2
 clear hr0_2 hc0_2
 have HR0_3 := Aside0.mk hr0_3
 have HC0_3 := Aside0.mk hc0_3
 clear hr0_3 hc0_3
 have HR0_4 := Aside0.mk hr0_4
 have HC0_4 := Aside0.mk hc0_4
 clear hr0_4 hc0_4
 have HB := Aside0.mk (Below.refl w.heap.size w)
 try unfold spec_Uses.f at h
 have H := h
 clear h
 obtain ⟨y286, hy286⟩ : ∃ y_ : List ByteArray, y_ = (([] : List ByteArray)) := ⟨_, rfl⟩
 replace H : (spec_Uses.l0 k y286 0 l0_0 l0_1 l0_2 l0_3 l0_4) = some r := by first | (rw [hy286]; with_reducible exact H) | (have H2_ := (Option.bind_some _ _).symm.trans H; rw [hy286]; with_reducible exact H2_) | (have H2_ := (Option.bind_some _ _).symm.trans H; with_reducible exact H2_) | with_reducible exact H | (rw [hy286]; exact H) | exact H
 have Ny286 := Aside0.mk hy286
 clear hy286
 have H' := Aside0.mk H
 clear H
 go_enter Try.func7, Try.ntmps7
 go_wp2_with (first | ((with_reducible refine gate_dst (N := 1) rfl ?_); refine box_event ?hg (N := 1) ?hd (cs := #[.slice A0_0 l0_0.length c0_0, .slice A0_1 l0_1.length c0_1, .slice A0_2 l0_2.length c0_2, .slice A0_3 l0_3.length c0_3, .slice A0_4 l0_4.length c0_4]) (t := 36) ?hr ?_; (case hd => rfl); (case hg => rfl); (case hr => first | (go_simp; done) | (go_simp; rfl)); intro gb285 hg w2 hbox hb; have n0_ := Aside0.mk (below_step zt3 hb); have n1_ := Aside0.mk (hbox); have n2_ := Aside0.mk ((zt6 : w.heap.size ≤ gb285)); have n3_ := Aside0.mk ((zt6 : w.heap.size ≤ gb285)); clear HB; have HB := n0_; have BK285 := n1_; have GW285 := n2_; have GE285 := n3_; clear n0_ n1_ n2_ n3_; clear hb hbox hg) | ((with_reducible refine gate_dst (N := 7) rfl ?_); refine Kd.R_lit Kd.string _ 9 ?hg (N := 7) ?hd (xs := ([] : List ByteArray)) (inner := []) (ok := fun _ => True) (okp := fun _ => True) ?hr ?hp (fun _ hk => hk) trivial (Below.refl _ _) (Nat.le_refl _) (by simp) ?_; (case hd => rfl); (case hg => rfl); (case hr => first | (go_simp; done) | (go_simp; rfl)); (case hp => exact (Reps.none _ _)); intro v287 w3 ho4 hb hg_ hnew_; clear hg_ hnew_; (first | rw [← Ny286.out] at ho4 | (simp only [Int.reduceToNat] at ho4; rw [← Ny286.out] at ho4)); have n0_ := Aside0.mk (Kd.R_lower ho4 (below_size zt16)); have n1_ := Aside0.mk (blk_below (g := gb285) (o := .cells #[.slice A0_0 l0_0.length c0_0, .slice A0_1 l0_1.length c0_1, .slice A0_2 l0_2.length c0_2, .slice A0_3 l0_3.length c0_3, .slice A0_4 l0_4.length c0_4] 36 (0, 0)) (oz BK285.out) hb); have n2_ := Aside0.mk (below_step zt16 hb); clear BK285; clear HB; have HO288 := n0_; have BK285 := n1_; have HB := n2_; clear n0_ n1_ n2_; clear hb ho4))
 go_loopg [3, 4] k (fun kq v3 v4 w' => ∃ (x3_1 : List ByteArray) (x4_1 : Int), v4 = .int .i64 x4_1 ∧ Aside0 (spec_Uses.l0 kq x3_1 x4_1 l0_0 l0_1 l0_2 l0_3 l0_4 = some r) ∧ Aside0 (kq ≤ k) ∧ Aside0 (Kd.R Kd.string 9 w' w.heap.size (fun _ => True) v3 x3_1) ∧ Aside0 (w'.heap[gb285]? = some (.cells #[(.slice A0_0 l0_0.length c0_0), (.slice A0_1 l0_1.length c0_1), (.slice A0_2 l0_2.length c0_2), (.slice A0_3 l0_3.length c0_3), (.slice A0_4 l0_4.length c0_4)] 36 (0, 0))) ∧ Aside0 (Below w.heap.size w w'))
 case atStart => exact ⟨(y286), (0), zt9, H', ⟨Nat.le_refl _⟩, ⟨by (with_reducible repeat (first | apply Kd.R_alloc | apply Kd.R_drewN | apply Kd.R_drew)); exact HO288.out⟩, ⟨zt31⟩, ⟨zt16⟩⟩
 case round =>
  clear H'
  try clear p2
  obtain ⟨x3_1, x4_1, rfl, HA, HK1, HO_3, BK285, HB⟩ := hrel
  cases gk with
  | zero => exact absurd HA.out (by simp [spec_Uses.l0])
  | succ k1 =>
   have H := HA.out
   clear HA
   simp only [spec_Uses.l0] at H
   by_cases c5 : x4_1 < (l0_4.length : Int)
   rw [if_pos c5] at H
   have c5b0 := decide_eq_true c5
   clear c5
   replace H := it0 H
   obtain ⟨c6, H⟩ := H
   have c6b0 : decide (0 ≤ x4_1) = true := decide_eq_true c6
   clear c6
   replace H := bnd H
   obtain ⟨t290, A7, H⟩ := H
   try dsimp only at H
   by_cases c8 : t290 = true
   subst c8
   rw [if_pos rfl] at H
   replace H := bnd H
   obtain ⟨t292, A9, H⟩ := H
   try dsimp only at H
   have H' := Aside0.mk H
   clear H
   have hcz10_0 : wr.cell? ⟨gb285, 0, none⟩ = some (.slice A0_0 l0_0.length c0_0) := (blk_cell BK285.out 0).trans rfl
   have hcz10_1 : wr.cell? ⟨gb285, 1, none⟩ = some (.slice A0_1 l0_1.length c0_1) := (blk_cell BK285.out 1).trans rfl
   have hcz10_2 : wr.cell? ⟨gb285, 2, none⟩ = some (.slice A0_2 l0_2.length c0_2) := (blk_cell BK285.out 2).trans rfl
   have hcz10_3 : wr.cell? ⟨gb285, 3, none⟩ = some (.slice A0_3 l0_3.length c0_3) := (blk_cell BK285.out 3).trans rfl
   have hcz10_4 : wr.cell? ⟨gb285, 4, none⟩ = some (.slice A0_4 l0_4.length c0_4) := (blk_cell BK285.out 4).trans rfl
   have hfz10_0 := blk_frozen BK285.out 0
   have hfz10_1 := blk_frozen BK285.out 1
   have hfz10_2 := blk_frozen BK285.out 2
   have hfz10_3 := blk_frozen BK285.out 3
   have hfz10_4 := blk_frozen BK285.out 4
   have p289 : 0 ≤ (x4_1 : Int) := of_decide_eq_true zt4
   have q289 : x4_1 < (l0_4.length : Int) := of_decide_eq_true zt4
   obtain ⟨ad289, e289, hx289_0, hx289_1, hx289_2, hx289_3, hx289_4, hx289_5⟩ := at_T50 HR0_4.out x4_1 p289 q289
   cases e289
   replace hx289_0 := (HB.out.cell (World.block_lt_of_cell? w _ hx289_0)).trans hx289_0
   replace hx289_1 := (HB.out.cell (World.block_lt_of_cell? w _ hx289_1)).trans hx289_1
   replace hx289_2 := (HB.out.cell (World.block_lt_of_cell? w _ hx289_2)).trans hx289_2
   replace hx289_3 := (HB.out.cell (World.block_lt_of_cell? w _ hx289_3)).trans hx289_3
   replace hx289_4 := (HB.out.cell (World.block_lt_of_cell? w _ hx289_4)).trans hx289_4
   replace hx289_5 := (HB.out.cell (World.block_lt_of_cell? w _ hx289_5)).trans hx289_5
   replace p289 := eq_true p289
   replace q289 := eq_true q289
   rotate_left
   replace c8 := Bool.eq_false_iff.mpr c8
   subst c8
   rw [if_neg (show ¬ (false = true) by decide)] at H
   have H' := Aside0.mk H
   clear H
   have hcz13_0 : wr.cell? ⟨gb285, 0, none⟩ = some (.slice A0_0 l0_0.length c0_0) := (blk_cell BK285.out 0).trans rfl
   have hcz13_1 : wr.cell? ⟨gb285, 1, none⟩ = some (.slice A0_1 l0_1.length c0_1) := (blk_cell BK285.out 1).trans rfl
   have hcz13_2 : wr.cell? ⟨gb285, 2, none⟩ = some (.slice A0_2 l0_2.length c0_2) := (blk_cell BK285.out 2).trans rfl
   have hcz13_3 : wr.cell? ⟨gb285, 3, none⟩ = some (.slice A0_3 l0_3.length c0_3) := (blk_cell BK285.out 3).trans rfl
   have hcz13_4 : wr.cell? ⟨gb285, 4, none⟩ = some (.slice A0_4 l0_4.length c0_4) := (blk_cell BK285.out 4).trans rfl
   have hfz13_0 := blk_frozen BK285.out 0
   have hfz13_1 := blk_frozen BK285.out 1
   have hfz13_2 := blk_frozen BK285.out 2
   have hfz13_3 := blk_frozen BK285.out 3
   have hfz13_4 := blk_frozen BK285.out 4
   have p289 : 0 ≤ (x4_1 : Int) := of_decide_eq_true zt4
   have q289 : x4_1 < (l0_4.length : Int) := of_decide_eq_true zt4
   obtain ⟨ad289, e289, hx289_0, hx289_1, hx289_2, hx289_3, hx289_4, hx289_5⟩ := at_T50 HR0_4.out x4_1 p289 q289
   cases e289
   replace hx289_0 := (HB.out.cell (World.block_lt_of_cell? w _ hx289_0)).trans hx289_0
   replace hx289_1 := (HB.out.cell (World.block_lt_of_cell? w _ hx289_1)).trans hx289_1
   replace hx289_2 := (HB.out.cell (World.block_lt_of_cell? w _ hx289_2)).trans hx289_2
   replace hx289_3 := (HB.out.cell (World.block_lt_of_cell? w _ hx289_3)).trans hx289_3
   replace hx289_4 := (HB.out.cell (World.block_lt_of_cell? w _ hx289_4)).trans hx289_4
   replace hx289_5 := (HB.out.cell (World.block_lt_of_cell? w _ hx289_5)).trans hx289_5
   replace p289 := eq_true p289
   replace q289 := eq_true q289
   rotate_left
   ·rw [if_neg c5] at H
    have c5b0 := decide_eq_false c5
    clear c5
    have H' := Aside0.mk H
    clear H
    have hcz14_0 : wr.cell? ⟨gb285, 0, none⟩ = some (.slice A0_0 l0_0.length c0_0) := (blk_cell BK285.out 0).trans rfl
    have hcz14_1 : wr.cell? ⟨gb285, 1, none⟩ = some (.slice A0_1 l0_1.length c0_1) := (blk_cell BK285.out 1).trans rfl
    have hcz14_2 : wr.cell? ⟨gb285, 2, none⟩ = some (.slice A0_2 l0_2.length c0_2) := (blk_cell BK285.out 2).trans rfl
    have hcz14_3 : wr.cell? ⟨gb285, 3, none⟩ = some (.slice A0_3 l0_3.length c0_3) := (blk_cell BK285.out 3).trans rfl
    have hcz14_4 : wr.cell? ⟨gb285, 4, none⟩ = some (.slice A0_4 l0_4.length c0_4) := (blk_cell BK285.out 4).trans rfl
    have hfz14_0 := blk_frozen BK285.out 0
    have hfz14_1 := blk_frozen BK285.out 1
    have hfz14_2 := blk_frozen BK285.out 2
    have hfz14_3 := blk_frozen BK285.out 3
    have hfz14_4 := blk_frozen BK285.out 4
    go_wp2
    go_loopg [3, 5] k1 (fun kq v3 v5 w' => ∃ (x3_2 : List ByteArray) (x5_2 : Int), v5 = .int .i64 x5_2 ∧ Aside0 (spec_Uses.l1 kq x3_2 x5_2 l0_0 l0_1 l0_2 l0_3 l0_4 = some r) ∧ Aside0 (kq ≤ k1) ∧ Aside0 (Kd.R Kd.string 9 w' w.heap.size (fun _ => True) v3 x3_2) ∧ Aside0 (w'.heap[gb285]? = some (.cells #[(.slice A0_0 l0_0.length c0_0), (.slice A0_1 l0_1.length c0_1), (.slice A0_2 l0_2.length c0_2), (.slice A0_3 l0_3.length c0_3), (.slice A0_4 l0_4.length c0_4)] 36 (0, 0))) ∧ Aside0 (Below w.heap.size w w'))
    case atStart => exact ⟨(x3_1), (0), zt9, H', ⟨Nat.le_refl _⟩, ⟨zt27⟩, ⟨zt31⟩, ⟨zt16⟩⟩
    case round =>
     clear H'
     try clear c2
     try clear p2
     try clear q2
     try clear hx2
     try clear c5
     try clear c5b0
     try clear c6
     try clear c6b0
     try clear p6
     try clear c7
     try clear c8
     try clear hcz10_0
     try clear hcz10_1
     try clear hcz10_2
     try clear hcz10_3
     try clear hcz10_4
     try clear hcz13_0
     try clear hcz13_1
     try clear hcz13_2
     try clear hcz13_3
     try clear hcz13_4
     try clear hcz14_0
     try clear hcz14_1
     try clear hcz14_2
     try clear hcz14_3
     try clear hcz14_4
     try clear hfz10_0
     try clear hfz10_1
     try clear hfz10_2
     try clear hfz10_3
     try clear hfz10_4
     try clear hfz13_0
     try clear hfz13_1
     try clear hfz13_2
     try clear hfz13_3
     try clear hfz13_4
     try clear hfz14_0
     try clear hfz14_1
     try clear hfz14_2
     try clear hfz14_3
     try clear hfz14_4
     try clear hx289_0
     try clear hx289_1
     try clear hx289_2
     try clear hx289_3
     try clear hx289_4
     try clear hx289_5
     try clear hx291_0
     try clear hx291_1
     try clear hx291_2
     try clear hx291_3
     try clear hx291_4
     try clear hx291_5
     try clear p2
     try clear p289
     try clear p291
     try clear q289
     try clear q291
     obtain ⟨x3_2, x5_2, rfl, HA, HK2, HO_3, BK285, HB⟩ := hrel
     cases gk with
     | zero => exact absurd HA.out (by simp [spec_Uses.l1])
     | succ k2 =>
      have H := HA.out
      clear HA
      simp only [spec_Uses.l1] at H
      by_cases c15 : x5_2 < (l0_3.length : Int)
      rw [if_pos c15] at H
      have c15b0 := decide_eq_true c15
      clear c15
      replace H := it0 H
      obtain ⟨c16, H⟩ := H
      have c16b0 : decide (0 ≤ x5_2) = true := decide_eq_true c16
      clear c16
      by_cases c17 : ((rd_T53 l0_3 x5_2).f0) = 3
      rw [if_pos c17] at H
      have c17b0 := beq_iff_eq.mpr c17
      have c17b1 := bne_eq_false_iff_eq.mpr c17
      clear c17
      replace H := bnd H
      obtain ⟨t297, A18, H⟩ := H
      try dsimp only at H
      have H' := Aside0.mk H
      clear H
      have hcz19_0 : wr.cell? ⟨gb285, 0, none⟩ = some (.slice A0_0 l0_0.length c0_0) := (blk_cell BK285.out 0).trans rfl
      have hcz19_1 : wr.cell? ⟨gb285, 1, none⟩ = some (.slice A0_1 l0_1.length c0_1) := (blk_cell BK285.out 1).trans rfl
      have hcz19_2 : wr.cell? ⟨gb285, 2, none⟩ = some (.slice A0_2 l0_2.length c0_2) := (blk_cell BK285.out 2).trans rfl
      have hcz19_3 : wr.cell? ⟨gb285, 3, none⟩ = some (.slice A0_3 l0_3.length c0_3) := (blk_cell BK285.out 3).trans rfl
      have hcz19_4 : wr.cell? ⟨gb285, 4, none⟩ = some (.slice A0_4 l0_4.length c0_4) := (blk_cell BK285.out 4).trans rfl
      have hfz19_0 := blk_frozen BK285.out 0
      have hfz19_1 := blk_frozen BK285.out 1
      have hfz19_2 := blk_frozen BK285.out 2
      have hfz19_3 := blk_frozen BK285.out 3
      have hfz19_4 := blk_frozen BK285.out 4
      have p295 : 0 ≤ (x5_2 : Int) := of_decide_eq_true zt4
      have q295 : x5_2 < (l0_3.length : Int) := of_decide_eq_true zt4
      obtain ⟨ad295, e295, hx295_0, hx295_1, hx295_2⟩ := at_T53 HR0_3.out x5_2 p295 q295
      cases e295
      replace hx295_0 := (HB.out.cell (World.block_lt_of_cell? w _ hx295_0)).trans hx295_0
      replace hx295_1 := (HB.out.cell (World.block_lt_of_cell? w _ hx295_1)).trans hx295_1
      replace hx295_2 := (HB.out.cell (World.block_lt_of_cell? w _ hx295_2)).trans hx295_2
      replace p295 := eq_true p295
      replace q295 := eq_true q295
      have p296 : 0 ≤ (x5_2 : Int) := of_decide_eq_true zt4
      have q296 : x5_2 < (l0_3.length : Int) := of_decide_eq_true zt4
      obtain ⟨ad296, e296, hx296_0, hx296_1, hx296_2⟩ := at_T53 HR0_3.out x5_2 p296 q296
      obtain rfl : ad295 = ad296 := (by injection e296)
      replace hx296_0 := (HB.out.cell (World.block_lt_of_cell? w _ hx296_0)).trans hx296_0
      replace hx296_1 := (HB.out.cell (World.block_lt_of_cell? w _ hx296_1)).trans hx296_1
      replace hx296_2 := (HB.out.cell (World.block_lt_of_cell? w _ hx296_2)).trans hx296_2
      replace p296 := eq_true p296
      replace q296 := eq_true q296
      obtain ⟨Ao20, co20, eo20⟩ := Kd.R_slice HO_3.out
      subst eo20
      rotate_left
      rw [if_neg c17] at H
      have c17b0 := beq_eq_false_iff_ne.mpr c17
      have c17b1 := bne_iff_ne.mpr c17
      have H' := Aside0.mk H
      clear H
      have hcz22_0 : wr.cell? ⟨gb285, 0, none⟩ = some (.slice A0_0 l0_0.length c0_0) := (blk_cell BK285.out 0).trans rfl
      have hcz22_1 : wr.cell? ⟨gb285, 1, none⟩ = some (.slice A0_1 l0_1.length c0_1) := (blk_cell BK285.out 1).trans rfl
      have hcz22_2 : wr.cell? ⟨gb285, 2, none⟩ = some (.slice A0_2 l0_2.length c0_2) := (blk_cell BK285.out 2).trans rfl
      have hcz22_3 : wr.cell? ⟨gb285, 3, none⟩ = some (.slice A0_3 l0_3.length c0_3) := (blk_cell BK285.out 3).trans rfl
      have hcz22_4 : wr.cell? ⟨gb285, 4, none⟩ = some (.slice A0_4 l0_4.length c0_4) := (blk_cell BK285.out 4).trans rfl
      have hfz22_0 := blk_frozen BK285.out 0
      have hfz22_1 := blk_frozen BK285.out 1
      have hfz22_2 := blk_frozen BK285.out 2
      have hfz22_3 := blk_frozen BK285.out 3
      have hfz22_4 := blk_frozen BK285.out 4
      have p295 : 0 ≤ (x5_2 : Int) := of_decide_eq_true zt4
      have q295 : x5_2 < (l0_3.length : Int) := of_decide_eq_true zt4
      obtain ⟨ad295, e295, hx295_0, hx295_1, hx295_2⟩ := at_T53 HR0_3.out x5_2 p295 q295
      cases e295
      replace hx295_0 := (HB.out.cell (World.block_lt_of_cell? w _ hx295_0)).trans hx295_0
      replace hx295_1 := (HB.out.cell (World.block_lt_of_cell? w _ hx295_1)).trans hx295_1
      replace hx295_2 := (HB.out.cell (World.block_lt_of_cell? w _ hx295_2)).trans hx295_2
      replace p295 := eq_true p295
      replace q295 := eq_true q295
      rotate_left
      ·rw [if_neg c15] at H
       have c15b0 := decide_eq_false c15
       clear c15
       have H' := Aside0.mk H
       clear H
       have hcz23_0 : wr.cell? ⟨gb285, 0, none⟩ = some (.slice A0_0 l0_0.length c0_0) := (blk_cell BK285.out 0).trans rfl
       have hcz23_1 : wr.cell? ⟨gb285, 1, none⟩ = some (.slice A0_1 l0_1.length c0_1) := (blk_cell BK285.out 1).trans rfl
       have hcz23_2 : wr.cell? ⟨gb285, 2, none⟩ = some (.slice A0_2 l0_2.length c0_2) := (blk_cell BK285.out 2).trans rfl
       have hcz23_3 : wr.cell? ⟨gb285, 3, none⟩ = some (.slice A0_3 l0_3.length c0_3) := (blk_cell BK285.out 3).trans rfl
       have hcz23_4 : wr.cell? ⟨gb285, 4, none⟩ = some (.slice A0_4 l0_4.length c0_4) := (blk_cell BK285.out 4).trans rfl
       have hfz23_0 := blk_frozen BK285.out 0
       have hfz23_1 := blk_frozen BK285.out 1
       have hfz23_2 := blk_frozen BK285.out 2
       have hfz23_3 := blk_frozen BK285.out 3
       have hfz23_4 := blk_frozen BK285.out 4
       go_wp2
       go_loopg [3, 6] k2 (fun kq v3 v6 w' => ∃ (x3_3 : List ByteArray) (x6_3 : Int), v6 = .int .i64 x6_3 ∧ Aside0 (spec_Uses.l2 kq x3_3 x6_3 l0_0 l0_1 l0_2 l0_3 l0_4 = some r) ∧ Aside0 (kq ≤ k2) ∧ Aside0 (Kd.R Kd.string 9 w' w.heap.size (fun _ => True) v3 x3_3) ∧ Aside0 (w'.heap[gb285]? = some (.cells #[(.slice A0_0 l0_0.length c0_0), (.slice A0_1 l0_1.length c0_1), (.slice A0_2 l0_2.length c0_2), (.slice A0_3 l0_3.length c0_3), (.slice A0_4 l0_4.length c0_4)] 36 (0, 0))) ∧ Aside0 (Below w.heap.size w w'))
       case atStart => exact ⟨(x3_2), (0), zt9, H', ⟨Nat.le_refl _⟩, ⟨zt27⟩, ⟨zt31⟩, ⟨zt16⟩⟩
       case round =>
        clear H'
        try clear c1
        try clear c2
        try clear p2
        try clear q2
        try clear hx2
        try clear c5
        try clear c5b0
        try clear c6
        try clear c6b0
        try clear p6
        try clear c7
        try clear c8
        try clear c15
        try clear c15b0
        try clear c16
        try clear c16b0
        try clear c17
        try clear c17b0
        try clear c17b1
        try clear hcz10_0
        try clear hcz10_1
        try clear hcz10_2
        try clear hcz10_3
        try clear hcz10_4
        try clear hcz13_0
        try clear hcz13_1
        try clear hcz13_2
        try clear hcz13_3
        try clear hcz13_4
        try clear hcz14_0
        try clear hcz14_1
        try clear hcz14_2
        try clear hcz14_3
        try clear hcz14_4
        try clear hcz19_0
        try clear hcz19_1
        try clear hcz19_2
        try clear hcz19_3
        try clear hcz19_4
        try clear hcz22_0
        try clear hcz22_1
        try clear hcz22_2
        try clear hcz22_3
        try clear hcz22_4
        try clear hcz23_0
        try clear hcz23_1
        try clear hcz23_2
        try clear hcz23_3
        try clear hcz23_4
        try clear hfz10_0
        try clear hfz10_1
        try clear hfz10_2
        try clear hfz10_3
        try clear hfz10_4
        try clear hfz13_0
        try clear hfz13_1
        try clear hfz13_2
        try clear hfz13_3
        try clear hfz13_4
        try clear hfz14_0
        try clear hfz14_1
        try clear hfz14_2
        try clear hfz14_3
        try clear hfz14_4
        try clear hfz19_0
        try clear hfz19_1
        try clear hfz19_2
        try clear hfz19_3
        try clear hfz19_4
        try clear hfz22_0
        try clear hfz22_1
        try clear hfz22_2
        try clear hfz22_3
        try clear hfz22_4
        try clear hfz23_0
        try clear hfz23_1
        try clear hfz23_2
        try clear hfz23_3
        try clear hfz23_4
        try clear hx289_0
        try clear hx289_1
        try clear hx289_2
        try clear hx289_3
        try clear hx289_4
        try clear hx289_5
        try clear hx291_0
        try clear hx291_1
        try clear hx291_2
        try clear hx291_3
        try clear hx291_4
        try clear hx291_5
        try clear hx295_0
        try clear hx295_1
        try clear hx295_2
        try clear hx296_0
        try clear hx296_1
        try clear hx296_2
        try clear p2
        try clear p289
        try clear p291
        try clear p295
        try clear p296
        try clear p6
        try clear q2
        try clear q289
        try clear q291
        try clear q295
        try clear q296
        obtain ⟨x3_3, x6_3, rfl, HA, HK3, HO_3, BK285, HB⟩ := hrel
        cases gk with
        | zero => exact absurd HA.out (by simp [spec_Uses.l2])
        | succ k3 =>
         have H := HA.out
         clear HA
         simp only [spec_Uses.l2] at H
         by_cases c24 : x6_3 < (l0_2.length : Int)
         rw [if_pos c24] at H
         have c24b0 := decide_eq_true c24
         clear c24
         replace H := it0 H
         obtain ⟨c25, H⟩ := H
         have c25b0 : decide (0 ≤ x6_3) = true := decide_eq_true c25
         clear c25
         by_cases c26 : ((rd_T55 l0_2 x6_3).f0) = 1
         rw [if_pos c26] at H
         have c26b0 := beq_iff_eq.mpr c26
         have c26b1 := bne_eq_false_iff_eq.mpr c26
         clear c26
         replace H := bnd H
         obtain ⟨t302, A27, H⟩ := H
         try dsimp only at H
         have H' := Aside0.mk H
         clear H
         have hcz28_0 : wr.cell? ⟨gb285, 0, none⟩ = some (.slice A0_0 l0_0.length c0_0) := (blk_cell BK285.out 0).trans rfl
         have hcz28_1 : wr.cell? ⟨gb285, 1, none⟩ = some (.slice A0_1 l0_1.length c0_1) := (blk_cell BK285.out 1).trans rfl
         have hcz28_2 : wr.cell? ⟨gb285, 2, none⟩ = some (.slice A0_2 l0_2.length c0_2) := (blk_cell BK285.out 2).trans rfl
         have hcz28_3 : wr.cell? ⟨gb285, 3, none⟩ = some (.slice A0_3 l0_3.length c0_3) := (blk_cell BK285.out 3).trans rfl
         have hcz28_4 : wr.cell? ⟨gb285, 4, none⟩ = some (.slice A0_4 l0_4.length c0_4) := (blk_cell BK285.out 4).trans rfl
         have hfz28_0 := blk_frozen BK285.out 0
         have hfz28_1 := blk_frozen BK285.out 1
         have hfz28_2 := blk_frozen BK285.out 2
         have hfz28_3 := blk_frozen BK285.out 3
         have hfz28_4 := blk_frozen BK285.out 4
         have p300 : 0 ≤ (x6_3 : Int) := of_decide_eq_true zt4
         have q300 : x6_3 < (l0_2.length : Int) := of_decide_eq_true zt4
         obtain ⟨ad300, e300, hx300_0, hx300_1, hx300_2, hx300_3⟩ := at_T55 HR0_2.out x6_3 p300 q300
         cases e300
         replace hx300_0 := (HB.out.cell (World.block_lt_of_cell? w _ hx300_0)).trans hx300_0
         replace hx300_1 := (HB.out.cell (World.block_lt_of_cell? w _ hx300_1)).trans hx300_1
         replace hx300_2 := (HB.out.cell (World.block_lt_of_cell? w _ hx300_2)).trans hx300_2
         replace hx300_3 := (HB.out.cell (World.block_lt_of_cell? w _ hx300_3)).trans hx300_3
         replace p300 := eq_true p300
         replace q300 := eq_true q300
         have p301 : 0 ≤ (x6_3 : Int) := of_decide_eq_true zt4
         have q301 : x6_3 < (l0_2.length : Int) := of_decide_eq_true zt4
         obtain ⟨ad301, e301, hx301_0, hx301_1, hx301_2, hx301_3⟩ := at_T55 HR0_2.out x6_3 p301 q301
         obtain rfl : ad300 = ad301 := (by injection e301)
         replace hx301_0 := (HB.out.cell (World.block_lt_of_cell? w _ hx301_0)).trans hx301_0
         replace hx301_1 := (HB.out.cell (World.block_lt_of_cell? w _ hx301_1)).trans hx301_1
         replace hx301_2 := (HB.out.cell (World.block_lt_of_cell? w _ hx301_2)).trans hx301_2
         replace hx301_3 := (HB.out.cell (World.block_lt_of_cell? w _ hx301_3)).trans hx301_3
         replace p301 := eq_true p301
         replace q301 := eq_true q301
         obtain ⟨Ao29, co29, eo29⟩ := Kd.R_slice HO_3.out
         subst eo29
         rotate_left
         rw [if_neg c26] at H
         have c26b0 := beq_eq_false_iff_ne.mpr c26
         have c26b1 := bne_iff_ne.mpr c26
         have H' := Aside0.mk H
         clear H
         have hcz31_0 : wr.cell? ⟨gb285, 0, none⟩ = some (.slice A0_0 l0_0.length c0_0) := (blk_cell BK285.out 0).trans rfl
         have hcz31_1 : wr.cell? ⟨gb285, 1, none⟩ = some (.slice A0_1 l0_1.length c0_1) := (blk_cell BK285.out 1).trans rfl
         have hcz31_2 : wr.cell? ⟨gb285, 2, none⟩ = some (.slice A0_2 l0_2.length c0_2) := (blk_cell BK285.out 2).trans rfl
         have hcz31_3 : wr.cell? ⟨gb285, 3, none⟩ = some (.slice A0_3 l0_3.length c0_3) := (blk_cell BK285.out 3).trans rfl
         have hcz31_4 : wr.cell? ⟨gb285, 4, none⟩ = some (.slice A0_4 l0_4.length c0_4) := (blk_cell BK285.out 4).trans rfl
         have hfz31_0 := blk_frozen BK285.out 0
         have hfz31_1 := blk_frozen BK285.out 1
         have hfz31_2 := blk_frozen BK285.out 2
         have hfz31_3 := blk_frozen BK285.out 3
         have hfz31_4 := blk_frozen BK285.out 4
         have p300 : 0 ≤ (x6_3 : Int) := of_decide_eq_true zt4
         have q300 : x6_3 < (l0_2.length : Int) := of_decide_eq_true zt4
         obtain ⟨ad300, e300, hx300_0, hx300_1, hx300_2, hx300_3⟩ := at_T55 HR0_2.out x6_3 p300 q300
         cases e300
         replace hx300_0 := (HB.out.cell (World.block_lt_of_cell? w _ hx300_0)).trans hx300_0
         replace hx300_1 := (HB.out.cell (World.block_lt_of_cell? w _ hx300_1)).trans hx300_1
         replace hx300_2 := (HB.out.cell (World.block_lt_of_cell? w _ hx300_2)).trans hx300_2
         replace hx300_3 := (HB.out.cell (World.block_lt_of_cell? w _ hx300_3)).trans hx300_3
         replace p300 := eq_true p300
         replace q300 := eq_true q300
         rotate_left
         rw [if_neg c24] at H
         have c24b0 := decide_eq_false c24
         clear c24
         obtain rfl := Option.some.inj H
         have hcz32_0 : wr.cell? ⟨gb285, 0, none⟩ = some (.slice A0_0 l0_0.length c0_0) := (blk_cell BK285.out 0).trans rfl
         have hcz32_1 : wr.cell? ⟨gb285, 1, none⟩ = some (.slice A0_1 l0_1.length c0_1) := (blk_cell BK285.out 1).trans rfl
         have hcz32_2 : wr.cell? ⟨gb285, 2, none⟩ = some (.slice A0_2 l0_2.length c0_2) := (blk_cell BK285.out 2).trans rfl
         have hcz32_3 : wr.cell? ⟨gb285, 3, none⟩ = some (.slice A0_3 l0_3.length c0_3) := (blk_cell BK285.out 3).trans rfl
         have hcz32_4 : wr.cell? ⟨gb285, 4, none⟩ = some (.slice A0_4 l0_4.length c0_4) := (blk_cell BK285.out 4).trans rfl
         have hfz32_0 := blk_frozen BK285.out 0
         have hfz32_1 := blk_frozen BK285.out 1
         have hfz32_2 := blk_frozen BK285.out 2
         have hfz32_3 := blk_frozen BK285.out 3
         have hfz32_4 := blk_frozen BK285.out 4
         rotate_left
         all_goals
          repeat (go_wp2_with (first | ((with_reducible refine gate_callee (f := 26) rfl ?_); refine goesL_ (some 73) rfl rfl Try.func26 (by kernel_rfl) rfl #[.slice Ao29 x3_3.length co29, .string ((rd_T55 l0_2 x6_3).f2)] rfl zt5 ?_; (with_reducible refine (spec_l8Put.calls k3 (fun k_ => some k_ = (.slice Ao29 x3_3.length co29 : Value).ownBlock) (.slice Ao29 x3_3.length co29) x3_3 ((rd_T55 l0_2 x6_3).f2) t302 w _ ?side1 ?side2 A27.out).mono ?_); (case side1 => exact zt16); (case side2 => exact Kd.R_tight rfl HO_3.out); rintro e w7000 ⟨v7001, rfl, ho0, hb, hkp⟩; refine ⟨_, rfl, ?_⟩; have n0_ := Aside0.mk (blk_kept (oz BK285.out) hkp (fun hs_ => (fun e_ => (Kd.R_ne HO_3.out BK285.out (by decide)) e_) hs_)); have n1_ := Aside0.mk (Kd.R_mono (ok' := fun k_ => True) ho0 (fun k_ hk_ => trivial)); have n2_ := Aside0.mk (hb); clear BK285; clear HB; clear HO_3; have BK285 := n0_; have HO7002 := n1_; have HB := n2_; clear n0_ n1_ n2_; (try clear hb); (try clear hkp); (try clear ho0))); first | go_quiet (fail) | (go_roundg k3; (case measure => have := HK1.out; have := HK2.out; have := HK3.out; omega); (case rel => exact ⟨(t302), (wrap64 (x6_3 + 1)), zt9, H', ⟨by have := HK1.out; have := HK2.out; have := HK3.out; omega⟩, ⟨zt21⟩, ⟨zt31⟩, ⟨zt16⟩⟩)) | (go_roundg k3; (case measure => have := HK1.out; have := HK2.out; have := HK3.out; omega); (case rel => exact ⟨(x3_3), (wrap64 (x6_3 + 1)), zt9, H', ⟨by have := HK1.out; have := HK2.out; have := HK3.out; omega⟩, ⟨zt11⟩, ⟨zt31⟩, ⟨zt16⟩⟩)) | (go_ret; exact ⟨_, zt8, zt27, zt16⟩))
      all_goals
       repeat (go_wp2_with (first | ((with_reducible refine gate_callee (f := 26) rfl ?_); refine goesL_ (some 51) rfl rfl Try.func26 (by kernel_rfl) rfl #[.slice Ao20 x3_2.length co20, .string ((rd_T53 l0_3 x5_2).f1)] rfl zt5 ?_; (with_reducible refine (spec_l8Put.calls k2 (fun k_ => some k_ = (.slice Ao20 x3_2.length co20 : Value).ownBlock) (.slice Ao20 x3_2.length co20) x3_2 ((rd_T53 l0_3 x5_2).f1) t297 w _ ?side1 ?side2 A18.out).mono ?_); (case side1 => exact zt16); (case side2 => exact Kd.R_tight rfl HO_3.out); rintro e w7000 ⟨v7001, rfl, ho0, hb, hkp⟩; refine ⟨_, rfl, ?_⟩; have n0_ := Aside0.mk (blk_kept (oz BK285.out) hkp (fun hs_ => (fun e_ => (Kd.R_ne HO_3.out BK285.out (by decide)) e_) hs_)); have n1_ := Aside0.mk (Kd.R_mono (ok' := fun k_ => True) ho0 (fun k_ hk_ => trivial)); have n2_ := Aside0.mk (hb); clear BK285; clear HB; clear HO_3; have BK285 := n0_; have HO7002 := n1_; have HB := n2_; clear n0_ n1_ n2_; (try clear hb); (try clear hkp); (try clear ho0))); first | go_quiet (fail) | (go_roundg k2; (case measure => have := HK1.out; have := HK2.out; omega); (case rel => exact ⟨(t297), (wrap64 (x5_2 + 1)), zt9, H', ⟨by have := HK1.out; have := HK2.out; omega⟩, ⟨zt21⟩, ⟨zt31⟩, ⟨zt16⟩⟩)) | (go_roundg k2; (case measure => have := HK1.out; have := HK2.out; omega); (case rel => exact ⟨(x3_2), (wrap64 (x5_2 + 1)), zt9, H', ⟨by have := HK1.out; have := HK2.out; omega⟩, ⟨zt11⟩, ⟨zt31⟩, ⟨zt16⟩⟩)))
   all_goals
    repeat (go_wp2_with (first | ((with_reducible refine gate_callee (f := 25) rfl ?_); refine goesL_ (some 21) rfl rfl Try.func25 (by kernel_rfl) rfl #[.int .i64 ((rd_T50 l0_4 x4_1).f0)] rfl zt5 ?_; (with_reducible refine (spec_l16Named.calls ((rd_T50 l0_4 x4_1).f0) true _ A7.out).mono ?_); rintro e w' ⟨rfl, ⟨nd, rfl⟩⟩; refine ⟨_, rfl, ?_⟩; have p291 : 0 ≤ (x4_1 : Int) := of_decide_eq_true zt4; have q291 : x4_1 < (l0_4.length : Int) := of_decide_eq_true zt4; obtain ⟨ad7000, e7000, hx291_0, hx291_1, hx291_2, hx291_3, hx291_4, hx291_5⟩ := at_T50 HR0_4.out x4_1 p291 q291; obtain rfl : ad289 = ad7000 := (by injection e7000); replace hx291_0 := (HB.out.cell (World.block_lt_of_cell? w _ hx291_0)).trans hx291_0; replace hx291_1 := (HB.out.cell (World.block_lt_of_cell? w _ hx291_1)).trans hx291_1; replace hx291_2 := (HB.out.cell (World.block_lt_of_cell? w _ hx291_2)).trans hx291_2; replace hx291_3 := (HB.out.cell (World.block_lt_of_cell? w _ hx291_3)).trans hx291_3; replace hx291_4 := (HB.out.cell (World.block_lt_of_cell? w _ hx291_4)).trans hx291_4; replace hx291_5 := (HB.out.cell (World.block_lt_of_cell? w _ hx291_5)).trans hx291_5; replace p291 := eq_true p291; replace q291 := eq_true q291; obtain ⟨Ao7001, co7001, eo7001⟩ := Kd.R_slice HO_3.out; subst eo7001) | ((with_reducible refine gate_callee (f := 26) rfl ?_); refine goesL_ (some 29) rfl rfl Try.func26 (by kernel_rfl) rfl #[.slice Ao7001 x3_1.length co7001, .string ((rd_T50 l0_4 x4_1).f2)] rfl zt5 ?_; (with_reducible refine (spec_l8Put.calls k1 (fun k_ => some k_ = (.slice Ao7001 x3_1.length co7001 : Value).ownBlock) (.slice Ao7001 x3_1.length co7001) x3_1 ((rd_T50 l0_4 x4_1).f2) t292 w _ ?side1 ?side2 A9.out).mono ?_); (case side1 => exact zt16); (case side2 => exact Kd.R_tight rfl HO_3.out); rintro e w7002 ⟨v7003, rfl, ho0, hb, hkp⟩; refine ⟨_, rfl, ?_⟩; have n0_ := Aside0.mk (blk_kept (oz BK285.out) hkp (fun hs_ => (fun e_ => (Kd.R_ne HO_3.out BK285.out (by decide)) e_) hs_)); have n1_ := Aside0.mk (Kd.R_mono (ok' := fun k_ => True) ho0 (fun k_ hk_ => trivial)); have n2_ := Aside0.mk (hb); clear BK285; clear HB; clear HO_3; have BK285 := n0_; have HO7004 := n1_; have HB := n2_; clear n0_ n1_ n2_; (try clear hb); (try clear hkp); (try clear ho0)) | ((with_reducible refine gate_callee (f := 25) rfl ?_); refine goesL_ (some 21) rfl rfl Try.func25 (by kernel_rfl) rfl #[.int .i64 ((rd_T50 l0_4 x4_1).f0)] rfl zt5 ?_; (with_reducible refine (spec_l16Named.calls ((rd_T50 l0_4 x4_1).f0) false _ A7.out).mono ?_); rintro e w' ⟨rfl, ⟨nd, rfl⟩⟩; refine ⟨_, rfl, ?_⟩)); first | go_quiet (fail) | (go_roundg k1; (case measure => have := HK1.out; omega); (case rel => exact ⟨(t292), (wrap64 (x4_1 + 1)), zt9, H', ⟨by have := HK1.out; omega⟩, ⟨by (with_reducible repeat (first | apply Kd.R_alloc | apply Kd.R_drewN | apply Kd.R_drew)); (first | exact HO7004.out | exact Kd.R_mono HO7004.out (fun k_ h_ => by first | exact h_ | (simpa [Value.ownBlock] using h_) | (have e_ : ∀ (A : Option Addr) (n m c : Nat), (Value.slice A n c).ownBlock = (Value.slice A m c).ownBlock := (fun A n m c => by cases A <;> rfl); rw [e_ _ _ 0 _] at h_ ⊢; exact h_)))⟩, ⟨zt31⟩, ⟨zt16⟩⟩)) | (go_roundg k1; (case measure => have := HK1.out; omega); (case rel => exact ⟨(x3_1), (wrap64 (x4_1 + 1)), zt9, H', ⟨by have := HK1.out; omega⟩, ⟨zt11⟩, ⟨zt31⟩, ⟨zt16⟩⟩)))

end Go.Proofs.Ytopicidanlienaa.PFnExactTrim

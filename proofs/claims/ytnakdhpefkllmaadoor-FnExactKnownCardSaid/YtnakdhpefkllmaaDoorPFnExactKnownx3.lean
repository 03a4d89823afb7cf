-- Out of the kit's print, with contracts of mine among it (myprint.py).
import Derived.Test.YtnakdhpefkllmaaDoorPFnExactKnownx0
import Derived.Test.YtnakdhpefkllmaaDoorPFnExactKnownx2
namespace Go.Proofs.YtnakdhpefkllmaaDoor.PFnExactKnown
open Go.RowKit Go.Proofs.YtnakdhpefkllmaaDoorW.PrintWords Go.Proofs.YtnakdhpefkllmaaDoorW.PrintLast Go.Proofs.YtnakdhpefkllmaaDoorW.PrintMore
attribute [local go_sem] max2_int min2_int max_two min_two max_three min_three max_four min_four   -- for this text's walks alone
set_option linter.unusedVariables false
set_option linter.unusedSimpArgs false

/-! ### spec_l5Tree: function 14 -/
abbrev bt0_3 : Array Bool := #[false, false, false, false, false, false, false, false, false, false, false]
abbrev bt1_3 : Array Bool := #[true, false, false, false, false, false, false, false, false, false, false]
abbrev bt2_3 : Array Bool := #[true, true, false, false, false, false, false, false, false, false, false]
abbrev bt3_3 : Array Bool := #[true, true, false, true, false, false, false, false, false, false, false]
abbrev bt4_3 : Array Bool := #[true, true, false, true, true, false, false, false, false, false, false]
abbrev bt5_3 : Array Bool := #[true, true, true, true, true, false, false, false, false, false, false]
abbrev bt6_3 : Array Bool := #[true, true, true, true, true, true, false, false, false, false, false]
abbrev bt7_3 : Array Bool := #[true, true, true, true, true, true, true, false, false, false, false]
abbrev bt8_3 : Array Bool := #[true, true, true, true, true, true, true, true, false, false, false]
abbrev bt9_3 : Array Bool := #[true, true, true, true, true, true, true, true, true, false, false]
abbrev bt10_3 : Array Bool := #[true, true, true, true, true, true, true, true, true, true, false]
abbrev bt11_3 : Array Bool := #[true, true, true, true, true, true, true, true, true, true, true]
mutual
def spec_l5Tree.l0 : Nat → List Int → Int → List ByteArray → List (S78) → List (S80) → List (S77) → List (S75) → Option (Bool)
 | 0, _, _, _, _, _, _, _ => none
 | k + 1, x3, x4, x121000, x121001, x121002, x121003, x121004 => if x4 < (x121004.length : Int) then (if 0 ≤ x4 then ((spec_l5Two.f ((rd_T75 x121004 x4).f0)).bind fun t126 => (if t126 = true then (if ((rd_T75 x121004 x4).f4) < 0 then (some false) else (if ((rd_T75 x121004 x4).f4) ≥ x4 then (some false) else (if ((rd_T75 x121004 x4).f5) < 0 then (some false) else (if ((rd_T75 x121004 x4).f5) ≥ x4 then (some false) else (if 0 ≤ ((rd_T75 x121004 x4).f4) then (if ((rd_T75 x121004 x4).f4) < (x3.length : Int) then ((some (x3.set (((rd_T75 x121004 x4).f4) : Int).toNat (wrap64 ((rd x3 ((rd_T75 x121004 x4).f4)) + 1)) : List Int)).bind fun y128 => (if 0 ≤ ((rd_T75 x121004 x4).f5) then (if ((rd_T75 x121004 x4).f5) < (x3.length : Int) then (spec_l5Tree.l0 k (y128.set (((rd_T75 x121004 x4).f5) : Int).toNat (wrap64 ((rd y128 ((rd_T75 x121004 x4).f5)) + 1))) (wrap64 (x4 + 1)) x121000 x121001 x121002 x121003 x121004) else (none)) else (none))) else (none)) else (none)))))) else (spec_l5Tree.l0 k x3 (wrap64 (x4 + 1)) x121000 x121001 x121002 x121003 x121004))) else (none)) else (spec_l5Tree.l1 k x3 0 x121000 x121001 x121002 x121003 x121004)
def spec_l5Tree.l1 : Nat → List Int → Int → List ByteArray → List (S78) → List (S80) → List (S77) → List (S75) → Option (Bool)
 | 0, _, _, _, _, _, _, _ => none
 | k + 1, x3, x6, x121000, x121001, x121002, x121003, x121004 => if x6 < (x121003.length : Int) then (if 0 ≤ x6 then (if ((rd_T77 x121003 x6).f2) < 0 then (some false) else (if ((rd_T77 x121003 x6).f2) ≥ (x3.length : Int) then (some false) else (if 0 ≤ ((rd_T77 x121003 x6).f2) then (if ((rd_T77 x121003 x6).f2) < (x3.length : Int) then (spec_l5Tree.l1 k (x3.set (((rd_T77 x121003 x6).f2) : Int).toNat (wrap64 ((rd x3 ((rd_T77 x121003 x6).f2)) + 1))) (wrap64 (x6 + 1)) x121000 x121001 x121002 x121003 x121004) else (none)) else (none)))) else (none)) else (spec_l5Tree.l2 k x3 0)
def spec_l5Tree.l2 : Nat → List Int → Int → Option (Bool)
 | 0, _, _ => none
 | k + 1, x3, x8 => if x8 < (x3.length : Int) then (if 0 ≤ x8 then (if (rd x3 x8) = 1 then (spec_l5Tree.l2 k x3 (wrap64 (x8 + 1))) else (some false)) else (none)) else (some true)
end
def spec_l5Tree.f (k : Nat) (l0_0 : List ByteArray) (l0_1 : List (S78)) (l0_2 : List (S80)) (l0_3 : List (S77)) (l0_4 : List (S75)) : Option (Bool) := if 0 ≤ (l0_4.length : Int) then (if ((l0_4.length : Int) : Int).toNat ≤ 35184372088832 then (spec_l5Tree.l0 k (List.replicate ((l0_4.length : Int) : Int).toNat 0) 0 l0_0 l0_1 l0_2 l0_3 l0_4) else (none)) else (none)
theorem spec_l5Tree.mono_l : ∀ k, (∀ y0 y1 y2 y3 y4 y5 y6, LeO (spec_l5Tree.l0 k y0 y1 y2 y3 y4 y5 y6) (spec_l5Tree.l0 (k + 1) y0 y1 y2 y3 y4 y5 y6)) ∧ (∀ y0 y1 y2 y3 y4 y5 y6, LeO (spec_l5Tree.l1 k y0 y1 y2 y3 y4 y5 y6) (spec_l5Tree.l1 (k + 1) y0 y1 y2 y3 y4 y5 y6)) ∧ (∀ y0 y1, LeO (spec_l5Tree.l2 k y0 y1) (spec_l5Tree.l2 (k + 1) y0 y1))
 | 0 => ⟨fun _ _ _ _ _ _ _ r h => by simp [spec_l5Tree.l0] at h, fun _ _ _ _ _ _ _ r h => by simp [spec_l5Tree.l1] at h, fun _ _ r h => by simp [spec_l5Tree.l2] at h⟩
 | k + 1 => by
  obtain ⟨ih0, ih1, ih2⟩ := spec_l5Tree.mono_l k
  refine ⟨?_, ?_, ?_⟩
  ·intro y0 y1 y2 y3 y4 y5 y6
   unfold spec_l5Tree.l0
   repeat' (first | (with_reducible first | exact ih0 _ _ _ _ _ _ _ | exact ih1 _ _ _ _ _ _ _ | exact ih2 _ _ | exact LeO.refl _ | exact LeO.none _ | refine LeO.ite ?_ ?_ | refine LeO.bind ?_ (fun _ => ?_)) | exact LeO.none _ | refine LeO.ite ?_ ?_ | refine LeO.bind ?_ (fun _ => ?_))
  ·intro y0 y1 y2 y3 y4 y5 y6
   unfold spec_l5Tree.l1
   repeat' (first | (with_reducible first | exact ih0 _ _ _ _ _ _ _ | exact ih1 _ _ _ _ _ _ _ | exact ih2 _ _ | exact LeO.refl _ | exact LeO.none _ | refine LeO.ite ?_ ?_ | refine LeO.bind ?_ (fun _ => ?_)) | exact LeO.none _ | refine LeO.ite ?_ ?_ | refine LeO.bind ?_ (fun _ => ?_))
  ·intro y0 y1
   unfold spec_l5Tree.l2
   repeat' (first | (with_reducible first | exact ih0 _ _ _ _ _ _ _ | exact ih1 _ _ _ _ _ _ _ | exact ih2 _ _ | exact LeO.refl _ | exact LeO.none _ | refine LeO.ite ?_ ?_ | refine LeO.bind ?_ (fun _ => ?_)) | exact LeO.none _ | refine LeO.ite ?_ ?_ | refine LeO.bind ?_ (fun _ => ?_))
theorem spec_l5Tree.mono : ∀ a0 a1 a2 a3 a4 k, LeO (spec_l5Tree.f k a0 a1 a2 a3 a4) (spec_l5Tree.f (k + 1) a0 a1 a2 a3 a4) := by
 intro a0 a1 a2 a3 a4 k
 obtain ⟨ih0, ih1, ih2⟩ := spec_l5Tree.mono_l k
 unfold spec_l5Tree.f
 repeat' (first | (with_reducible first | exact ih0 _ _ _ _ _ _ _ | exact ih1 _ _ _ _ _ _ _ | exact ih2 _ _ | exact LeO.refl _ | exact LeO.none _ | refine LeO.ite ?_ ?_ | refine LeO.bind ?_ (fun _ => ?_)) | exact LeO.none _ | refine LeO.ite ?_ ?_ | refine LeO.bind ?_ (fun _ => ?_))
def spec_l5Tree.T9 : Bool × List (List Nat × List Nat) := (true, [([], []), ([], []), ([1], [1]), ([], []), ([], []), ([4], [4]), ([3, 5], [3, 5]), ([6], [6]), ([7], [7]), ([0, 2, 0, 1, 2, 3, 4, 5, 6, 7, 8], [0, 2]), ([9, 8, 0, 1, 2, 3, 4, 5, 6, 7, 8], [8, 9])])
def spec_l5Tree.B9 : List Nat := [0, 0, 2, 0, 0, 16, 56, 120, 248, 511, 1023]
theorem spec_l5Tree.tab9 : rtab .any (opsOf Tryd.f14 9) = spec_l5Tree.T9 := by kernel_rfl
theorem spec_l5Tree.bits9 : waitsOk spec_l5Tree.T9.2 spec_l5Tree.B9 = true := by kernel_rfl
def spec_l5Tree.T10 : Bool × List (List Nat × List Nat) := (true, [([], []), ([], []), ([1], [1]), ([], []), ([], []), ([4], [4]), ([3, 5], [3, 5]), ([6], [6]), ([7], [7]), ([0, 2, 0, 1, 2, 3, 4, 5, 6, 7, 8], [0, 2]), ([9, 8, 0, 1, 2, 3, 4, 5, 6, 7, 8], [8, 9])])
def spec_l5Tree.B10 : List Nat := [0, 0, 2, 0, 0, 16, 56, 120, 248, 511, 1023]
theorem spec_l5Tree.tab10 : rtab .any (opsOf Tryd.f14 10) = spec_l5Tree.T10 := by kernel_rfl
theorem spec_l5Tree.bits10 : waitsOk spec_l5Tree.T10.2 spec_l5Tree.B10 = true := by kernel_rfl
set_option maxHeartbeats 8000000 in
set_option maxRecDepth 100000 in
theorem spec_l5Tree.calls (k : Nat) (A0_0 : Option Addr) (c0_0 : Nat) (l0_0 : List ByteArray) (A0_1 : Option Addr) (c0_1 : Nat) (l0_1 : List (S78)) (A0_2 : Option Addr) (c0_2 : Nat) (l0_2 : List (S80)) (A0_3 : Option Addr) (c0_3 : Nat) (l0_3 : List (S77)) (A0_4 : Option Addr) (c0_4 : Nat) (l0_4 : List (S75)) (r : Bool) (w : World) (hr0_0 : Kd.C Kd.string w A0_0 l0_0.length l0_0) (hc0_0 : l0_0.length ≤ c0_0) (hr0_1 : Kd.C k78 w A0_1 l0_1.length l0_1) (hc0_1 : l0_1.length ≤ c0_1) (hr0_2 : Kd.C k80 w A0_2 l0_2.length l0_2) (hc0_2 : l0_2.length ≤ c0_2) (hr0_3 : Kd.C k77 w A0_3 l0_3.length l0_3) (hc0_3 : l0_3.length ≤ c0_3) (hr0_4 : Kd.C k75 w A0_4 l0_4.length l0_4) (hc0_4 : l0_4.length ≤ c0_4) (h : spec_l5Tree.f k l0_0 l0_1 l0_2 l0_3 l0_4 = some r) :
  Calls Tryd.prog 14 #[.agg #[.slice A0_0 l0_0.length c0_0, .slice A0_1 l0_1.length c0_1, .slice A0_2 l0_2.length c0_2, .slice A0_3 l0_3.length c0_3, .slice A0_4 l0_4.length c0_4]] w fun e w' => e = .returned (.bool r) ∧ Below w.heap.size w w' := by
 have hu37 := Tryd.underlying37
 have hu75 := Tryd.underlying75
 have HR0_0 := Aside0.mk hr0_0
 have HC0_0 := Aside0.mk hc0_0
 clear hr0_0 hc0_0
 have HR0_1 := Aside0.mk hr0_1
 have HC0_1 := Aside0.mk hc0_1
 clear hr0_1 hc0_1
 have HR0_2 := Aside0.mk hr0_2
 have HC0_2 := Aside0.mk hc0_2
 clear hr0_2 hc0_2
 have HR0_3 := Aside0.mk hr0_3
 have HC0_3 := Aside0.mk hc0_3
 clear hr0_3 hc0_3
 have HR0_4 := Aside0.mk hr0_4
 have HC0_4 := Aside0.mk hc0_4
 clear hr0_4 hc0_4
 have HB := Aside0.mk (Below.refl w.heap.size w)
 try unfold spec_l5Tree.f at h
 have H := h
 clear h
 replace H := it0 H
 obtain ⟨c2, H⟩ := H
 have c2b0 := eq_true c2
 have c2b1 := decide_eq_true c2
 clear c2
 replace H := it0 H
 obtain ⟨c3, H⟩ := H
 have c3b0 := eq_true c3
 have c3b1 := decide_eq_true c3
 clear c3
 obtain ⟨y121, hy121⟩ : ∃ y_ : List Int, y_ = (List.replicate ((l0_4.length : Int) : Int).toNat 0) := ⟨_, rfl⟩
 replace H : (spec_l5Tree.l0 k y121 0 l0_0 l0_1 l0_2 l0_3 l0_4) = some r := by first | (rw [hy121]; with_reducible exact H) | (have H2_ := (Option.bind_some _ _).symm.trans H; rw [hy121]; with_reducible exact H2_) | (have H2_ := (Option.bind_some _ _).symm.trans H; with_reducible exact H2_) | with_reducible exact H | (rw [hy121]; exact H) | exact H
 have Ny121 := Aside0.mk hy121
 clear hy121
 have H' := Aside0.mk H
 clear H
 go_enter Tryd.func14, Tryd.ntmps14
 go_wp2_with (first | ((with_reducible refine gate_dst (N := 1) rfl ?_); (try (refine gate_guard (by rfl) ?_; dsimp only)); refine box_event ?hg (N := 1) ?hd (cs := #[.slice A0_0 l0_0.length c0_0, .slice A0_1 l0_1.length c0_1, .slice A0_2 l0_2.length c0_2, .slice A0_3 l0_3.length c0_3, .slice A0_4 l0_4.length c0_4]) (t := 37) ?hr ?_; (case hd => rfl); (case hg => rfl); (case hr => first | (go_simp; done) | (go_simp; rfl)); intro gb120 hg w4 hbox hb; have n0_ := Aside0.mk (below_step zt3 hb); have n1_ := Aside0.mk (hbox); have n2_ := Aside0.mk ((zt4 : w.heap.size ≤ gb120)); have n3_ := Aside0.mk ((zt4 : w.heap.size ≤ gb120)); clear HB; have HB := n0_; have BK120 := n1_; have GW120 := n2_; have GE120 := n3_; clear n0_ n1_ n2_ n3_; clear hb hbox hg; have hcz5_0 : w4.cell? ⟨gb120, 0, none⟩ = some (.slice A0_0 l0_0.length c0_0) := (blk_cell BK120.out 0).trans rfl; have hcz5_1 : w4.cell? ⟨gb120, 1, none⟩ = some (.slice A0_1 l0_1.length c0_1) := (blk_cell BK120.out 1).trans rfl; have hcz5_2 : w4.cell? ⟨gb120, 2, none⟩ = some (.slice A0_2 l0_2.length c0_2) := (blk_cell BK120.out 2).trans rfl; have hcz5_3 : w4.cell? ⟨gb120, 3, none⟩ = some (.slice A0_3 l0_3.length c0_3) := (blk_cell BK120.out 3).trans rfl; have hcz5_4 : w4.cell? ⟨gb120, 4, none⟩ = some (.slice A0_4 l0_4.length c0_4) := (blk_cell BK120.out 4).trans rfl; have hfz5_0 := blk_frozen BK120.out 0; have hfz5_1 := blk_frozen BK120.out 1; have hfz5_2 := blk_frozen BK120.out 2; have hfz5_3 := blk_frozen BK120.out 3; have hfz5_4 := blk_frozen BK120.out 4) | ((with_reducible refine gate_dst (N := 12) rfl ?_); (try (refine gate_guard (by rfl) ?_; dsimp only)); refine Kd.R_make (Kd.int .i64) _ 3 rfl (N := 12) rfl 47 _ _ rfl (l0_4.length : Int) rfl rfl Tryd.underlying47 (.int .i64 0) 8 info3 rfl (by decide) (by omega) 0 (ok := fun _ => True) (okp := fun _ => True) rfl (fun _ hk => hk) trivial (of_decide_eq_true zt6) (Nat.le_trans (Nat.mul_le_mul_right _ (of_decide_eq_true zt6 : (l0_4.length : Int).toNat ≤ 35184372088832)) (by omega)) (Below.refl _ _) (Nat.le_refl _) ?_; intro v122 w6 ho7 hb hg_ hnew_; clear hg_ hnew_; (first | rw [← Ny121.out] at ho7 | (simp only [Int.reduceToNat] at ho7; rw [← Ny121.out] at ho7)); have n0_ := Aside0.mk (Kd.R_lower ho7 (below_size zt9)); have n1_ := Aside0.mk (blk_below (g := gb120) (o := .cells #[.slice A0_0 l0_0.length c0_0, .slice A0_1 l0_1.length c0_1, .slice A0_2 l0_2.length c0_2, .slice A0_3 l0_3.length c0_3, .slice A0_4 l0_4.length c0_4] 37 (0, 0)) (oz BK120.out) hb); have n2_ := Aside0.mk (below_step zt9 hb); clear BK120; clear HB; have HO123 := n0_; have BK120 := n1_; have HB := n2_; clear n0_ n1_ n2_; clear hb ho7))
 go_loopg [4] k (fun kq v4 w' => ∃ (x3_1 : List Int) (x4_1 : Int), v4 = .int .i64 x4_1 ∧ Aside0 (spec_l5Tree.l0 kq x3_1 x4_1 l0_0 l0_1 l0_2 l0_3 l0_4 = some r) ∧ Aside0 (kq ≤ k) ∧ Aside0 (Kd.R (Kd.int .i64) 3 w' w.heap.size (fun _ => True) v122 x3_1) ∧ Aside0 (w'.heap[gb120]? = some (.cells #[(.slice A0_0 l0_0.length c0_0), (.slice A0_1 l0_1.length c0_1), (.slice A0_2 l0_2.length c0_2), (.slice A0_3 l0_3.length c0_3), (.slice A0_4 l0_4.length c0_4)] 37 (0, 0))) ∧ Aside0 (Below w.heap.size w w'))
 case atStart => exact ⟨(y121), (0), zt10, H', ⟨Nat.le_refl _⟩, ⟨by (with_reducible repeat (first | apply Kd.R_alloc | apply Kd.R_drewN | apply Kd.R_drew)); exact HO123.out⟩, ⟨zt42⟩, ⟨zt9⟩⟩
 case round =>
  clear H'
  try clear c1
  try clear c2
  try clear c2b0
  try clear c2b1
  try clear p2
  try clear c3
  try clear c3b0
  try clear c3b1
  try clear hcz5_0
  try clear hcz5_1
  try clear hcz5_2
  try clear hcz5_3
  try clear hcz5_4
  try clear hfz5_0
  try clear hfz5_1
  try clear hfz5_2
  try clear hfz5_3
  try clear hfz5_4
  obtain ⟨x3_1, x4_1, rfl, HA, HK1, HO_3, BK120, HB⟩ := hrel
  cases gk with
  | zero => exact absurd HA.out (by simp [spec_l5Tree.l0])
  | succ k1 =>
   have H := HA.out
   clear HA
   simp only [spec_l5Tree.l0] at H
   by_cases c8 : x4_1 < (l0_4.length : Int)
   rw [if_pos c8] at H
   have c8b0 := decide_eq_true c8
   clear c8
   replace H := it0 H
   obtain ⟨c9, H⟩ := H
   have c9b0 : decide (0 ≤ x4_1) = true := decide_eq_true c9
   clear c9
   replace H := bnd H
   obtain ⟨t126, A10, H⟩ := H
   try dsimp only at H
   by_cases c11 : t126 = true
   subst c11
   rw [if_pos rfl] at H
   by_cases c12 : ((rd_T75 l0_4 x4_1).f4) < 0
   rw [if_pos c12] at H
   have c12b0 := decide_eq_true c12
   clear c12
   obtain rfl := Option.some.inj H
   have hcz13_0 : wr.cell? ⟨gb120, 0, none⟩ = some (.slice A0_0 l0_0.length c0_0) := (blk_cell BK120.out 0).trans rfl
   have hcz13_1 : wr.cell? ⟨gb120, 1, none⟩ = some (.slice A0_1 l0_1.length c0_1) := (blk_cell BK120.out 1).trans rfl
   have hcz13_2 : wr.cell? ⟨gb120, 2, none⟩ = some (.slice A0_2 l0_2.length c0_2) := (blk_cell BK120.out 2).trans rfl
   have hcz13_3 : wr.cell? ⟨gb120, 3, none⟩ = some (.slice A0_3 l0_3.length c0_3) := (blk_cell BK120.out 3).trans rfl
   have hcz13_4 : wr.cell? ⟨gb120, 4, none⟩ = some (.slice A0_4 l0_4.length c0_4) := (blk_cell BK120.out 4).trans rfl
   have hfz13_0 := blk_frozen BK120.out 0
   have hfz13_1 := blk_frozen BK120.out 1
   have hfz13_2 := blk_frozen BK120.out 2
   have hfz13_3 := blk_frozen BK120.out 3
   have hfz13_4 := blk_frozen BK120.out 4
   have p124 : 0 ≤ (x4_1 : Int) := of_decide_eq_true zt6
   have q124 : x4_1 < (l0_4.length : Int) := of_decide_eq_true zt6
   obtain ⟨ad124, e124, hx124_0, hx124_1, hx124_2, hx124_3, hx124_4, hx124_5⟩ := at_T75 HR0_4.out x4_1 p124 q124
   cases e124
   replace hx124_0 := (HB.out.cell (World.block_lt_of_cell? w _ hx124_0)).trans hx124_0
   replace hx124_1 := (HB.out.cell (World.block_lt_of_cell? w _ hx124_1)).trans hx124_1
   replace hx124_2 := (HB.out.cell (World.block_lt_of_cell? w _ hx124_2)).trans hx124_2
   replace hx124_3 := (HB.out.cell (World.block_lt_of_cell? w _ hx124_3)).trans hx124_3
   replace hx124_4 := (HB.out.cell (World.block_lt_of_cell? w _ hx124_4)).trans hx124_4
   replace hx124_5 := (HB.out.cell (World.block_lt_of_cell? w _ hx124_5)).trans hx124_5
   replace p124 := eq_true p124
   replace q124 := eq_true q124
   rotate_left
   rw [if_neg c12] at H
   have c12b0 := decide_eq_false c12
   clear c12
   by_cases c17 : ((rd_T75 l0_4 x4_1).f4) ≥ x4_1
   rw [if_pos c17] at H
   have c17b0 : decide (x4_1 ≤ ((rd_T75 l0_4 x4_1).f4)) = true := decide_eq_true c17
   clear c17
   obtain rfl := Option.some.inj H
   have hcz18_0 : wr.cell? ⟨gb120, 0, none⟩ = some (.slice A0_0 l0_0.length c0_0) := (blk_cell BK120.out 0).trans rfl
   have hcz18_1 : wr.cell? ⟨gb120, 1, none⟩ = some (.slice A0_1 l0_1.length c0_1) := (blk_cell BK120.out 1).trans rfl
   have hcz18_2 : wr.cell? ⟨gb120, 2, none⟩ = some (.slice A0_2 l0_2.length c0_2) := (blk_cell BK120.out 2).trans rfl
   have hcz18_3 : wr.cell? ⟨gb120, 3, none⟩ = some (.slice A0_3 l0_3.length c0_3) := (blk_cell BK120.out 3).trans rfl
   have hcz18_4 : wr.cell? ⟨gb120, 4, none⟩ = some (.slice A0_4 l0_4.length c0_4) := (blk_cell BK120.out 4).trans rfl
   have hfz18_0 := blk_frozen BK120.out 0
   have hfz18_1 := blk_frozen BK120.out 1
   have hfz18_2 := blk_frozen BK120.out 2
   have hfz18_3 := blk_frozen BK120.out 3
   have hfz18_4 := blk_frozen BK120.out 4
   have p124 : 0 ≤ (x4_1 : Int) := of_decide_eq_true zt6
   have q124 : x4_1 < (l0_4.length : Int) := of_decide_eq_true zt6
   obtain ⟨ad124, e124, hx124_0, hx124_1, hx124_2, hx124_3, hx124_4, hx124_5⟩ := at_T75 HR0_4.out x4_1 p124 q124
   cases e124
   replace hx124_0 := (HB.out.cell (World.block_lt_of_cell? w _ hx124_0)).trans hx124_0
   replace hx124_1 := (HB.out.cell (World.block_lt_of_cell? w _ hx124_1)).trans hx124_1
   replace hx124_2 := (HB.out.cell (World.block_lt_of_cell? w _ hx124_2)).trans hx124_2
   replace hx124_3 := (HB.out.cell (World.block_lt_of_cell? w _ hx124_3)).trans hx124_3
   replace hx124_4 := (HB.out.cell (World.block_lt_of_cell? w _ hx124_4)).trans hx124_4
   replace hx124_5 := (HB.out.cell (World.block_lt_of_cell? w _ hx124_5)).trans hx124_5
   replace p124 := eq_true p124
   replace q124 := eq_true q124
   rotate_left
   rw [if_neg c17] at H
   have c17b0 : decide (x4_1 ≤ ((rd_T75 l0_4 x4_1).f4)) = false := decide_eq_false c17
   clear c17
   by_cases c22 : ((rd_T75 l0_4 x4_1).f5) < 0
   rw [if_pos c22] at H
   have c22b0 := decide_eq_true c22
   clear c22
   obtain rfl := Option.some.inj H
   have hcz23_0 : wr.cell? ⟨gb120, 0, none⟩ = some (.slice A0_0 l0_0.length c0_0) := (blk_cell BK120.out 0).trans rfl
   have hcz23_1 : wr.cell? ⟨gb120, 1, none⟩ = some (.slice A0_1 l0_1.length c0_1) := (blk_cell BK120.out 1).trans rfl
   have hcz23_2 : wr.cell? ⟨gb120, 2, none⟩ = some (.slice A0_2 l0_2.length c0_2) := (blk_cell BK120.out 2).trans rfl
   have hcz23_3 : wr.cell? ⟨gb120, 3, none⟩ = some (.slice A0_3 l0_3.length c0_3) := (blk_cell BK120.out 3).trans rfl
   have hcz23_4 : wr.cell? ⟨gb120, 4, none⟩ = some (.slice A0_4 l0_4.length c0_4) := (blk_cell BK120.out 4).trans rfl
   have hfz23_0 := blk_frozen BK120.out 0
   have hfz23_1 := blk_frozen BK120.out 1
   have hfz23_2 := blk_frozen BK120.out 2
   have hfz23_3 := blk_frozen BK120.out 3
   have hfz23_4 := blk_frozen BK120.out 4
   have p124 : 0 ≤ (x4_1 : Int) := of_decide_eq_true zt6
   have q124 : x4_1 < (l0_4.length : Int) := of_decide_eq_true zt6
   obtain ⟨ad124, e124, hx124_0, hx124_1, hx124_2, hx124_3, hx124_4, hx124_5⟩ := at_T75 HR0_4.out x4_1 p124 q124
   cases e124
   replace hx124_0 := (HB.out.cell (World.block_lt_of_cell? w _ hx124_0)).trans hx124_0
   replace hx124_1 := (HB.out.cell (World.block_lt_of_cell? w _ hx124_1)).trans hx124_1
   replace hx124_2 := (HB.out.cell (World.block_lt_of_cell? w _ hx124_2)).trans hx124_2
   replace hx124_3 := (HB.out.cell (World.block_lt_of_cell? w _ hx124_3)).trans hx124_3
   replace hx124_4 := (HB.out.cell (World.block_lt_of_cell? w _ hx124_4)).trans hx124_4
   replace hx124_5 := (HB.out.cell (World.block_lt_of_cell? w _ hx124_5)).trans hx124_5
   replace p124 := eq_true p124
   replace q124 := eq_true q124
   rotate_left
   rw [if_neg c22] at H
   have c22b0 := decide_eq_false c22
   clear c22
   by_cases c27 : ((rd_T75 l0_4 x4_1).f5) ≥ x4_1
   rw [if_pos c27] at H
   have c27b0 : decide (x4_1 ≤ ((rd_T75 l0_4 x4_1).f5)) = true := decide_eq_true c27
   clear c27
   obtain rfl := Option.some.inj H
   have hcz28_0 : wr.cell? ⟨gb120, 0, none⟩ = some (.slice A0_0 l0_0.length c0_0) := (blk_cell BK120.out 0).trans rfl
   have hcz28_1 : wr.cell? ⟨gb120, 1, none⟩ = some (.slice A0_1 l0_1.length c0_1) := (blk_cell BK120.out 1).trans rfl
   have hcz28_2 : wr.cell? ⟨gb120, 2, none⟩ = some (.slice A0_2 l0_2.length c0_2) := (blk_cell BK120.out 2).trans rfl
   have hcz28_3 : wr.cell? ⟨gb120, 3, none⟩ = some (.slice A0_3 l0_3.length c0_3) := (blk_cell BK120.out 3).trans rfl
   have hcz28_4 : wr.cell? ⟨gb120, 4, none⟩ = some (.slice A0_4 l0_4.length c0_4) := (blk_cell BK120.out 4).trans rfl
   have hfz28_0 := blk_frozen BK120.out 0
   have hfz28_1 := blk_frozen BK120.out 1
   have hfz28_2 := blk_frozen BK120.out 2
   have hfz28_3 := blk_frozen BK120.out 3
   have hfz28_4 := blk_frozen BK120.out 4
   have p124 : 0 ≤ (x4_1 : Int) := of_decide_eq_true zt6
   have q124 : x4_1 < (l0_4.length : Int) := of_decide_eq_true zt6
   obtain ⟨ad124, e124, hx124_0, hx124_1, hx124_2, hx124_3, hx124_4, hx124_5⟩ := at_T75 HR0_4.out x4_1 p124 q124
   cases e124
   replace hx124_0 := (HB.out.cell (World.block_lt_of_cell? w _ hx124_0)).trans hx124_0
   replace hx124_1 := (HB.out.cell (World.block_lt_of_cell? w _ hx124_1)).trans hx124_1
   replace hx124_2 := (HB.out.cell (World.block_lt_of_cell? w _ hx124_2)).trans hx124_2
   replace hx124_3 := (HB.out.cell (World.block_lt_of_cell? w _ hx124_3)).trans hx124_3
   replace hx124_4 := (HB.out.cell (World.block_lt_of_cell? w _ hx124_4)).trans hx124_4
   replace hx124_5 := (HB.out.cell (World.block_lt_of_cell? w _ hx124_5)).trans hx124_5
   replace p124 := eq_true p124
   replace q124 := eq_true q124
   rotate_left
   ·rw [if_neg c27] at H
    have c27b0 : decide (x4_1 ≤ ((rd_T75 l0_4 x4_1).f5)) = false := decide_eq_false c27
    clear c27
    replace H := it0 H
    obtain ⟨c32, H⟩ := H
    have c32b0 := decide_eq_true c32
    clear c32
    replace H := it0 H
    obtain ⟨c33, H⟩ := H
    have c33b0 := decide_eq_true c33
    clear c33
    obtain ⟨y128, hy128⟩ : ∃ y_ : List Int, y_ = (x3_1.set (((rd_T75 l0_4 x4_1).f4) : Int).toNat (wrap64 ((rd x3_1 ((rd_T75 l0_4 x4_1).f4)) + 1))) := ⟨_, rfl⟩
    rw [← hy128] at H
    have Ny128 := Aside0.mk hy128
    clear hy128
    replace H := it0 H
    obtain ⟨c35, H⟩ := H
    have c35b0 := decide_eq_true c35
    clear c35
    replace H := it0 H
    obtain ⟨c36, H⟩ := H
    have c36b0 := decide_eq_true c36
    clear c36
    obtain ⟨y130, hy130⟩ : ∃ y_ : List Int, y_ = (y128.set (((rd_T75 l0_4 x4_1).f5) : Int).toNat (wrap64 ((rd y128 ((rd_T75 l0_4 x4_1).f5)) + 1))) := ⟨_, rfl⟩
    replace H : (spec_l5Tree.l0 k1 y130 (wrap64 (x4_1 + 1)) l0_0 l0_1 l0_2 l0_3 l0_4) = some r := by first | (rw [hy130]; with_reducible exact H) | (have H2_ := (Option.bind_some _ _).symm.trans H; rw [hy130]; with_reducible exact H2_) | (have H2_ := (Option.bind_some _ _).symm.trans H; with_reducible exact H2_) | with_reducible exact H | (rw [hy130]; exact H) | exact H
    have Ny130 := Aside0.mk hy130
    clear hy130
    have H' := Aside0.mk H
    clear H
    have hcz38_0 : wr.cell? ⟨gb120, 0, none⟩ = some (.slice A0_0 l0_0.length c0_0) := (blk_cell BK120.out 0).trans rfl
    have hcz38_1 : wr.cell? ⟨gb120, 1, none⟩ = some (.slice A0_1 l0_1.length c0_1) := (blk_cell BK120.out 1).trans rfl
    have hcz38_2 : wr.cell? ⟨gb120, 2, none⟩ = some (.slice A0_2 l0_2.length c0_2) := (blk_cell BK120.out 2).trans rfl
    have hcz38_3 : wr.cell? ⟨gb120, 3, none⟩ = some (.slice A0_3 l0_3.length c0_3) := (blk_cell BK120.out 3).trans rfl
    have hcz38_4 : wr.cell? ⟨gb120, 4, none⟩ = some (.slice A0_4 l0_4.length c0_4) := (blk_cell BK120.out 4).trans rfl
    have hfz38_0 := blk_frozen BK120.out 0
    have hfz38_1 := blk_frozen BK120.out 1
    have hfz38_2 := blk_frozen BK120.out 2
    have hfz38_3 := blk_frozen BK120.out 3
    have hfz38_4 := blk_frozen BK120.out 4
    have p124 : 0 ≤ (x4_1 : Int) := of_decide_eq_true zt6
    have q124 : x4_1 < (l0_4.length : Int) := of_decide_eq_true zt6
    obtain ⟨ad124, e124, hx124_0, hx124_1, hx124_2, hx124_3, hx124_4, hx124_5⟩ := at_T75 HR0_4.out x4_1 p124 q124
    cases e124
    replace hx124_0 := (HB.out.cell (World.block_lt_of_cell? w _ hx124_0)).trans hx124_0
    replace hx124_1 := (HB.out.cell (World.block_lt_of_cell? w _ hx124_1)).trans hx124_1
    replace hx124_2 := (HB.out.cell (World.block_lt_of_cell? w _ hx124_2)).trans hx124_2
    replace hx124_3 := (HB.out.cell (World.block_lt_of_cell? w _ hx124_3)).trans hx124_3
    replace hx124_4 := (HB.out.cell (World.block_lt_of_cell? w _ hx124_4)).trans hx124_4
    replace hx124_5 := (HB.out.cell (World.block_lt_of_cell? w _ hx124_5)).trans hx124_5
    replace p124 := eq_true p124
    replace q124 := eq_true q124
    try go_wp2_with (first | ((with_reducible refine gate_dst (N := 5) rfl ?_); (try (refine gate_guard (by rfl) ?_; dsimp only)); refine box_event ?hg (N := 5) ?hd (cs := #[.int .i64 0, .int .i64 0, .string (⟨#[]⟩ : ByteArray), .string (⟨#[]⟩ : ByteArray), .int .i64 0, .int .i64 0]) (t := 75) ?hr ?_; (case hd => rfl); (case hg => rfl); (case hr => first | (go_simp; done) | (go_simp; rfl)); intro gb125 hg w39 hbox hb; have n0_ := Aside0.mk (Kd.R_below (rz HO_3.out) hb); have n1_ := Aside0.mk (blk_below (g := gb120) (o := .cells #[.slice A0_0 l0_0.length c0_0, .slice A0_1 l0_1.length c0_1, .slice A0_2 l0_2.length c0_2, .slice A0_3 l0_3.length c0_3, .slice (some ad124) l0_4.length c0_4] 37 (0, 0)) (oz BK120.out) hb); have n2_ := Aside0.mk (below_step zt9 hb); have n3_ := Aside0.mk (hbox); have n4_ := Aside0.mk ((zt15 : w.heap.size ≤ gb125)); have n5_ := Aside0.mk ((zt15 : w.heap.size ≤ gb125)); have n6_ := Aside0.mk ((zt22 : gb120 ≠ gb125)); have n7_ := Aside0.mk ((zt23 : gb125 ≠ gb120)); clear HO_3; clear BK120; clear HB; have HO_3 := n0_; have BK120 := n1_; have HB := n2_; have BK125 := n3_; have GW125 := n4_; have GE125 := n5_; have NB120_125 := n6_; have NB125_120 := n7_; clear n0_ n1_ n2_ n3_ n4_ n5_ n6_ n7_; clear hb hbox hg; have hnb40 := NB125_120.out; have hnc40 := NB120_125.out; have hcz41_0 : w39.cell? ⟨gb125, 0, none⟩ = some (.int .i64 0) := (blk_cell BK125.out 0).trans rfl; have hcz41_1 : w39.cell? ⟨gb125, 1, none⟩ = some (.int .i64 0) := (blk_cell BK125.out 1).trans rfl; have hcz41_2 : w39.cell? ⟨gb125, 2, none⟩ = some (.string (⟨#[]⟩ : ByteArray)) := (blk_cell BK125.out 2).trans rfl; have hcz41_3 : w39.cell? ⟨gb125, 3, none⟩ = some (.string (⟨#[]⟩ : ByteArray)) := (blk_cell BK125.out 3).trans rfl; have hcz41_4 : w39.cell? ⟨gb125, 4, none⟩ = some (.int .i64 0) := (blk_cell BK125.out 4).trans rfl; have hcz41_5 : w39.cell? ⟨gb125, 5, none⟩ = some (.int .i64 0) := (blk_cell BK125.out 5).trans rfl; have hfz41_0 := blk_frozen BK125.out 0; have hfz41_1 := blk_frozen BK125.out 1; have hfz41_2 := blk_frozen BK125.out 2; have hfz41_3 := blk_frozen BK125.out 3; have hfz41_4 := blk_frozen BK125.out 4; have hfz41_5 := blk_frozen BK125.out 5) | ((with_reducible refine gate_callee (f := 33) rfl ?_); refine goesL_ (some 27) rfl rfl Tryd.func33 (by kernel_rfl) rfl #[.int .i64 ((rd_T75 l0_4 x4_1).f0)] rfl zt5 ?_; (with_reducible refine (spec_l5Two.calls ((rd_T75 l0_4 x4_1).f0) true _ A10.out).mono ?_); rintro e w' ⟨rfl, ⟨nd, rfl⟩⟩; refine ⟨_, rfl, ?_⟩))
    have n0_ : Aside0 (Kd.R (Kd.int .i64) 3 ((((((w39.setCell ⟨gb125, 0, none⟩ (.int .i64 ((rd_T75 l0_4 x4_1).f0))).setCell ⟨gb125, 1, none⟩ (.int .i64 ((rd_T75 l0_4 x4_1).f1))).setCell ⟨gb125, 2, none⟩ (.string ((rd_T75 l0_4 x4_1).f2))).setCell ⟨gb125, 3, none⟩ (.string ((rd_T75 l0_4 x4_1).f3))).setCell ⟨gb125, 4, none⟩ (.int .i64 ((rd_T75 l0_4 x4_1).f4))).setCell ⟨gb125, 5, none⟩ (.int .i64 ((rd_T75 l0_4 x4_1).f5))) w.heap.size (fun _ => True) v122 x3_1) := ⟨by (with_reducible repeat (first | apply Kd.R_alloc | apply Kd.R_drewN | apply Kd.R_drew)); exact Kd.R_mono (Kd.R_far (p := ⟨gb125, 5, none⟩) (Kd.R_far (p := ⟨gb125, 4, none⟩) (Kd.R_far (p := ⟨gb125, 3, none⟩) (Kd.R_far (p := ⟨gb125, 2, none⟩) (Kd.R_far (p := ⟨gb125, 1, none⟩) (Kd.R_far (p := ⟨gb125, 0, none⟩) (Kd.R_types HO_3.out BK125.out (by decide)) (fun _ hk => hk.2) (.int .i64 ((rd_T75 l0_4 x4_1).f0))) (fun _ hk => hk.2) (.int .i64 ((rd_T75 l0_4 x4_1).f1))) (fun _ hk => hk.2) (.string ((rd_T75 l0_4 x4_1).f2))) (fun _ hk => hk.2) (.string ((rd_T75 l0_4 x4_1).f3))) (fun _ hk => hk.2) (.int .i64 ((rd_T75 l0_4 x4_1).f4))) (fun _ hk => hk.2) (.int .i64 ((rd_T75 l0_4 x4_1).f5))) (fun _ hk => trivial)⟩
    have n1_ : Aside0 (((((((w39.setCell ⟨gb125, 0, none⟩ (.int .i64 ((rd_T75 l0_4 x4_1).f0))).setCell ⟨gb125, 1, none⟩ (.int .i64 ((rd_T75 l0_4 x4_1).f1))).setCell ⟨gb125, 2, none⟩ (.string ((rd_T75 l0_4 x4_1).f2))).setCell ⟨gb125, 3, none⟩ (.string ((rd_T75 l0_4 x4_1).f3))).setCell ⟨gb125, 4, none⟩ (.int .i64 ((rd_T75 l0_4 x4_1).f4))).setCell ⟨gb125, 5, none⟩ (.int .i64 ((rd_T75 l0_4 x4_1).f5))).heap[gb120]? = some (.cells #[.slice A0_0 l0_0.length c0_0, .slice A0_1 l0_1.length c0_1, .slice A0_2 l0_2.length c0_2, .slice A0_3 l0_3.length c0_3, .slice (some ad124) l0_4.length c0_4] 37 (0, 0))) := ⟨by (with_reducible repeat (first | refine blk_drewN ?_ _ | refine blk_drew ?_ | refine blk_alloc ?_ _)); refine blk_far ?_ NB120_125.out _; (with_reducible repeat (first | refine blk_drewN ?_ _ | refine blk_drew ?_ | refine blk_alloc ?_ _)); refine blk_far ?_ NB120_125.out _; (with_reducible repeat (first | refine blk_drewN ?_ _ | refine blk_drew ?_ | refine blk_alloc ?_ _)); refine blk_far ?_ NB120_125.out _; (with_reducible repeat (first | refine blk_drewN ?_ _ | refine blk_drew ?_ | refine blk_alloc ?_ _)); refine blk_far ?_ NB120_125.out _; (with_reducible repeat (first | refine blk_drewN ?_ _ | refine blk_drew ?_ | refine blk_alloc ?_ _)); refine blk_far ?_ NB120_125.out _; (with_reducible repeat (first | refine blk_drewN ?_ _ | refine blk_drew ?_ | refine blk_alloc ?_ _)); refine blk_far ?_ NB120_125.out _; (with_reducible repeat (first | refine blk_drewN ?_ _ | refine blk_drew ?_ | refine blk_alloc ?_ _)); exact BK120.out⟩
    have n2_ : Aside0 (((((((w39.setCell ⟨gb125, 0, none⟩ (.int .i64 ((rd_T75 l0_4 x4_1).f0))).setCell ⟨gb125, 1, none⟩ (.int .i64 ((rd_T75 l0_4 x4_1).f1))).setCell ⟨gb125, 2, none⟩ (.string ((rd_T75 l0_4 x4_1).f2))).setCell ⟨gb125, 3, none⟩ (.string ((rd_T75 l0_4 x4_1).f3))).setCell ⟨gb125, 4, none⟩ (.int .i64 ((rd_T75 l0_4 x4_1).f4))).setCell ⟨gb125, 5, none⟩ (.int .i64 ((rd_T75 l0_4 x4_1).f5))).heap[gb125]? = some (.cells #[.int .i64 ((rd_T75 l0_4 x4_1).f0), .int .i64 ((rd_T75 l0_4 x4_1).f1), .string ((rd_T75 l0_4 x4_1).f2), .string ((rd_T75 l0_4 x4_1).f3), .int .i64 ((rd_T75 l0_4 x4_1).f4), .int .i64 ((rd_T75 l0_4 x4_1).f5)] 75 (0, 0))) := ⟨by (with_reducible repeat (first | refine blk_drewN ?_ _ | refine blk_drew ?_ | refine blk_alloc ?_ _)); refine blk_put (cs := #[.int .i64 ((rd_T75 l0_4 x4_1).f0), .int .i64 ((rd_T75 l0_4 x4_1).f1), .string ((rd_T75 l0_4 x4_1).f2), .string ((rd_T75 l0_4 x4_1).f3), .int .i64 ((rd_T75 l0_4 x4_1).f4), .int .i64 0]) ?_ 5 _ rfl; (with_reducible repeat (first | refine blk_drewN ?_ _ | refine blk_drew ?_ | refine blk_alloc ?_ _)); refine blk_put (cs := #[.int .i64 ((rd_T75 l0_4 x4_1).f0), .int .i64 ((rd_T75 l0_4 x4_1).f1), .string ((rd_T75 l0_4 x4_1).f2), .string ((rd_T75 l0_4 x4_1).f3), .int .i64 0, .int .i64 0]) ?_ 4 _ rfl; (with_reducible repeat (first | refine blk_drewN ?_ _ | refine blk_drew ?_ | refine blk_alloc ?_ _)); refine blk_put (cs := #[.int .i64 ((rd_T75 l0_4 x4_1).f0), .int .i64 ((rd_T75 l0_4 x4_1).f1), .string ((rd_T75 l0_4 x4_1).f2), .string (⟨#[]⟩ : ByteArray), .int .i64 0, .int .i64 0]) ?_ 3 _ rfl; (with_reducible repeat (first | refine blk_drewN ?_ _ | refine blk_drew ?_ | refine blk_alloc ?_ _)); refine blk_put (cs := #[.int .i64 ((rd_T75 l0_4 x4_1).f0), .int .i64 ((rd_T75 l0_4 x4_1).f1), .string (⟨#[]⟩ : ByteArray), .string (⟨#[]⟩ : ByteArray), .int .i64 0, .int .i64 0]) ?_ 2 _ rfl; (with_reducible repeat (first | refine blk_drewN ?_ _ | refine blk_drew ?_ | refine blk_alloc ?_ _)); refine blk_put (cs := #[.int .i64 ((rd_T75 l0_4 x4_1).f0), .int .i64 0, .string (⟨#[]⟩ : ByteArray), .string (⟨#[]⟩ : ByteArray), .int .i64 0, .int .i64 0]) ?_ 1 _ rfl; (with_reducible repeat (first | refine blk_drewN ?_ _ | refine blk_drew ?_ | refine blk_alloc ?_ _)); refine blk_put (cs := #[.int .i64 0, .int .i64 0, .string (⟨#[]⟩ : ByteArray), .string (⟨#[]⟩ : ByteArray), .int .i64 0, .int .i64 0]) ?_ 0 _ rfl; (with_reducible repeat (first | refine blk_drewN ?_ _ | refine blk_drew ?_ | refine blk_alloc ?_ _)); exact BK125.out⟩
    have n3_ : Aside0 (Below w.heap.size w ((((((w39.setCell ⟨gb125, 0, none⟩ (.int .i64 ((rd_T75 l0_4 x4_1).f0))).setCell ⟨gb125, 1, none⟩ (.int .i64 ((rd_T75 l0_4 x4_1).f1))).setCell ⟨gb125, 2, none⟩ (.string ((rd_T75 l0_4 x4_1).f2))).setCell ⟨gb125, 3, none⟩ (.string ((rd_T75 l0_4 x4_1).f3))).setCell ⟨gb125, 4, none⟩ (.int .i64 ((rd_T75 l0_4 x4_1).f4))).setCell ⟨gb125, 5, none⟩ (.int .i64 ((rd_T75 l0_4 x4_1).f5)))) := ⟨zt38⟩
    (try clear HO_3)
    (try clear BK120)
    (try clear BK125)
    (try clear HB)
    generalize ((((((w39.setCell ⟨gb125, 0, none⟩ (.int .i64 ((rd_T75 l0_4 x4_1).f0))).setCell ⟨gb125, 1, none⟩ (.int .i64 ((rd_T75 l0_4 x4_1).f1))).setCell ⟨gb125, 2, none⟩ (.string ((rd_T75 l0_4 x4_1).f2))).setCell ⟨gb125, 3, none⟩ (.string ((rd_T75 l0_4 x4_1).f3))).setCell ⟨gb125, 4, none⟩ (.int .i64 ((rd_T75 l0_4 x4_1).f4))).setCell ⟨gb125, 5, none⟩ (.int .i64 ((rd_T75 l0_4 x4_1).f5))) = w42 at n0_ n1_ n2_ n3_ ⊢
    have HO_3 := n0_
    have BK120 := n1_
    have BK125 := n2_
    have HB := n3_
    clear n0_ n1_ n2_ n3_
    (try (rw [drewN_self w42]; generalize hq_ : World.drewN w42 _ = w42; have n0_ : Aside0 (Kd.R (Kd.int .i64) 3 w42 w.heap.size (fun _ => True) v122 x3_1) := ⟨by rw [← hq_]; exact (rz HO_3.out)⟩; have n1_ : Aside0 (w42.heap[gb120]? = some (.cells #[.slice A0_0 l0_0.length c0_0, .slice A0_1 l0_1.length c0_1, .slice A0_2 l0_2.length c0_2, .slice A0_3 l0_3.length c0_3, .slice (some ad124) l0_4.length c0_4] 37 (0, 0))) := ⟨by rw [← hq_]; exact (oz BK120.out)⟩; have n2_ : Aside0 (w42.heap[gb125]? = some (.cells #[.int .i64 ((rd_T75 l0_4 x4_1).f0), .int .i64 ((rd_T75 l0_4 x4_1).f1), .string ((rd_T75 l0_4 x4_1).f2), .string ((rd_T75 l0_4 x4_1).f3), .int .i64 ((rd_T75 l0_4 x4_1).f4), .int .i64 ((rd_T75 l0_4 x4_1).f5)] 75 (0, 0))) := ⟨by rw [← hq_]; exact (oz BK125.out)⟩; have n3_ : Aside0 (Below w.heap.size w w42) := ⟨by rw [← hq_]; exact zt38⟩; clear HO_3 BK120 BK125 HB hq_; have HO_3 := n0_; have BK120 := n1_; have BK125 := n2_; have HB := n3_; clear n0_ n1_ n2_ n3_))
    have n0_ := Aside0.mk (Kd.R_drew HO_3.out)
    have n1_ := Aside0.mk (blk_drew BK120.out)
    have n2_ := Aside0.mk (blk_drew BK125.out)
    have n3_ := Aside0.mk (below_drew1 HB.out)
    clear HO_3
    clear BK120
    clear BK125
    clear HB
    have HO_3 := n0_
    have BK120 := n1_
    have BK125 := n2_
    have HB := n3_
    clear n0_ n1_ n2_ n3_
    obtain ⟨Ao44, co44, eo44⟩ := Kd.R_slice HO_3.out
    (first | subst eo44 | (injection eo44 with f1_ f2_ f3_; have f4_ := f1_.symm; have f5_ := f3_.symm; clear f1_ f2_ f3_; subst f4_; subst f5_))
    have p127 : 0 ≤ (((rd_T75 l0_4 x4_1).f4) : Int) := of_decide_eq_true zt6
    have q127 : ((rd_T75 l0_4 x4_1).f4) < (x3_1.length : Int) := of_decide_eq_true zt6
    obtain ⟨ad127, e127, hx127_0⟩ := Kd.at_int (Kd.R_reads' HO_3.out).2.2 ((rd_T75 l0_4 x4_1).f4) p127 q127
    cases e127
    replace p127 := eq_true p127
    replace q127 := eq_true q127
    have p34 : 0 ≤ (((rd_T75 l0_4 x4_1).f4) : Int) := of_decide_eq_true zt6
    have q34 : (((rd_T75 l0_4 x4_1).f4) : Int) < ((x3_1.length : Int) : Int) := of_decide_eq_true zt6
    obtain ⟨go34, co34, eo34, gb34, gl34, cl34, HG34⟩ := Kd.R_form HO_3.out (by omega)
    (first | cases eo34 | (injection eo34 with ea_ en_ ec_; (first | subst ea_ | (injection ea_ with ea_; subst ea_)); subst ec_; clear en_))
    have GB34 := Aside0.mk gb34
    have GG34 := Aside0.mk HG34
    clear gb34 gl34 HG34
    (first | simp only [add_plain] at hx127_0 | skip)
    obtain ⟨hx34_0, hf34_0⟩ := Kd.R_celln 0 HO_3.out (((rd_T75 l0_4 x4_1).f4) : Int) p34 q34
    replace p34 := eq_true p34
    replace q34 := eq_true q34
    have HP45 := Kd.R_putn HO_3.out (((rd_T75 l0_4 x4_1).f4) : Int) (wrap64 ((rd x3_1 ((rd_T75 l0_4 x4_1).f4)) + 1))
    rw [← Ny128.out] at HP45
    have HQ45 := Aside0.mk HP45
    clear HP45
    refine start_ (n := 11) (S := fun w' => w'.cell? ⟨gb125, 0, none⟩ = some (.int .i64 ((rd_T75 l0_4 x4_1).f0)) ∧ w'.cell? ⟨gb125, 1, none⟩ = some (.int .i64 ((rd_T75 l0_4 x4_1).f1)) ∧ w'.cell? ⟨gb125, 2, none⟩ = some (.string ((rd_T75 l0_4 x4_1).f2)) ∧ w'.cell? ⟨gb125, 3, none⟩ = some (.string ((rd_T75 l0_4 x4_1).f3)) ∧ w'.cell? ⟨gb125, 4, none⟩ = some (.int .i64 ((rd_T75 l0_4 x4_1).f4)) ∧ w'.cell? ⟨gb125, 5, none⟩ = some (.int .i64 ((rd_T75 l0_4 x4_1).f5)) ∧ w'.cell? ⟨go34, (((rd_T75 l0_4 x4_1).f4)).toNat, none⟩ = some (.int .i64 (rd x3_1 ((rd_T75 l0_4 x4_1).f4)))) (ds := [10]) bt0_3 (by kernel_rfl) rfl rfl ⟨(blk_cell BK125.out 0).trans rfl, (blk_cell BK125.out 1).trans rfl, (blk_cell BK125.out 2).trans rfl, (blk_cell BK125.out 3).trans rfl, (blk_cell BK125.out 4).trans rfl, (blk_cell BK125.out 5).trans rfl, hx127_0⟩ (fun hHeld => ?_); refine with_tabW spec_l5Tree.tab9 spec_l5Tree.bits9 (fun HT_ HW_ => ?_)
    generalize w42.drew = w43 at HO_3 BK120 BK125 HB GG34 HQ45 hf34_0 hx127_0 hx34_0 hHeld ⊢
    refine pure_ (i := 0) (N := some 49) (v := ?_) (a' := ?_) bt1_3 rfl rfl (any_of HT_.out (by kernel_rfl)) (fun _ _ _ h => h) (Or.inl ⟨by rfl, ?_⟩) ?_ ?_
    rotate_left
    ·intro w'
     go_simp
     with_reducible rfl
    rotate_left
    ·simp only [Act.put, List.setIfInBounds_toArray, List.set_cons_zero, List.set_cons_succ, i64_w, i32_w]
     rfl
    refine pure_ (i := 1) (N := some 50) (v := ?_) (a' := ?_) bt2_3 rfl rfl (any_of HT_.out (by kernel_rfl)) (fun _ _ _ h => h) (Or.inl ⟨by rfl, ?_⟩) ?_ ?_
    rotate_left
    ·intro w'
     go_simp
     with_reducible rfl
    rotate_left
    ·simp only [Act.put, List.setIfInBounds_toArray, List.set_cons_zero, List.set_cons_succ, i64_w, i32_w]
     rfl
    refine pure_ (i := 3) (N := some 52) (v := ?_) (a' := ?_) bt3_3 rfl rfl (any_of HT_.out (by kernel_rfl)) (fun _ _ _ h => h) (Or.inl ⟨by rfl, ?_⟩) ?_ ?_
    rotate_left
    ·intro w'
     go_simp
     with_reducible rfl
    rotate_left
    ·simp only [Act.put, List.setIfInBounds_toArray, List.set_cons_zero, List.set_cons_succ, i64_w, i32_w]
     rfl
    refine pure_ (i := 4) (N := some 53) (v := ?_) (a' := ?_) bt4_3 rfl rfl (any_of HT_.out (by kernel_rfl)) (fun _ _ _ h => h) (Or.inl ⟨by rfl, ?_⟩) ?_ ?_
    rotate_left
    ·intro w'
     go_simp
     with_reducible rfl
    rotate_left
    ·simp only [Act.put, List.setIfInBounds_toArray, List.set_cons_zero, List.set_cons_succ, i64_w, i32_w]
     rfl
    refine take_ (i := 2) (N := some 51) (v := ?_) (a' := ?_) bt5_3 rfl rfl (take_ofW HT_.out HW_.out (by kernel_rfl)) (fun _ _ _ h => h) (Or.inl ⟨by rfl, ?_⟩) hHeld ?_ ?_
    rotate_left
    ·rintro w' ⟨s0, s1, s2, s3, s4, s5, s6⟩
     go_simp
     with_reducible rfl
    rotate_left
    ·simp only [Act.put, List.setIfInBounds_toArray, List.set_cons_zero, List.set_cons_succ, i64_w, i32_w]
     rfl
    refine take_ (i := 5) (N := some 54) (v := ?_) (a' := ?_) bt6_3 rfl rfl (take_ofW HT_.out HW_.out (by kernel_rfl)) (fun _ _ _ h => h) (Or.inl ⟨by rfl, ?_⟩) hHeld ?_ ?_
    rotate_left
    ·rintro w' ⟨s0, s1, s2, s3, s4, s5, s6⟩
     go_simp
     with_reducible rfl
    rotate_left
    ·simp only [Act.put, List.setIfInBounds_toArray, List.set_cons_zero, List.set_cons_succ, i64_w, i32_w]
     rfl
    refine pure_ (i := 6) (N := some 55) (v := ?_) (a' := ?_) bt7_3 rfl rfl (any_of HT_.out (by kernel_rfl)) (fun _ _ _ h => h) (Or.inl ⟨by rfl, ?_⟩) ?_ ?_
    rotate_left
    ·intro w'
     go_simp
     with_reducible rfl
    rotate_left
    ·simp only [Act.put, List.setIfInBounds_toArray, List.set_cons_zero, List.set_cons_succ, i64_w, i32_w]
     rfl
    refine take_ (i := 7) (N := some 56) (v := ?_) (a' := ?_) bt8_3 rfl rfl (take_ofW HT_.out HW_.out (by kernel_rfl)) (fun _ _ _ h => h) (Or.inl ⟨by rfl, ?_⟩) hHeld ?_ ?_
    rotate_left
    ·rintro w' ⟨s0, s1, s2, s3, s4, s5, s6⟩
     go_simp
     with_reducible rfl
    rotate_left
    ·simp only [Act.put, List.setIfInBounds_toArray, List.set_cons_zero, List.set_cons_succ, i64_w, i32_w]
     rfl
    refine pure_ (i := 8) (N := some 57) (v := ?_) (a' := ?_) bt9_3 rfl rfl (any_of HT_.out (by kernel_rfl)) (fun _ _ _ h => h) (Or.inl ⟨by rfl, ?_⟩) ?_ ?_
    rotate_left
    ·intro w'
     go_simp
     with_reducible rfl
    rotate_left
    ·simp only [Act.put, List.setIfInBounds_toArray, List.set_cons_zero, List.set_cons_succ, i64_w, i32_w]
     rfl
    refine pure_ (i := 9) (N := some 58) (v := ?_) (a' := ?_) bt10_3 rfl rfl (any_of HT_.out (by kernel_rfl)) (fun _ _ _ h => h) (Or.inl ⟨by rfl, ?_⟩) ?_ ?_
    rotate_left
    ·intro w'
     go_simp
     with_reducible rfl
    rotate_left
    ·simp only [Act.put, List.setIfInBounds_toArray, List.set_cons_zero, List.set_cons_succ, i64_w, i32_w]
     rfl
    refine last_ (i := 10) (N := none) bt11_3 rfl rfl (one_of HT_.out (by kernel_rfl)) (by decide) (fun K hK => ?_)
    refine skip_ (w1 := ?_) (by rfl) rfl ?_ ?_
    rotate_left
    ·go_simp
     rfl
    refine hK.out _ _ ?_
    clear hK K
    refine done_ (done_of HT_.out (by kernel_rfl)) ?_
    try go_wp2
    have n0_ : Aside0 (Kd.R (Kd.int .i64) 3 (w43.setCell ⟨go34, (((rd_T75 l0_4 x4_1).f4) : Int).toNat, none⟩ (.int .i64 (wrap64 ((rd x3_1 ((rd_T75 l0_4 x4_1).f4)) + 1)))) w.heap.size (fun _ => True) (.slice (some ⟨go34, 0, none⟩) x3_1.length co44) y128) := ⟨by (with_reducible repeat (first | apply Kd.R_alloc | apply Kd.R_drewN | apply Kd.R_drew)); exact HQ45.out⟩
    have n1_ : Aside0 ((w43.setCell ⟨go34, (((rd_T75 l0_4 x4_1).f4) : Int).toNat, none⟩ (.int .i64 (wrap64 ((rd x3_1 ((rd_T75 l0_4 x4_1).f4)) + 1)))).heap[gb120]? = some (.cells #[.slice A0_0 l0_0.length c0_0, .slice A0_1 l0_1.length c0_1, .slice A0_2 l0_2.length c0_2, .slice A0_3 l0_3.length c0_3, .slice (some ad124) l0_4.length c0_4] 37 (0, 0))) := ⟨by (with_reducible repeat (first | refine blk_drewN ?_ _ | refine blk_drew ?_ | refine blk_alloc ?_ _)); refine blk_far ?_ (by have h_ := Kd.R_ne HO_3.out BK120.out (by decide); intro e_; exact h_ (by rw [e_]; rfl)) _; (with_reducible repeat (first | refine blk_drewN ?_ _ | refine blk_drew ?_ | refine blk_alloc ?_ _)); exact BK120.out⟩
    have n2_ : Aside0 ((w43.setCell ⟨go34, (((rd_T75 l0_4 x4_1).f4) : Int).toNat, none⟩ (.int .i64 (wrap64 ((rd x3_1 ((rd_T75 l0_4 x4_1).f4)) + 1)))).heap[gb125]? = some (.cells #[.int .i64 ((rd_T75 l0_4 x4_1).f0), .int .i64 ((rd_T75 l0_4 x4_1).f1), .string ((rd_T75 l0_4 x4_1).f2), .string ((rd_T75 l0_4 x4_1).f3), .int .i64 ((rd_T75 l0_4 x4_1).f4), .int .i64 ((rd_T75 l0_4 x4_1).f5)] 75 (0, 0))) := ⟨by (with_reducible repeat (first | refine blk_drewN ?_ _ | refine blk_drew ?_ | refine blk_alloc ?_ _)); refine blk_far ?_ (by have h_ := Kd.R_ne HO_3.out BK125.out (by decide); intro e_; exact h_ (by rw [e_]; rfl)) _; (with_reducible repeat (first | refine blk_drewN ?_ _ | refine blk_drew ?_ | refine blk_alloc ?_ _)); exact BK125.out⟩
    have n3_ : Aside0 (Below w.heap.size w (w43.setCell ⟨go34, (((rd_T75 l0_4 x4_1).f4) : Int).toNat, none⟩ (.int .i64 (wrap64 ((rd x3_1 ((rd_T75 l0_4 x4_1).f4)) + 1))))) := ⟨by repeat (first | (with_reducible first | exact HB.out | apply below_alloc | apply pw_below_drewN | apply below_drew1 | refine below_set ?_ GB34.out | refine below_set ?_ GE120.out | refine below_set ?_ GE125.out) | exact HB.out)⟩
    (try clear HO_3)
    (try clear BK120)
    (try clear BK125)
    (try clear HB)
    generalize (w43.setCell ⟨go34, (((rd_T75 l0_4 x4_1).f4) : Int).toNat, none⟩ (.int .i64 (wrap64 ((rd x3_1 ((rd_T75 l0_4 x4_1).f4)) + 1)))) = w46 at n0_ n1_ n2_ n3_ ⊢
    have HO_3 := n0_
    have BK120 := n1_
    have BK125 := n2_
    have HB := n3_
    clear n0_ n1_ n2_ n3_
    have n0_ := Aside0.mk (Kd.R_drew HO_3.out)
    have n1_ := Aside0.mk (blk_drew BK120.out)
    have n2_ := Aside0.mk (blk_drew BK125.out)
    have n3_ := Aside0.mk (below_drew1 HB.out)
    clear HO_3
    clear BK120
    clear BK125
    clear HB
    have HO_3 := n0_
    have BK120 := n1_
    have BK125 := n2_
    have HB := n3_
    clear n0_ n1_ n2_ n3_
    have p129 : 0 ≤ (((rd_T75 l0_4 x4_1).f5) : Int) := of_decide_eq_true zt6
    have q129 : ((rd_T75 l0_4 x4_1).f5) < (y128.length : Int) := (by have h_ : (((rd_T75 l0_4 x4_1).f5) : Int) < ((x3_1.length : Int) : Int) := of_decide_eq_true zt6; first | (have e_ := (Kd.R_reads' HO_3.out).1; omega) | simpa only [Ny128.out, List.length_set] using h_)
    have ql129 : ((((rd_T75 l0_4 x4_1).f5) : Int) < ((x3_1.length : Int) : Int)) = True := eq_true (of_decide_eq_true zt6)
    obtain ⟨ad129, e129, hx129_0⟩ := Kd.at_int (Kd.R_reads' HO_3.out).2.2 ((rd_T75 l0_4 x4_1).f5) p129 q129
    obtain rfl : (⟨go34, 0, none⟩ : Addr) = ad129 := (by injection e129)
    (first | simp only [add_plain] at hx129_0 | simp only [add_at] at hx129_0 | simp only [Addr.add, Nat.zero_add] at hx129_0 | skip)
    replace p129 := eq_true p129
    replace q129 := eq_true q129
    have p37 : 0 ≤ (((rd_T75 l0_4 x4_1).f5) : Int) := of_decide_eq_true zt6
    have q37 : (((rd_T75 l0_4 x4_1).f5) : Int) < ((x3_1.length : Int) : Int) := of_decide_eq_true zt6
    obtain ⟨hx37_0, hf37_0⟩ := Kd.R_celln 0 HO_3.out (((rd_T75 l0_4 x4_1).f5) : Int) p37 q37
    replace p37 := eq_true p37
    replace q37 := eq_true q37
    have HP48 := Kd.R_putn HO_3.out (((rd_T75 l0_4 x4_1).f5) : Int) (wrap64 ((rd y128 ((rd_T75 l0_4 x4_1).f5)) + 1))
    rw [← Ny130.out] at HP48
    have HQ48 := Aside0.mk HP48
    clear HP48
    refine start_ (n := 11) (S := fun w' => w'.cell? ⟨gb125, 0, none⟩ = some (.int .i64 ((rd_T75 l0_4 x4_1).f0)) ∧ w'.cell? ⟨gb125, 1, none⟩ = some (.int .i64 ((rd_T75 l0_4 x4_1).f1)) ∧ w'.cell? ⟨gb125, 2, none⟩ = some (.string ((rd_T75 l0_4 x4_1).f2)) ∧ w'.cell? ⟨gb125, 3, none⟩ = some (.string ((rd_T75 l0_4 x4_1).f3)) ∧ w'.cell? ⟨gb125, 4, none⟩ = some (.int .i64 ((rd_T75 l0_4 x4_1).f4)) ∧ w'.cell? ⟨gb125, 5, none⟩ = some (.int .i64 ((rd_T75 l0_4 x4_1).f5)) ∧ w'.cell? ⟨go34, (((rd_T75 l0_4 x4_1).f5)).toNat, none⟩ = some (.int .i64 (rd y128 ((rd_T75 l0_4 x4_1).f5)))) (ds := [10]) bt0_3 (by kernel_rfl) rfl rfl ⟨(blk_cell BK125.out 0).trans rfl, (blk_cell BK125.out 1).trans rfl, (blk_cell BK125.out 2).trans rfl, (blk_cell BK125.out 3).trans rfl, (blk_cell BK125.out 4).trans rfl, (blk_cell BK125.out 5).trans rfl, hx129_0⟩ (fun hHeld => ?_); refine with_tabW spec_l5Tree.tab10 spec_l5Tree.bits10 (fun HT_ HW_ => ?_)
    generalize w46.drew = w47 at HO_3 BK120 BK125 HB HQ45 HQ48 hf37_0 hx129_0 hx37_0 hHeld ⊢
    refine pure_ (i := 0) (N := some 59) (v := ?_) (a' := ?_) bt1_3 rfl rfl (any_of HT_.out (by kernel_rfl)) (fun _ _ _ h => h) (Or.inl ⟨by rfl, ?_⟩) ?_ ?_
    rotate_left
    ·intro w'
     go_simp
     with_reducible rfl
    rotate_left
    ·simp only [Act.put, List.setIfInBounds_toArray, List.set_cons_zero, List.set_cons_succ, i64_w, i32_w]
     rfl
    refine pure_ (i := 1) (N := some 60) (v := ?_) (a' := ?_) bt2_3 rfl rfl (any_of HT_.out (by kernel_rfl)) (fun _ _ _ h => h) (Or.inl ⟨by rfl, ?_⟩) ?_ ?_
    rotate_left
    ·intro w'
     go_simp
     with_reducible rfl
    rotate_left
    ·simp only [Act.put, List.setIfInBounds_toArray, List.set_cons_zero, List.set_cons_succ, i64_w, i32_w]
     rfl
    refine pure_ (i := 3) (N := some 62) (v := ?_) (a' := ?_) bt3_3 rfl rfl (any_of HT_.out (by kernel_rfl)) (fun _ _ _ h => h) (Or.inl ⟨by rfl, ?_⟩) ?_ ?_
    rotate_left
    ·intro w'
     go_simp
     with_reducible rfl
    rotate_left
    ·simp only [Act.put, List.setIfInBounds_toArray, List.set_cons_zero, List.set_cons_succ, i64_w, i32_w]
     rfl
    refine pure_ (i := 4) (N := some 63) (v := ?_) (a' := ?_) bt4_3 rfl rfl (any_of HT_.out (by kernel_rfl)) (fun _ _ _ h => h) (Or.inl ⟨by rfl, ?_⟩) ?_ ?_
    rotate_left
    ·intro w'
     go_simp
     with_reducible rfl
    rotate_left
    ·simp only [Act.put, List.setIfInBounds_toArray, List.set_cons_zero, List.set_cons_succ, i64_w, i32_w]
     rfl
    refine take_ (i := 2) (N := some 61) (v := ?_) (a' := ?_) bt5_3 rfl rfl (take_ofW HT_.out HW_.out (by kernel_rfl)) (fun _ _ _ h => h) (Or.inl ⟨by rfl, ?_⟩) hHeld ?_ ?_
    rotate_left
    ·rintro w' ⟨s0, s1, s2, s3, s4, s5, s6⟩
     go_simp
     with_reducible rfl
    rotate_left
    ·simp only [Act.put, List.setIfInBounds_toArray, List.set_cons_zero, List.set_cons_succ, i64_w, i32_w]
     rfl
    refine take_ (i := 5) (N := some 64) (v := ?_) (a' := ?_) bt6_3 rfl rfl (take_ofW HT_.out HW_.out (by kernel_rfl)) (fun _ _ _ h => h) (Or.inl ⟨by rfl, ?_⟩) hHeld ?_ ?_
    rotate_left
    ·rintro w' ⟨s0, s1, s2, s3, s4, s5, s6⟩
     go_simp
     with_reducible rfl
    rotate_left
    ·simp only [Act.put, List.setIfInBounds_toArray, List.set_cons_zero, List.set_cons_succ, i64_w, i32_w]
     rfl
    refine pure_ (i := 6) (N := some 65) (v := ?_) (a' := ?_) bt7_3 rfl rfl (any_of HT_.out (by kernel_rfl)) (fun _ _ _ h => h) (Or.inl ⟨by rfl, ?_⟩) ?_ ?_
    rotate_left
    ·intro w'
     go_simp
     with_reducible rfl
    rotate_left
    ·simp only [Act.put, List.setIfInBounds_toArray, List.set_cons_zero, List.set_cons_succ, i64_w, i32_w]
     rfl
    refine take_ (i := 7) (N := some 66) (v := ?_) (a' := ?_) bt8_3 rfl rfl (take_ofW HT_.out HW_.out (by kernel_rfl)) (fun _ _ _ h => h) (Or.inl ⟨by rfl, ?_⟩) hHeld ?_ ?_
    rotate_left
    ·rintro w' ⟨s0, s1, s2, s3, s4, s5, s6⟩
     go_simp
     with_reducible rfl
    rotate_left
    ·simp only [Act.put, List.setIfInBounds_toArray, List.set_cons_zero, List.set_cons_succ, i64_w, i32_w]
     rfl
    refine pure_ (i := 8) (N := some 67) (v := ?_) (a' := ?_) bt9_3 rfl rfl (any_of HT_.out (by kernel_rfl)) (fun _ _ _ h => h) (Or.inl ⟨by rfl, ?_⟩) ?_ ?_
    rotate_left
    ·intro w'
     go_simp
     with_reducible rfl
    rotate_left
    ·simp only [Act.put, List.setIfInBounds_toArray, List.set_cons_zero, List.set_cons_succ, i64_w, i32_w]
     rfl
    refine pure_ (i := 9) (N := some 68) (v := ?_) (a' := ?_) bt10_3 rfl rfl (any_of HT_.out (by kernel_rfl)) (fun _ _ _ h => h) (Or.inl ⟨by rfl, ?_⟩) ?_ ?_
    rotate_left
    ·intro w'
     go_simp
     with_reducible rfl
    rotate_left
    ·simp only [Act.put, List.setIfInBounds_toArray, List.set_cons_zero, List.set_cons_succ, i64_w, i32_w]
     rfl
    refine last_ (i := 10) (N := none) bt11_3 rfl rfl (one_of HT_.out (by kernel_rfl)) (by decide) (fun K hK => ?_)
    refine skip_ (w1 := ?_) (by rfl) rfl ?_ ?_
    rotate_left
    ·go_simp
     rfl
    refine hK.out _ _ ?_
    clear hK K
    refine done_ (done_of HT_.out (by kernel_rfl)) ?_
    try go_wp2
    go_roundg k1
    case measure => have := HK1.out; omega
    case rel => exact ⟨(y130), (wrap64 (x4_1 + 1)), zt10, H', ⟨by have := HK1.out; omega⟩, ⟨by (with_reducible repeat (first | apply Kd.R_alloc | apply Kd.R_drewN | apply Kd.R_drew)); exact HQ48.out⟩, ⟨by (with_reducible repeat (first | refine blk_drewN ?_ _ | refine blk_drew ?_ | refine blk_alloc ?_ _)); refine blk_far ?_ (by have h_ := Kd.R_ne HO_3.out BK120.out (by decide); intro e_; exact h_ (by rw [e_]; rfl)) _; (with_reducible repeat (first | refine blk_drewN ?_ _ | refine blk_drew ?_ | refine blk_alloc ?_ _)); exact BK120.out⟩, ⟨by repeat (first | (with_reducible first | exact HB.out | apply below_alloc | apply pw_below_drewN | apply below_drew1 | refine below_set ?_ GB34.out | refine below_set ?_ GE120.out | refine below_set ?_ GE125.out) | exact HB.out)⟩⟩
   replace c11 := Bool.eq_false_iff.mpr c11
   subst c11
   rw [if_neg (show ¬ (false = true) by decide)] at H
   have H' := Aside0.mk H
   clear H
   have hcz49_0 : wr.cell? ⟨gb120, 0, none⟩ = some (.slice A0_0 l0_0.length c0_0) := (blk_cell BK120.out 0).trans rfl
   have hcz49_1 : wr.cell? ⟨gb120, 1, none⟩ = some (.slice A0_1 l0_1.length c0_1) := (blk_cell BK120.out 1).trans rfl
   have hcz49_2 : wr.cell? ⟨gb120, 2, none⟩ = some (.slice A0_2 l0_2.length c0_2) := (blk_cell BK120.out 2).trans rfl
   have hcz49_3 : wr.cell? ⟨gb120, 3, none⟩ = some (.slice A0_3 l0_3.length c0_3) := (blk_cell BK120.out 3).trans rfl
   have hcz49_4 : wr.cell? ⟨gb120, 4, none⟩ = some (.slice A0_4 l0_4.length c0_4) := (blk_cell BK120.out 4).trans rfl
   have hfz49_0 := blk_frozen BK120.out 0
   have hfz49_1 := blk_frozen BK120.out 1
   have hfz49_2 := blk_frozen BK120.out 2
   have hfz49_3 := blk_frozen BK120.out 3
   have hfz49_4 := blk_frozen BK120.out 4
   have p124 : 0 ≤ (x4_1 : Int) := of_decide_eq_true zt6
   have q124 : x4_1 < (l0_4.length : Int) := of_decide_eq_true zt6
   obtain ⟨ad124, e124, hx124_0, hx124_1, hx124_2, hx124_3, hx124_4, hx124_5⟩ := at_T75 HR0_4.out x4_1 p124 q124
   cases e124
   replace hx124_0 := (HB.out.cell (World.block_lt_of_cell? w _ hx124_0)).trans hx124_0
   replace hx124_1 := (HB.out.cell (World.block_lt_of_cell? w _ hx124_1)).trans hx124_1
   replace hx124_2 := (HB.out.cell (World.block_lt_of_cell? w _ hx124_2)).trans hx124_2
   replace hx124_3 := (HB.out.cell (World.block_lt_of_cell? w _ hx124_3)).trans hx124_3
   replace hx124_4 := (HB.out.cell (World.block_lt_of_cell? w _ hx124_4)).trans hx124_4
   replace hx124_5 := (HB.out.cell (World.block_lt_of_cell? w _ hx124_5)).trans hx124_5
   replace p124 := eq_true p124
   replace q124 := eq_true q124
   rotate_left
   ·rw [if_neg c8] at H
    have c8b0 := decide_eq_false c8
    clear c8
    have H' := Aside0.mk H
    clear H
    have hcz53_0 : wr.cell? ⟨gb120, 0, none⟩ = some (.slice A0_0 l0_0.length c0_0) := (blk_cell BK120.out 0).trans rfl
    have hcz53_1 : wr.cell? ⟨gb120, 1, none⟩ = some (.slice A0_1 l0_1.length c0_1) := (blk_cell BK120.out 1).trans rfl
    have hcz53_2 : wr.cell? ⟨gb120, 2, none⟩ = some (.slice A0_2 l0_2.length c0_2) := (blk_cell BK120.out 2).trans rfl
    have hcz53_3 : wr.cell? ⟨gb120, 3, none⟩ = some (.slice A0_3 l0_3.length c0_3) := (blk_cell BK120.out 3).trans rfl
    have hcz53_4 : wr.cell? ⟨gb120, 4, none⟩ = some (.slice A0_4 l0_4.length c0_4) := (blk_cell BK120.out 4).trans rfl
    have hfz53_0 := blk_frozen BK120.out 0
    have hfz53_1 := blk_frozen BK120.out 1
    have hfz53_2 := blk_frozen BK120.out 2
    have hfz53_3 := blk_frozen BK120.out 3
    have hfz53_4 := blk_frozen BK120.out 4
    go_wp2
    go_loopg [6] k1 (fun kq v6 w' => ∃ (x3_2 : List Int) (x6_2 : Int), v6 = .int .i64 x6_2 ∧ Aside0 (spec_l5Tree.l1 kq x3_2 x6_2 l0_0 l0_1 l0_2 l0_3 l0_4 = some r) ∧ Aside0 (kq ≤ k1) ∧ Aside0 (Kd.R (Kd.int .i64) 3 w' w.heap.size (fun _ => True) v122 x3_2) ∧ Aside0 (w'.heap[gb120]? = some (.cells #[(.slice A0_0 l0_0.length c0_0), (.slice A0_1 l0_1.length c0_1), (.slice A0_2 l0_2.length c0_2), (.slice A0_3 l0_3.length c0_3), (.slice A0_4 l0_4.length c0_4)] 37 (0, 0))) ∧ Aside0 (Below w.heap.size w w'))
    case atStart => exact ⟨(x3_1), (0), zt10, H', ⟨Nat.le_refl _⟩, ⟨zt41⟩, ⟨zt42⟩, ⟨zt9⟩⟩
    case round =>
     clear H'
     try clear c1
     try clear p1
     try clear q1
     try clear hx1
     try clear c2
     try clear c2b0
     try clear c2b1
     try clear p2
     try clear c3
     try clear c3b0
     try clear c3b1
     try clear p3
     try clear q3
     try clear hx3
     try clear hf3
     try clear c4
     try clear c5
     try clear p6
     try clear c8
     try clear c8b0
     try clear c9
     try clear c9b0
     try clear c11
     try clear c12
     try clear c12b0
     try clear p12
     try clear q12
     try clear hx12
     try clear c14
     try clear c15
     try clear c17
     try clear c17b0
     try clear c20
     try clear c22
     try clear c22b0
     try clear c25
     try clear c27
     try clear c27b0
     try clear c30
     try clear c32
     try clear c32b0
     try clear c33
     try clear c33b0
     try clear p34
     try clear q34
     try clear hx34
     try clear hf34
     try clear c35
     try clear c35b0
     try clear c36
     try clear c36b0
     try clear p37
     try clear q37
     try clear hx37
     try clear hf37
     try clear c40
     try clear c51
     try clear hcz13_0
     try clear hcz13_1
     try clear hcz13_2
     try clear hcz13_3
     try clear hcz13_4
     try clear hcz16_0
     try clear hcz16_1
     try clear hcz16_2
     try clear hcz16_3
     try clear hcz16_4
     try clear hcz16_5
     try clear hcz18_0
     try clear hcz18_1
     try clear hcz18_2
     try clear hcz18_3
     try clear hcz18_4
     try clear hcz21_0
     try clear hcz21_1
     try clear hcz21_2
     try clear hcz21_3
     try clear hcz21_4
     try clear hcz21_5
     try clear hcz23_0
     try clear hcz23_1
     try clear hcz23_2
     try clear hcz23_3
     try clear hcz23_4
     try clear hcz26_0
     try clear hcz26_1
     try clear hcz26_2
     try clear hcz26_3
     try clear hcz26_4
     try clear hcz26_5
     try clear hcz28_0
     try clear hcz28_1
     try clear hcz28_2
     try clear hcz28_3
     try clear hcz28_4
     try clear hcz31_0
     try clear hcz31_1
     try clear hcz31_2
     try clear hcz31_3
     try clear hcz31_4
     try clear hcz31_5
     try clear hcz38_0
     try clear hcz38_1
     try clear hcz38_2
     try clear hcz38_3
     try clear hcz38_4
     try clear hcz41_0
     try clear hcz41_1
     try clear hcz41_2
     try clear hcz41_3
     try clear hcz41_4
     try clear hcz41_5
     try clear hcz49_0
     try clear hcz49_1
     try clear hcz49_2
     try clear hcz49_3
     try clear hcz49_4
     try clear hcz52_0
     try clear hcz52_1
     try clear hcz52_2
     try clear hcz52_3
     try clear hcz52_4
     try clear hcz52_5
     try clear hcz53_0
     try clear hcz53_1
     try clear hcz53_2
     try clear hcz53_3
     try clear hcz53_4
     try clear hcz5_0
     try clear hcz5_1
     try clear hcz5_2
     try clear hcz5_3
     try clear hcz5_4
     try clear hfz13_0
     try clear hfz13_1
     try clear hfz13_2
     try clear hfz13_3
     try clear hfz13_4
     try clear hfz16_0
     try clear hfz16_1
     try clear hfz16_2
     try clear hfz16_3
     try clear hfz16_4
     try clear hfz16_5
     try clear hfz18_0
     try clear hfz18_1
     try clear hfz18_2
     try clear hfz18_3
     try clear hfz18_4
     try clear hfz21_0
     try clear hfz21_1
     try clear hfz21_2
     try clear hfz21_3
     try clear hfz21_4
     try clear hfz21_5
     try clear hfz23_0
     try clear hfz23_1
     try clear hfz23_2
     try clear hfz23_3
     try clear hfz23_4
     try clear hfz26_0
     try clear hfz26_1
     try clear hfz26_2
     try clear hfz26_3
     try clear hfz26_4
     try clear hfz26_5
     try clear hfz28_0
     try clear hfz28_1
     try clear hfz28_2
     try clear hfz28_3
     try clear hfz28_4
     try clear hfz31_0
     try clear hfz31_1
     try clear hfz31_2
     try clear hfz31_3
     try clear hfz31_4
     try clear hfz31_5
     try clear hfz38_0
     try clear hfz38_1
     try clear hfz38_2
     try clear hfz38_3
     try clear hfz38_4
     try clear hfz41_0
     try clear hfz41_1
     try clear hfz41_2
     try clear hfz41_3
     try clear hfz41_4
     try clear hfz41_5
     try clear hfz49_0
     try clear hfz49_1
     try clear hfz49_2
     try clear hfz49_3
     try clear hfz49_4
     try clear hfz52_0
     try clear hfz52_1
     try clear hfz52_2
     try clear hfz52_3
     try clear hfz52_4
     try clear hfz52_5
     try clear hfz53_0
     try clear hfz53_1
     try clear hfz53_2
     try clear hfz53_3
     try clear hfz53_4
     try clear hfz5_0
     try clear hfz5_1
     try clear hfz5_2
     try clear hfz5_3
     try clear hfz5_4
     try clear hx124_0
     try clear hx124_1
     try clear hx124_2
     try clear hx124_3
     try clear hx124_4
     try clear hx124_5
     try clear hx127_0
     try clear hx129_0
     try clear hx34_0
     try clear hx37_0
     try clear p124
     try clear p127
     try clear p129
     try clear p2
     try clear p34
     try clear p37
     try clear q124
     try clear q127
     try clear q129
     try clear q34
     try clear q37
     obtain ⟨x3_2, x6_2, rfl, HA, HK2, HO_3, BK120, HB⟩ := hrel
     cases gk with
     | zero => exact absurd HA.out (by simp [spec_l5Tree.l1])
     | succ k2 =>
      have H := HA.out
      clear HA
      simp only [spec_l5Tree.l1] at H
      by_cases c54 : x6_2 < (l0_3.length : Int)
      rw [if_pos c54] at H
      have c54b0 := decide_eq_true c54
      clear c54
      replace H := it0 H
      obtain ⟨c55, H⟩ := H
      have c55b0 : decide (0 ≤ x6_2) = true := decide_eq_true c55
      clear c55
      by_cases c56 : ((rd_T77 l0_3 x6_2).f2) < 0
      rw [if_pos c56] at H
      have c56b0 := decide_eq_true c56
      clear c56
      obtain rfl := Option.some.inj H
      have hcz57_0 : wr.cell? ⟨gb120, 0, none⟩ = some (.slice A0_0 l0_0.length c0_0) := (blk_cell BK120.out 0).trans rfl
      have hcz57_1 : wr.cell? ⟨gb120, 1, none⟩ = some (.slice A0_1 l0_1.length c0_1) := (blk_cell BK120.out 1).trans rfl
      have hcz57_2 : wr.cell? ⟨gb120, 2, none⟩ = some (.slice A0_2 l0_2.length c0_2) := (blk_cell BK120.out 2).trans rfl
      have hcz57_3 : wr.cell? ⟨gb120, 3, none⟩ = some (.slice A0_3 l0_3.length c0_3) := (blk_cell BK120.out 3).trans rfl
      have hcz57_4 : wr.cell? ⟨gb120, 4, none⟩ = some (.slice A0_4 l0_4.length c0_4) := (blk_cell BK120.out 4).trans rfl
      have hfz57_0 := blk_frozen BK120.out 0
      have hfz57_1 := blk_frozen BK120.out 1
      have hfz57_2 := blk_frozen BK120.out 2
      have hfz57_3 := blk_frozen BK120.out 3
      have hfz57_4 := blk_frozen BK120.out 4
      have p131 : 0 ≤ (x6_2 : Int) := of_decide_eq_true zt6
      have q131 : x6_2 < (l0_3.length : Int) := of_decide_eq_true zt6
      obtain ⟨ad131, e131, hx131_0, hx131_1, hx131_2⟩ := at_T77 HR0_3.out x6_2 p131 q131
      cases e131
      replace hx131_0 := (HB.out.cell (World.block_lt_of_cell? w _ hx131_0)).trans hx131_0
      replace hx131_1 := (HB.out.cell (World.block_lt_of_cell? w _ hx131_1)).trans hx131_1
      replace hx131_2 := (HB.out.cell (World.block_lt_of_cell? w _ hx131_2)).trans hx131_2
      replace p131 := eq_true p131
      replace q131 := eq_true q131
      rotate_left
      rw [if_neg c56] at H
      have c56b0 := decide_eq_false c56
      clear c56
      by_cases c58 : ((rd_T77 l0_3 x6_2).f2) ≥ (x3_2.length : Int)
      rw [if_pos c58] at H
      have c58b0 : decide ((x3_2.length : Int) ≤ ((rd_T77 l0_3 x6_2).f2)) = true := decide_eq_true c58
      clear c58
      obtain rfl := Option.some.inj H
      have hcz59_0 : wr.cell? ⟨gb120, 0, none⟩ = some (.slice A0_0 l0_0.length c0_0) := (blk_cell BK120.out 0).trans rfl
      have hcz59_1 : wr.cell? ⟨gb120, 1, none⟩ = some (.slice A0_1 l0_1.length c0_1) := (blk_cell BK120.out 1).trans rfl
      have hcz59_2 : wr.cell? ⟨gb120, 2, none⟩ = some (.slice A0_2 l0_2.length c0_2) := (blk_cell BK120.out 2).trans rfl
      have hcz59_3 : wr.cell? ⟨gb120, 3, none⟩ = some (.slice A0_3 l0_3.length c0_3) := (blk_cell BK120.out 3).trans rfl
      have hcz59_4 : wr.cell? ⟨gb120, 4, none⟩ = some (.slice A0_4 l0_4.length c0_4) := (blk_cell BK120.out 4).trans rfl
      have hfz59_0 := blk_frozen BK120.out 0
      have hfz59_1 := blk_frozen BK120.out 1
      have hfz59_2 := blk_frozen BK120.out 2
      have hfz59_3 := blk_frozen BK120.out 3
      have hfz59_4 := blk_frozen BK120.out 4
      have p131 : 0 ≤ (x6_2 : Int) := of_decide_eq_true zt6
      have q131 : x6_2 < (l0_3.length : Int) := of_decide_eq_true zt6
      obtain ⟨ad131, e131, hx131_0, hx131_1, hx131_2⟩ := at_T77 HR0_3.out x6_2 p131 q131
      cases e131
      replace hx131_0 := (HB.out.cell (World.block_lt_of_cell? w _ hx131_0)).trans hx131_0
      replace hx131_1 := (HB.out.cell (World.block_lt_of_cell? w _ hx131_1)).trans hx131_1
      replace hx131_2 := (HB.out.cell (World.block_lt_of_cell? w _ hx131_2)).trans hx131_2
      replace p131 := eq_true p131
      replace q131 := eq_true q131
      obtain ⟨Ao60, co60, eo60⟩ := Kd.R_slice HO_3.out
      subst eo60
      rotate_left
      rw [if_neg c58] at H
      have c58b0 : decide ((x3_2.length : Int) ≤ ((rd_T77 l0_3 x6_2).f2)) = false := decide_eq_false c58
      clear c58
      replace H := it0 H
      obtain ⟨c61, H⟩ := H
      have c61b0 := decide_eq_true c61
      clear c61
      replace H := it0 H
      obtain ⟨c62, H⟩ := H
      have c62b0 := decide_eq_true c62
      clear c62
      obtain ⟨y133, hy133⟩ : ∃ y_ : List Int, y_ = (x3_2.set (((rd_T77 l0_3 x6_2).f2) : Int).toNat (wrap64 ((rd x3_2 ((rd_T77 l0_3 x6_2).f2)) + 1))) := ⟨_, rfl⟩
      replace H : (spec_l5Tree.l1 k2 y133 (wrap64 (x6_2 + 1)) l0_0 l0_1 l0_2 l0_3 l0_4) = some r := by first | (rw [hy133]; with_reducible exact H) | (have H2_ := (Option.bind_some _ _).symm.trans H; rw [hy133]; with_reducible exact H2_) | (have H2_ := (Option.bind_some _ _).symm.trans H; with_reducible exact H2_) | with_reducible exact H | (rw [hy133]; exact H) | exact H
      have Ny133 := Aside0.mk hy133
      clear hy133
      have H' := Aside0.mk H
      clear H
      have hcz64_0 : wr.cell? ⟨gb120, 0, none⟩ = some (.slice A0_0 l0_0.length c0_0) := (blk_cell BK120.out 0).trans rfl
      have hcz64_1 : wr.cell? ⟨gb120, 1, none⟩ = some (.slice A0_1 l0_1.length c0_1) := (blk_cell BK120.out 1).trans rfl
      have hcz64_2 : wr.cell? ⟨gb120, 2, none⟩ = some (.slice A0_2 l0_2.length c0_2) := (blk_cell BK120.out 2).trans rfl
      have hcz64_3 : wr.cell? ⟨gb120, 3, none⟩ = some (.slice A0_3 l0_3.length c0_3) := (blk_cell BK120.out 3).trans rfl
      have hcz64_4 : wr.cell? ⟨gb120, 4, none⟩ = some (.slice A0_4 l0_4.length c0_4) := (blk_cell BK120.out 4).trans rfl
      have hfz64_0 := blk_frozen BK120.out 0
      have hfz64_1 := blk_frozen BK120.out 1
      have hfz64_2 := blk_frozen BK120.out 2
      have hfz64_3 := blk_frozen BK120.out 3
      have hfz64_4 := blk_frozen BK120.out 4
      have p131 : 0 ≤ (x6_2 : Int) := of_decide_eq_true zt6
      have q131 : x6_2 < (l0_3.length : Int) := of_decide_eq_true zt6
      obtain ⟨ad131, e131, hx131_0, hx131_1, hx131_2⟩ := at_T77 HR0_3.out x6_2 p131 q131
      cases e131
      replace hx131_0 := (HB.out.cell (World.block_lt_of_cell? w _ hx131_0)).trans hx131_0
      replace hx131_1 := (HB.out.cell (World.block_lt_of_cell? w _ hx131_1)).trans hx131_1
      replace hx131_2 := (HB.out.cell (World.block_lt_of_cell? w _ hx131_2)).trans hx131_2
      replace p131 := eq_true p131
      replace q131 := eq_true q131
      obtain ⟨Ao65, co65, eo65⟩ := Kd.R_slice HO_3.out
      subst eo65
      have p132 : 0 ≤ (((rd_T77 l0_3 x6_2).f2) : Int) := of_decide_eq_true zt6
      have q132 : ((rd_T77 l0_3 x6_2).f2) < (x3_2.length : Int) := of_decide_eq_true zt6
      obtain ⟨ad132, e132, hx132_0⟩ := Kd.at_int (Kd.R_reads' HO_3.out).2.2 ((rd_T77 l0_3 x6_2).f2) p132 q132
      cases e132
      replace p132 := eq_true p132
      replace q132 := eq_true q132
      have p63 : 0 ≤ (((rd_T77 l0_3 x6_2).f2) : Int) := of_decide_eq_true zt6
      have q63 : (((rd_T77 l0_3 x6_2).f2) : Int) < ((x3_2.length : Int) : Int) := of_decide_eq_true zt6
      obtain ⟨go63, co63, eo63, gb63, gl63, cl63, HG63⟩ := Kd.R_form HO_3.out (by omega)
      (first | cases eo63 | (injection eo63 with ea_ en_ ec_; (first | subst ea_ | (injection ea_ with ea_; subst ea_)); subst ec_; clear en_))
      have GB63 := Aside0.mk gb63
      have GG63 := Aside0.mk HG63
      clear gb63 gl63 HG63
      (first | simp only [add_plain] at hx132_0 | skip)
      obtain ⟨hx63_0, hf63_0⟩ := Kd.R_celln 0 HO_3.out (((rd_T77 l0_3 x6_2).f2) : Int) p63 q63
      replace p63 := eq_true p63
      replace q63 := eq_true q63
      have HP66 := Kd.R_putg HO_3.out (((rd_T77 l0_3 x6_2).f2) : Int) (wrap64 ((rd x3_2 ((rd_T77 l0_3 x6_2).f2)) + 1))
      rotate_left
      ·rw [if_neg c54] at H
       have c54b0 := decide_eq_false c54
       clear c54
       have H' := Aside0.mk H
       clear H
       have hcz68_0 : wr.cell? ⟨gb120, 0, none⟩ = some (.slice A0_0 l0_0.length c0_0) := (blk_cell BK120.out 0).trans rfl
       have hcz68_1 : wr.cell? ⟨gb120, 1, none⟩ = some (.slice A0_1 l0_1.length c0_1) := (blk_cell BK120.out 1).trans rfl
       have hcz68_2 : wr.cell? ⟨gb120, 2, none⟩ = some (.slice A0_2 l0_2.length c0_2) := (blk_cell BK120.out 2).trans rfl
       have hcz68_3 : wr.cell? ⟨gb120, 3, none⟩ = some (.slice A0_3 l0_3.length c0_3) := (blk_cell BK120.out 3).trans rfl
       have hcz68_4 : wr.cell? ⟨gb120, 4, none⟩ = some (.slice A0_4 l0_4.length c0_4) := (blk_cell BK120.out 4).trans rfl
       have hfz68_0 := blk_frozen BK120.out 0
       have hfz68_1 := blk_frozen BK120.out 1
       have hfz68_2 := blk_frozen BK120.out 2
       have hfz68_3 := blk_frozen BK120.out 3
       have hfz68_4 := blk_frozen BK120.out 4
       go_wp2
       go_loopg [8] k2 (fun kq v8 w' => ∃ (x8_3 : Int), v8 = .int .i64 x8_3 ∧ Aside0 (spec_l5Tree.l2 kq x3_2 x8_3 = some r) ∧ Aside0 (kq ≤ k2) ∧ Aside0 (Kd.R (Kd.int .i64) 3 w' w.heap.size (fun _ => True) v122 x3_2) ∧ Aside0 (w'.heap[gb120]? = some (.cells #[(.slice A0_0 l0_0.length c0_0), (.slice A0_1 l0_1.length c0_1), (.slice A0_2 l0_2.length c0_2), (.slice A0_3 l0_3.length c0_3), (.slice A0_4 l0_4.length c0_4)] 37 (0, 0))) ∧ Aside0 (Below w.heap.size w w'))
       case atStart => exact ⟨(0), zt10, H', ⟨Nat.le_refl _⟩, ⟨zt41⟩, ⟨zt42⟩, ⟨zt9⟩⟩
       case round =>
        clear H'
        try clear c1
        try clear p1
        try clear q1
        try clear hx1
        try clear c2
        try clear c2b0
        try clear c2b1
        try clear p2
        try clear c3
        try clear c3b0
        try clear c3b1
        try clear p3
        try clear q3
        try clear hx3
        try clear hf3
        try clear c4
        try clear c5
        try clear c6
        try clear p6
        try clear q6
        try clear hx6
        try clear hf6
        try clear c8
        try clear c8b0
        try clear c9
        try clear c9b0
        try clear c11
        try clear c12
        try clear c12b0
        try clear p12
        try clear q12
        try clear hx12
        try clear p13
        try clear q13
        try clear hx13
        try clear c14
        try clear c15
        try clear c17
        try clear c17b0
        try clear c20
        try clear c22
        try clear c22b0
        try clear c25
        try clear c27
        try clear c27b0
        try clear c30
        try clear c32
        try clear c32b0
        try clear c33
        try clear c33b0
        try clear p34
        try clear q34
        try clear hx34
        try clear hf34
        try clear c35
        try clear c35b0
        try clear c36
        try clear c36b0
        try clear p37
        try clear q37
        try clear hx37
        try clear hf37
        try clear c40
        try clear c51
        try clear c54
        try clear c54b0
        try clear c55
        try clear c55b0
        try clear c56
        try clear c56b0
        try clear c58
        try clear c58b0
        try clear c61
        try clear c61b0
        try clear c62
        try clear c62b0
        try clear p63
        try clear q63
        try clear hx63
        try clear hf63
        try clear p64
        try clear hcz13_0
        try clear hcz13_1
        try clear hcz13_2
        try clear hcz13_3
        try clear hcz13_4
        try clear hcz16_0
        try clear hcz16_1
        try clear hcz16_2
        try clear hcz16_3
        try clear hcz16_4
        try clear hcz16_5
        try clear hcz18_0
        try clear hcz18_1
        try clear hcz18_2
        try clear hcz18_3
        try clear hcz18_4
        try clear hcz21_0
        try clear hcz21_1
        try clear hcz21_2
        try clear hcz21_3
        try clear hcz21_4
        try clear hcz21_5
        try clear hcz23_0
        try clear hcz23_1
        try clear hcz23_2
        try clear hcz23_3
        try clear hcz23_4
        try clear hcz26_0
        try clear hcz26_1
        try clear hcz26_2
        try clear hcz26_3
        try clear hcz26_4
        try clear hcz26_5
        try clear hcz28_0
        try clear hcz28_1
        try clear hcz28_2
        try clear hcz28_3
        try clear hcz28_4
        try clear hcz31_0
        try clear hcz31_1
        try clear hcz31_2
        try clear hcz31_3
        try clear hcz31_4
        try clear hcz31_5
        try clear hcz38_0
        try clear hcz38_1
        try clear hcz38_2
        try clear hcz38_3
        try clear hcz38_4
        try clear hcz41_0
        try clear hcz41_1
        try clear hcz41_2
        try clear hcz41_3
        try clear hcz41_4
        try clear hcz41_5
        try clear hcz49_0
        try clear hcz49_1
        try clear hcz49_2
        try clear hcz49_3
        try clear hcz49_4
        try clear hcz52_0
        try clear hcz52_1
        try clear hcz52_2
        try clear hcz52_3
        try clear hcz52_4
        try clear hcz52_5
        try clear hcz53_0
        try clear hcz53_1
        try clear hcz53_2
        try clear hcz53_3
        try clear hcz53_4
        try clear hcz57_0
        try clear hcz57_1
        try clear hcz57_2
        try clear hcz57_3
        try clear hcz57_4
        try clear hcz59_0
        try clear hcz59_1
        try clear hcz59_2
        try clear hcz59_3
        try clear hcz59_4
        try clear hcz5_0
        try clear hcz5_1
        try clear hcz5_2
        try clear hcz5_3
        try clear hcz5_4
        try clear hcz64_0
        try clear hcz64_1
        try clear hcz64_2
        try clear hcz64_3
        try clear hcz64_4
        try clear hcz68_0
        try clear hcz68_1
        try clear hcz68_2
        try clear hcz68_3
        try clear hcz68_4
        try clear hfz13_0
        try clear hfz13_1
        try clear hfz13_2
        try clear hfz13_3
        try clear hfz13_4
        try clear hfz16_0
        try clear hfz16_1
        try clear hfz16_2
        try clear hfz16_3
        try clear hfz16_4
        try clear hfz16_5
        try clear hfz18_0
        try clear hfz18_1
        try clear hfz18_2
        try clear hfz18_3
        try clear hfz18_4
        try clear hfz21_0
        try clear hfz21_1
        try clear hfz21_2
        try clear hfz21_3
        try clear hfz21_4
        try clear hfz21_5
        try clear hfz23_0
        try clear hfz23_1
        try clear hfz23_2
        try clear hfz23_3
        try clear hfz23_4
        try clear hfz26_0
        try clear hfz26_1
        try clear hfz26_2
        try clear hfz26_3
        try clear hfz26_4
        try clear hfz26_5
        try clear hfz28_0
        try clear hfz28_1
        try clear hfz28_2
        try clear hfz28_3
        try clear hfz28_4
        try clear hfz31_0
        try clear hfz31_1
        try clear hfz31_2
        try clear hfz31_3
        try clear hfz31_4
        try clear hfz31_5
        try clear hfz38_0
        try clear hfz38_1
        try clear hfz38_2
        try clear hfz38_3
        try clear hfz38_4
        try clear hfz41_0
        try clear hfz41_1
        try clear hfz41_2
        try clear hfz41_3
        try clear hfz41_4
        try clear hfz41_5
        try clear hfz49_0
        try clear hfz49_1
        try clear hfz49_2
        try clear hfz49_3
        try clear hfz49_4
        try clear hfz52_0
        try clear hfz52_1
        try clear hfz52_2
        try clear hfz52_3
        try clear hfz52_4
        try clear hfz52_5
        try clear hfz53_0
        try clear hfz53_1
        try clear hfz53_2
        try clear hfz53_3
        try clear hfz53_4
        try clear hfz57_0
        try clear hfz57_1
        try clear hfz57_2
        try clear hfz57_3
        try clear hfz57_4
        try clear hfz59_0
        try clear hfz59_1
        try clear hfz59_2
        try clear hfz59_3
        try clear hfz59_4
        try clear hfz5_0
        try clear hfz5_1
        try clear hfz5_2
        try clear hfz5_3
        try clear hfz5_4
        try clear hfz64_0
        try clear hfz64_1
        try clear hfz64_2
        try clear hfz64_3
        try clear hfz64_4
        try clear hfz68_0
        try clear hfz68_1
        try clear hfz68_2
        try clear hfz68_3
        try clear hfz68_4
        try clear hx124_0
        try clear hx124_1
        try clear hx124_2
        try clear hx124_3
        try clear hx124_4
        try clear hx124_5
        try clear hx127_0
        try clear hx129_0
        try clear hx131_0
        try clear hx131_1
        try clear hx131_2
        try clear hx132_0
        try clear hx34_0
        try clear hx37_0
        try clear hx63_0
        try clear p1
        try clear p12
        try clear p124
        try clear p127
        try clear p129
        try clear p131
        try clear p132
        try clear p2
        try clear p3
        try clear p34
        try clear p37
        try clear p6
        try clear p63
        try clear q1
        try clear q12
        try clear q124
        try clear q127
        try clear q129
        try clear q131
        try clear q132
        try clear q3
        try clear q34
        try clear q37
        try clear q63
        obtain ⟨x8_3, rfl, HA, HK3, HO_3, BK120, HB⟩ := hrel
        cases gk with
        | zero => exact absurd HA.out (by simp [spec_l5Tree.l2])
        | succ k3 =>
         have H := HA.out
         clear HA
         simp only [spec_l5Tree.l2] at H
         by_cases c69 : x8_3 < (x3_2.length : Int)
         rw [if_pos c69] at H
         have c69b0 := decide_eq_true c69
         clear c69
         replace H := it0 H
         obtain ⟨c70, H⟩ := H
         have c70b0 : decide (0 ≤ x8_3) = true := decide_eq_true c70
         clear c70
         by_cases c71 : (rd x3_2 x8_3) = 1
         rw [if_pos c71] at H
         have c71b0 := beq_iff_eq.mpr c71
         have c71b1 := bne_eq_false_iff_eq.mpr c71
         clear c71
         have H' := Aside0.mk H
         clear H
         obtain ⟨Ao72, co72, eo72⟩ := Kd.R_slice HO_3.out
         subst eo72
         have p134 : 0 ≤ (x8_3 : Int) := of_decide_eq_true zt6
         have q134 : x8_3 < (x3_2.length : Int) := of_decide_eq_true zt6
         obtain ⟨ad134, e134, hx134_0⟩ := Kd.at_int (Kd.R_reads' HO_3.out).2.2 x8_3 p134 q134
         cases e134
         replace p134 := eq_true p134
         replace q134 := eq_true q134
         rotate_left
         rw [if_neg c71] at H
         have c71b0 := beq_eq_false_iff_ne.mpr c71
         have c71b1 := bne_iff_ne.mpr c71
         obtain rfl := Option.some.inj H
         obtain ⟨Ao73, co73, eo73⟩ := Kd.R_slice HO_3.out
         subst eo73
         have p134 : 0 ≤ (x8_3 : Int) := of_decide_eq_true zt6
         have q134 : x8_3 < (x3_2.length : Int) := of_decide_eq_true zt6
         obtain ⟨ad134, e134, hx134_0⟩ := Kd.at_int (Kd.R_reads' HO_3.out).2.2 x8_3 p134 q134
         cases e134
         replace p134 := eq_true p134
         replace q134 := eq_true q134
         rotate_left
         rw [if_neg c69] at H
         have c69b0 := decide_eq_false c69
         clear c69
         obtain rfl := Option.some.inj H
         obtain ⟨Ao74, co74, eo74⟩ := Kd.R_slice HO_3.out
         subst eo74
         rotate_left
         all_goals
          repeat (go_wp2; first | go_quiet (fail) | (go_roundg k3; (case measure => have := HK1.out; have := HK2.out; have := HK3.out; omega); (case rel => exact ⟨(wrap64 (x8_3 + 1)), zt10, H', ⟨by have := HK1.out; have := HK2.out; have := HK3.out; omega⟩, ⟨zt14⟩, ⟨zt42⟩, ⟨zt9⟩⟩)) | (go_ret; exact ⟨zt8, zt9⟩))
      all_goals
       repeat (go_wp2_with (first | ((with_reducible refine gate_store (t := 3) (p := 97) rfl ?_); refine store_event (t := 3) (p := 97) (v := ?vo_w7000) (w1 := (wr.setCell ⟨go63, (((rd_T77 l0_3 x6_2).f2) : Int).toNat, none⟩ (.int .i64 (wrap64 ((rd x3_2 ((rd_T77 l0_3 x6_2).f2)) + 1))))) ?hg ?ho ?hn ?hr ?_; (case ho => rfl); (case hg => rfl); (case hn => rfl); (case hr => first | (go_simp; done) | (go_simp; rfl)); intro w7000 hw; have hg : wr.grownBy w7000 (some go63) := (by rw [hw]; exact HP66.2); have hp_ : Kd.R (Kd.int .i64) 3 w7000 w.heap.size (fun _ => True) (.slice (some ⟨go63, 0, none⟩) x3_2.length co65) y133 := (by rw [hw, Ny133.out]; exact HP66.1); clear HP66; have n0_ := Aside0.mk (hp_); have n1_ := Aside0.mk (blk_grown (g := gb120) (o := .cells #[.slice A0_0 l0_0.length c0_0, .slice A0_1 l0_1.length c0_1, .slice A0_2 l0_2.length c0_2, .slice (some ad131) l0_3.length c0_3, .slice A0_4 l0_4.length c0_4] 37 (0, 0)) (oz BK120.out) hg (Kd.R_ne HO_3.out BK120.out (by decide))); have n2_ := Aside0.mk ((by rw [hw]; exact below_set (HB.out) GB63.out : Below w.heap.size w w7000)); clear HO_3; clear BK120; clear HB; have HO_3 := n0_; have BK120 := n1_; have HB := n2_; clear n0_ n1_ n2_; clear hg hw hp_)); first | go_quiet (fail) | (go_ret; exact ⟨zt8, zt9⟩) | (go_roundg k2; (case measure => have := HK1.out; have := HK2.out; omega); (case rel => exact ⟨(y133), (wrap64 (x6_2 + 1)), zt10, H', ⟨by have := HK1.out; have := HK2.out; omega⟩, ⟨zt14⟩, ⟨zt42⟩, ⟨zt9⟩⟩)))
   all_goals
    repeat (go_wp2_with (first | ((with_reducible refine gate_dst (N := 5) rfl ?_); (try (refine gate_guard (by rfl) ?_; dsimp only)); refine box_event ?hg (N := 5) ?hd (cs := #[.int .i64 0, .int .i64 0, .string (⟨#[]⟩ : ByteArray), .string (⟨#[]⟩ : ByteArray), .int .i64 0, .int .i64 0]) (t := 75) ?hr ?_; (case hd => rfl); (case hg => rfl); (case hr => first | (go_simp; done) | (go_simp; rfl)); intro gb125 hg w7000 hbox hb; have n0_ := Aside0.mk (Kd.R_below (rz HO_3.out) hb); have n1_ := Aside0.mk (blk_below (g := gb120) (o := .cells #[.slice A0_0 l0_0.length c0_0, .slice A0_1 l0_1.length c0_1, .slice A0_2 l0_2.length c0_2, .slice A0_3 l0_3.length c0_3, .slice (some ad124) l0_4.length c0_4] 37 (0, 0)) (oz BK120.out) hb); have n2_ := Aside0.mk (below_step zt9 hb); have n3_ := Aside0.mk (hbox); have n4_ := Aside0.mk ((zt15 : w.heap.size ≤ gb125)); have n5_ := Aside0.mk ((zt15 : w.heap.size ≤ gb125)); have n6_ := Aside0.mk ((zt22 : gb120 ≠ gb125)); have n7_ := Aside0.mk ((zt23 : gb125 ≠ gb120)); clear HO_3; clear BK120; clear HB; have HO_3 := n0_; have BK120 := n1_; have HB := n2_; have BK125 := n3_; have GW125 := n4_; have GE125 := n5_; have NB120_125 := n6_; have NB125_120 := n7_; clear n0_ n1_ n2_ n3_ n4_ n5_ n6_ n7_; clear hb hbox hg; have hnb7001 := NB125_120.out; have hnc7001 := NB120_125.out; have hcz16_0 : w7000.cell? ⟨gb125, 0, none⟩ = some (.int .i64 0) := (blk_cell BK125.out 0).trans rfl; have hcz16_1 : w7000.cell? ⟨gb125, 1, none⟩ = some (.int .i64 0) := (blk_cell BK125.out 1).trans rfl; have hcz16_2 : w7000.cell? ⟨gb125, 2, none⟩ = some (.string (⟨#[]⟩ : ByteArray)) := (blk_cell BK125.out 2).trans rfl; have hcz16_3 : w7000.cell? ⟨gb125, 3, none⟩ = some (.string (⟨#[]⟩ : ByteArray)) := (blk_cell BK125.out 3).trans rfl; have hcz16_4 : w7000.cell? ⟨gb125, 4, none⟩ = some (.int .i64 0) := (blk_cell BK125.out 4).trans rfl; have hcz16_5 : w7000.cell? ⟨gb125, 5, none⟩ = some (.int .i64 0) := (blk_cell BK125.out 5).trans rfl; have hfz16_0 := blk_frozen BK125.out 0; have hfz16_1 := blk_frozen BK125.out 1; have hfz16_2 := blk_frozen BK125.out 2; have hfz16_3 := blk_frozen BK125.out 3; have hfz16_4 := blk_frozen BK125.out 4; have hfz16_5 := blk_frozen BK125.out 5) | ((with_reducible refine gate_dst (N := 5) rfl ?_); (try (refine gate_guard (by rfl) ?_; dsimp only)); refine box_event ?hg (N := 5) ?hd (cs := #[.int .i64 0, .int .i64 0, .string (⟨#[]⟩ : ByteArray), .string (⟨#[]⟩ : ByteArray), .int .i64 0, .int .i64 0]) (t := 75) ?hr ?_; (case hd => rfl); (case hg => rfl); (case hr => first | (go_simp; done) | (go_simp; rfl)); intro gb125 hg w7000 hbox hb; have n0_ := Aside0.mk (Kd.R_below (rz HO_3.out) hb); have n1_ := Aside0.mk (blk_below (g := gb120) (o := .cells #[.slice A0_0 l0_0.length c0_0, .slice A0_1 l0_1.length c0_1, .slice A0_2 l0_2.length c0_2, .slice A0_3 l0_3.length c0_3, .slice (some ad124) l0_4.length c0_4] 37 (0, 0)) (oz BK120.out) hb); have n2_ := Aside0.mk (below_step zt9 hb); have n3_ := Aside0.mk (hbox); have n4_ := Aside0.mk ((zt15 : w.heap.size ≤ gb125)); have n5_ := Aside0.mk ((zt15 : w.heap.size ≤ gb125)); have n6_ := Aside0.mk ((zt22 : gb120 ≠ gb125)); have n7_ := Aside0.mk ((zt23 : gb125 ≠ gb120)); clear HO_3; clear BK120; clear HB; have HO_3 := n0_; have BK120 := n1_; have HB := n2_; have BK125 := n3_; have GW125 := n4_; have GE125 := n5_; have NB120_125 := n6_; have NB125_120 := n7_; clear n0_ n1_ n2_ n3_ n4_ n5_ n6_ n7_; clear hb hbox hg; have hnb7001 := NB125_120.out; have hnc7001 := NB120_125.out; have hcz21_0 : w7000.cell? ⟨gb125, 0, none⟩ = some (.int .i64 0) := (blk_cell BK125.out 0).trans rfl; have hcz21_1 : w7000.cell? ⟨gb125, 1, none⟩ = some (.int .i64 0) := (blk_cell BK125.out 1).trans rfl; have hcz21_2 : w7000.cell? ⟨gb125, 2, none⟩ = some (.string (⟨#[]⟩ : ByteArray)) := (blk_cell BK125.out 2).trans rfl; have hcz21_3 : w7000.cell? ⟨gb125, 3, none⟩ = some (.string (⟨#[]⟩ : ByteArray)) := (blk_cell BK125.out 3).trans rfl; have hcz21_4 : w7000.cell? ⟨gb125, 4, none⟩ = some (.int .i64 0) := (blk_cell BK125.out 4).trans rfl; have hcz21_5 : w7000.cell? ⟨gb125, 5, none⟩ = some (.int .i64 0) := (blk_cell BK125.out 5).trans rfl; have hfz21_0 := blk_frozen BK125.out 0; have hfz21_1 := blk_frozen BK125.out 1; have hfz21_2 := blk_frozen BK125.out 2; have hfz21_3 := blk_frozen BK125.out 3; have hfz21_4 := blk_frozen BK125.out 4; have hfz21_5 := blk_frozen BK125.out 5) | ((with_reducible refine gate_dst (N := 5) rfl ?_); (try (refine gate_guard (by rfl) ?_; dsimp only)); refine box_event ?hg (N := 5) ?hd (cs := #[.int .i64 0, .int .i64 0, .string (⟨#[]⟩ : ByteArray), .string (⟨#[]⟩ : ByteArray), .int .i64 0, .int .i64 0]) (t := 75) ?hr ?_; (case hd => rfl); (case hg => rfl); (case hr => first | (go_simp; done) | (go_simp; rfl)); intro gb125 hg w7000 hbox hb; have n0_ := Aside0.mk (Kd.R_below (rz HO_3.out) hb); have n1_ := Aside0.mk (blk_below (g := gb120) (o := .cells #[.slice A0_0 l0_0.length c0_0, .slice A0_1 l0_1.length c0_1, .slice A0_2 l0_2.length c0_2, .slice A0_3 l0_3.length c0_3, .slice (some ad124) l0_4.length c0_4] 37 (0, 0)) (oz BK120.out) hb); have n2_ := Aside0.mk (below_step zt9 hb); have n3_ := Aside0.mk (hbox); have n4_ := Aside0.mk ((zt15 : w.heap.size ≤ gb125)); have n5_ := Aside0.mk ((zt15 : w.heap.size ≤ gb125)); have n6_ := Aside0.mk ((zt22 : gb120 ≠ gb125)); have n7_ := Aside0.mk ((zt23 : gb125 ≠ gb120)); clear HO_3; clear BK120; clear HB; have HO_3 := n0_; have BK120 := n1_; have HB := n2_; have BK125 := n3_; have GW125 := n4_; have GE125 := n5_; have NB120_125 := n6_; have NB125_120 := n7_; clear n0_ n1_ n2_ n3_ n4_ n5_ n6_ n7_; clear hb hbox hg; have hnb7001 := NB125_120.out; have hnc7001 := NB120_125.out; have hcz26_0 : w7000.cell? ⟨gb125, 0, none⟩ = some (.int .i64 0) := (blk_cell BK125.out 0).trans rfl; have hcz26_1 : w7000.cell? ⟨gb125, 1, none⟩ = some (.int .i64 0) := (blk_cell BK125.out 1).trans rfl; have hcz26_2 : w7000.cell? ⟨gb125, 2, none⟩ = some (.string (⟨#[]⟩ : ByteArray)) := (blk_cell BK125.out 2).trans rfl; have hcz26_3 : w7000.cell? ⟨gb125, 3, none⟩ = some (.string (⟨#[]⟩ : ByteArray)) := (blk_cell BK125.out 3).trans rfl; have hcz26_4 : w7000.cell? ⟨gb125, 4, none⟩ = some (.int .i64 0) := (blk_cell BK125.out 4).trans rfl; have hcz26_5 : w7000.cell? ⟨gb125, 5, none⟩ = some (.int .i64 0) := (blk_cell BK125.out 5).trans rfl; have hfz26_0 := blk_frozen BK125.out 0; have hfz26_1 := blk_frozen BK125.out 1; have hfz26_2 := blk_frozen BK125.out 2; have hfz26_3 := blk_frozen BK125.out 3; have hfz26_4 := blk_frozen BK125.out 4; have hfz26_5 := blk_frozen BK125.out 5) | ((with_reducible refine gate_dst (N := 5) rfl ?_); (try (refine gate_guard (by rfl) ?_; dsimp only)); refine box_event ?hg (N := 5) ?hd (cs := #[.int .i64 0, .int .i64 0, .string (⟨#[]⟩ : ByteArray), .string (⟨#[]⟩ : ByteArray), .int .i64 0, .int .i64 0]) (t := 75) ?hr ?_; (case hd => rfl); (case hg => rfl); (case hr => first | (go_simp; done) | (go_simp; rfl)); intro gb125 hg w7000 hbox hb; have n0_ := Aside0.mk (Kd.R_below (rz HO_3.out) hb); have n1_ := Aside0.mk (blk_below (g := gb120) (o := .cells #[.slice A0_0 l0_0.length c0_0, .slice A0_1 l0_1.length c0_1, .slice A0_2 l0_2.length c0_2, .slice A0_3 l0_3.length c0_3, .slice (some ad124) l0_4.length c0_4] 37 (0, 0)) (oz BK120.out) hb); have n2_ := Aside0.mk (below_step zt9 hb); have n3_ := Aside0.mk (hbox); have n4_ := Aside0.mk ((zt15 : w.heap.size ≤ gb125)); have n5_ := Aside0.mk ((zt15 : w.heap.size ≤ gb125)); have n6_ := Aside0.mk ((zt22 : gb120 ≠ gb125)); have n7_ := Aside0.mk ((zt23 : gb125 ≠ gb120)); clear HO_3; clear BK120; clear HB; have HO_3 := n0_; have BK120 := n1_; have HB := n2_; have BK125 := n3_; have GW125 := n4_; have GE125 := n5_; have NB120_125 := n6_; have NB125_120 := n7_; clear n0_ n1_ n2_ n3_ n4_ n5_ n6_ n7_; clear hb hbox hg; have hnb7001 := NB125_120.out; have hnc7001 := NB120_125.out; have hcz31_0 : w7000.cell? ⟨gb125, 0, none⟩ = some (.int .i64 0) := (blk_cell BK125.out 0).trans rfl; have hcz31_1 : w7000.cell? ⟨gb125, 1, none⟩ = some (.int .i64 0) := (blk_cell BK125.out 1).trans rfl; have hcz31_2 : w7000.cell? ⟨gb125, 2, none⟩ = some (.string (⟨#[]⟩ : ByteArray)) := (blk_cell BK125.out 2).trans rfl; have hcz31_3 : w7000.cell? ⟨gb125, 3, none⟩ = some (.string (⟨#[]⟩ : ByteArray)) := (blk_cell BK125.out 3).trans rfl; have hcz31_4 : w7000.cell? ⟨gb125, 4, none⟩ = some (.int .i64 0) := (blk_cell BK125.out 4).trans rfl; have hcz31_5 : w7000.cell? ⟨gb125, 5, none⟩ = some (.int .i64 0) := (blk_cell BK125.out 5).trans rfl; have hfz31_0 := blk_frozen BK125.out 0; have hfz31_1 := blk_frozen BK125.out 1; have hfz31_2 := blk_frozen BK125.out 2; have hfz31_3 := blk_frozen BK125.out 3; have hfz31_4 := blk_frozen BK125.out 4; have hfz31_5 := blk_frozen BK125.out 5) | ((with_reducible refine gate_dst (N := 5) rfl ?_); (try (refine gate_guard (by rfl) ?_; dsimp only)); refine box_event ?hg (N := 5) ?hd (cs := #[.int .i64 0, .int .i64 0, .string (⟨#[]⟩ : ByteArray), .string (⟨#[]⟩ : ByteArray), .int .i64 0, .int .i64 0]) (t := 75) ?hr ?_; (case hd => rfl); (case hg => rfl); (case hr => first | (go_simp; done) | (go_simp; rfl)); intro gb125 hg w7000 hbox hb; have n0_ := Aside0.mk (Kd.R_below (rz HO_3.out) hb); have n1_ := Aside0.mk (blk_below (g := gb120) (o := .cells #[.slice A0_0 l0_0.length c0_0, .slice A0_1 l0_1.length c0_1, .slice A0_2 l0_2.length c0_2, .slice A0_3 l0_3.length c0_3, .slice (some ad124) l0_4.length c0_4] 37 (0, 0)) (oz BK120.out) hb); have n2_ := Aside0.mk (below_step zt9 hb); have n3_ := Aside0.mk (hbox); have n4_ := Aside0.mk ((zt15 : w.heap.size ≤ gb125)); have n5_ := Aside0.mk ((zt15 : w.heap.size ≤ gb125)); have n6_ := Aside0.mk ((zt22 : gb120 ≠ gb125)); have n7_ := Aside0.mk ((zt23 : gb125 ≠ gb120)); clear HO_3; clear BK120; clear HB; have HO_3 := n0_; have BK120 := n1_; have HB := n2_; have BK125 := n3_; have GW125 := n4_; have GE125 := n5_; have NB120_125 := n6_; have NB125_120 := n7_; clear n0_ n1_ n2_ n3_ n4_ n5_ n6_ n7_; clear hb hbox hg; have hnb7001 := NB125_120.out; have hnc7001 := NB120_125.out; have hcz52_0 : w7000.cell? ⟨gb125, 0, none⟩ = some (.int .i64 0) := (blk_cell BK125.out 0).trans rfl; have hcz52_1 : w7000.cell? ⟨gb125, 1, none⟩ = some (.int .i64 0) := (blk_cell BK125.out 1).trans rfl; have hcz52_2 : w7000.cell? ⟨gb125, 2, none⟩ = some (.string (⟨#[]⟩ : ByteArray)) := (blk_cell BK125.out 2).trans rfl; have hcz52_3 : w7000.cell? ⟨gb125, 3, none⟩ = some (.string (⟨#[]⟩ : ByteArray)) := (blk_cell BK125.out 3).trans rfl; have hcz52_4 : w7000.cell? ⟨gb125, 4, none⟩ = some (.int .i64 0) := (blk_cell BK125.out 4).trans rfl; have hcz52_5 : w7000.cell? ⟨gb125, 5, none⟩ = some (.int .i64 0) := (blk_cell BK125.out 5).trans rfl; have hfz52_0 := blk_frozen BK125.out 0; have hfz52_1 := blk_frozen BK125.out 1; have hfz52_2 := blk_frozen BK125.out 2; have hfz52_3 := blk_frozen BK125.out 3; have hfz52_4 := blk_frozen BK125.out 4; have hfz52_5 := blk_frozen BK125.out 5) | ((with_reducible refine gate_callee (f := 33) rfl ?_); refine goesL_ (some 27) rfl rfl Tryd.func33 (by kernel_rfl) rfl #[.int .i64 ((rd_T75 l0_4 x4_1).f0)] rfl zt5 ?_; (with_reducible refine (spec_l5Two.calls ((rd_T75 l0_4 x4_1).f0) false _ A10.out).mono ?_); rintro e w' ⟨rfl, ⟨nd, rfl⟩⟩; refine ⟨_, rfl, ?_⟩) | ((with_reducible refine gate_callee (f := 33) rfl ?_); refine goesL_ (some 27) rfl rfl Tryd.func33 (by kernel_rfl) rfl #[.int .i64 ((rd_T75 l0_4 x4_1).f0)] rfl zt5 ?_; (with_reducible refine (spec_l5Two.calls ((rd_T75 l0_4 x4_1).f0) true _ A10.out).mono ?_); rintro e w' ⟨rfl, ⟨nd, rfl⟩⟩; refine ⟨_, rfl, ?_⟩)); first | go_quiet (fail) | (go_ret; exact ⟨zt8, zt38⟩) | (go_roundg k1; (case measure => have := HK1.out; omega); (case rel => exact ⟨(x3_1), (wrap64 (x4_1 + 1)), zt10, H', ⟨by have := HK1.out; omega⟩, ⟨by (with_reducible repeat (first | apply Kd.R_alloc | apply Kd.R_drewN | apply Kd.R_drew)); exact Kd.R_mono (Kd.R_far (p := ⟨gb125, 5, none⟩) (Kd.R_far (p := ⟨gb125, 4, none⟩) (Kd.R_far (p := ⟨gb125, 3, none⟩) (Kd.R_far (p := ⟨gb125, 2, none⟩) (Kd.R_far (p := ⟨gb125, 1, none⟩) (Kd.R_far (p := ⟨gb125, 0, none⟩) (Kd.R_types HO_3.out BK125.out (by decide)) (fun _ hk => hk.2) (.int .i64 ((rd_T75 l0_4 x4_1).f0))) (fun _ hk => hk.2) (.int .i64 ((rd_T75 l0_4 x4_1).f1))) (fun _ hk => hk.2) (.string ((rd_T75 l0_4 x4_1).f2))) (fun _ hk => hk.2) (.string ((rd_T75 l0_4 x4_1).f3))) (fun _ hk => hk.2) (.int .i64 ((rd_T75 l0_4 x4_1).f4))) (fun _ hk => hk.2) (.int .i64 ((rd_T75 l0_4 x4_1).f5))) (fun _ hk => trivial)⟩, ⟨by (with_reducible repeat (first | refine blk_drewN ?_ _ | refine blk_drew ?_ | refine blk_alloc ?_ _)); refine blk_far ?_ NB120_125.out _; (with_reducible repeat (first | refine blk_drewN ?_ _ | refine blk_drew ?_ | refine blk_alloc ?_ _)); refine blk_far ?_ NB120_125.out _; (with_reducible repeat (first | refine blk_drewN ?_ _ | refine blk_drew ?_ | refine blk_alloc ?_ _)); refine blk_far ?_ NB120_125.out _; (with_reducible repeat (first | refine blk_drewN ?_ _ | refine blk_drew ?_ | refine blk_alloc ?_ _)); refine blk_far ?_ NB120_125.out _; (with_reducible repeat (first | refine blk_drewN ?_ _ | refine blk_drew ?_ | refine blk_alloc ?_ _)); refine blk_far ?_ NB120_125.out _; (with_reducible repeat (first | refine blk_drewN ?_ _ | refine blk_drew ?_ | refine blk_alloc ?_ _)); refine blk_far ?_ NB120_125.out _; (with_reducible repeat (first | refine blk_drewN ?_ _ | refine blk_drew ?_ | refine blk_alloc ?_ _)); exact BK120.out⟩, ⟨zt38⟩⟩)))

end Go.Proofs.YtnakdhpefkllmaaDoor.PFnExactKnown

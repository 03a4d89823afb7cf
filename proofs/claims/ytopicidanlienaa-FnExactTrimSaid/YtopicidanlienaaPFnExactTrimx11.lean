-- Out of the kit's print, with contracts of mine among it (myprint.py).
import Derived.Test.YtopicidanlienaaPFnExactTrimx0
import Derived.Test.YtopicidanlienaaPFnExactTrimx10
namespace Go.Proofs.Ytopicidanlienaa.PFnExactTrim
open Go.RowKit Go.Proofs.YtopicidanlienaaW.PrintWords Go.Proofs.YtopicidanlienaaW.PrintLast Go.Proofs.YtopicidanlienaaW.PrintMore
attribute [local go_sem] max2_int min2_int max_two min_two max_three min_three max_four min_four   -- for this text's walks alone
set_option linter.unusedVariables false
set_option linter.unusedSimpArgs false

/-! ### impl_memberUses: function 35 -/
def impl_memberUses.l0 : Nat → List ByteArray → List (S50) → Int → Int → Option (List ByteArray)
 | 0, _, _, _, _ => none
 | k + 1, x3, x8, x9, x10 => if x10 < x9 then (if 0 ≤ x10 then (if x10 < (x8.length : Int) then (if ((rd_T50 x8 x10).f0) = 4 then (if x3.length < 8796093022208 then (impl_memberUses.l0 k (x3 ++ [(rd_T50 x8 x10).f2]) x8 x9 (wrap64 (x10 + 1))) else (none)) else (if ((rd_T50 x8 x10).f0) = 5 then (if x3.length < 8796093022208 then (impl_memberUses.l0 k (x3 ++ [(rd_T50 x8 x10).f2]) x8 x9 (wrap64 (x10 + 1))) else (none)) else (impl_memberUses.l0 k x3 x8 x9 (wrap64 (x10 + 1))))) else (none)) else (none)) else (some x3)
def impl_memberUses.f (k : Nat) (l0_0 : List ByteArray) (l0_1 : List (S73)) (l0_2 : List (S55)) (l0_3 : List (S53)) (l0_4 : List (S50)) : Option (List ByteArray) := impl_memberUses.l0 k (([] : List ByteArray)) l0_4 (l0_4.length : Int) 0
theorem impl_memberUses.mono_l : ∀ k, (∀ y0 y1 y2 y3, LeO (impl_memberUses.l0 k y0 y1 y2 y3) (impl_memberUses.l0 (k + 1) y0 y1 y2 y3))
 | 0 => fun _ _ _ _ r h => by simp [impl_memberUses.l0] at h
 | k + 1 => by
  have ih0 := impl_memberUses.mono_l k
  ·intro y0 y1 y2 y3
   unfold impl_memberUses.l0
   repeat' (first | (with_reducible first | exact ih0 _ _ _ _ | exact LeO.refl _ | exact LeO.none _ | refine LeO.ite ?_ ?_ | refine LeO.bind ?_ (fun _ => ?_)) | exact LeO.none _ | refine LeO.ite ?_ ?_ | refine LeO.bind ?_ (fun _ => ?_))
theorem impl_memberUses.mono : ∀ a0 a1 a2 a3 a4 k, LeO (impl_memberUses.f k a0 a1 a2 a3 a4) (impl_memberUses.f (k + 1) a0 a1 a2 a3 a4) := by
 intro a0 a1 a2 a3 a4 k
 have ih0 := impl_memberUses.mono_l k
 unfold impl_memberUses.f
 repeat' (first | (with_reducible first | exact ih0 _ _ _ _ | exact LeO.refl _ | exact LeO.none _ | refine LeO.ite ?_ ?_ | refine LeO.bind ?_ (fun _ => ?_)) | exact LeO.none _ | refine LeO.ite ?_ ?_ | refine LeO.bind ?_ (fun _ => ?_))
set_option maxHeartbeats 8000000 in
set_option maxRecDepth 100000 in
theorem impl_memberUses.calls (k : Nat) (A0_0 : Option Addr) (c0_0 : Nat) (l0_0 : List ByteArray) (A0_1 : Option Addr) (c0_1 : Nat) (l0_1 : List (S73)) (A0_2 : Option Addr) (c0_2 : Nat) (l0_2 : List (S55)) (A0_3 : Option Addr) (c0_3 : Nat) (l0_3 : List (S53)) (A0_4 : Option Addr) (c0_4 : Nat) (l0_4 : List (S50)) (r : List ByteArray) (w : World) (hr0_0 : Kd.C Kd.string w A0_0 l0_0.length l0_0) (hc0_0 : l0_0.length ≤ c0_0) (hr0_1 : Kd.C k73 w A0_1 l0_1.length l0_1) (hc0_1 : l0_1.length ≤ c0_1) (hr0_2 : Kd.C k55 w A0_2 l0_2.length l0_2) (hc0_2 : l0_2.length ≤ c0_2) (hr0_3 : Kd.C k53 w A0_3 l0_3.length l0_3) (hc0_3 : l0_3.length ≤ c0_3) (hr0_4 : Kd.C k50 w A0_4 l0_4.length l0_4) (hc0_4 : l0_4.length ≤ c0_4) (h : impl_memberUses.f k l0_0 l0_1 l0_2 l0_3 l0_4 = some r) :
  Calls Try.prog 35 #[.agg #[.slice A0_0 l0_0.length c0_0, .slice A0_1 l0_1.length c0_1, .slice A0_2 l0_2.length c0_2, .slice A0_3 l0_3.length c0_3, .slice A0_4 l0_4.length c0_4]] w fun e w' => ∃ v0_ : Value, e = .returned (v0_) ∧ Kd.R Kd.string 9 w' w.heap.size (fun _ => True) v0_ r ∧ Below w.heap.size w w' := by
 have hu36 := Try.underlying36
 have hu50 := Try.underlying50
 have HR0_0 := Aside0.mk hr0_0
 have HC0_0 := Aside0.mk hc0_0
 clear hr0_0 hc0_0
 have HR0_1 := Aside0.mk hr0_1
 have HC0_1 := Aside0.mk hc0_1
 clear hr0_1 hc0_1
 have HR0_2 := Aside0.mk hr0_2
 have HC0_2 := Aside0.mk hc0_2
 clear hr0_2 hc0_2
 have HR0_3 := Aside0.mk hr0_3
 have HC0_3 := Aside0.mk hc0_3
 clear hr0_3 hc0_3
 have HR0_4 := Aside0.mk hr0_4
 have HC0_4 := Aside0.mk hc0_4
 clear hr0_4 hc0_4
 have HB := Aside0.mk (Below.refl w.heap.size w)
 try unfold impl_memberUses.f at h
 have H := h
 clear h
 obtain ⟨y398, hy398⟩ : ∃ y_ : List ByteArray, y_ = (([] : List ByteArray)) := ⟨_, rfl⟩
 replace H : (impl_memberUses.l0 k y398 l0_4 (l0_4.length : Int) 0) = some r := by first | (rw [hy398]; with_reducible exact H) | (have H2_ := (Option.bind_some _ _).symm.trans H; rw [hy398]; with_reducible exact H2_) | (have H2_ := (Option.bind_some _ _).symm.trans H; with_reducible exact H2_) | with_reducible exact H | (rw [hy398]; exact H) | exact H
 have Ny398 := Aside0.mk hy398
 clear hy398
 have H' := Aside0.mk H
 clear H
 go_enter Try.func35, Try.ntmps35
 go_wp2_with (first | ((with_reducible refine gate_dst (N := 1) rfl ?_); refine box_event ?hg (N := 1) ?hd (cs := #[.slice A0_0 l0_0.length c0_0, .slice A0_1 l0_1.length c0_1, .slice A0_2 l0_2.length c0_2, .slice A0_3 l0_3.length c0_3, .slice A0_4 l0_4.length c0_4]) (t := 36) ?hr ?_; (case hd => rfl); (case hg => rfl); (case hr => first | (go_simp; done) | (go_simp; rfl)); intro gb397 hg w2 hbox hb; have n0_ := Aside0.mk (below_step zt3 hb); have n1_ := Aside0.mk (hbox); have n2_ := Aside0.mk ((zt6 : w.heap.size ≤ gb397)); have n3_ := Aside0.mk ((zt6 : w.heap.size ≤ gb397)); clear HB; have HB := n0_; have BK397 := n1_; have GW397 := n2_; have GE397 := n3_; clear n0_ n1_ n2_ n3_; clear hb hbox hg) | ((with_reducible refine gate_dst (N := 6) rfl ?_); refine Kd.R_lit Kd.string _ 9 ?hg (N := 6) ?hd (xs := ([] : List ByteArray)) (inner := []) (ok := fun _ => True) (okp := fun _ => True) ?hr ?hp (fun _ hk => hk) trivial (Below.refl _ _) (Nat.le_refl _) (by simp) ?_; (case hd => rfl); (case hg => rfl); (case hr => first | (go_simp; done) | (go_simp; rfl)); (case hp => exact (Reps.none _ _)); intro v399 w3 ho4 hb hg_ hnew_; clear hg_ hnew_; (first | rw [← Ny398.out] at ho4 | (simp only [Int.reduceToNat] at ho4; rw [← Ny398.out] at ho4)); have n0_ := Aside0.mk (Kd.R_lower ho4 (below_size zt29)); have n1_ := Aside0.mk (blk_below (g := gb397) (o := .cells #[.slice A0_0 l0_0.length c0_0, .slice A0_1 l0_1.length c0_1, .slice A0_2 l0_2.length c0_2, .slice A0_3 l0_3.length c0_3, .slice A0_4 l0_4.length c0_4] 36 (0, 0)) (oz BK397.out) hb); have n2_ := Aside0.mk (below_step zt29 hb); clear BK397; clear HB; have HO400 := n0_; have BK397 := n1_; have HB := n2_; clear n0_ n1_ n2_; clear hb ho4; have hcz5_0 : w3.cell? ⟨gb397, 0, none⟩ = some (.slice A0_0 l0_0.length c0_0) := (blk_cell BK397.out 0).trans rfl; have hcz5_1 : w3.cell? ⟨gb397, 1, none⟩ = some (.slice A0_1 l0_1.length c0_1) := (blk_cell BK397.out 1).trans rfl; have hcz5_2 : w3.cell? ⟨gb397, 2, none⟩ = some (.slice A0_2 l0_2.length c0_2) := (blk_cell BK397.out 2).trans rfl; have hcz5_3 : w3.cell? ⟨gb397, 3, none⟩ = some (.slice A0_3 l0_3.length c0_3) := (blk_cell BK397.out 3).trans rfl; have hcz5_4 : w3.cell? ⟨gb397, 4, none⟩ = some (.slice A0_4 l0_4.length c0_4) := (blk_cell BK397.out 4).trans rfl; have hfz5_0 := blk_frozen BK397.out 0; have hfz5_1 := blk_frozen BK397.out 1; have hfz5_2 := blk_frozen BK397.out 2; have hfz5_3 := blk_frozen BK397.out 3; have hfz5_4 := blk_frozen BK397.out 4))
 go_loopg [3, 10] k (fun kq v3 v10 w' => ∃ (x3_1 : List ByteArray) (x10_1 : Int), v10 = .int .i64 x10_1 ∧ Aside0 (impl_memberUses.l0 kq x3_1 l0_4 (l0_4.length : Int) x10_1 = some r) ∧ Aside0 (kq ≤ k) ∧ Aside0 (Kd.R Kd.string 9 w' w.heap.size (fun _ => True) v3 x3_1) ∧ Aside0 (w'.heap[gb397]? = some (.cells #[(.slice A0_0 l0_0.length c0_0), (.slice A0_1 l0_1.length c0_1), (.slice A0_2 l0_2.length c0_2), (.slice A0_3 l0_3.length c0_3), (.slice A0_4 l0_4.length c0_4)] 36 (0, 0))) ∧ Aside0 (Below w.heap.size w w'))
 case atStart => exact ⟨(y398), (0), zt9, H', ⟨Nat.le_refl _⟩, ⟨by (with_reducible repeat (first | apply Kd.R_alloc | apply Kd.R_drewN | apply Kd.R_drew)); exact HO400.out⟩, ⟨by (with_reducible repeat (first | refine blk_drewN ?_ _ | refine blk_drew ?_ | refine blk_alloc ?_ _)); exact BK397.out⟩, ⟨zt29⟩⟩
 case round =>
  clear H'
  try clear p2
  try clear c3
  try clear hcz5_0
  try clear hcz5_1
  try clear hcz5_2
  try clear hcz5_3
  try clear hcz5_4
  try clear hfz5_0
  try clear hfz5_1
  try clear hfz5_2
  try clear hfz5_3
  try clear hfz5_4
  obtain ⟨x3_1, x10_1, rfl, HA, HK1, HO_3, BK397, HB⟩ := hrel
  cases gk with
  | zero => exact absurd HA.out (by simp [impl_memberUses.l0])
  | succ k1 =>
   have H := HA.out
   clear HA
   simp only [impl_memberUses.l0] at H
   by_cases c6 : x10_1 < (l0_4.length : Int)
   rw [if_pos c6] at H
   have c6b0 := decide_eq_true c6
   clear c6
   replace H := it0 H
   obtain ⟨c7, H⟩ := H
   have c7b0 : decide (0 ≤ x10_1) = true := decide_eq_true c7
   clear c7
   replace H := it0 H
   obtain ⟨c8, H⟩ := H
   have c8b0 := decide_eq_true c8
   clear c8
   by_cases c9 : ((rd_T50 l0_4 x10_1).f0) = 4
   rw [if_pos c9] at H
   have c9b0 := beq_iff_eq.mpr c9
   have c9b1 := bne_eq_false_iff_eq.mpr c9
   clear c9
   replace H := it0 H
   obtain ⟨c10, H⟩ := H
   have LMc10 := Aside0.mk c10
   clear c10
   obtain ⟨y403, hy403⟩ : ∃ y_ : List ByteArray, y_ = (x3_1 ++ [(rd_T50 l0_4 x10_1).f2]) := ⟨_, rfl⟩
   replace H : (impl_memberUses.l0 k1 y403 l0_4 (l0_4.length : Int) (wrap64 (x10_1 + 1))) = some r := by first | (rw [hy403]; with_reducible exact H) | (have H2_ := (Option.bind_some _ _).symm.trans H; rw [hy403]; with_reducible exact H2_) | (have H2_ := (Option.bind_some _ _).symm.trans H; with_reducible exact H2_) | with_reducible exact H | (rw [hy403]; exact H) | exact H
   have Ny403 := Aside0.mk hy403
   clear hy403
   have H' := Aside0.mk H
   clear H
   have p401 : 0 ≤ (x10_1 : Int) := of_decide_eq_true zt4
   have q401 : x10_1 < (l0_4.length : Int) := of_decide_eq_true zt4
   obtain ⟨ad401, e401, hx401_0, hx401_1, hx401_2, hx401_3, hx401_4, hx401_5⟩ := at_T50 HR0_4.out x10_1 p401 q401
   cases e401
   replace hx401_0 := (HB.out.cell (World.block_lt_of_cell? w _ hx401_0)).trans hx401_0
   replace hx401_1 := (HB.out.cell (World.block_lt_of_cell? w _ hx401_1)).trans hx401_1
   replace hx401_2 := (HB.out.cell (World.block_lt_of_cell? w _ hx401_2)).trans hx401_2
   replace hx401_3 := (HB.out.cell (World.block_lt_of_cell? w _ hx401_3)).trans hx401_3
   replace hx401_4 := (HB.out.cell (World.block_lt_of_cell? w _ hx401_4)).trans hx401_4
   replace hx401_5 := (HB.out.cell (World.block_lt_of_cell? w _ hx401_5)).trans hx401_5
   replace p401 := eq_true p401
   replace q401 := eq_true q401
   rotate_left
   rw [if_neg c9] at H
   have c9b0 := beq_eq_false_iff_ne.mpr c9
   have c9b1 := bne_iff_ne.mpr c9
   by_cases c15 : ((rd_T50 l0_4 x10_1).f0) = 5
   rw [if_pos c15] at H
   have c15b0 := beq_iff_eq.mpr c15
   have c15b1 := bne_eq_false_iff_eq.mpr c15
   clear c15
   replace H := it0 H
   obtain ⟨c16, H⟩ := H
   have LMc16 := Aside0.mk c16
   clear c16
   obtain ⟨y406, hy406⟩ : ∃ y_ : List ByteArray, y_ = (x3_1 ++ [(rd_T50 l0_4 x10_1).f2]) := ⟨_, rfl⟩
   replace H : (impl_memberUses.l0 k1 y406 l0_4 (l0_4.length : Int) (wrap64 (x10_1 + 1))) = some r := by first | (rw [hy406]; with_reducible exact H) | (have H2_ := (Option.bind_some _ _).symm.trans H; rw [hy406]; with_reducible exact H2_) | (have H2_ := (Option.bind_some _ _).symm.trans H; with_reducible exact H2_) | with_reducible exact H | (rw [hy406]; exact H) | exact H
   have Ny406 := Aside0.mk hy406
   clear hy406
   have H' := Aside0.mk H
   clear H
   have p401 : 0 ≤ (x10_1 : Int) := of_decide_eq_true zt4
   have q401 : x10_1 < (l0_4.length : Int) := of_decide_eq_true zt4
   obtain ⟨ad401, e401, hx401_0, hx401_1, hx401_2, hx401_3, hx401_4, hx401_5⟩ := at_T50 HR0_4.out x10_1 p401 q401
   cases e401
   replace hx401_0 := (HB.out.cell (World.block_lt_of_cell? w _ hx401_0)).trans hx401_0
   replace hx401_1 := (HB.out.cell (World.block_lt_of_cell? w _ hx401_1)).trans hx401_1
   replace hx401_2 := (HB.out.cell (World.block_lt_of_cell? w _ hx401_2)).trans hx401_2
   replace hx401_3 := (HB.out.cell (World.block_lt_of_cell? w _ hx401_3)).trans hx401_3
   replace hx401_4 := (HB.out.cell (World.block_lt_of_cell? w _ hx401_4)).trans hx401_4
   replace hx401_5 := (HB.out.cell (World.block_lt_of_cell? w _ hx401_5)).trans hx401_5
   replace p401 := eq_true p401
   replace q401 := eq_true q401
   rotate_left
   rw [if_neg c15] at H
   have c15b0 := beq_eq_false_iff_ne.mpr c15
   have c15b1 := bne_iff_ne.mpr c15
   have H' := Aside0.mk H
   clear H
   have p401 : 0 ≤ (x10_1 : Int) := of_decide_eq_true zt4
   have q401 : x10_1 < (l0_4.length : Int) := of_decide_eq_true zt4
   obtain ⟨ad401, e401, hx401_0, hx401_1, hx401_2, hx401_3, hx401_4, hx401_5⟩ := at_T50 HR0_4.out x10_1 p401 q401
   cases e401
   replace hx401_0 := (HB.out.cell (World.block_lt_of_cell? w _ hx401_0)).trans hx401_0
   replace hx401_1 := (HB.out.cell (World.block_lt_of_cell? w _ hx401_1)).trans hx401_1
   replace hx401_2 := (HB.out.cell (World.block_lt_of_cell? w _ hx401_2)).trans hx401_2
   replace hx401_3 := (HB.out.cell (World.block_lt_of_cell? w _ hx401_3)).trans hx401_3
   replace hx401_4 := (HB.out.cell (World.block_lt_of_cell? w _ hx401_4)).trans hx401_4
   replace hx401_5 := (HB.out.cell (World.block_lt_of_cell? w _ hx401_5)).trans hx401_5
   replace p401 := eq_true p401
   replace q401 := eq_true q401
   rotate_left
   rw [if_neg c6] at H
   have c6b0 := decide_eq_false c6
   clear c6
   obtain rfl := Option.some.inj H
   rotate_left
   all_goals
    repeat (go_wp2_with (first | ((with_reducible refine gate_builtin (b := .append) (xs := #[.tmp 22, .tmp 25]) rfl ?_); at_builtin; refine Kd.R_append Kd.string (w0 := w) w.heap.size rfl (.tmp 22) (.tmp 25) 22 9 (.string ⟨#[]⟩) 16 rfl Try.underlying22 info9 rfl (by decide) (by omega) u3 x3_1 ((rd_T50 l0_4 x10_1).f2) [.string ((rd_T50 l0_4 x10_1).f2)] (fun _ => True) (fun _ => False) rfl zt43 ?aP (fun _ hk => hk.elim) ?aF ?aO ?aB ?aS ?aL ?_; (case aP => exact rfl); (case aB => exact zt25); (case aF => exact (fun _ _ => trivial)); (case aO => exact (by (with_reducible repeat (first | apply Kd.R_alloc | apply Kd.R_drewN | apply Kd.R_drew)); exact Kd.R_mono (Kd.R_far (p := ⟨gb7000, 5, none⟩) (Kd.R_far (p := ⟨gb7000, 4, none⟩) (Kd.R_far (p := ⟨gb7000, 3, none⟩) (Kd.R_far (p := ⟨gb7000, 2, none⟩) (Kd.R_far (p := ⟨gb7000, 1, none⟩) (Kd.R_far (p := ⟨gb7000, 0, none⟩) (Kd.R_types HO_3.out BK7000.out (by decide)) (fun _ hk => hk.2) (.int .i64 ((rd_T50 l0_4 x10_1).f0))) (fun _ hk => hk.2) (.int .i64 ((rd_T50 l0_4 x10_1).f1))) (fun _ hk => hk.2) (.string ((rd_T50 l0_4 x10_1).f2))) (fun _ hk => hk.2) (.string ((rd_T50 l0_4 x10_1).f3))) (fun _ hk => hk.2) (.int .i64 ((rd_T50 l0_4 x10_1).f4))) (fun _ hk => hk.2) (.int .i64 ((rd_T50 l0_4 x10_1).f5))) (fun _ hk => trivial))); (case aS => exact (below_size zt25)); (case aL => have := LMc10.out; omega); intro v7005 w7006 ho hb hg hat; rw [← Ny403.out] at ho; have n0_ := Aside0.mk (blk_grown (g := gb397) (o := .cells #[.slice A0_0 l0_0.length c0_0, .slice A0_1 l0_1.length c0_1, .slice A0_2 l0_2.length c0_2, .slice A0_3 l0_3.length c0_3, .slice (some ad401) l0_4.length c0_4] 36 (0, 0)) (by (with_reducible repeat (first | refine blk_drewN ?_ _ | refine blk_drew ?_ | refine blk_alloc ?_ _)); refine blk_far ?_ NB7002_402.out _; (with_reducible repeat (first | refine blk_drewN ?_ _ | refine blk_drew ?_ | refine blk_alloc ?_ _)); refine blk_far ?_ NB7002_402.out _; (with_reducible repeat (first | refine blk_drewN ?_ _ | refine blk_drew ?_ | refine blk_alloc ?_ _)); refine blk_far ?_ NB7002_402.out _; (with_reducible repeat (first | refine blk_drewN ?_ _ | refine blk_drew ?_ | refine blk_alloc ?_ _)); refine blk_far ?_ NB7002_402.out _; (with_reducible repeat (first | refine blk_drewN ?_ _ | refine blk_drew ?_ | refine blk_alloc ?_ _)); refine blk_far ?_ NB7002_402.out _; (with_reducible repeat (first | refine blk_drewN ?_ _ | refine blk_drew ?_ | refine blk_alloc ?_ _)); refine blk_far ?_ NB7002_402.out _; (with_reducible repeat (first | refine blk_drewN ?_ _ | refine blk_drew ?_ | refine blk_alloc ?_ _)); exact BK397.out) hg (Kd.R_ne HO_3.out BK397.out (by decide))); have n1_ := Aside0.mk (blk_grown (g := gb7000) (o := .cells #[.int .i64 ((rd_T50 l0_4 x10_1).f0), .int .i64 ((rd_T50 l0_4 x10_1).f1), .string ((rd_T50 l0_4 x10_1).f2), .string ((rd_T50 l0_4 x10_1).f3), .int .i64 ((rd_T50 l0_4 x10_1).f4), .int .i64 ((rd_T50 l0_4 x10_1).f5)] 50 (0, 0)) (by (with_reducible repeat (first | refine blk_drewN ?_ _ | refine blk_drew ?_ | refine blk_alloc ?_ _)); refine blk_put (cs := #[.int .i64 ((rd_T50 l0_4 x10_1).f0), .int .i64 ((rd_T50 l0_4 x10_1).f1), .string ((rd_T50 l0_4 x10_1).f2), .string ((rd_T50 l0_4 x10_1).f3), .int .i64 ((rd_T50 l0_4 x10_1).f4), .int .i64 0]) ?_ 5 _ rfl; (with_reducible repeat (first | refine blk_drewN ?_ _ | refine blk_drew ?_ | refine blk_alloc ?_ _)); refine blk_put (cs := #[.int .i64 ((rd_T50 l0_4 x10_1).f0), .int .i64 ((rd_T50 l0_4 x10_1).f1), .string ((rd_T50 l0_4 x10_1).f2), .string ((rd_T50 l0_4 x10_1).f3), .int .i64 0, .int .i64 0]) ?_ 4 _ rfl; (with_reducible repeat (first | refine blk_drewN ?_ _ | refine blk_drew ?_ | refine blk_alloc ?_ _)); refine blk_put (cs := #[.int .i64 ((rd_T50 l0_4 x10_1).f0), .int .i64 ((rd_T50 l0_4 x10_1).f1), .string ((rd_T50 l0_4 x10_1).f2), .string (⟨#[]⟩ : ByteArray), .int .i64 0, .int .i64 0]) ?_ 3 _ rfl; (with_reducible repeat (first | refine blk_drewN ?_ _ | refine blk_drew ?_ | refine blk_alloc ?_ _)); refine blk_put (cs := #[.int .i64 ((rd_T50 l0_4 x10_1).f0), .int .i64 ((rd_T50 l0_4 x10_1).f1), .string (⟨#[]⟩ : ByteArray), .string (⟨#[]⟩ : ByteArray), .int .i64 0, .int .i64 0]) ?_ 2 _ rfl; (with_reducible repeat (first | refine blk_drewN ?_ _ | refine blk_drew ?_ | refine blk_alloc ?_ _)); refine blk_put (cs := #[.int .i64 ((rd_T50 l0_4 x10_1).f0), .int .i64 0, .string (⟨#[]⟩ : ByteArray), .string (⟨#[]⟩ : ByteArray), .int .i64 0, .int .i64 0]) ?_ 1 _ rfl; (with_reducible repeat (first | refine blk_drewN ?_ _ | refine blk_drew ?_ | refine blk_alloc ?_ _)); refine blk_put (cs := #[.int .i64 0, .int .i64 0, .string (⟨#[]⟩ : ByteArray), .string (⟨#[]⟩ : ByteArray), .int .i64 0, .int .i64 0]) ?_ 0 _ rfl; (with_reducible repeat (first | refine blk_drewN ?_ _ | refine blk_drew ?_ | refine blk_alloc ?_ _)); exact BK7000.out) hg (Kd.R_ne HO_3.out BK7000.out (by decide))); have n2_ := Aside0.mk (hb); have n3_ := Aside0.mk (ho); clear BK397; clear BK7000; clear HB; clear HO_3; have BK397 := n0_; have BK7000 := n1_; have HB := n2_; have HO7007 := n3_; clear n0_ n1_ n2_ n3_; clear ho hb hg hat) | ((with_reducible refine gate_builtin (b := .append) (xs := #[.tmp 22, .tmp 25]) rfl ?_); at_builtin; refine Kd.R_append Kd.string (w0 := w) w.heap.size rfl (.tmp 22) (.tmp 25) 22 9 (.string ⟨#[]⟩) 16 rfl Try.underlying22 info9 rfl (by decide) (by omega) u3 x3_1 ((rd_T50 l0_4 x10_1).f2) [.string ((rd_T50 l0_4 x10_1).f2)] (fun _ => True) (fun _ => False) rfl zt43 ?aP (fun _ hk => hk.elim) ?aF ?aO ?aB ?aS ?aL ?_; (case aP => exact rfl); (case aB => exact zt25); (case aF => exact (fun _ _ => trivial)); (case aO => exact (by (with_reducible repeat (first | apply Kd.R_alloc | apply Kd.R_drewN | apply Kd.R_drew)); exact Kd.R_mono (Kd.R_far (p := ⟨gb7000, 5, none⟩) (Kd.R_far (p := ⟨gb7000, 4, none⟩) (Kd.R_far (p := ⟨gb7000, 3, none⟩) (Kd.R_far (p := ⟨gb7000, 2, none⟩) (Kd.R_far (p := ⟨gb7000, 1, none⟩) (Kd.R_far (p := ⟨gb7000, 0, none⟩) (Kd.R_types HO_3.out BK7000.out (by decide)) (fun _ hk => hk.2) (.int .i64 ((rd_T50 l0_4 x10_1).f0))) (fun _ hk => hk.2) (.int .i64 ((rd_T50 l0_4 x10_1).f1))) (fun _ hk => hk.2) (.string ((rd_T50 l0_4 x10_1).f2))) (fun _ hk => hk.2) (.string ((rd_T50 l0_4 x10_1).f3))) (fun _ hk => hk.2) (.int .i64 ((rd_T50 l0_4 x10_1).f4))) (fun _ hk => hk.2) (.int .i64 ((rd_T50 l0_4 x10_1).f5))) (fun _ hk => trivial))); (case aS => exact (below_size zt25)); (case aL => have := LMc16.out; omega); intro v7005 w7006 ho hb hg hat; rw [← Ny406.out] at ho; have n0_ := Aside0.mk (blk_grown (g := gb397) (o := .cells #[.slice A0_0 l0_0.length c0_0, .slice A0_1 l0_1.length c0_1, .slice A0_2 l0_2.length c0_2, .slice A0_3 l0_3.length c0_3, .slice (some ad401) l0_4.length c0_4] 36 (0, 0)) (by (with_reducible repeat (first | refine blk_drewN ?_ _ | refine blk_drew ?_ | refine blk_alloc ?_ _)); refine blk_far ?_ NB7002_402.out _; (with_reducible repeat (first | refine blk_drewN ?_ _ | refine blk_drew ?_ | refine blk_alloc ?_ _)); refine blk_far ?_ NB7002_402.out _; (with_reducible repeat (first | refine blk_drewN ?_ _ | refine blk_drew ?_ | refine blk_alloc ?_ _)); refine blk_far ?_ NB7002_402.out _; (with_reducible repeat (first | refine blk_drewN ?_ _ | refine blk_drew ?_ | refine blk_alloc ?_ _)); refine blk_far ?_ NB7002_402.out _; (with_reducible repeat (first | refine blk_drewN ?_ _ | refine blk_drew ?_ | refine blk_alloc ?_ _)); refine blk_far ?_ NB7002_402.out _; (with_reducible repeat (first | refine blk_drewN ?_ _ | refine blk_drew ?_ | refine blk_alloc ?_ _)); refine blk_far ?_ NB7002_402.out _; (with_reducible repeat (first | refine blk_drewN ?_ _ | refine blk_drew ?_ | refine blk_alloc ?_ _)); exact BK397.out) hg (Kd.R_ne HO_3.out BK397.out (by decide))); have n1_ := Aside0.mk (blk_grown (g := gb7000) (o := .cells #[.int .i64 ((rd_T50 l0_4 x10_1).f0), .int .i64 ((rd_T50 l0_4 x10_1).f1), .string ((rd_T50 l0_4 x10_1).f2), .string ((rd_T50 l0_4 x10_1).f3), .int .i64 ((rd_T50 l0_4 x10_1).f4), .int .i64 ((rd_T50 l0_4 x10_1).f5)] 50 (0, 0)) (by (with_reducible repeat (first | refine blk_drewN ?_ _ | refine blk_drew ?_ | refine blk_alloc ?_ _)); refine blk_put (cs := #[.int .i64 ((rd_T50 l0_4 x10_1).f0), .int .i64 ((rd_T50 l0_4 x10_1).f1), .string ((rd_T50 l0_4 x10_1).f2), .string ((rd_T50 l0_4 x10_1).f3), .int .i64 ((rd_T50 l0_4 x10_1).f4), .int .i64 0]) ?_ 5 _ rfl; (with_reducible repeat (first | refine blk_drewN ?_ _ | refine blk_drew ?_ | refine blk_alloc ?_ _)); refine blk_put (cs := #[.int .i64 ((rd_T50 l0_4 x10_1).f0), .int .i64 ((rd_T50 l0_4 x10_1).f1), .string ((rd_T50 l0_4 x10_1).f2), .string ((rd_T50 l0_4 x10_1).f3), .int .i64 0, .int .i64 0]) ?_ 4 _ rfl; (with_reducible repeat (first | refine blk_drewN ?_ _ | refine blk_drew ?_ | refine blk_alloc ?_ _)); refine blk_put (cs := #[.int .i64 ((rd_T50 l0_4 x10_1).f0), .int .i64 ((rd_T50 l0_4 x10_1).f1), .string ((rd_T50 l0_4 x10_1).f2), .string (⟨#[]⟩ : ByteArray), .int .i64 0, .int .i64 0]) ?_ 3 _ rfl; (with_reducible repeat (first | refine blk_drewN ?_ _ | refine blk_drew ?_ | refine blk_alloc ?_ _)); refine blk_put (cs := #[.int .i64 ((rd_T50 l0_4 x10_1).f0), .int .i64 ((rd_T50 l0_4 x10_1).f1), .string (⟨#[]⟩ : ByteArray), .string (⟨#[]⟩ : ByteArray), .int .i64 0, .int .i64 0]) ?_ 2 _ rfl; (with_reducible repeat (first | refine blk_drewN ?_ _ | refine blk_drew ?_ | refine blk_alloc ?_ _)); refine blk_put (cs := #[.int .i64 ((rd_T50 l0_4 x10_1).f0), .int .i64 0, .string (⟨#[]⟩ : ByteArray), .string (⟨#[]⟩ : ByteArray), .int .i64 0, .int .i64 0]) ?_ 1 _ rfl; (with_reducible repeat (first | refine blk_drewN ?_ _ | refine blk_drew ?_ | refine blk_alloc ?_ _)); refine blk_put (cs := #[.int .i64 0, .int .i64 0, .string (⟨#[]⟩ : ByteArray), .string (⟨#[]⟩ : ByteArray), .int .i64 0, .int .i64 0]) ?_ 0 _ rfl; (with_reducible repeat (first | refine blk_drewN ?_ _ | refine blk_drew ?_ | refine blk_alloc ?_ _)); exact BK7000.out) hg (Kd.R_ne HO_3.out BK7000.out (by decide))); have n2_ := Aside0.mk (hb); have n3_ := Aside0.mk (ho); clear BK397; clear BK7000; clear HB; clear HO_3; have BK397 := n0_; have BK7000 := n1_; have HB := n2_; have HO7007 := n3_; clear n0_ n1_ n2_ n3_; clear ho hb hg hat) | ((with_reducible refine gate_dst (N := 5) rfl ?_); refine box_event ?hg (N := 5) ?hd (cs := #[.int .i64 0, .int .i64 0, .string (⟨#[]⟩ : ByteArray), .string (⟨#[]⟩ : ByteArray), .int .i64 0, .int .i64 0]) (t := 50) ?hr ?_; (case hd => rfl); (case hg => rfl); (case hr => first | (go_simp; done) | (go_simp; rfl)); intro gb7000 hg w7001 hbox hb; have n0_ := Aside0.mk (Kd.R_below (rz HO_3.out) hb); have n1_ := Aside0.mk (blk_below (g := gb397) (o := .cells #[.slice A0_0 l0_0.length c0_0, .slice A0_1 l0_1.length c0_1, .slice A0_2 l0_2.length c0_2, .slice A0_3 l0_3.length c0_3, .slice (some ad401) l0_4.length c0_4] 36 (0, 0)) (oz BK397.out) hb); have n2_ := Aside0.mk (below_step zt29 hb); have n3_ := Aside0.mk (hbox); have n4_ := Aside0.mk ((by rw [hg]; exact (below_size zt29) : w.heap.size ≤ gb7000)); have n5_ := Aside0.mk ((by rw [hg]; exact (below_size zt29) : w.heap.size ≤ gb7000)); have n6_ := Aside0.mk ((by rw [hg]; exact Nat.ne_of_lt (blk_lt (g := gb397) (o := .cells #[.slice A0_0 l0_0.length c0_0, .slice A0_1 l0_1.length c0_1, .slice A0_2 l0_2.length c0_2, .slice A0_3 l0_3.length c0_3, .slice (some ad401) l0_4.length c0_4] 36 (0, 0)) (oz BK397.out)) : gb397 ≠ gb7000)); have n7_ := Aside0.mk ((by rw [hg]; exact Nat.ne_of_gt (blk_lt (g := gb397) (o := .cells #[.slice A0_0 l0_0.length c0_0, .slice A0_1 l0_1.length c0_1, .slice A0_2 l0_2.length c0_2, .slice A0_3 l0_3.length c0_3, .slice (some ad401) l0_4.length c0_4] 36 (0, 0)) (oz BK397.out)) : gb7000 ≠ gb397)); clear HO_3; clear BK397; clear HB; have HO_3 := n0_; have BK397 := n1_; have HB := n2_; have BK7000 := n3_; have GW7000 := n4_; have GE7000 := n5_; have NB7002_402 := n6_; have NB7000_397 := n7_; clear n0_ n1_ n2_ n3_ n4_ n5_ n6_ n7_; clear hb hbox hg; have hnb7003 := NB7000_397.out; have hnc7003 := NB7002_402.out; have hcz7004_0 : w7001.cell? ⟨gb7000, 0, none⟩ = some (.int .i64 0) := (blk_cell BK7000.out 0).trans rfl; have hcz7004_1 : w7001.cell? ⟨gb7000, 1, none⟩ = some (.int .i64 0) := (blk_cell BK7000.out 1).trans rfl; have hcz7004_2 : w7001.cell? ⟨gb7000, 2, none⟩ = some (.string (⟨#[]⟩ : ByteArray)) := (blk_cell BK7000.out 2).trans rfl; have hcz7004_3 : w7001.cell? ⟨gb7000, 3, none⟩ = some (.string (⟨#[]⟩ : ByteArray)) := (blk_cell BK7000.out 3).trans rfl; have hcz7004_4 : w7001.cell? ⟨gb7000, 4, none⟩ = some (.int .i64 0) := (blk_cell BK7000.out 4).trans rfl; have hcz7004_5 : w7001.cell? ⟨gb7000, 5, none⟩ = some (.int .i64 0) := (blk_cell BK7000.out 5).trans rfl; have hfz7004_0 := blk_frozen BK7000.out 0; have hfz7004_1 := blk_frozen BK7000.out 1; have hfz7004_2 := blk_frozen BK7000.out 2; have hfz7004_3 := blk_frozen BK7000.out 3; have hfz7004_4 := blk_frozen BK7000.out 4; have hfz7004_5 := blk_frozen BK7000.out 5)); first | go_quiet (fail) | (go_roundg k1; (case measure => have := HK1.out; omega); (case rel => exact ⟨(y403), (wrap64 (x10_1 + 1)), zt9, H', ⟨by have := HK1.out; omega⟩, ⟨zt22⟩, ⟨by (with_reducible repeat (first | refine blk_drewN ?_ _ | refine blk_drew ?_ | refine blk_alloc ?_ _)); exact BK397.out⟩, ⟨zt25⟩⟩)) | (go_roundg k1; (case measure => have := HK1.out; omega); (case rel => exact ⟨(y406), (wrap64 (x10_1 + 1)), zt9, H', ⟨by have := HK1.out; omega⟩, ⟨zt22⟩, ⟨by (with_reducible repeat (first | refine blk_drewN ?_ _ | refine blk_drew ?_ | refine blk_alloc ?_ _)); exact BK397.out⟩, ⟨zt25⟩⟩)) | (go_roundg k1; (case measure => have := HK1.out; omega); (case rel => exact ⟨(x3_1), (wrap64 (x10_1 + 1)), zt9, H', ⟨by have := HK1.out; omega⟩, ⟨by (with_reducible repeat (first | apply Kd.R_alloc | apply Kd.R_drewN | apply Kd.R_drew)); exact Kd.R_mono (Kd.R_far (p := ⟨gb7000, 5, none⟩) (Kd.R_far (p := ⟨gb7000, 4, none⟩) (Kd.R_far (p := ⟨gb7000, 3, none⟩) (Kd.R_far (p := ⟨gb7000, 2, none⟩) (Kd.R_far (p := ⟨gb7000, 1, none⟩) (Kd.R_far (p := ⟨gb7000, 0, none⟩) (Kd.R_types HO_3.out BK7000.out (by decide)) (fun _ hk => hk.2) (.int .i64 ((rd_T50 l0_4 x10_1).f0))) (fun _ hk => hk.2) (.int .i64 ((rd_T50 l0_4 x10_1).f1))) (fun _ hk => hk.2) (.string ((rd_T50 l0_4 x10_1).f2))) (fun _ hk => hk.2) (.string ((rd_T50 l0_4 x10_1).f3))) (fun _ hk => hk.2) (.int .i64 ((rd_T50 l0_4 x10_1).f4))) (fun _ hk => hk.2) (.int .i64 ((rd_T50 l0_4 x10_1).f5))) (fun _ hk => trivial)⟩, ⟨by (with_reducible repeat (first | refine blk_drewN ?_ _ | refine blk_drew ?_ | refine blk_alloc ?_ _)); refine blk_far ?_ NB7002_402.out _; (with_reducible repeat (first | refine blk_drewN ?_ _ | refine blk_drew ?_ | refine blk_alloc ?_ _)); refine blk_far ?_ NB7002_402.out _; (with_reducible repeat (first | refine blk_drewN ?_ _ | refine blk_drew ?_ | refine blk_alloc ?_ _)); refine blk_far ?_ NB7002_402.out _; (with_reducible repeat (first | refine blk_drewN ?_ _ | refine blk_drew ?_ | refine blk_alloc ?_ _)); refine blk_far ?_ NB7002_402.out _; (with_reducible repeat (first | refine blk_drewN ?_ _ | refine blk_drew ?_ | refine blk_alloc ?_ _)); refine blk_far ?_ NB7002_402.out _; (with_reducible repeat (first | refine blk_drewN ?_ _ | refine blk_drew ?_ | refine blk_alloc ?_ _)); refine blk_far ?_ NB7002_402.out _; (with_reducible repeat (first | refine blk_drewN ?_ _ | refine blk_drew ?_ | refine blk_alloc ?_ _)); exact BK397.out⟩, ⟨zt25⟩⟩)) | (go_ret; exact ⟨_, zt8, zt27, zt29⟩))

/-! ### impl_localExps: function 36 -/
def impl_localExps.l0 : Nat → List ByteArray → List (S55) → Int → Int → Option (List ByteArray)
 | 0, _, _, _, _ => none
 | k + 1, x3, x8, x9, x10 => if x10 < x9 then (if 0 ≤ x10 then (if x10 < (x8.length : Int) then (if ((rd_T55 x8 x10).f0) = 1 then (if x3.length < 8796093022208 then (impl_localExps.l0 k (x3 ++ [(rd_T55 x8 x10).f2]) x8 x9 (wrap64 (x10 + 1))) else (none)) else (impl_localExps.l0 k x3 x8 x9 (wrap64 (x10 + 1)))) else (none)) else (none)) else (some x3)
def impl_localExps.f (k : Nat) (l0_0 : List ByteArray) (l0_1 : List (S73)) (l0_2 : List (S55)) (l0_3 : List (S53)) (l0_4 : List (S50)) : Option (List ByteArray) := impl_localExps.l0 k (([] : List ByteArray)) l0_2 (l0_2.length : Int) 0
theorem impl_localExps.mono_l : ∀ k, (∀ y0 y1 y2 y3, LeO (impl_localExps.l0 k y0 y1 y2 y3) (impl_localExps.l0 (k + 1) y0 y1 y2 y3))
 | 0 => fun _ _ _ _ r h => by simp [impl_localExps.l0] at h
 | k + 1 => by
  have ih0 := impl_localExps.mono_l k
  ·intro y0 y1 y2 y3
   unfold impl_localExps.l0
   repeat' (first | (with_reducible first | exact ih0 _ _ _ _ | exact LeO.refl _ | exact LeO.none _ | refine LeO.ite ?_ ?_ | refine LeO.bind ?_ (fun _ => ?_)) | exact LeO.none _ | refine LeO.ite ?_ ?_ | refine LeO.bind ?_ (fun _ => ?_))
theorem impl_localExps.mono : ∀ a0 a1 a2 a3 a4 k, LeO (impl_localExps.f k a0 a1 a2 a3 a4) (impl_localExps.f (k + 1) a0 a1 a2 a3 a4) := by
 intro a0 a1 a2 a3 a4 k
 have ih0 := impl_localExps.mono_l k
 unfold impl_localExps.f
 repeat' (first | (with_reducible first | exact ih0 _ _ _ _ | exact LeO.refl _ | exact LeO.none _ | refine LeO.ite ?_ ?_ | refine LeO.bind ?_ (fun _ => ?_)) | exact LeO.none _ | refine LeO.ite ?_ ?_ | refine LeO.bind ?_ (fun _ => ?_))
set_option maxHeartbeats 8000000 in
set_option maxRecDepth 100000 in
theorem impl_localExps.calls (k : Nat) (A0_0 : Option Addr) (c0_0 : Nat) (l0_0 : List ByteArray) (A0_1 : Option Addr) (c0_1 : Nat) (l0_1 : List (S73)) (A0_2 : Option Addr) (c0_2 : Nat) (l0_2 : List (S55)) (A0_3 : Option Addr) (c0_3 : Nat) (l0_3 : List (S53)) (A0_4 : Option Addr) (c0_4 : Nat) (l0_4 : List (S50)) (r : List ByteArray) (w : World) (hr0_0 : Kd.C Kd.string w A0_0 l0_0.length l0_0) (hc0_0 : l0_0.length ≤ c0_0) (hr0_1 : Kd.C k73 w A0_1 l0_1.length l0_1) (hc0_1 : l0_1.length ≤ c0_1) (hr0_2 : Kd.C k55 w A0_2 l0_2.length l0_2) (hc0_2 : l0_2.length ≤ c0_2) (hr0_3 : Kd.C k53 w A0_3 l0_3.length l0_3) (hc0_3 : l0_3.length ≤ c0_3) (hr0_4 : Kd.C k50 w A0_4 l0_4.length l0_4) (hc0_4 : l0_4.length ≤ c0_4) (h : impl_localExps.f k l0_0 l0_1 l0_2 l0_3 l0_4 = some r) :
  Calls Try.prog 36 #[.agg #[.slice A0_0 l0_0.length c0_0, .slice A0_1 l0_1.length c0_1, .slice A0_2 l0_2.length c0_2, .slice A0_3 l0_3.length c0_3, .slice A0_4 l0_4.length c0_4]] w fun e w' => ∃ v0_ : Value, e = .returned (v0_) ∧ Kd.R Kd.string 9 w' w.heap.size (fun _ => True) v0_ r ∧ Below w.heap.size w w' := by
 have hu36 := Try.underlying36
 have hu55 := Try.underlying55
 have HR0_0 := Aside0.mk hr0_0
 have HC0_0 := Aside0.mk hc0_0
 clear hr0_0 hc0_0
 have HR0_1 := Aside0.mk hr0_1
 have HC0_1 := Aside0.mk hc0_1
 clear hr0_1 hc0_1
 have HR0_2 := Aside0.mk hr0_2
 have HC0_2 := Aside0.mk hc0_2
 clear hr0_2 hc0_2
 have HR0_3 := Aside0.mk hr0_3
 have HC0_3 := Aside0.mk hc0_3
 clear hr0_3 hc0_3
 have HR0_4 := Aside0.mk hr0_4
 have HC0_4 := Aside0.mk hc0_4
 clear hr0_4 hc0_4
 have HB := Aside0.mk (Below.refl w.heap.size w)
 try unfold impl_localExps.f at h
 have H := h
 clear h
 obtain ⟨y410, hy410⟩ : ∃ y_ : List ByteArray, y_ = (([] : List ByteArray)) := ⟨_, rfl⟩
 replace H : (impl_localExps.l0 k y410 l0_2 (l0_2.length : Int) 0) = some r := by first | (rw [hy410]; with_reducible exact H) | (have H2_ := (Option.bind_some _ _).symm.trans H; rw [hy410]; with_reducible exact H2_) | (have H2_ := (Option.bind_some _ _).symm.trans H; with_reducible exact H2_) | with_reducible exact H | (rw [hy410]; exact H) | exact H
 have Ny410 := Aside0.mk hy410
 clear hy410
 have H' := Aside0.mk H
 clear H
 go_enter Try.func36, Try.ntmps36
 go_wp2_with (first | ((with_reducible refine gate_dst (N := 1) rfl ?_); refine box_event ?hg (N := 1) ?hd (cs := #[.slice A0_0 l0_0.length c0_0, .slice A0_1 l0_1.length c0_1, .slice A0_2 l0_2.length c0_2, .slice A0_3 l0_3.length c0_3, .slice A0_4 l0_4.length c0_4]) (t := 36) ?hr ?_; (case hd => rfl); (case hg => rfl); (case hr => first | (go_simp; done) | (go_simp; rfl)); intro gb409 hg w2 hbox hb; have n0_ := Aside0.mk (below_step zt3 hb); have n1_ := Aside0.mk (hbox); have n2_ := Aside0.mk ((zt6 : w.heap.size ≤ gb409)); have n3_ := Aside0.mk ((zt6 : w.heap.size ≤ gb409)); clear HB; have HB := n0_; have BK409 := n1_; have GW409 := n2_; have GE409 := n3_; clear n0_ n1_ n2_ n3_; clear hb hbox hg) | ((with_reducible refine gate_dst (N := 6) rfl ?_); refine Kd.R_lit Kd.string _ 9 ?hg (N := 6) ?hd (xs := ([] : List ByteArray)) (inner := []) (ok := fun _ => True) (okp := fun _ => True) ?hr ?hp (fun _ hk => hk) trivial (Below.refl _ _) (Nat.le_refl _) (by simp) ?_; (case hd => rfl); (case hg => rfl); (case hr => first | (go_simp; done) | (go_simp; rfl)); (case hp => exact (Reps.none _ _)); intro v411 w3 ho4 hb hg_ hnew_; clear hg_ hnew_; (first | rw [← Ny410.out] at ho4 | (simp only [Int.reduceToNat] at ho4; rw [← Ny410.out] at ho4)); have n0_ := Aside0.mk (Kd.R_lower ho4 (below_size zt30)); have n1_ := Aside0.mk (blk_below (g := gb409) (o := .cells #[.slice A0_0 l0_0.length c0_0, .slice A0_1 l0_1.length c0_1, .slice A0_2 l0_2.length c0_2, .slice A0_3 l0_3.length c0_3, .slice A0_4 l0_4.length c0_4] 36 (0, 0)) (oz BK409.out) hb); have n2_ := Aside0.mk (below_step zt30 hb); clear BK409; clear HB; have HO412 := n0_; have BK409 := n1_; have HB := n2_; clear n0_ n1_ n2_; clear hb ho4; have hcz5_0 : w3.cell? ⟨gb409, 0, none⟩ = some (.slice A0_0 l0_0.length c0_0) := (blk_cell BK409.out 0).trans rfl; have hcz5_1 : w3.cell? ⟨gb409, 1, none⟩ = some (.slice A0_1 l0_1.length c0_1) := (blk_cell BK409.out 1).trans rfl; have hcz5_2 : w3.cell? ⟨gb409, 2, none⟩ = some (.slice A0_2 l0_2.length c0_2) := (blk_cell BK409.out 2).trans rfl; have hcz5_3 : w3.cell? ⟨gb409, 3, none⟩ = some (.slice A0_3 l0_3.length c0_3) := (blk_cell BK409.out 3).trans rfl; have hcz5_4 : w3.cell? ⟨gb409, 4, none⟩ = some (.slice A0_4 l0_4.length c0_4) := (blk_cell BK409.out 4).trans rfl; have hfz5_0 := blk_frozen BK409.out 0; have hfz5_1 := blk_frozen BK409.out 1; have hfz5_2 := blk_frozen BK409.out 2; have hfz5_3 := blk_frozen BK409.out 3; have hfz5_4 := blk_frozen BK409.out 4))
 go_loopg [3, 10] k (fun kq v3 v10 w' => ∃ (x3_1 : List ByteArray) (x10_1 : Int), v10 = .int .i64 x10_1 ∧ Aside0 (impl_localExps.l0 kq x3_1 l0_2 (l0_2.length : Int) x10_1 = some r) ∧ Aside0 (kq ≤ k) ∧ Aside0 (Kd.R Kd.string 9 w' w.heap.size (fun _ => True) v3 x3_1) ∧ Aside0 (w'.heap[gb409]? = some (.cells #[(.slice A0_0 l0_0.length c0_0), (.slice A0_1 l0_1.length c0_1), (.slice A0_2 l0_2.length c0_2), (.slice A0_3 l0_3.length c0_3), (.slice A0_4 l0_4.length c0_4)] 36 (0, 0))) ∧ Aside0 (Below w.heap.size w w'))
 case atStart => exact ⟨(y410), (0), zt9, H', ⟨Nat.le_refl _⟩, ⟨by (with_reducible repeat (first | apply Kd.R_alloc | apply Kd.R_drewN | apply Kd.R_drew)); exact HO412.out⟩, ⟨by (with_reducible repeat (first | refine blk_drewN ?_ _ | refine blk_drew ?_ | refine blk_alloc ?_ _)); exact BK409.out⟩, ⟨zt30⟩⟩
 case round =>
  clear H'
  try clear p2
  try clear c3
  try clear hcz5_0
  try clear hcz5_1
  try clear hcz5_2
  try clear hcz5_3
  try clear hcz5_4
  try clear hfz5_0
  try clear hfz5_1
  try clear hfz5_2
  try clear hfz5_3
  try clear hfz5_4
  obtain ⟨x3_1, x10_1, rfl, HA, HK1, HO_3, BK409, HB⟩ := hrel
  cases gk with
  | zero => exact absurd HA.out (by simp [impl_localExps.l0])
  | succ k1 =>
   have H := HA.out
   clear HA
   simp only [impl_localExps.l0] at H
   by_cases c6 : x10_1 < (l0_2.length : Int)
   rw [if_pos c6] at H
   have c6b0 := decide_eq_true c6
   clear c6
   replace H := it0 H
   obtain ⟨c7, H⟩ := H
   have c7b0 : decide (0 ≤ x10_1) = true := decide_eq_true c7
   clear c7
   replace H := it0 H
   obtain ⟨c8, H⟩ := H
   have c8b0 := decide_eq_true c8
   clear c8
   by_cases c9 : ((rd_T55 l0_2 x10_1).f0) = 1
   rw [if_pos c9] at H
   have c9b0 := beq_iff_eq.mpr c9
   have c9b1 := bne_eq_false_iff_eq.mpr c9
   clear c9
   replace H := it0 H
   obtain ⟨c10, H⟩ := H
   have LMc10 := Aside0.mk c10
   clear c10
   obtain ⟨y415, hy415⟩ : ∃ y_ : List ByteArray, y_ = (x3_1 ++ [(rd_T55 l0_2 x10_1).f2]) := ⟨_, rfl⟩
   replace H : (impl_localExps.l0 k1 y415 l0_2 (l0_2.length : Int) (wrap64 (x10_1 + 1))) = some r := by first | (rw [hy415]; with_reducible exact H) | (have H2_ := (Option.bind_some _ _).symm.trans H; rw [hy415]; with_reducible exact H2_) | (have H2_ := (Option.bind_some _ _).symm.trans H; with_reducible exact H2_) | with_reducible exact H | (rw [hy415]; exact H) | exact H
   have Ny415 := Aside0.mk hy415
   clear hy415
   have H' := Aside0.mk H
   clear H
   have p413 : 0 ≤ (x10_1 : Int) := of_decide_eq_true zt4
   have q413 : x10_1 < (l0_2.length : Int) := of_decide_eq_true zt4
   obtain ⟨ad413, e413, hx413_0, hx413_1, hx413_2, hx413_3⟩ := at_T55 HR0_2.out x10_1 p413 q413
   cases e413
   replace hx413_0 := (HB.out.cell (World.block_lt_of_cell? w _ hx413_0)).trans hx413_0
   replace hx413_1 := (HB.out.cell (World.block_lt_of_cell? w _ hx413_1)).trans hx413_1
   replace hx413_2 := (HB.out.cell (World.block_lt_of_cell? w _ hx413_2)).trans hx413_2
   replace hx413_3 := (HB.out.cell (World.block_lt_of_cell? w _ hx413_3)).trans hx413_3
   replace p413 := eq_true p413
   replace q413 := eq_true q413
   rotate_left
   rw [if_neg c9] at H
   have c9b0 := beq_eq_false_iff_ne.mpr c9
   have c9b1 := bne_iff_ne.mpr c9
   have H' := Aside0.mk H
   clear H
   have p413 : 0 ≤ (x10_1 : Int) := of_decide_eq_true zt4
   have q413 : x10_1 < (l0_2.length : Int) := of_decide_eq_true zt4
   obtain ⟨ad413, e413, hx413_0, hx413_1, hx413_2, hx413_3⟩ := at_T55 HR0_2.out x10_1 p413 q413
   cases e413
   replace hx413_0 := (HB.out.cell (World.block_lt_of_cell? w _ hx413_0)).trans hx413_0
   replace hx413_1 := (HB.out.cell (World.block_lt_of_cell? w _ hx413_1)).trans hx413_1
   replace hx413_2 := (HB.out.cell (World.block_lt_of_cell? w _ hx413_2)).trans hx413_2
   replace hx413_3 := (HB.out.cell (World.block_lt_of_cell? w _ hx413_3)).trans hx413_3
   replace p413 := eq_true p413
   replace q413 := eq_true q413
   rotate_left
   rw [if_neg c6] at H
   have c6b0 := decide_eq_false c6
   clear c6
   obtain rfl := Option.some.inj H
   rotate_left
   all_goals
    repeat (go_wp2_with (first | ((with_reducible refine gate_builtin (b := .append) (xs := #[.tmp 17, .tmp 20]) rfl ?_); at_builtin; refine Kd.R_append Kd.string (w0 := w) w.heap.size rfl (.tmp 17) (.tmp 20) 22 9 (.string ⟨#[]⟩) 16 rfl Try.underlying22 info9 rfl (by decide) (by omega) u3 x3_1 ((rd_T55 l0_2 x10_1).f2) [.string ((rd_T55 l0_2 x10_1).f2)] (fun _ => True) (fun _ => False) rfl zt43 ?aP (fun _ hk => hk.elim) ?aF ?aO ?aB ?aS ?aL ?_; (case aP => exact rfl); (case aB => exact zt37); (case aF => exact (fun _ _ => trivial)); (case aO => exact (by (with_reducible repeat (first | apply Kd.R_alloc | apply Kd.R_drewN | apply Kd.R_drew)); exact Kd.R_mono (Kd.R_far (p := ⟨gb7000, 3, none⟩) (Kd.R_far (p := ⟨gb7000, 2, none⟩) (Kd.R_far (p := ⟨gb7000, 1, none⟩) (Kd.R_far (p := ⟨gb7000, 0, none⟩) (Kd.R_types HO_3.out BK7000.out (by decide)) (fun _ hk => hk.2) (.int .i64 ((rd_T55 l0_2 x10_1).f0))) (fun _ hk => hk.2) (.string ((rd_T55 l0_2 x10_1).f1))) (fun _ hk => hk.2) (.string ((rd_T55 l0_2 x10_1).f2))) (fun _ hk => hk.2) (.string ((rd_T55 l0_2 x10_1).f3))) (fun _ hk => trivial))); (case aS => exact (below_size zt37)); (case aL => have := LMc10.out; omega); intro v7005 w7006 ho hb hg hat; rw [← Ny415.out] at ho; have n0_ := Aside0.mk (blk_grown (g := gb409) (o := .cells #[.slice A0_0 l0_0.length c0_0, .slice A0_1 l0_1.length c0_1, .slice (some ad413) l0_2.length c0_2, .slice A0_3 l0_3.length c0_3, .slice A0_4 l0_4.length c0_4] 36 (0, 0)) (by (with_reducible repeat (first | refine blk_drewN ?_ _ | refine blk_drew ?_ | refine blk_alloc ?_ _)); refine blk_far ?_ NB7002_414.out _; (with_reducible repeat (first | refine blk_drewN ?_ _ | refine blk_drew ?_ | refine blk_alloc ?_ _)); refine blk_far ?_ NB7002_414.out _; (with_reducible repeat (first | refine blk_drewN ?_ _ | refine blk_drew ?_ | refine blk_alloc ?_ _)); refine blk_far ?_ NB7002_414.out _; (with_reducible repeat (first | refine blk_drewN ?_ _ | refine blk_drew ?_ | refine blk_alloc ?_ _)); refine blk_far ?_ NB7002_414.out _; (with_reducible repeat (first | refine blk_drewN ?_ _ | refine blk_drew ?_ | refine blk_alloc ?_ _)); exact BK409.out) hg (Kd.R_ne HO_3.out BK409.out (by decide))); have n1_ := Aside0.mk (blk_grown (g := gb7000) (o := .cells #[.int .i64 ((rd_T55 l0_2 x10_1).f0), .string ((rd_T55 l0_2 x10_1).f1), .string ((rd_T55 l0_2 x10_1).f2), .string ((rd_T55 l0_2 x10_1).f3)] 55 (0, 0)) (by (with_reducible repeat (first | refine blk_drewN ?_ _ | refine blk_drew ?_ | refine blk_alloc ?_ _)); refine blk_put (cs := #[.int .i64 ((rd_T55 l0_2 x10_1).f0), .string ((rd_T55 l0_2 x10_1).f1), .string ((rd_T55 l0_2 x10_1).f2), .string (⟨#[]⟩ : ByteArray)]) ?_ 3 _ rfl; (with_reducible repeat (first | refine blk_drewN ?_ _ | refine blk_drew ?_ | refine blk_alloc ?_ _)); refine blk_put (cs := #[.int .i64 ((rd_T55 l0_2 x10_1).f0), .string ((rd_T55 l0_2 x10_1).f1), .string (⟨#[]⟩ : ByteArray), .string (⟨#[]⟩ : ByteArray)]) ?_ 2 _ rfl; (with_reducible repeat (first | refine blk_drewN ?_ _ | refine blk_drew ?_ | refine blk_alloc ?_ _)); refine blk_put (cs := #[.int .i64 ((rd_T55 l0_2 x10_1).f0), .string (⟨#[]⟩ : ByteArray), .string (⟨#[]⟩ : ByteArray), .string (⟨#[]⟩ : ByteArray)]) ?_ 1 _ rfl; (with_reducible repeat (first | refine blk_drewN ?_ _ | refine blk_drew ?_ | refine blk_alloc ?_ _)); refine blk_put (cs := #[.int .i64 0, .string (⟨#[]⟩ : ByteArray), .string (⟨#[]⟩ : ByteArray), .string (⟨#[]⟩ : ByteArray)]) ?_ 0 _ rfl; (with_reducible repeat (first | refine blk_drewN ?_ _ | refine blk_drew ?_ | refine blk_alloc ?_ _)); exact BK7000.out) hg (Kd.R_ne HO_3.out BK7000.out (by decide))); have n2_ := Aside0.mk (hb); have n3_ := Aside0.mk (ho); clear BK409; clear BK7000; clear HB; clear HO_3; have BK409 := n0_; have BK7000 := n1_; have HB := n2_; have HO7007 := n3_; clear n0_ n1_ n2_ n3_; clear ho hb hg hat) | ((with_reducible refine gate_dst (N := 5) rfl ?_); refine box_event ?hg (N := 5) ?hd (cs := #[.int .i64 0, .string (⟨#[]⟩ : ByteArray), .string (⟨#[]⟩ : ByteArray), .string (⟨#[]⟩ : ByteArray)]) (t := 55) ?hr ?_; (case hd => rfl); (case hg => rfl); (case hr => first | (go_simp; done) | (go_simp; rfl)); intro gb7000 hg w7001 hbox hb; have n0_ := Aside0.mk (Kd.R_below (rz HO_3.out) hb); have n1_ := Aside0.mk (blk_below (g := gb409) (o := .cells #[.slice A0_0 l0_0.length c0_0, .slice A0_1 l0_1.length c0_1, .slice (some ad413) l0_2.length c0_2, .slice A0_3 l0_3.length c0_3, .slice A0_4 l0_4.length c0_4] 36 (0, 0)) (oz BK409.out) hb); have n2_ := Aside0.mk (below_step zt30 hb); have n3_ := Aside0.mk (hbox); have n4_ := Aside0.mk ((by rw [hg]; exact (below_size zt30) : w.heap.size ≤ gb7000)); have n5_ := Aside0.mk ((by rw [hg]; exact (below_size zt30) : w.heap.size ≤ gb7000)); have n6_ := Aside0.mk ((by rw [hg]; exact Nat.ne_of_lt (blk_lt (g := gb409) (o := .cells #[.slice A0_0 l0_0.length c0_0, .slice A0_1 l0_1.length c0_1, .slice (some ad413) l0_2.length c0_2, .slice A0_3 l0_3.length c0_3, .slice A0_4 l0_4.length c0_4] 36 (0, 0)) (oz BK409.out)) : gb409 ≠ gb7000)); have n7_ := Aside0.mk ((by rw [hg]; exact Nat.ne_of_gt (blk_lt (g := gb409) (o := .cells #[.slice A0_0 l0_0.length c0_0, .slice A0_1 l0_1.length c0_1, .slice (some ad413) l0_2.length c0_2, .slice A0_3 l0_3.length c0_3, .slice A0_4 l0_4.length c0_4] 36 (0, 0)) (oz BK409.out)) : gb7000 ≠ gb409)); clear HO_3; clear BK409; clear HB; have HO_3 := n0_; have BK409 := n1_; have HB := n2_; have BK7000 := n3_; have GW7000 := n4_; have GE7000 := n5_; have NB7002_414 := n6_; have NB7000_409 := n7_; clear n0_ n1_ n2_ n3_ n4_ n5_ n6_ n7_; clear hb hbox hg; have hnb7003 := NB7000_409.out; have hnc7003 := NB7002_414.out; have hcz7004_0 : w7001.cell? ⟨gb7000, 0, none⟩ = some (.int .i64 0) := (blk_cell BK7000.out 0).trans rfl; have hcz7004_1 : w7001.cell? ⟨gb7000, 1, none⟩ = some (.string (⟨#[]⟩ : ByteArray)) := (blk_cell BK7000.out 1).trans rfl; have hcz7004_2 : w7001.cell? ⟨gb7000, 2, none⟩ = some (.string (⟨#[]⟩ : ByteArray)) := (blk_cell BK7000.out 2).trans rfl; have hcz7004_3 : w7001.cell? ⟨gb7000, 3, none⟩ = some (.string (⟨#[]⟩ : ByteArray)) := (blk_cell BK7000.out 3).trans rfl; have hfz7004_0 := blk_frozen BK7000.out 0; have hfz7004_1 := blk_frozen BK7000.out 1; have hfz7004_2 := blk_frozen BK7000.out 2; have hfz7004_3 := blk_frozen BK7000.out 3)); first | go_quiet (fail) | (go_roundg k1; (case measure => have := HK1.out; omega); (case rel => exact ⟨(y415), (wrap64 (x10_1 + 1)), zt9, H', ⟨by have := HK1.out; omega⟩, ⟨zt22⟩, ⟨by (with_reducible repeat (first | refine blk_drewN ?_ _ | refine blk_drew ?_ | refine blk_alloc ?_ _)); exact BK409.out⟩, ⟨zt37⟩⟩)) | (go_roundg k1; (case measure => have := HK1.out; omega); (case rel => exact ⟨(x3_1), (wrap64 (x10_1 + 1)), zt9, H', ⟨by have := HK1.out; omega⟩, ⟨by (with_reducible repeat (first | apply Kd.R_alloc | apply Kd.R_drewN | apply Kd.R_drew)); exact Kd.R_mono (Kd.R_far (p := ⟨gb7000, 3, none⟩) (Kd.R_far (p := ⟨gb7000, 2, none⟩) (Kd.R_far (p := ⟨gb7000, 1, none⟩) (Kd.R_far (p := ⟨gb7000, 0, none⟩) (Kd.R_types HO_3.out BK7000.out (by decide)) (fun _ hk => hk.2) (.int .i64 ((rd_T55 l0_2 x10_1).f0))) (fun _ hk => hk.2) (.string ((rd_T55 l0_2 x10_1).f1))) (fun _ hk => hk.2) (.string ((rd_T55 l0_2 x10_1).f2))) (fun _ hk => hk.2) (.string ((rd_T55 l0_2 x10_1).f3))) (fun _ hk => trivial)⟩, ⟨by (with_reducible repeat (first | refine blk_drewN ?_ _ | refine blk_drew ?_ | refine blk_alloc ?_ _)); refine blk_far ?_ NB7002_414.out _; (with_reducible repeat (first | refine blk_drewN ?_ _ | refine blk_drew ?_ | refine blk_alloc ?_ _)); refine blk_far ?_ NB7002_414.out _; (with_reducible repeat (first | refine blk_drewN ?_ _ | refine blk_drew ?_ | refine blk_alloc ?_ _)); refine blk_far ?_ NB7002_414.out _; (with_reducible repeat (first | refine blk_drewN ?_ _ | refine blk_drew ?_ | refine blk_alloc ?_ _)); refine blk_far ?_ NB7002_414.out _; (with_reducible repeat (first | refine blk_drewN ?_ _ | refine blk_drew ?_ | refine blk_alloc ?_ _)); exact BK409.out⟩, ⟨zt37⟩⟩)) | (go_ret; exact ⟨_, zt8, zt27, zt30⟩))

/-! ### impl_Uses: function 9 (a contract of mine) -/
def impl_Uses.f (k : Nat) (l0 : List ByteArray) (l1 : List (S73)) (l2 : List (S55)) (l3 : List (S53)) (l4 : List (S50)) : Option (List ByteArray) :=
 (impl_plainUses.f k l0 l1 l2 l3 l4).bind fun a => (impl_memberUses.f k l0 l1 l2 l3 l4).bind fun b => (impl_localExps.f k l0 l1 l2 l3 l4).bind fun c => if [a, b, c].flatten.length ≤ 4398046511104 then Ytopicidanlienaa.RisingL.rising.f [a, b, c].flatten else none
theorem impl_Uses.mono : ∀ a0 a1 a2 a3 a4 k, LeO (impl_Uses.f k a0 a1 a2 a3 a4) (impl_Uses.f (k + 1) a0 a1 a2 a3 a4) := by
 intro a0 a1 a2 a3 a4 k
 unfold impl_Uses.f
 exact LeO.bind (impl_plainUses.mono _ _ _ _ _ _) (fun _ => LeO.bind (impl_memberUses.mono _ _ _ _ _ _) (fun _ => LeO.bind (impl_localExps.mono _ _ _ _ _ _) (fun _ => LeO.refl _)))
set_option maxHeartbeats 8000000 in
set_option maxRecDepth 100000 in
theorem impl_Uses.calls (k : Nat) (A0_0 : Option Addr) (c0_0 : Nat) (l0_0 : List ByteArray) (A0_1 : Option Addr) (c0_1 : Nat) (l0_1 : List (S73)) (A0_2 : Option Addr) (c0_2 : Nat) (l0_2 : List (S55)) (A0_3 : Option Addr) (c0_3 : Nat) (l0_3 : List (S53)) (A0_4 : Option Addr) (c0_4 : Nat) (l0_4 : List (S50)) (r : List ByteArray) (w : World) (hr0_0 : Kd.C Kd.string w A0_0 l0_0.length l0_0) (hc0_0 : l0_0.length ≤ c0_0) (hr0_1 : Kd.C k73 w A0_1 l0_1.length l0_1) (hc0_1 : l0_1.length ≤ c0_1) (hr0_2 : Kd.C k55 w A0_2 l0_2.length l0_2) (hc0_2 : l0_2.length ≤ c0_2) (hr0_3 : Kd.C k53 w A0_3 l0_3.length l0_3) (hc0_3 : l0_3.length ≤ c0_3) (hr0_4 : Kd.C k50 w A0_4 l0_4.length l0_4) (hc0_4 : l0_4.length ≤ c0_4) (h : impl_Uses.f k l0_0 l0_1 l0_2 l0_3 l0_4 = some r) :
  Calls Try.prog 9 #[.agg #[.slice A0_0 l0_0.length c0_0, .slice A0_1 l0_1.length c0_1, .slice A0_2 l0_2.length c0_2, .slice A0_3 l0_3.length c0_3, .slice A0_4 l0_4.length c0_4]] w fun e w' => ∃ v0_ : Value, e = .returned (v0_) ∧ Kd.R Kd.string 9 w' w.heap.size (fun _ => True) v0_ r ∧ Below w.heap.size w w' := by
 have hu36 := Try.underlying36
 unfold impl_Uses.f at h
 obtain ⟨a, e1, h⟩ := Option.bind_eq_some_iff.mp h
 obtain ⟨b, e2, h⟩ := Option.bind_eq_some_iff.mp h
 obtain ⟨c, e3, h⟩ := Option.bind_eq_some_iff.mp h
 by_cases hl : [a, b, c].flatten.length ≤ 4398046511104
 case neg => rw [if_neg hl] at h; cases h
 rw [if_pos hl] at h
 have HL := Aside0.mk hl
 have HE1 := Aside0.mk e1
 have HE2 := Aside0.mk e2
 have HE3 := Aside0.mk e3
 have HH := Aside0.mk h
 have HR0 := Aside0.mk hr0_0
 have HR1 := Aside0.mk hr0_1
 have HR2 := Aside0.mk hr0_2
 have HR3 := Aside0.mk hr0_3
 have HR4 := Aside0.mk hr0_4
 have HC0 := Aside0.mk hc0_0
 have HC1 := Aside0.mk hc0_1
 have HC2 := Aside0.mk hc0_2
 have HC3 := Aside0.mk hc0_3
 have HC4 := Aside0.mk hc0_4
 clear hl e1 e2 e3 h hr0_0 hr0_1 hr0_2 hr0_3 hr0_4 hc0_0 hc0_1 hc0_2 hc0_3 hc0_4
 have HB := Aside0.mk (Below.refl w.heap.size w)
 go_enter Try.func9, Try.ntmps9
 go_upto_region 1 with (first | ((with_reducible refine gate_dst (N := 1) rfl ?_); refine box_event ?hg (N := 1) ?hd (cs := #[.slice A0_0 l0_0.length c0_0, .slice A0_1 l0_1.length c0_1, .slice A0_2 l0_2.length c0_2, .slice A0_3 l0_3.length c0_3, .slice A0_4 l0_4.length c0_4]) (t := 36) ?hr ?_; (case hd => rfl); (case hg => rfl); (case hr => first | (go_simp; done) | (go_simp; rfl)); intro gb hg w2 hbox hb; have BK := Aside0.mk hbox; have HB2 := Aside0.mk (below_step HB.out hb); have HG := Aside0.mk (show w.heap.size ≤ gb by rw [hg]; exact Nat.le_refl _); clear hb hbox hg))
 obtain ⟨q0, q1, q2, q3, q4⟩ := Ytopicidanlienaa.UsesL.uses_cells BK.out
 have hb2 := HB2.out
 go_region_held3 (fun w' => w'.cell? ⟨gb, 0, none⟩ = some (.slice A0_0 l0_0.length c0_0) ∧ w'.cell? ⟨gb, 1, none⟩ = some (.slice A0_1 l0_1.length c0_1) ∧ w'.cell? ⟨gb, 2, none⟩ = some (.slice A0_2 l0_2.length c0_2) ∧ w'.cell? ⟨gb, 3, none⟩ = some (.slice A0_3 l0_3.length c0_3) ∧ w'.cell? ⟨gb, 4, none⟩ = some (.slice A0_4 l0_4.length c0_4) ∧ Below w.heap.size w w') (first | exact ⟨q0, q1, q2, q3, q4, (by first | exact hb2 | exact below_drew1 hb2)⟩ | exact ⟨q40, q41, q42, q43, q44, hb4⟩ | exact ⟨q60, q61, q62, q63, q64, hb6⟩ | exact ⟨q80, q81, q82, q83, q84, hb8⟩ | exact ⟨(Ytopicidanlienaa.UsesL.uses_cells (blk_alloc BK8.out _)).1, (Ytopicidanlienaa.UsesL.uses_cells (blk_alloc BK8.out _)).2.1, (Ytopicidanlienaa.UsesL.uses_cells (blk_alloc BK8.out _)).2.2.1, (Ytopicidanlienaa.UsesL.uses_cells (blk_alloc BK8.out _)).2.2.2.1, (Ytopicidanlienaa.UsesL.uses_cells (blk_alloc BK8.out _)).2.2.2.2, below_alloc hb8 _⟩ | exact ⟨q100, q101, q102, q103, q104, hb10⟩ | exact ⟨q110, q111, q112, q113, q114, hb11⟩) (first | (go_at_call 34; refine (impl_plainUses.calls k A0_0 c0_0 l0_0 A0_1 c0_1 l0_1 A0_2 c0_2 l0_2 A0_3 c0_3 l0_3 A0_4 c0_4 l0_4 a _ (Kd.C_below HR0.out (below_drew1 HB2.out)) HC0.out (Kd.C_below HR1.out (below_drew1 HB2.out)) HC1.out (Kd.C_below HR2.out (below_drew1 HB2.out)) HC2.out (Kd.C_below HR3.out (below_drew1 HB2.out)) HC3.out (Kd.C_below HR4.out (below_drew1 HB2.out)) HC4.out HE1.out).mono ?_; rintro e w4 ⟨v4, rfl, hR4, hB4⟩; obtain ⟨A4, c4, rfl, hl4, hC4⟩ := Ytopicidanlienaa.UsesL.uses_open hR4; have HB4 := Aside0.mk (below_step (below_drew1 HB2.out) hB4); have BK4 := Aside0.mk (blk_below (w := w2.drew) BK.out hB4); obtain ⟨q40, q41, q42, q43, q44⟩ := Ytopicidanlienaa.UsesL.uses_cells BK4.out; have hb4 := HB4.out; have KC4 := Aside0.mk hC4; have KL4 := Aside0.mk hl4; clear hR4 hB4 hC4 hl4) | (go_at_call 35; refine (impl_memberUses.calls k A0_0 c0_0 l0_0 A0_1 c0_1 l0_1 A0_2 c0_2 l0_2 A0_3 c0_3 l0_3 A0_4 c0_4 l0_4 b _ (Kd.C_below HR0.out HB4.out) HC0.out (Kd.C_below HR1.out HB4.out) HC1.out (Kd.C_below HR2.out HB4.out) HC2.out (Kd.C_below HR3.out HB4.out) HC3.out (Kd.C_below HR4.out HB4.out) HC4.out HE2.out).mono ?_; rintro e w6 ⟨v6, rfl, hR6, hB6⟩; obtain ⟨A6, c6, rfl, hl6, hC6⟩ := Ytopicidanlienaa.UsesL.uses_open hR6; have HB6 := Aside0.mk (below_step HB4.out hB6); have BK6 := Aside0.mk (blk_below BK4.out hB6); obtain ⟨q60, q61, q62, q63, q64⟩ := Ytopicidanlienaa.UsesL.uses_cells BK6.out; have hb6 := HB6.out; have KC6 := Aside0.mk (And.intro (Kd.C_below KC4.out hB6) hC6); have KL6 := Aside0.mk hl6; clear hR6 hB6 hC6 hl6) | (go_at_call 36; refine (impl_localExps.calls k A0_0 c0_0 l0_0 A0_1 c0_1 l0_1 A0_2 c0_2 l0_2 A0_3 c0_3 l0_3 A0_4 c0_4 l0_4 c _ (Kd.C_below HR0.out HB6.out) HC0.out (Kd.C_below HR1.out HB6.out) HC1.out (Kd.C_below HR2.out HB6.out) HC2.out (Kd.C_below HR3.out HB6.out) HC3.out (Kd.C_below HR4.out HB6.out) HC4.out HE3.out).mono ?_; rintro e w8 ⟨v8, rfl, hR8, hB8⟩; obtain ⟨A8, c8, rfl, hl8, hC8⟩ := Ytopicidanlienaa.UsesL.uses_open hR8; have HB8 := Aside0.mk (below_step HB6.out hB8); have BK8 := Aside0.mk (blk_below BK6.out hB8); obtain ⟨q80, q81, q82, q83, q84⟩ := Ytopicidanlienaa.UsesL.uses_cells BK8.out; have hb8 := HB8.out; have KC8 := Aside0.mk (And.intro (Kd.C_below KC6.out.1 hB8) (And.intro (Kd.C_below KC6.out.2 hB8) hC8)); have KL8 := Aside0.mk hl8; clear hR8 hB8 hC8 hl8) | (go_at_call 33; refine (Ytopicidanlienaa.UsesL.slices_Concat.calls (some ⟨w8.heap.size, 0, none⟩) 3 [a, b, c] _ (Ytopicidanlienaa.UsesL.uses_row (blk_new w8 _) KL4.out KL6.out KL8.out (Kd.C_alloc KC8.out.1 _) (Kd.C_alloc KC8.out.2.1 _) (Kd.C_alloc KC8.out.2.2 _)) (Nat.le_refl 3) (by simp) HL.out).mono ?_; rintro e w10 ⟨v10, rfl, hR10, hB10⟩; have HB10 := Aside0.mk (below_step (below_alloc HB8.out _) hB10); have BK10 := Aside0.mk (blk_below (blk_alloc BK8.out _) hB10); obtain ⟨q100, q101, q102, q103, q104⟩ := Ytopicidanlienaa.UsesL.uses_cells BK10.out; have hb10 := HB10.out; have HO10 := Aside0.mk (Kd.R_lower (Kd.R_mono (ok' := fun k => w8.heap.size ≤ k) (Kd.R_bound hR10) (fun k hk => Nat.le_trans (below_size (below_alloc (Below.refl _ _) _)) hk.2.1)) (below_size (below_alloc HB8.out _))); clear hR10 hB10) | (go_at_call 32; refine (Ytopicidanlienaa.RisingL.rising.calls (fun k => w8.heap.size ≤ k) v10 [a, b, c].flatten r w _ HB10.out HO10.out HH.out).mono ?_; rintro e w11 ⟨v11, rfl, hR11, hB11, hK11⟩; have HB11 := Aside0.mk hB11; have BK11 := Aside0.mk (blk_kept BK10.out hK11 (by have := blk_lt BK8.out; omega)); obtain ⟨q110, q111, q112, q113, q114⟩ := Ytopicidanlienaa.UsesL.uses_cells BK11.out; have hb11 := HB11.out; have HO11 := Aside0.mk (Kd.R_mono (ok' := fun _ => True) hR11 (fun _ _ => trivial)); clear hR11 hB11 hK11))
 go_wp2
 go_ret
 exact ⟨_, rfl, HO11.out, HB11.out⟩

/-! ### impl_rising: function 32 (a contract of mine) -/
def impl_rising.f (l0 : List ByteArray) : Option (List ByteArray) := Ytopicidanlienaa.RisingL.rising.f l0
theorem impl_rising.calls (P0_ : Nat → Prop) (u9000_ : Value) (l0 : List ByteArray) (r : List ByteArray) (w0 w : World) (hB : Below w0.heap.size w0 w) (ho0 : Kd.R Kd.string 9 w w0.heap.size P0_ u9000_ l0) (h : impl_rising.f l0 = some r) :
  Calls Try.prog 32 #[u9000_] w fun e w' => ∃ v0_ : Value, e = .returned (v0_) ∧ Kd.R Kd.string 9 w' w0.heap.size (fun k_ => (P0_ k_ ∨ w.heap.size ≤ k_)) v0_ r ∧ Below w0.heap.size w0 w' ∧ Kept w w' (fun k_ => P0_ k_) :=
 Ytopicidanlienaa.RisingL.rising.calls P0_ u9000_ l0 r w0 w hB ho0 h

/-! ### slices_Index_string_string: function 71 -/
def slices_Index_string_string.l0 : Nat → List ByteArray → ByteArray → Int → Int → Option (Int)
 | 0, _, _, _, _ => none
 | k + 1, x0, x1, x7, x8 => if x8 < x7 then (if 0 ≤ x8 then (if x8 < (x0.length : Int) then (if x1.toList = (rdOf ByteArray.empty x0 x8).toList then (some x8) else (slices_Index_string_string.l0 k x0 x1 x7 (wrap64 (x8 + 1)))) else (none)) else (none)) else (some (-1))
def slices_Index_string_string.f (k : Nat) (l0 : List ByteArray) (a1 : ByteArray) : Option (Int) := slices_Index_string_string.l0 k l0 a1 (l0.length : Int) 0
theorem slices_Index_string_string.mono_l : ∀ k, (∀ y0 y1 y2 y3, LeO (slices_Index_string_string.l0 k y0 y1 y2 y3) (slices_Index_string_string.l0 (k + 1) y0 y1 y2 y3))
 | 0 => fun _ _ _ _ r h => by simp [slices_Index_string_string.l0] at h
 | k + 1 => by
  have ih0 := slices_Index_string_string.mono_l k
  ·intro y0 y1 y2 y3
   unfold slices_Index_string_string.l0
   repeat' (first | (with_reducible first | exact ih0 _ _ _ _ | exact LeO.refl _ | exact LeO.none _ | refine LeO.ite ?_ ?_ | refine LeO.bind ?_ (fun _ => ?_)) | exact LeO.none _ | refine LeO.ite ?_ ?_ | refine LeO.bind ?_ (fun _ => ?_))
theorem slices_Index_string_string.mono : ∀ a0 a1 k, LeO (slices_Index_string_string.f k a0 a1) (slices_Index_string_string.f (k + 1) a0 a1) := by
 intro a0 a1 k
 have ih0 := slices_Index_string_string.mono_l k
 unfold slices_Index_string_string.f
 repeat' (first | (with_reducible first | exact ih0 _ _ _ _ | exact LeO.refl _ | exact LeO.none _ | refine LeO.ite ?_ ?_ | refine LeO.bind ?_ (fun _ => ?_)) | exact LeO.none _ | refine LeO.ite ?_ ?_ | refine LeO.bind ?_ (fun _ => ?_))

set_option maxHeartbeats 8000000 in
set_option maxRecDepth 100000 in
theorem slices_Index_string_string.calls (k : Nat) (A0 : Option Addr) (c0 : Nat) (l0 : List ByteArray) (a1 : ByteArray) (r : Int) (w : World) (hr0 : Kd.C Kd.string w A0 l0.length l0) (hc0 : l0.length ≤ c0) (h : slices_Index_string_string.f k l0 a1 = some r) :
  Calls Try.prog 71 #[.slice A0 l0.length c0, .string a1] w fun e w' => e = .returned (.int .i64 r) ∧ Drawn0 w w' := by
 have HR0 := Aside0.mk hr0
 have HC0 := Aside0.mk hc0
 clear hr0 hc0
 try unfold slices_Index_string_string.f at h
 have H := h
 clear h
 have H' := Aside0.mk H
 clear H
 go_enter Try.func71, Try.ntmps71
 go_wp2
 go_loopg [8] k (fun kq v8 w' => ∃ (x8_1 : Int), v8 = .int .i64 x8_1 ∧ Aside0 (slices_Index_string_string.l0 kq l0 a1 (l0.length : Int) x8_1 = some r) ∧ Aside0 (kq ≤ k) ∧ Drawn0 w w')
 case atStart => exact ⟨(0), zt9, H', ⟨Nat.le_refl _⟩, zt36⟩
 case round =>
  clear H'
  try clear p2
  obtain ⟨x8_1, rfl, HA, HK1, ⟨m1, rfl⟩⟩ := hrel
  cases gk with
  | zero => exact absurd HA.out (by simp [slices_Index_string_string.l0])
  | succ k1 =>
   have H := HA.out
   clear HA
   simp only [slices_Index_string_string.l0] at H
   by_cases c3 : x8_1 < (l0.length : Int)
   rw [if_pos c3] at H
   have c3b0 := decide_eq_true c3
   clear c3
   replace H := it0 H
   obtain ⟨c4, H⟩ := H
   have c4b0 : decide (0 ≤ x8_1) = true := decide_eq_true c4
   clear c4
   replace H := it0 H
   obtain ⟨c5, H⟩ := H
   have c5b0 := decide_eq_true c5
   clear c5
   by_cases c6 : a1.toList = (rdOf ByteArray.empty l0 x8_1).toList
   rw [if_pos c6] at H
   have c6b0 := beq_iff_eq.mpr c6
   have c6b1 := bne_eq_false_iff_eq.mpr c6
   clear c6
   obtain rfl := Option.some.inj H
   have p418 : 0 ≤ (x8_1 : Int) := of_decide_eq_true zt4
   have q418 : x8_1 < (l0.length : Int) := of_decide_eq_true zt4
   obtain ⟨ad418, e418, hx418_0⟩ := Kd.at_string HR0.out x8_1 p418 q418
   cases e418
   replace p418 := eq_true p418
   replace q418 := eq_true q418
   rotate_left
   rw [if_neg c6] at H
   have c6b0 := beq_eq_false_iff_ne.mpr c6
   have c6b1 := bne_iff_ne.mpr c6
   have H' := Aside0.mk H
   clear H
   have p418 : 0 ≤ (x8_1 : Int) := of_decide_eq_true zt4
   have q418 : x8_1 < (l0.length : Int) := of_decide_eq_true zt4
   obtain ⟨ad418, e418, hx418_0⟩ := Kd.at_string HR0.out x8_1 p418 q418
   cases e418
   replace p418 := eq_true p418
   replace q418 := eq_true q418
   rotate_left
   rw [if_neg c3] at H
   have c3b0 := decide_eq_false c3
   clear c3
   obtain rfl := Option.some.inj H
   rotate_left
   all_goals
    repeat (go_wp2; first | go_quiet (fail) | (go_ret; exact ⟨zt9, zt36⟩) | (go_roundg k1; (case measure => have := HK1.out; omega); (case rel => exact ⟨(wrap64 (x8_1 + 1)), zt9, H', ⟨by have := HK1.out; omega⟩, zt36⟩)))

/-! ### slices_Contains_string_string: function 47 -/
def slices_Contains_string_string.f (k : Nat) (l0 : List ByteArray) (a1 : ByteArray) : Option (Bool) := (slices_Index_string_string.f k l0 a1).bind fun t419 => (some (decide (t419 ≥ 0)))
theorem slices_Contains_string_string.mono : ∀ a0 a1 k, LeO (slices_Contains_string_string.f k a0 a1) (slices_Contains_string_string.f (k + 1) a0 a1) := by
 intro a0 a1 k
 unfold slices_Contains_string_string.f
 repeat' (first | (with_reducible first | exact slices_Index_string_string.mono _ _ _ | exact LeO.refl _ | exact LeO.none _ | refine LeO.ite ?_ ?_ | refine LeO.bind ?_ (fun _ => ?_)) | exact LeO.none _ | refine LeO.ite ?_ ?_ | refine LeO.bind ?_ (fun _ => ?_))
set_option maxHeartbeats 8000000 in
set_option maxRecDepth 100000 in
theorem slices_Contains_string_string.calls (k : Nat) (A0 : Option Addr) (c0 : Nat) (l0 : List ByteArray) (a1 : ByteArray) (r : Bool) (w : World) (hr0 : Kd.C Kd.string w A0 l0.length l0) (hc0 : l0.length ≤ c0) (h : slices_Contains_string_string.f k l0 a1 = some r) :
  Calls Try.prog 47 #[.slice A0 l0.length c0, .string a1] w fun e w' => e = .returned (.bool r) ∧ Drawn0 w w' := by
 have HR0 := Aside0.mk hr0
 have HC0 := Aside0.mk hc0
 clear hr0 hc0
 try unfold slices_Contains_string_string.f at h
 have H := h
 clear h
 replace H := bnd H
 obtain ⟨t419, A3, H⟩ := H
 try dsimp only at H
 obtain rfl := Option.some.inj H
 go_enter Try.func47, Try.ntmps47
 go_wp2_with (first | ((with_reducible refine gate_callee (f := 71) rfl ?_); refine goesL_ (some 7) rfl rfl Try.func71 (by kernel_rfl) rfl #[.slice A0 l0.length c0, .string a1] rfl zt5 ?_; (with_reducible refine (slices_Index_string_string.calls k _ _ l0 a1 t419 _ ?side1 ?side2 A3.out).mono ?_); (case side1 => exact cz HR0.out); (case side2 => exact HC0.out); rintro e w' ⟨rfl, ⟨nd, rfl⟩⟩; refine ⟨_, rfl, ?_⟩))
 go_ret
 exact ⟨zt9, zt36⟩

/-! ### impl_Unused: function 16 -/
def impl_Unused.l0 : Nat → List ByteArray → List ByteArray → List (S73) → Int → Int → Option (List ByteArray)
 | 0, _, _, _, _, _ => none
 | k + 1, x3, x4, x11, x12, x13 => if x13 < x12 then (if 0 ≤ x13 then (if x13 < (x11.length : Int) then ((slices_Contains_string_string.f k x3 ((rd_T73 x11 x13).f2)).bind fun t429 => (if t429 = true then (impl_Unused.l0 k x3 x4 x11 x12 (wrap64 (x13 + 1))) else (if x4.length < 8796093022208 then (impl_Unused.l0 k x3 (x4 ++ [(rd_T73 x11 x13).f2]) x11 x12 (wrap64 (x13 + 1))) else (none)))) else (none)) else (none)) else ((impl_rising.f x4).bind fun t433 => (some t433))
def impl_Unused.f (k : Nat) (l0_0 : List ByteArray) (l0_1 : List (S73)) (l0_2 : List (S55)) (l0_3 : List (S53)) (l0_4 : List (S50)) : Option (List ByteArray) := (impl_Uses.f k l0_0 l0_1 l0_2 l0_3 l0_4).bind fun t421 => (impl_Unused.l0 k t421 (([] : List ByteArray)) l0_1 (l0_1.length : Int) 0)
theorem impl_Unused.mono_l : ∀ k, (∀ y0 y1 y2 y3 y4, LeO (impl_Unused.l0 k y0 y1 y2 y3 y4) (impl_Unused.l0 (k + 1) y0 y1 y2 y3 y4))
 | 0 => fun _ _ _ _ _ r h => by simp [impl_Unused.l0] at h
 | k + 1 => by
  have ih0 := impl_Unused.mono_l k
  ·intro y0 y1 y2 y3 y4
   unfold impl_Unused.l0
   repeat' (first | (with_reducible first | exact ih0 _ _ _ _ _ | exact impl_Uses.mono _ _ _ _ _ _ | exact slices_Contains_string_string.mono _ _ _ | exact LeO.refl _ | exact LeO.none _ | refine LeO.ite ?_ ?_ | refine LeO.bind ?_ (fun _ => ?_)) | exact LeO.none _ | refine LeO.ite ?_ ?_ | refine LeO.bind ?_ (fun _ => ?_))
theorem impl_Unused.mono : ∀ a0 a1 a2 a3 a4 k, LeO (impl_Unused.f k a0 a1 a2 a3 a4) (impl_Unused.f (k + 1) a0 a1 a2 a3 a4) := by
 intro a0 a1 a2 a3 a4 k
 have ih0 := impl_Unused.mono_l k
 unfold impl_Unused.f
 repeat' (first | (with_reducible first | exact ih0 _ _ _ _ _ | exact impl_Uses.mono _ _ _ _ _ _ | exact slices_Contains_string_string.mono _ _ _ | exact LeO.refl _ | exact LeO.none _ | refine LeO.ite ?_ ?_ | refine LeO.bind ?_ (fun _ => ?_)) | exact LeO.none _ | refine LeO.ite ?_ ?_ | refine LeO.bind ?_ (fun _ => ?_))
set_option maxHeartbeats 8000000 in
set_option maxRecDepth 100000 in
theorem impl_Unused.calls (k : Nat) (A0_0 : Option Addr) (c0_0 : Nat) (l0_0 : List ByteArray) (A0_1 : Option Addr) (c0_1 : Nat) (l0_1 : List (S73)) (A0_2 : Option Addr) (c0_2 : Nat) (l0_2 : List (S55)) (A0_3 : Option Addr) (c0_3 : Nat) (l0_3 : List (S53)) (A0_4 : Option Addr) (c0_4 : Nat) (l0_4 : List (S50)) (r : List ByteArray) (w : World) (hr0_0 : Kd.C Kd.string w A0_0 l0_0.length l0_0) (hc0_0 : l0_0.length ≤ c0_0) (hr0_1 : Kd.C k73 w A0_1 l0_1.length l0_1) (hc0_1 : l0_1.length ≤ c0_1) (hr0_2 : Kd.C k55 w A0_2 l0_2.length l0_2) (hc0_2 : l0_2.length ≤ c0_2) (hr0_3 : Kd.C k53 w A0_3 l0_3.length l0_3) (hc0_3 : l0_3.length ≤ c0_3) (hr0_4 : Kd.C k50 w A0_4 l0_4.length l0_4) (hc0_4 : l0_4.length ≤ c0_4) (h : impl_Unused.f k l0_0 l0_1 l0_2 l0_3 l0_4 = some r) :
  Calls Try.prog 16 #[.agg #[.slice A0_0 l0_0.length c0_0, .slice A0_1 l0_1.length c0_1, .slice A0_2 l0_2.length c0_2, .slice A0_3 l0_3.length c0_3, .slice A0_4 l0_4.length c0_4]] w fun e w' => ∃ v0_ : Value, e = .returned (v0_) ∧ Kd.R Kd.string 9 w' w.heap.size (fun _ => True) v0_ r ∧ Below w.heap.size w w' := by
 have hu36 := Try.underlying36
 have hu73 := Try.underlying73
 have HR0_0 := Aside0.mk hr0_0
 have HC0_0 := Aside0.mk hc0_0
 clear hr0_0 hc0_0
 have HR0_1 := Aside0.mk hr0_1
 have HC0_1 := Aside0.mk hc0_1
 clear hr0_1 hc0_1
 have HR0_2 := Aside0.mk hr0_2
 have HC0_2 := Aside0.mk hc0_2
 clear hr0_2 hc0_2
 have HR0_3 := Aside0.mk hr0_3
 have HC0_3 := Aside0.mk hc0_3
 clear hr0_3 hc0_3
 have HR0_4 := Aside0.mk hr0_4
 have HC0_4 := Aside0.mk hc0_4
 clear hr0_4 hc0_4
 have HB := Aside0.mk (Below.refl w.heap.size w)
 try unfold impl_Unused.f at h
 have H := h
 clear h
 replace H := bnd H
 obtain ⟨t421, A2, H⟩ := H
 try dsimp only at H
 obtain ⟨y424, hy424⟩ : ∃ y_ : List ByteArray, y_ = (([] : List ByteArray)) := ⟨_, rfl⟩
 replace H : (impl_Unused.l0 k t421 y424 l0_1 (l0_1.length : Int) 0) = some r := by first | (rw [hy424]; with_reducible exact H) | (have H2_ := (Option.bind_some _ _).symm.trans H; rw [hy424]; with_reducible exact H2_) | (have H2_ := (Option.bind_some _ _).symm.trans H; with_reducible exact H2_) | with_reducible exact H | (rw [hy424]; exact H) | exact H
 have Ny424 := Aside0.mk hy424
 clear hy424
 have H' := Aside0.mk H
 clear H
 go_enter Try.func16, Try.ntmps16
 go_wp2_with (first | ((with_reducible refine gate_dst (N := 1) rfl ?_); refine box_event ?hg (N := 1) ?hd (cs := #[.slice A0_0 l0_0.length c0_0, .slice A0_1 l0_1.length c0_1, .slice A0_2 l0_2.length c0_2, .slice A0_3 l0_3.length c0_3, .slice A0_4 l0_4.length c0_4]) (t := 36) ?hr ?_; (case hd => rfl); (case hg => rfl); (case hr => first | (go_simp; done) | (go_simp; rfl)); intro gb420 hg w3 hbox hb; have n0_ := Aside0.mk (below_step zt3 hb); have n1_ := Aside0.mk (hbox); have n2_ := Aside0.mk ((zt6 : w.heap.size ≤ gb420)); have n3_ := Aside0.mk ((zt6 : w.heap.size ≤ gb420)); clear HB; have HB := n0_; have BK420 := n1_; have GW420 := n2_; have GE420 := n3_; clear n0_ n1_ n2_ n3_; clear hb hbox hg; have hcz4_0 : w3.cell? ⟨gb420, 0, none⟩ = some (.slice A0_0 l0_0.length c0_0) := (blk_cell BK420.out 0).trans rfl; have hcz4_1 : w3.cell? ⟨gb420, 1, none⟩ = some (.slice A0_1 l0_1.length c0_1) := (blk_cell BK420.out 1).trans rfl; have hcz4_2 : w3.cell? ⟨gb420, 2, none⟩ = some (.slice A0_2 l0_2.length c0_2) := (blk_cell BK420.out 2).trans rfl; have hcz4_3 : w3.cell? ⟨gb420, 3, none⟩ = some (.slice A0_3 l0_3.length c0_3) := (blk_cell BK420.out 3).trans rfl; have hcz4_4 : w3.cell? ⟨gb420, 4, none⟩ = some (.slice A0_4 l0_4.length c0_4) := (blk_cell BK420.out 4).trans rfl; have hfz4_0 := blk_frozen BK420.out 0; have hfz4_1 := blk_frozen BK420.out 1; have hfz4_2 := blk_frozen BK420.out 2; have hfz4_3 := blk_frozen BK420.out 3; have hfz4_4 := blk_frozen BK420.out 4) | ((with_reducible refine gate_callee (f := 9) rfl ?_); refine goesL_ (some 8) rfl rfl Try.func9 (by kernel_rfl) rfl #[.agg #[.slice A0_0 l0_0.length c0_0, .slice A0_1 l0_1.length c0_1, .slice A0_2 l0_2.length c0_2, .slice A0_3 l0_3.length c0_3, .slice A0_4 l0_4.length c0_4]] rfl zt5 ?_; (with_reducible refine (impl_Uses.calls k _ _ l0_0 _ _ l0_1 _ _ l0_2 _ _ l0_3 _ _ l0_4 t421 _ ?side1 ?side2 ?side3 ?side4 ?side5 ?side6 ?side7 ?side8 ?side9 ?side10 A2.out).mono ?_); (case side1 => exact cz (Kd.C_below HR0_0.out HB.out)); (case side2 => exact HC0_0.out); (case side3 => exact cz (Kd.C_below HR0_1.out HB.out)); (case side4 => exact HC0_1.out); (case side5 => exact cz (Kd.C_below HR0_2.out HB.out)); (case side6 => exact HC0_2.out); (case side7 => exact cz (Kd.C_below HR0_3.out HB.out)); (case side8 => exact HC0_3.out); (case side9 => exact cz (Kd.C_below HR0_4.out HB.out)); (case side10 => exact HC0_4.out); rintro e w5 ⟨v422, rfl, ho0, hb⟩; refine ⟨_, rfl, ?_⟩; have n0_ := Aside0.mk (Kd.R_lower ho0 (below_size zt20)); have n1_ := Aside0.mk (blk_below (g := gb420) (o := .cells #[.slice A0_0 l0_0.length c0_0, .slice A0_1 l0_1.length c0_1, .slice A0_2 l0_2.length c0_2, .slice A0_3 l0_3.length c0_3, .slice A0_4 l0_4.length c0_4] 36 (0, 0)) (oz BK420.out) hb); have n2_ := Aside0.mk (below_step zt20 hb); clear BK420; clear HB; have HO423 := n0_; have BK420 := n1_; have HB := n2_; clear n0_ n1_ n2_; (try clear hb); (try clear hb2); (try clear hk); (try clear hi); (try clear ho0)) | ((with_reducible refine gate_dst (N := 9) rfl ?_); refine Kd.R_lit Kd.string _ 9 ?hg (N := 9) ?hd (xs := ([] : List ByteArray)) (inner := []) (ok := fun _ => True) (okp := fun _ => True) ?hr ?hp (fun _ hk => hk) trivial (Below.refl _ _) (Nat.le_refl _) (by simp) ?_; (case hd => rfl); (case hg => rfl); (case hr => first | (go_simp; done) | (go_simp; rfl)); (case hp => exact (Reps.none _ _)); intro v425 w6 ho7 hb hg_ hnew_; clear hg_ hnew_; (first | rw [← Ny424.out] at ho7 | (simp only [Int.reduceToNat] at ho7; rw [← Ny424.out] at ho7)); have n0_ := Aside0.mk (Kd.R_elder' (rz HO423.out) (Kd.R_base ho7) hb); have n1_ := Aside0.mk (Kd.R_lower (Kd.R_new' ho7 (Kd.R_lt (rz HO423.out))) (below_size zt20)); have n2_ := Aside0.mk (blk_below (g := gb420) (o := .cells #[.slice A0_0 l0_0.length c0_0, .slice A0_1 l0_1.length c0_1, .slice A0_2 l0_2.length c0_2, .slice A0_3 l0_3.length c0_3, .slice A0_4 l0_4.length c0_4] 36 (0, 0)) (oz BK420.out) hb); have n3_ := Aside0.mk (below_step zt20 hb); clear HO423; clear BK420; clear HB; have HO423 := n0_; have HO426 := n1_; have BK420 := n2_; have HB := n3_; clear n0_ n1_ n2_ n3_; clear hb ho7; have hcz8_0 : w6.cell? ⟨gb420, 0, none⟩ = some (.slice A0_0 l0_0.length c0_0) := (blk_cell BK420.out 0).trans rfl; have hcz8_1 : w6.cell? ⟨gb420, 1, none⟩ = some (.slice A0_1 l0_1.length c0_1) := (blk_cell BK420.out 1).trans rfl; have hcz8_2 : w6.cell? ⟨gb420, 2, none⟩ = some (.slice A0_2 l0_2.length c0_2) := (blk_cell BK420.out 2).trans rfl; have hcz8_3 : w6.cell? ⟨gb420, 3, none⟩ = some (.slice A0_3 l0_3.length c0_3) := (blk_cell BK420.out 3).trans rfl; have hcz8_4 : w6.cell? ⟨gb420, 4, none⟩ = some (.slice A0_4 l0_4.length c0_4) := (blk_cell BK420.out 4).trans rfl; have hfz8_0 := blk_frozen BK420.out 0; have hfz8_1 := blk_frozen BK420.out 1; have hfz8_2 := blk_frozen BK420.out 2; have hfz8_3 := blk_frozen BK420.out 3; have hfz8_4 := blk_frozen BK420.out 4))
 go_loopg [4, 13] k (fun kq v4 v13 w' => ∃ (x4_1 : List ByteArray) (x13_1 : Int), v13 = .int .i64 x13_1 ∧ Aside0 (impl_Unused.l0 kq t421 x4_1 l0_1 (l0_1.length : Int) x13_1 = some r) ∧ Aside0 (kq ≤ k) ∧ Aside0 (Kd.R Kd.string 9 w' w.heap.size (fun k_ => some k_ ≠ (v4 : Value).ownBlock) v422 t421) ∧ Aside0 (Kd.R Kd.string 9 w' w.heap.size (fun k_ => some k_ ≠ (v422 : Value).ownBlock) v4 x4_1) ∧ Aside0 (w'.heap[gb420]? = some (.cells #[(.slice A0_0 l0_0.length c0_0), (.slice A0_1 l0_1.length c0_1), (.slice A0_2 l0_2.length c0_2), (.slice A0_3 l0_3.length c0_3), (.slice A0_4 l0_4.length c0_4)] 36 (0, 0))) ∧ Aside0 (Below w.heap.size w w'))
 case atStart => exact ⟨(y424), (0), zt9, H', ⟨Nat.le_refl _⟩, ⟨by (with_reducible repeat (first | apply Kd.R_alloc | apply Kd.R_drewN | apply Kd.R_drew)); exact Kd.R_mono HO423.out (fun _ hk => hk.2)⟩, ⟨by (with_reducible repeat (first | apply Kd.R_alloc | apply Kd.R_drewN | apply Kd.R_drew)); exact Kd.R_mono HO426.out (fun _ hk => hk.2)⟩, ⟨by (with_reducible repeat (first | refine blk_drewN ?_ _ | refine blk_drew ?_ | refine blk_alloc ?_ _)); exact BK420.out⟩, ⟨zt20⟩⟩
 case round =>
  clear H'
  try clear c1
  try clear p2
  try clear hcz4_0
  try clear hcz4_1
  try clear hcz4_2
  try clear hcz4_3
  try clear hcz4_4
  try clear hcz8_0
  try clear hcz8_1
  try clear hcz8_2
  try clear hcz8_3
  try clear hcz8_4
  try clear hfz4_0
  try clear hfz4_1
  try clear hfz4_2
  try clear hfz4_3
  try clear hfz4_4
  try clear hfz8_0
  try clear hfz8_1
  try clear hfz8_2
  try clear hfz8_3
  try clear hfz8_4
  obtain ⟨x4_1, x13_1, rfl, HA, HK1, HO_3, HO_4, BK420, HB⟩ := hrel
  cases gk with
  | zero => exact absurd HA.out (by simp [impl_Unused.l0])
  | succ k1 =>
   have H := HA.out
   clear HA
   simp only [impl_Unused.l0] at H
   by_cases c9 : x13_1 < (l0_1.length : Int)
   rw [if_pos c9] at H
   have c9b0 := decide_eq_true c9
   clear c9
   replace H := it0 H
   obtain ⟨c10, H⟩ := H
   have c10b0 : decide (0 ≤ x13_1) = true := decide_eq_true c10
   clear c10
   replace H := it0 H
   obtain ⟨c11, H⟩ := H
   have c11b0 := decide_eq_true c11
   clear c11
   replace H := bnd H
   obtain ⟨t429, A12, H⟩ := H
   try dsimp only at H
   by_cases c13 : t429 = true
   subst c13
   rw [if_pos rfl] at H
   have H' := Aside0.mk H
   clear H
   have p427 : 0 ≤ (x13_1 : Int) := of_decide_eq_true zt4
   have q427 : x13_1 < (l0_1.length : Int) := of_decide_eq_true zt4
   obtain ⟨ad427, e427, hx427_0, hx427_1, hx427_2⟩ := at_T73 HR0_1.out x13_1 p427 q427
   cases e427
   replace hx427_0 := (HB.out.cell (World.block_lt_of_cell? w _ hx427_0)).trans hx427_0
   replace hx427_1 := (HB.out.cell (World.block_lt_of_cell? w _ hx427_1)).trans hx427_1
   replace hx427_2 := (HB.out.cell (World.block_lt_of_cell? w _ hx427_2)).trans hx427_2
   replace p427 := eq_true p427
   replace q427 := eq_true q427
   rotate_left
   replace c13 := Bool.eq_false_iff.mpr c13
   subst c13
   rw [if_neg (show ¬ (false = true) by decide)] at H
   replace H := it0 H
   obtain ⟨c18, H⟩ := H
   have LMc18 := Aside0.mk c18
   clear c18
   obtain ⟨y430, hy430⟩ : ∃ y_ : List ByteArray, y_ = (x4_1 ++ [(rd_T73 l0_1 x13_1).f2]) := ⟨_, rfl⟩
   replace H : (impl_Unused.l0 k1 t421 y430 l0_1 (l0_1.length : Int) (wrap64 (x13_1 + 1))) = some r := by first | (rw [hy430]; with_reducible exact H) | (have H2_ := (Option.bind_some _ _).symm.trans H; rw [hy430]; with_reducible exact H2_) | (have H2_ := (Option.bind_some _ _).symm.trans H; with_reducible exact H2_) | with_reducible exact H | (rw [hy430]; exact H) | exact H
   have Ny430 := Aside0.mk hy430
   clear hy430
   have H' := Aside0.mk H
   clear H
   have p427 : 0 ≤ (x13_1 : Int) := of_decide_eq_true zt4
   have q427 : x13_1 < (l0_1.length : Int) := of_decide_eq_true zt4
   obtain ⟨ad427, e427, hx427_0, hx427_1, hx427_2⟩ := at_T73 HR0_1.out x13_1 p427 q427
   cases e427
   replace hx427_0 := (HB.out.cell (World.block_lt_of_cell? w _ hx427_0)).trans hx427_0
   replace hx427_1 := (HB.out.cell (World.block_lt_of_cell? w _ hx427_1)).trans hx427_1
   replace hx427_2 := (HB.out.cell (World.block_lt_of_cell? w _ hx427_2)).trans hx427_2
   replace p427 := eq_true p427
   replace q427 := eq_true q427
   rotate_left
   rw [if_neg c9] at H
   have c9b0 := decide_eq_false c9
   clear c9
   replace H := bnd H
   obtain ⟨t433, A24, H⟩ := H
   try dsimp only at H
   obtain rfl := Option.some.inj H
   obtain ⟨Ao25, co25, eo25⟩ := Kd.R_slice HO_4.out
   subst eo25
   rotate_left
   all_goals
    repeat (go_wp2_with (first | ((with_reducible refine gate_builtin (b := .append) (xs := #[.tmp 22, .tmp 25]) rfl ?_); at_builtin; refine Kd.R_append Kd.string (w0 := w) w.heap.size rfl (.tmp 22) (.tmp 25) 22 9 (.string ⟨#[]⟩) 16 rfl Try.underlying22 info9 rfl (by decide) (by omega) u4 x4_1 ((rd_T73 l0_1 x13_1).f2) [.string ((rd_T73 l0_1 x13_1).f2)] (fun k_ => some k_ ≠ (.slice Ao7005 t421.length co7005 : Value).ownBlock) (fun _ => False) rfl zt43 ?aP (fun _ hk => hk.elim) ?aF ?aO ?aB ?aS ?aL ?_; (case aP => exact rfl); (case aB => exact zt38); (case aF => exact (fun k_ hk => Kd.fresh' (Kd.R_lt (by (with_reducible repeat (first | apply Kd.R_alloc | apply Kd.R_drewN | apply Kd.R_drew)); exact (Kd.R_mono (Kd.R_far (p := ⟨gb7000, 2, none⟩) (Kd.R_far (p := ⟨gb7000, 1, none⟩) (Kd.R_far (p := ⟨gb7000, 0, none⟩) (Kd.R_types HO_3.out BK7000.out (by decide)) (fun _ hk => hk.2) (.string ((rd_T73 l0_1 x13_1).f0))) (fun _ hk => hk.2) (.string ((rd_T73 l0_1 x13_1).f1))) (fun _ hk => hk.2) (.string ((rd_T73 l0_1 x13_1).f2))) (fun _ h_ => h_.1)))) k_ hk)); (case aO => exact (by (with_reducible repeat (first | apply Kd.R_alloc | apply Kd.R_drewN | apply Kd.R_drew)); exact Kd.R_mono (Kd.R_far (p := ⟨gb7000, 2, none⟩) (Kd.R_far (p := ⟨gb7000, 1, none⟩) (Kd.R_far (p := ⟨gb7000, 0, none⟩) (Kd.R_types HO_4.out BK7000.out (by decide)) (fun _ hk => hk.2) (.string ((rd_T73 l0_1 x13_1).f0))) (fun _ hk => hk.2) (.string ((rd_T73 l0_1 x13_1).f1))) (fun _ hk => hk.2) (.string ((rd_T73 l0_1 x13_1).f2))) (fun _ hk => hk.1))); (case aS => exact (below_size zt38)); (case aL => have := LMc18.out; omega); intro v7006 w7007 ho hb hg hat; rw [← Ny430.out] at ho; have n0_ := Aside0.mk (Kd.R_after (ok := (fun _ => True)) (by (with_reducible repeat (first | apply Kd.R_alloc | apply Kd.R_drewN | apply Kd.R_drew)); exact Kd.R_mono (Kd.R_far (p := ⟨gb7000, 2, none⟩) (Kd.R_far (p := ⟨gb7000, 1, none⟩) (Kd.R_far (p := ⟨gb7000, 0, none⟩) (Kd.R_types HO_3.out BK7000.out (by decide)) (fun _ hk => hk.2) (.string ((rd_T73 l0_1 x13_1).f0))) (fun _ hk => hk.2) (.string ((rd_T73 l0_1 x13_1).f1))) (fun _ hk => hk.2) (.string ((rd_T73 l0_1 x13_1).f2))) (fun _ hk => ⟨trivial, hk.1⟩)) hg hat); have n1_ := Aside0.mk (blk_grown (g := gb420) (o := .cells #[.slice A0_0 l0_0.length c0_0, .slice (some ad427) l0_1.length c0_1, .slice A0_2 l0_2.length c0_2, .slice A0_3 l0_3.length c0_3, .slice A0_4 l0_4.length c0_4] 36 (0, 0)) (by (with_reducible repeat (first | refine blk_drewN ?_ _ | refine blk_drew ?_ | refine blk_alloc ?_ _)); refine blk_far ?_ NB7002_428.out _; (with_reducible repeat (first | refine blk_drewN ?_ _ | refine blk_drew ?_ | refine blk_alloc ?_ _)); refine blk_far ?_ NB7002_428.out _; (with_reducible repeat (first | refine blk_drewN ?_ _ | refine blk_drew ?_ | refine blk_alloc ?_ _)); refine blk_far ?_ NB7002_428.out _; (with_reducible repeat (first | refine blk_drewN ?_ _ | refine blk_drew ?_ | refine blk_alloc ?_ _)); exact BK420.out) hg (Kd.R_ne HO_4.out BK420.out (by decide))); have n2_ := Aside0.mk (blk_grown (g := gb7000) (o := .cells #[.string ((rd_T73 l0_1 x13_1).f0), .string ((rd_T73 l0_1 x13_1).f1), .string ((rd_T73 l0_1 x13_1).f2)] 73 (0, 0)) (by (with_reducible repeat (first | refine blk_drewN ?_ _ | refine blk_drew ?_ | refine blk_alloc ?_ _)); refine blk_put (cs := #[.string ((rd_T73 l0_1 x13_1).f0), .string ((rd_T73 l0_1 x13_1).f1), .string (⟨#[]⟩ : ByteArray)]) ?_ 2 _ rfl; (with_reducible repeat (first | refine blk_drewN ?_ _ | refine blk_drew ?_ | refine blk_alloc ?_ _)); refine blk_put (cs := #[.string ((rd_T73 l0_1 x13_1).f0), .string (⟨#[]⟩ : ByteArray), .string (⟨#[]⟩ : ByteArray)]) ?_ 1 _ rfl; (with_reducible repeat (first | refine blk_drewN ?_ _ | refine blk_drew ?_ | refine blk_alloc ?_ _)); refine blk_put (cs := #[.string (⟨#[]⟩ : ByteArray), .string (⟨#[]⟩ : ByteArray), .string (⟨#[]⟩ : ByteArray)]) ?_ 0 _ rfl; (with_reducible repeat (first | refine blk_drewN ?_ _ | refine blk_drew ?_ | refine blk_alloc ?_ _)); exact BK7000.out) hg (Kd.R_ne HO_4.out BK7000.out (by decide))); have n3_ := Aside0.mk (hb); have n4_ := Aside0.mk (ho); clear HO_3; clear BK420; clear BK7000; clear HB; clear HO_4; have HO_3 := n0_; have BK420 := n1_; have BK7000 := n2_; have HB := n3_; have HO7008 := n4_; clear n0_ n1_ n2_ n3_ n4_; clear ho hb hg hat) | ((with_reducible refine gate_dst (N := 6) rfl ?_); refine box_event ?hg (N := 6) ?hd (cs := #[.string (⟨#[]⟩ : ByteArray), .string (⟨#[]⟩ : ByteArray), .string (⟨#[]⟩ : ByteArray)]) (t := 73) ?hr ?_; (case hd => rfl); (case hg => rfl); (case hr => first | (go_simp; done) | (go_simp; rfl)); intro gb7000 hg w7001 hbox hb; have n0_ := Aside0.mk (Kd.R_below (rz HO_3.out) hb); have n1_ := Aside0.mk (Kd.R_below (rz HO_4.out) hb); have n2_ := Aside0.mk (blk_below (g := gb420) (o := .cells #[.slice A0_0 l0_0.length c0_0, .slice (some ad427) l0_1.length c0_1, .slice A0_2 l0_2.length c0_2, .slice A0_3 l0_3.length c0_3, .slice A0_4 l0_4.length c0_4] 36 (0, 0)) (oz BK420.out) hb); have n3_ := Aside0.mk (below_step zt20 hb); have n4_ := Aside0.mk (hbox); have n5_ := Aside0.mk ((by rw [hg]; exact (below_size zt20) : w.heap.size ≤ gb7000)); have n6_ := Aside0.mk ((by rw [hg]; exact (below_size zt20) : w.heap.size ≤ gb7000)); have n7_ := Aside0.mk ((by rw [hg]; exact Nat.ne_of_lt (blk_lt (g := gb420) (o := .cells #[.slice A0_0 l0_0.length c0_0, .slice (some ad427) l0_1.length c0_1, .slice A0_2 l0_2.length c0_2, .slice A0_3 l0_3.length c0_3, .slice A0_4 l0_4.length c0_4] 36 (0, 0)) (oz BK420.out)) : gb420 ≠ gb7000)); have n8_ := Aside0.mk ((by rw [hg]; exact Nat.ne_of_gt (blk_lt (g := gb420) (o := .cells #[.slice A0_0 l0_0.length c0_0, .slice (some ad427) l0_1.length c0_1, .slice A0_2 l0_2.length c0_2, .slice A0_3 l0_3.length c0_3, .slice A0_4 l0_4.length c0_4] 36 (0, 0)) (oz BK420.out)) : gb7000 ≠ gb420)); clear HO_3; clear HO_4; clear BK420; clear HB; have HO_3 := n0_; have HO_4 := n1_; have BK420 := n2_; have HB := n3_; have BK7000 := n4_; have GW7000 := n5_; have GE7000 := n6_; have NB7002_428 := n7_; have NB7000_420 := n8_; clear n0_ n1_ n2_ n3_ n4_ n5_ n6_ n7_ n8_; clear hb hbox hg; have hnb7003 := NB7000_420.out; have hnc7003 := NB7002_428.out; have hcz7004_0 : w7001.cell? ⟨gb7000, 0, none⟩ = some (.string (⟨#[]⟩ : ByteArray)) := (blk_cell BK7000.out 0).trans rfl; have hcz7004_1 : w7001.cell? ⟨gb7000, 1, none⟩ = some (.string (⟨#[]⟩ : ByteArray)) := (blk_cell BK7000.out 1).trans rfl; have hcz7004_2 : w7001.cell? ⟨gb7000, 2, none⟩ = some (.string (⟨#[]⟩ : ByteArray)) := (blk_cell BK7000.out 2).trans rfl; have hfz7004_0 := blk_frozen BK7000.out 0; have hfz7004_1 := blk_frozen BK7000.out 1; have hfz7004_2 := blk_frozen BK7000.out 2; obtain ⟨Ao7005, co7005, eo7005⟩ := Kd.R_slice HO_3.out; subst eo7005) | ((with_reducible refine gate_callee (f := 32) rfl ?_); refine goesL_ (some 29) rfl rfl Try.func32 (by kernel_rfl) rfl #[.slice Ao25 x4_1.length co25] rfl zt5 ?_; (with_reducible refine (impl_rising.calls (fun k_ => some k_ = (.slice Ao25 x4_1.length co25 : Value).ownBlock) (.slice Ao25 x4_1.length co25) x4_1 t433 w _ ?side1 ?side2 A24.out).mono ?_); (case side1 => exact zt20); (case side2 => exact Kd.R_tight rfl HO_4.out); rintro e w7000 ⟨v7001, rfl, ho0, hb, hkp⟩; refine ⟨_, rfl, ?_⟩; have n0_ := Aside0.mk (Kd.R_mono (ok' := fun k_ => some k_ ≠ (v7001 : Value).ownBlock) (Kd.R_keptB (HO_3.out) hkp (fun k_ hk_ hs_ => (hk_) hs_)) (fun k_ hk_ => fun e_ => Or.elim (ho0.1 k_ e_.symm) (fun hs_ => hk_.2.1 hs_) (fun hn_ => Nat.not_le.2 hk_.2.2 hn_))); have n1_ := Aside0.mk (blk_kept (oz BK420.out) hkp (fun hs_ => (fun e_ => (Kd.R_ne HO_4.out BK420.out (by decide)) e_) hs_)); have n2_ := Aside0.mk (Kd.R_mono (ok' := fun k_ => some k_ ≠ (v422 : Value).ownBlock) ho0 (fun k_ hk_ => Or.elim hk_ (fun hs_ => fun e_ => (((HO_3.out).1 k_ e_.symm)) hs_) (fun hn_ => (Kd.fresh' (Kd.R_lt (rz HO_3.out)) k_ hn_)))); have n3_ := Aside0.mk (hb); clear HO_3; clear BK420; clear HB; clear HO_4; have HO_3 := n0_; have BK420 := n1_; have HO7002 := n2_; have HB := n3_; clear n0_ n1_ n2_ n3_; (try clear hb); (try clear hkp); (try clear ho0)) | ((with_reducible refine gate_callee (f := 47) rfl ?_); refine goesL_ (some 20) rfl rfl Try.func47 (by kernel_rfl) rfl #[.slice Ao7005 t421.length co7005, .string ((rd_T73 l0_1 x13_1).f2)] rfl zt5 ?_; (with_reducible refine (slices_Contains_string_string.calls k1 _ _ t421 ((rd_T73 l0_1 x13_1).f2) false _ ?side1 ?side2 A12.out).mono ?_); (case side1 => refine (Kd.R_reads' (e := 9) (base := w.heap.size) (ok := fun k_ => some k_ ≠ (u4 : Value).ownBlock) (n := t421.length) (c := co7005) ?_).2.2; exact (by (with_reducible repeat (first | apply Kd.R_alloc | apply Kd.R_drewN | apply Kd.R_drew)); exact (Kd.R_mono (Kd.R_far (p := ⟨gb7000, 2, none⟩) (Kd.R_far (p := ⟨gb7000, 1, none⟩) (Kd.R_far (p := ⟨gb7000, 0, none⟩) (Kd.R_types HO_3.out BK7000.out (by decide)) (fun _ hk => hk.2) (.string ((rd_T73 l0_1 x13_1).f0))) (fun _ hk => hk.2) (.string ((rd_T73 l0_1 x13_1).f1))) (fun _ hk => hk.2) (.string ((rd_T73 l0_1 x13_1).f2))) (fun _ h_ => h_.1)))); (case side2 => exact (Kd.R_reads' HO_3.out).2.1); rintro e w' ⟨rfl, ⟨nd, rfl⟩⟩; refine ⟨_, rfl, ?_⟩) | ((with_reducible refine gate_callee (f := 47) rfl ?_); refine goesL_ (some 20) rfl rfl Try.func47 (by kernel_rfl) rfl #[.slice Ao7005 t421.length co7005, .string ((rd_T73 l0_1 x13_1).f2)] rfl zt5 ?_; (with_reducible refine (slices_Contains_string_string.calls k1 _ _ t421 ((rd_T73 l0_1 x13_1).f2) true _ ?side1 ?side2 A12.out).mono ?_); (case side1 => refine (Kd.R_reads' (e := 9) (base := w.heap.size) (ok := fun k_ => some k_ ≠ (u4 : Value).ownBlock) (n := t421.length) (c := co7005) ?_).2.2; exact (by (with_reducible repeat (first | apply Kd.R_alloc | apply Kd.R_drewN | apply Kd.R_drew)); exact (Kd.R_mono (Kd.R_far (p := ⟨gb7000, 2, none⟩) (Kd.R_far (p := ⟨gb7000, 1, none⟩) (Kd.R_far (p := ⟨gb7000, 0, none⟩) (Kd.R_types HO_3.out BK7000.out (by decide)) (fun _ hk => hk.2) (.string ((rd_T73 l0_1 x13_1).f0))) (fun _ hk => hk.2) (.string ((rd_T73 l0_1 x13_1).f1))) (fun _ hk => hk.2) (.string ((rd_T73 l0_1 x13_1).f2))) (fun _ h_ => h_.1)))); (case side2 => exact (Kd.R_reads' HO_3.out).2.1); rintro e w' ⟨rfl, ⟨nd, rfl⟩⟩; refine ⟨_, rfl, ?_⟩)); first | go_quiet (fail) | (go_roundg k1; (case measure => have := HK1.out; omega); (case rel => exact ⟨(x4_1), (wrap64 (x13_1 + 1)), zt9, H', ⟨by have := HK1.out; omega⟩, ⟨by (with_reducible repeat (first | apply Kd.R_alloc | apply Kd.R_drewN | apply Kd.R_drew)); exact Kd.R_mono (Kd.R_far (p := ⟨gb7000, 2, none⟩) (Kd.R_far (p := ⟨gb7000, 1, none⟩) (Kd.R_far (p := ⟨gb7000, 0, none⟩) (Kd.R_types HO_3.out BK7000.out (by decide)) (fun _ hk => hk.2) (.string ((rd_T73 l0_1 x13_1).f0))) (fun _ hk => hk.2) (.string ((rd_T73 l0_1 x13_1).f1))) (fun _ hk => hk.2) (.string ((rd_T73 l0_1 x13_1).f2))) (fun _ hk => hk.1)⟩, ⟨by (with_reducible repeat (first | apply Kd.R_alloc | apply Kd.R_drewN | apply Kd.R_drew)); exact Kd.R_mono (Kd.R_far (p := ⟨gb7000, 2, none⟩) (Kd.R_far (p := ⟨gb7000, 1, none⟩) (Kd.R_far (p := ⟨gb7000, 0, none⟩) (Kd.R_types HO_4.out BK7000.out (by decide)) (fun _ hk => hk.2) (.string ((rd_T73 l0_1 x13_1).f0))) (fun _ hk => hk.2) (.string ((rd_T73 l0_1 x13_1).f1))) (fun _ hk => hk.2) (.string ((rd_T73 l0_1 x13_1).f2))) (fun _ hk => hk.1)⟩, ⟨by (with_reducible repeat (first | refine blk_drewN ?_ _ | refine blk_drew ?_ | refine blk_alloc ?_ _)); refine blk_far ?_ NB7002_428.out _; (with_reducible repeat (first | refine blk_drewN ?_ _ | refine blk_drew ?_ | refine blk_alloc ?_ _)); refine blk_far ?_ NB7002_428.out _; (with_reducible repeat (first | refine blk_drewN ?_ _ | refine blk_drew ?_ | refine blk_alloc ?_ _)); refine blk_far ?_ NB7002_428.out _; (with_reducible repeat (first | refine blk_drewN ?_ _ | refine blk_drew ?_ | refine blk_alloc ?_ _)); exact BK420.out⟩, ⟨zt38⟩⟩)) | (go_roundg k1; (case measure => have := HK1.out; omega); (case rel => exact ⟨(y430), (wrap64 (x13_1 + 1)), zt9, H', ⟨by have := HK1.out; omega⟩, ⟨by (with_reducible repeat (first | apply Kd.R_alloc | apply Kd.R_drewN | apply Kd.R_drew)); exact Kd.R_mono HO_3.out (fun _ hk => hk.2)⟩, ⟨by (with_reducible repeat (first | apply Kd.R_alloc | apply Kd.R_drewN | apply Kd.R_drew)); (first | exact HO7008.out | exact Kd.R_mono HO7008.out (fun k_ h_ => by first | exact h_ | (simpa [Value.ownBlock] using h_) | (have e_ : ∀ (A : Option Addr) (n m c : Nat), (Value.slice A n c).ownBlock = (Value.slice A m c).ownBlock := (fun A n m c => by cases A <;> rfl); rw [e_ _ _ 0 _] at h_ ⊢; exact h_)))⟩, ⟨by (with_reducible repeat (first | refine blk_drewN ?_ _ | refine blk_drew ?_ | refine blk_alloc ?_ _)); exact BK420.out⟩, ⟨zt38⟩⟩)) | (go_ret; exact ⟨_, zt8, by (with_reducible repeat (first | apply Kd.R_alloc | apply Kd.R_drewN | apply Kd.R_drew)); exact Kd.R_mono HO7002.out (fun _ hk => trivial), zt20⟩))

/-! ### slices_Clone_string_string: function 72 (a contract of mine) -/
def slices_Clone_string_string.f (l0 : List ByteArray) : Option (List ByteArray) := if l0.length * 16 ≤ 140737488355328 then some l0 else none
theorem slices_Clone_string_string.none_ {w : World} {l0 : List ByteArray} (h : Kd.C Kd.string w none l0.length l0) : l0 = [] := by
 cases l0 with
 | nil => rfl
 | cons x r =>
  obtain ⟨ad, c, e, _⟩ := Kd.C_get h x 0 (Int.le_refl _) (by simp only [List.length_cons]; omega)
  cases e
set_option maxHeartbeats 4000000 in
set_option maxRecDepth 100000 in
theorem slices_Clone_string_string.calls (A0 : Option Addr) (c0 : Nat) (l0 : List ByteArray) (r : List ByteArray) (w : World) (hr0 : Kd.C Kd.string w A0 l0.length l0) (hc0 : l0.length ≤ c0) (h : slices_Clone_string_string.f l0 = some r) :
  Calls Try.prog 72 #[.slice A0 l0.length c0] w fun e w' => ∃ v0_ : Value, e = .returned (v0_) ∧ Kd.R Kd.string 9 w' w.heap.size (fun _ => True) v0_ r ∧ Below w.heap.size w w' := by
 unfold slices_Clone_string_string.f at h
 by_cases c : l0.length * 16 ≤ 140737488355328
 case neg => rw [if_neg c] at h; cases h
 rw [if_pos c] at h
 obtain rfl := Option.some.inj h
 clear h
 have hq : ∀ (w : World) (a : Option Addr) (n c n' c' : Nat), (binOp .eql 22 (.slice a n c) (.slice none n' c')).run Try.prog w = .ok (.bool a.isNone) w := fun w a n c n' c' => Lib.run_eql_slice_nil w _ _ a n c n' c' Try.underlying22
 cases A0 with
 | none =>
  obtain rfl := slices_Clone_string_string.none_ hr0
  clear hr0 hc0 c
  go_enter Try.func72, Try.ntmps72
  go_wp2
  go_ret
  exact ⟨_, rfl, Kd.R_nil _ _ _ _ _, Below.refl _ _⟩
 | some ad =>
  have HR := Aside0.mk hr0
  have HC := Aside0.mk hc0
  have HL := Aside0.mk c
  clear hr0 hc0 c
  go_enter Try.func72, Try.ntmps72
  go_wp2_with (first
   | ((with_reducible refine gate_dst (N := 5) rfl ?_); refine Kd.R_lit Kd.string _ 9 ?hg (N := 5) ?hd (xs := ([] : List ByteArray)) (inner := []) (ok := fun _ => True) (okp := fun _ => True) ?hr ?hp (fun _ hk => hk) trivial (Below.refl _ _) (Nat.le_refl _) (by simp) ?_; (case hd => rfl); (case hg => rfl); (case hr => first | (go_simp; done) | (go_simp; rfl)); (case hp => exact (Reps.none _ _)); intro v5 w1 ho1 hb1 hg_ hnew_; clear hg_ hnew_; have HO1 := Aside0.mk (show Kd.R Kd.string 9 w1 w.heap.size (fun _ => True) v5 ([] : List ByteArray) from ho1); have HB1 := Aside0.mk hb1; clear ho1 hb1)
   | ((with_reducible refine gate_builtin (b := .append) (xs := #[.tmp 5, .tmp 6]) rfl ?_); at_builtin; refine Kd.R_append_rows Kd.string (w0 := w) w.heap.size rfl (.tmp 5) (.tmp 6) 22 9 (.string ⟨#[]⟩) 16 rfl Try.underlying22 info9 rfl (by decide) (by omega) v5 ([] : List ByteArray) l0 _ _ _ (fun _ => True) (fun _ => False) rfl rfl ?aO ?aR (fun _ _ h => h) (fun _ h => h.elim) ?aF ?aB ?aS ?aL ?_; (case aO => (with_reducible repeat (first | apply Kd.R_alloc | apply Kd.R_drewN | apply Kd.R_drew)); exact HO1.out); (case aR => exact cz (Kd.C_below HR.out HB1.out)); (case aF => exact fun _ _ => trivial); (case aB => repeat (first | (with_reducible first | exact HB1.out | apply below_alloc | apply pw_below_drewN | apply below_drew1) | exact HB1.out)); (case aS => exact HB1.out.size); (case aL => have := HL.out; simp only [List.length_nil]; omega); intro v7 w2 ho2 hb2 hg2 hat2; have HO2 := Aside0.mk ho2; have HB2 := Aside0.mk hb2; clear ho2 hb2 hg2 hat2))
  go_ret
  exact ⟨_, rfl, HO2.out, HB2.out⟩

/-! ### impl_Imp: function 73 (a contract of mine) -/
def impl_Imp.f (l0 : List S73) : Option (List S73) := if l0.length * 48 ≤ 140737488355328 then some l0 else none
theorem impl_Imp.none_ {w : World} {l0 : List S73} (h : Kd.C k73 w none l0.length l0) : l0 = [] := by
 cases l0 with
 | nil => rfl
 | cons x r =>
  obtain ⟨ad, c, e, _⟩ := Kd.C_get h x 0 (Int.le_refl _) (by simp only [List.length_cons]; omega)
  cases e
set_option maxHeartbeats 4000000 in
set_option maxRecDepth 100000 in
theorem impl_Imp.calls (A0 : Option Addr) (c0 : Nat) (l0 : List S73) (r : List S73) (w : World) (hr0 : Kd.C k73 w A0 l0.length l0) (hc0 : l0.length ≤ c0) (h : impl_Imp.f l0 = some r) :
  Calls Try.prog 73 #[.slice A0 l0.length c0] w fun e w' => ∃ v0_ : Value, e = .returned (v0_) ∧ Kd.R k73 73 w' w.heap.size (fun _ => True) v0_ r ∧ Below w.heap.size w w' := by
 unfold impl_Imp.f at h
 by_cases c : l0.length * 48 ≤ 140737488355328
 case neg => rw [if_neg c] at h; cases h
 rw [if_pos c] at h
 obtain rfl := Option.some.inj h
 clear h
 have hq : ∀ (w : World) (a : Option Addr) (n c n' c' : Nat), (binOp .eql 31 (.slice a n c) (.slice none n' c')).run Try.prog w = .ok (.bool a.isNone) w := fun w a n c n' c' => Lib.run_eql_slice_nil w _ _ a n c n' c' Try.underlying31
 cases A0 with
 | none =>
  obtain rfl := impl_Imp.none_ hr0
  clear hr0 hc0 c
  go_enter Try.func73, Try.ntmps73
  go_wp2
  go_ret
  exact ⟨_, rfl, Kd.R_nil _ _ _ _ _, Below.refl _ _⟩
 | some ad =>
  have HR := Aside0.mk hr0
  have HC := Aside0.mk hc0
  have HL := Aside0.mk c
  clear hr0 hc0 c
  go_enter Try.func73, Try.ntmps73
  go_wp2_with (first
   | ((with_reducible refine gate_dst (N := 5) rfl ?_); refine Kd.R_lit k73 _ 73 ?hg (N := 5) ?hd (xs := ([] : List S73)) (inner := []) (ok := fun _ => True) (okp := fun _ => True) ?hr ?hp (fun _ hk => hk) trivial (Below.refl _ _) (Nat.le_refl _) (by simp) ?_; (case hd => rfl); (case hg => rfl); (case hr => first | (go_simp; done) | (go_simp; rfl)); (case hp => exact (Reps.none _ _)); intro v5 w1 ho1 hb1 hg_ hnew_; clear hg_ hnew_; have HO1 := Aside0.mk (show Kd.R k73 73 w1 w.heap.size (fun _ => True) v5 ([] : List S73) from ho1); have HB1 := Aside0.mk hb1; clear ho1 hb1)
   | ((with_reducible refine gate_builtin (b := .append) (xs := #[.tmp 5, .tmp 6]) rfl ?_); at_builtin; refine Kd.R_append_rows k73 (w0 := w) w.heap.size rfl (.tmp 5) (.tmp 6) 31 73 (.agg #[(.string ⟨#[]⟩), (.string ⟨#[]⟩), (.string ⟨#[]⟩)]) 48 rfl Try.underlying31 info73 rfl (by decide) (by omega) v5 ([] : List S73) l0 _ _ _ (fun _ => True) (fun _ => False) rfl rfl ?aO ?aR (fun _ _ h => h) (fun _ h => h.elim) ?aF ?aB ?aS ?aL ?_; (case aO => (with_reducible repeat (first | apply Kd.R_alloc | apply Kd.R_drewN | apply Kd.R_drew)); exact HO1.out); (case aR => exact cz (Kd.C_below HR.out HB1.out)); (case aF => exact fun _ _ => trivial); (case aB => repeat (first | (with_reducible first | exact HB1.out | apply below_alloc | apply pw_below_drewN | apply below_drew1) | exact HB1.out)); (case aS => exact HB1.out.size); (case aL => have := HL.out; simp only [List.length_nil]; omega); intro v7 w2 ho2 hb2 hg2 hat2; have HO2 := Aside0.mk ho2; have HB2 := Aside0.mk hb2; clear ho2 hb2 hg2 hat2))
  go_ret
  exact ⟨_, rfl, HO2.out, HB2.out⟩

/-! ### impl_Exp: function 74 (a contract of mine) -/
def impl_Exp.f (l0 : List S55) : Option (List S55) := if l0.length * 56 ≤ 140737488355328 then some l0 else none
theorem impl_Exp.none_ {w : World} {l0 : List S55} (h : Kd.C k55 w none l0.length l0) : l0 = [] := by
 cases l0 with
 | nil => rfl
 | cons x r =>
  obtain ⟨ad, c, e, _⟩ := Kd.C_get h x 0 (Int.le_refl _) (by simp only [List.length_cons]; omega)
  cases e
set_option maxHeartbeats 4000000 in
set_option maxRecDepth 100000 in
theorem impl_Exp.calls (A0 : Option Addr) (c0 : Nat) (l0 : List S55) (r : List S55) (w : World) (hr0 : Kd.C k55 w A0 l0.length l0) (hc0 : l0.length ≤ c0) (h : impl_Exp.f l0 = some r) :
  Calls Try.prog 74 #[.slice A0 l0.length c0] w fun e w' => ∃ v0_ : Value, e = .returned (v0_) ∧ Kd.R k55 55 w' w.heap.size (fun _ => True) v0_ r ∧ Below w.heap.size w w' := by
 unfold impl_Exp.f at h
 by_cases c : l0.length * 56 ≤ 140737488355328
 case neg => rw [if_neg c] at h; cases h
 rw [if_pos c] at h
 obtain rfl := Option.some.inj h
 clear h
 have hq : ∀ (w : World) (a : Option Addr) (n c n' c' : Nat), (binOp .eql 32 (.slice a n c) (.slice none n' c')).run Try.prog w = .ok (.bool a.isNone) w := fun w a n c n' c' => Lib.run_eql_slice_nil w _ _ a n c n' c' Try.underlying32
 cases A0 with
 | none =>
  obtain rfl := impl_Exp.none_ hr0
  clear hr0 hc0 c
  go_enter Try.func74, Try.ntmps74
  go_wp2
  go_ret
  exact ⟨_, rfl, Kd.R_nil _ _ _ _ _, Below.refl _ _⟩
 | some ad =>
  have HR := Aside0.mk hr0
  have HC := Aside0.mk hc0
  have HL := Aside0.mk c
  clear hr0 hc0 c
  go_enter Try.func74, Try.ntmps74
  go_wp2_with (first
   | ((with_reducible refine gate_dst (N := 5) rfl ?_); refine Kd.R_lit k55 _ 55 ?hg (N := 5) ?hd (xs := ([] : List S55)) (inner := []) (ok := fun _ => True) (okp := fun _ => True) ?hr ?hp (fun _ hk => hk) trivial (Below.refl _ _) (Nat.le_refl _) (by simp) ?_; (case hd => rfl); (case hg => rfl); (case hr => first | (go_simp; done) | (go_simp; rfl)); (case hp => exact (Reps.none _ _)); intro v5 w1 ho1 hb1 hg_ hnew_; clear hg_ hnew_; have HO1 := Aside0.mk (show Kd.R k55 55 w1 w.heap.size (fun _ => True) v5 ([] : List S55) from ho1); have HB1 := Aside0.mk hb1; clear ho1 hb1)
   | ((with_reducible refine gate_builtin (b := .append) (xs := #[.tmp 5, .tmp 6]) rfl ?_); at_builtin; refine Kd.R_append_rows k55 (w0 := w) w.heap.size rfl (.tmp 5) (.tmp 6) 32 55 (.agg #[(.int .i64 0), (.string ⟨#[]⟩), (.string ⟨#[]⟩), (.string ⟨#[]⟩)]) 56 rfl Try.underlying32 info55 rfl (by decide) (by omega) v5 ([] : List S55) l0 _ _ _ (fun _ => True) (fun _ => False) rfl rfl ?aO ?aR (fun _ _ h => h) (fun _ h => h.elim) ?aF ?aB ?aS ?aL ?_; (case aO => (with_reducible repeat (first | apply Kd.R_alloc | apply Kd.R_drewN | apply Kd.R_drew)); exact HO1.out); (case aR => exact cz (Kd.C_below HR.out HB1.out)); (case aF => exact fun _ _ => trivial); (case aB => repeat (first | (with_reducible first | exact HB1.out | apply below_alloc | apply pw_below_drewN | apply below_drew1) | exact HB1.out)); (case aS => exact HB1.out.size); (case aL => have := HL.out; simp only [List.length_nil]; omega); intro v7 w2 ho2 hb2 hg2 hat2; have HO2 := Aside0.mk ho2; have HB2 := Aside0.mk hb2; clear ho2 hb2 hg2 hat2))
  go_ret
  exact ⟨_, rfl, HO2.out, HB2.out⟩

end Go.Proofs.Ytopicidanlienaa.PFnExactTrim

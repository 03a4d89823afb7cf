-- Out of the kit's print, with contracts of mine among it (myprint.py).
import Derived.Test.YtopicidanlienaaPFnExactTrimx0
import Derived.Test.YtopicidanlienaaPFnExactTrimx6
import Derived.Test.YtopicidanlienaaPFnExactTrimx8
import Derived.Test.YtopicidanlienaaPFnExactTrimx9
namespace Go.Proofs.Ytopicidanlienaa.PFnExactTrim
open Go.RowKit Go.Proofs.YtopicidanlienaaW.PrintWords Go.Proofs.YtopicidanlienaaW.PrintLast Go.Proofs.YtopicidanlienaaW.PrintMore
attribute [local go_sem] max2_int min2_int max_two min_two max_three min_three max_four min_four   -- for this text's walks alone
set_option linter.unusedVariables false
set_option linter.unusedSimpArgs false

/-! ### spec_Trim: function 17 -/
abbrev bt0_10 : Array Bool := #[false, false, false, false, false, false, false, false, false, false, false]
abbrev bt1_10 : Array Bool := #[true, false, false, false, false, false, false, false, false, false, false]
abbrev bt2_10 : Array Bool := #[true, false, true, false, false, false, false, false, false, false, false]
abbrev bt3_10 : Array Bool := #[true, false, true, false, true, false, false, false, false, false, false]
abbrev bt4_10 : Array Bool := #[true, true, true, false, true, false, false, false, false, false, false]
abbrev bt5_10 : Array Bool := #[true, true, true, true, true, false, false, false, false, false, false]
abbrev bt6_10 : Array Bool := #[true, true, true, true, true, true, false, false, false, false, false]
abbrev bt7_10 : Array Bool := #[true, true, true, true, true, true, true, false, false, false, false]
abbrev bt8_10 : Array Bool := #[true, true, true, true, true, true, true, true, false, false, false]
abbrev bt9_10 : Array Bool := #[true, true, true, true, true, true, true, true, true, false, false]
abbrev bt10_10 : Array Bool := #[true, true, true, true, true, true, true, true, true, true, false]
abbrev bt11_10 : Array Bool := #[true, true, true, true, true, true, true, true, true, true, true]
def spec_Trim.l0 : Nat → List ByteArray → Int → List ByteArray → List (S73) → List (S55) → List (S53) → List (S50) → List ByteArray → List (S73) → List (S55) → List (S53) → List (S50) → Option (List ByteArray × (List (S73)) × (List (S55)) × (List (S53)) × (List (S50)))
 | 0, _, _, _, _, _, _, _, _, _, _, _, _ => none
 | k + 1, x4, x5, x351000, x351001, x351002, x351003, x351004, x368000, x368001, x368002, x368003, x368004 => if x5 < (x351001.length : Int) then (if 0 ≤ x5 then ((spec_l6In.f k x4 ((rd_T73 x351001 x5).f2)).bind fun t375 => (if t375 = true then (spec_Trim.l0 k x4 (wrap64 (x5 + 1)) x351000 x351001 x351002 x351003 x351004 x368000 x368001 x368002 x368003 x368004) else (if x368001.length < 2932031007402 then (spec_Trim.l0 k x4 (wrap64 (x5 + 1)) x351000 x351001 x351002 x351003 x351004 x368000 (x368001 ++ [(⟨(rd_T73 x351001 x5).f0, (rd_T73 x351001 x5).f1, (rd_T73 x351001 x5).f2⟩ : S73)]) x368002 x368003 x368004) else (none)))) else (none)) else (some (x368000, x368001, x368002, x368003, x368004))
def spec_Trim.f (k : Nat) (l0_0 : List ByteArray) (l0_1 : List (S73)) (l0_2 : List (S55)) (l0_3 : List (S53)) (l0_4 : List (S50)) : Option (List ByteArray × (List (S73)) × (List (S55)) × (List (S53)) × (List (S50))) := (spec_l14Copy.f l0_0 l0_1 l0_2 l0_3 l0_4).bind fun bt352 => ((spec_Unused.f k l0_0 l0_1 l0_2 l0_3 l0_4).bind fun t371 => (spec_Trim.l0 k t371 0 l0_0 l0_1 l0_2 l0_3 l0_4 bt352.1 (([] : List (S73))) bt352.2.2.1 bt352.2.2.2.1 bt352.2.2.2.2))
theorem spec_Trim.mono_l : ∀ k, (∀ y0 y1 y2 y3 y4 y5 y6 y7 y8 y9 y10 y11, LeO (spec_Trim.l0 k y0 y1 y2 y3 y4 y5 y6 y7 y8 y9 y10 y11) (spec_Trim.l0 (k + 1) y0 y1 y2 y3 y4 y5 y6 y7 y8 y9 y10 y11))
 | 0 => fun _ _ _ _ _ _ _ _ _ _ _ _ r h => by simp [spec_Trim.l0] at h
 | k + 1 => by
  have ih0 := spec_Trim.mono_l k
  ·intro y0 y1 y2 y3 y4 y5 y6 y7 y8 y9 y10 y11
   unfold spec_Trim.l0
   repeat' (first | (with_reducible first | exact ih0 _ _ _ _ _ _ _ _ _ _ _ _ | exact spec_Unused.mono _ _ _ _ _ _ | exact spec_l6In.mono _ _ _ | exact LeO.refl _ | exact LeO.none _ | refine LeO.ite ?_ ?_ | refine LeO.bind ?_ (fun _ => ?_)) | exact LeO.none _ | refine LeO.ite ?_ ?_ | refine LeO.bind ?_ (fun _ => ?_))
theorem spec_Trim.mono : ∀ a0 a1 a2 a3 a4 k, LeO (spec_Trim.f k a0 a1 a2 a3 a4) (spec_Trim.f (k + 1) a0 a1 a2 a3 a4) := by
 intro a0 a1 a2 a3 a4 k
 have ih0 := spec_Trim.mono_l k
 unfold spec_Trim.f
 repeat' (first | (with_reducible first | exact ih0 _ _ _ _ _ _ _ _ _ _ _ _ | exact spec_Unused.mono _ _ _ _ _ _ | exact spec_l6In.mono _ _ _ | exact LeO.refl _ | exact LeO.none _ | refine LeO.ite ?_ ?_ | refine LeO.bind ?_ (fun _ => ?_)) | exact LeO.none _ | refine LeO.ite ?_ ?_ | refine LeO.bind ?_ (fun _ => ?_))
def spec_Trim.T8 : Bool × List (List Nat × List Nat) := (true, [([], []), ([0], [0]), ([], []), ([2], [2]), ([], []), ([3, 4], [3, 4]), ([5], [5]), ([6], [6]), ([1, 7], [1, 7]), ([0, 1, 2, 3, 4, 5, 6, 7, 8], []), ([9, 8, 8, 0, 1, 2, 3, 4, 5, 6, 7, 8], [8, 9])])
def spec_Trim.B8 : List Nat := [0, 1, 0, 4, 0, 28, 60, 124, 255, 511, 1023]
theorem spec_Trim.tab8 : rtab .any (opsOf Try.f17 8) = spec_Trim.T8 := by kernel_rfl
theorem spec_Trim.bits8 : waitsOk spec_Trim.T8.2 spec_Trim.B8 = true := by kernel_rfl
set_option maxHeartbeats 8000000 in
set_option maxRecDepth 100000 in
theorem spec_Trim.calls (k : Nat) (A0_0 : Option Addr) (c0_0 : Nat) (l0_0 : List ByteArray) (A0_1 : Option Addr) (c0_1 : Nat) (l0_1 : List (S73)) (A0_2 : Option Addr) (c0_2 : Nat) (l0_2 : List (S55)) (A0_3 : Option Addr) (c0_3 : Nat) (l0_3 : List (S53)) (A0_4 : Option Addr) (c0_4 : Nat) (l0_4 : List (S50)) (r1 : List ByteArray) (r2 : List (S73)) (r3 : List (S55)) (r4 : List (S53)) (r5 : List (S50)) (w : World) (hr0_0 : Kd.C Kd.string w A0_0 l0_0.length l0_0) (hc0_0 : l0_0.length ≤ c0_0) (hr0_1 : Kd.C k73 w A0_1 l0_1.length l0_1) (hc0_1 : l0_1.length ≤ c0_1) (hr0_2 : Kd.C k55 w A0_2 l0_2.length l0_2) (hc0_2 : l0_2.length ≤ c0_2) (hr0_3 : Kd.C k53 w A0_3 l0_3.length l0_3) (hc0_3 : l0_3.length ≤ c0_3) (hr0_4 : Kd.C k50 w A0_4 l0_4.length l0_4) (hc0_4 : l0_4.length ≤ c0_4) (h : spec_Trim.f k l0_0 l0_1 l0_2 l0_3 l0_4 = some (r1, r2, r3, r4, r5)) :
  Calls Try.prog 17 #[.agg #[.slice A0_0 l0_0.length c0_0, .slice A0_1 l0_1.length c0_1, .slice A0_2 l0_2.length c0_2, .slice A0_3 l0_3.length c0_3, .slice A0_4 l0_4.length c0_4]] w fun e w' => ∃ v0_ v1_ v2_ v3_ v4_ : Value, e = .returned (.agg #[v0_, v1_, v2_, v3_, v4_]) ∧ Kd.R Kd.string 9 w' w.heap.size (fun _ => True) v0_ r1 ∧ Kd.R k73 73 w' w.heap.size (fun _ => True) v1_ r2 ∧ Kd.R k55 55 w' w.heap.size (fun _ => True) v2_ r3 ∧ Kd.R k53 53 w' w.heap.size (fun _ => True) v3_ r4 ∧ Kd.R k50 50 w' w.heap.size (fun _ => True) v4_ r5 ∧ Below w.heap.size w w' := by
 have hu36 := Try.underlying36
 have hu73 := Try.underlying73
 have HR0_0 := Aside0.mk hr0_0
 have HC0_0 := Aside0.mk hc0_0
 clear hr0_0 hc0_0
 have HR0_1 := Aside0.mk hr0_1
 have HC0_1 := Aside0.mk hc0_1
 clear hr0_1 hc0_1
 have HR0_2 := Aside0.mk hr0_2
 have HC0_2 := Aside0.mk hc0_2
 clear hr0_2 hc0_2
 have HR0_3 := Aside0.mk hr0_3
 have HC0_3 := Aside0.mk hc0_3
 clear hr0_3 hc0_3
 have HR0_4 := Aside0.mk hr0_4
 have HC0_4 := Aside0.mk hc0_4
 clear hr0_4 hc0_4
 have HB := Aside0.mk (Below.refl w.heap.size w)
 try unfold spec_Trim.f at h
 have H := h
 clear h
 replace H := bnd H
 obtain ⟨⟨t352, t355, t358, t361, t364⟩, A2, H⟩ := H
 try dsimp only at H
 obtain ⟨y368, hy368⟩ : ∃ y_ : List (S73), y_ = (([] : List (S73))) := ⟨_, rfl⟩
 rw [← hy368] at H
 have Ny368 := Aside0.mk hy368
 clear hy368
 replace H := bnd H
 obtain ⟨t371, A3, H⟩ := H
 try dsimp only at H
 have H' := Aside0.mk H
 clear H
 go_enter Try.func17, Try.ntmps17
 go_wp2_with (first | ((with_reducible refine gate_dst (N := 1) rfl ?_); refine box_event ?hg (N := 1) ?hd (cs := #[.slice A0_0 l0_0.length c0_0, .slice A0_1 l0_1.length c0_1, .slice A0_2 l0_2.length c0_2, .slice A0_3 l0_3.length c0_3, .slice A0_4 l0_4.length c0_4]) (t := 36) ?hr ?_; (case hd => rfl); (case hg => rfl); (case hr => first | (go_simp; done) | (go_simp; rfl)); intro gb350 hg w4 hbox hb; have n0_ := Aside0.mk (below_step zt3 hb); have n1_ := Aside0.mk (hbox); have n2_ := Aside0.mk ((zt6 : w.heap.size ≤ gb350)); have n3_ := Aside0.mk ((zt6 : w.heap.size ≤ gb350)); clear HB; have HB := n0_; have BK350 := n1_; have GW350 := n2_; have GE350 := n3_; clear n0_ n1_ n2_ n3_; clear hb hbox hg) | ((with_reducible refine gate_dst (N := 2) rfl ?_); refine box_event ?hg (N := 2) ?hd (cs := #[.slice none 0 0, .slice none 0 0, .slice none 0 0, .slice none 0 0, .slice none 0 0]) (t := 36) ?hr ?_; (case hd => rfl); (case hg => rfl); (case hr => first | (go_simp; done) | (go_simp; rfl)); intro gb351 hg w5 hbox hb; have n0_ := Aside0.mk (blk_below (g := gb350) (o := .cells #[.slice A0_0 l0_0.length c0_0, .slice A0_1 l0_1.length c0_1, .slice A0_2 l0_2.length c0_2, .slice A0_3 l0_3.length c0_3, .slice A0_4 l0_4.length c0_4] 36 (0, 0)) (oz BK350.out) hb); have n1_ := Aside0.mk (below_step (by repeat (first | (with_reducible first | exact HB.out | apply below_alloc | apply pw_below_drewN | apply below_drew1 | refine below_set ?_ GE350.out) | exact HB.out)) hb); have n2_ := Aside0.mk (hbox); have n3_ := Aside0.mk ((by rw [hg]; exact (below_size (by repeat (first | (with_reducible first | exact HB.out | apply below_alloc | apply pw_below_drewN | apply below_drew1 | refine below_set ?_ GE350.out) | exact HB.out))) : w.heap.size ≤ gb351)); have n4_ := Aside0.mk ((by rw [hg]; exact (below_size (by repeat (first | (with_reducible first | exact HB.out | apply below_alloc | apply pw_below_drewN | apply below_drew1 | refine below_set ?_ GE350.out) | exact HB.out))) : w.heap.size ≤ gb351)); have n5_ := Aside0.mk ((by rw [hg]; exact Nat.ne_of_lt (blk_lt (g := gb350) (o := .cells #[.slice A0_0 l0_0.length c0_0, .slice A0_1 l0_1.length c0_1, .slice A0_2 l0_2.length c0_2, .slice A0_3 l0_3.length c0_3, .slice A0_4 l0_4.length c0_4] 36 (0, 0)) (oz BK350.out)) : gb350 ≠ gb351)); have n6_ := Aside0.mk ((by rw [hg]; exact Nat.ne_of_gt (blk_lt (g := gb350) (o := .cells #[.slice A0_0 l0_0.length c0_0, .slice A0_1 l0_1.length c0_1, .slice A0_2 l0_2.length c0_2, .slice A0_3 l0_3.length c0_3, .slice A0_4 l0_4.length c0_4] 36 (0, 0)) (oz BK350.out)) : gb351 ≠ gb350)); clear BK350; clear HB; have BK350 := n0_; have HB := n1_; have BK351 := n2_; have GW351 := n3_; have GE351 := n4_; have NB350_351 := n5_; have NB351_350 := n6_; clear n0_ n1_ n2_ n3_ n4_ n5_ n6_; clear hb hbox hg; have hnb6 := NB350_351.out; have hnc6 := NB351_350.out; have hcz7_0 : w5.cell? ⟨gb350, 0, none⟩ = some (.slice A0_0 l0_0.length c0_0) := (blk_cell BK350.out 0).trans rfl; have hcz7_1 : w5.cell? ⟨gb350, 1, none⟩ = some (.slice A0_1 l0_1.length c0_1) := (blk_cell BK350.out 1).trans rfl; have hcz7_2 : w5.cell? ⟨gb350, 2, none⟩ = some (.slice A0_2 l0_2.length c0_2) := (blk_cell BK350.out 2).trans rfl; have hcz7_3 : w5.cell? ⟨gb350, 3, none⟩ = some (.slice A0_3 l0_3.length c0_3) := (blk_cell BK350.out 3).trans rfl; have hcz7_4 : w5.cell? ⟨gb350, 4, none⟩ = some (.slice A0_4 l0_4.length c0_4) := (blk_cell BK350.out 4).trans rfl; have hfz7_0 := blk_frozen BK350.out 0; have hfz7_1 := blk_frozen BK350.out 1; have hfz7_2 := blk_frozen BK350.out 2; have hfz7_3 := blk_frozen BK350.out 3; have hfz7_4 := blk_frozen BK350.out 4) | ((with_reducible refine gate_callee (f := 48) rfl ?_); refine goesL_ (some 7) rfl rfl Try.func48 (by kernel_rfl) rfl #[.agg #[.slice A0_0 l0_0.length c0_0, .slice A0_1 l0_1.length c0_1, .slice A0_2 l0_2.length c0_2, .slice A0_3 l0_3.length c0_3, .slice A0_4 l0_4.length c0_4]] rfl zt5 ?_; (with_reducible refine (spec_l14Copy.calls _ _ l0_0 _ _ l0_1 _ _ l0_2 _ _ l0_3 _ _ l0_4 t352 t355 t358 t361 t364 _ ?side1 ?side2 ?side3 ?side4 ?side5 ?side6 ?side7 ?side8 ?side9 ?side10 A2.out).mono ?_); (case side1 => exact cz (Kd.C_below HR0_0.out HB.out)); (case side2 => exact HC0_0.out); (case side3 => exact cz (Kd.C_below HR0_1.out HB.out)); (case side4 => exact HC0_1.out); (case side5 => exact cz (Kd.C_below HR0_2.out HB.out)); (case side6 => exact HC0_2.out); (case side7 => exact cz (Kd.C_below HR0_3.out HB.out)); (case side8 => exact HC0_3.out); (case side9 => exact cz (Kd.C_below HR0_4.out HB.out)); (case side10 => exact HC0_4.out); rintro e w8 ⟨v353, v356, v359, v362, v365, rfl, ho0, ho1, ho2, ho3, ho4, hb⟩; refine ⟨_, rfl, ?_⟩; have n0_ := Aside0.mk (Kd.R_lower ho0 (below_size zt19)); have n1_ := Aside0.mk (Kd.R_lower ho1 (below_size zt19)); have n2_ := Aside0.mk (Kd.R_lower ho2 (below_size zt19)); have n3_ := Aside0.mk (Kd.R_lower ho3 (below_size zt19)); have n4_ := Aside0.mk (Kd.R_lower ho4 (below_size zt19)); have n5_ := Aside0.mk (blk_below (g := gb350) (o := .cells #[.slice A0_0 l0_0.length c0_0, .slice A0_1 l0_1.length c0_1, .slice A0_2 l0_2.length c0_2, .slice A0_3 l0_3.length c0_3, .slice A0_4 l0_4.length c0_4] 36 (0, 0)) (oz BK350.out) hb); have n6_ := Aside0.mk (blk_below (g := gb351) (o := .cells #[.slice none 0 0, .slice none 0 0, .slice none 0 0, .slice none 0 0, .slice none 0 0] 36 (0, 0)) (oz BK351.out) hb); have n7_ := Aside0.mk (below_step zt19 hb); clear BK350; clear BK351; clear HB; have HO354 := n0_; have HO357 := n1_; have HO360 := n2_; have HO363 := n3_; have HO366 := n4_; have BK350 := n5_; have BK351 := n6_; have HB := n7_; clear n0_ n1_ n2_ n3_ n4_ n5_ n6_ n7_; (try clear hb); (try clear hb2); (try clear hk); (try clear hi); (try clear ho0); (try clear ho1); (try clear ho2); (try clear ho3); (try clear ho4)) | ((with_reducible refine gate_dst (N := 3) rfl ?_); refine box_event ?hg (N := 3) ?hd (cs := #[.slice none 0 0, .slice none 0 0, .slice none 0 0, .slice none 0 0, .slice none 0 0]) (t := 36) ?hr ?_; (case hd => rfl); (case hg => rfl); (case hr => first | (go_simp; done) | (go_simp; rfl)); intro gb367 hg w9 hbox hb; have n0_ := Aside0.mk (Kd.R_below (rz HO354.out) hb); have n1_ := Aside0.mk (Kd.R_below (rz HO357.out) hb); have n2_ := Aside0.mk (Kd.R_below (rz HO360.out) hb); have n3_ := Aside0.mk (Kd.R_below (rz HO363.out) hb); have n4_ := Aside0.mk (Kd.R_below (rz HO366.out) hb); have n5_ := Aside0.mk (blk_below (g := gb350) (o := .cells #[.slice A0_0 l0_0.length c0_0, .slice A0_1 l0_1.length c0_1, .slice A0_2 l0_2.length c0_2, .slice A0_3 l0_3.length c0_3, .slice A0_4 l0_4.length c0_4] 36 (0, 0)) (oz BK350.out) hb); have n6_ := Aside0.mk (blk_below (g := gb351) (o := .cells #[.slice none 0 0, .slice none 0 0, .slice none 0 0, .slice none 0 0, .slice none 0 0] 36 (0, 0)) (oz BK351.out) hb); have n7_ := Aside0.mk (below_step zt19 hb); have n8_ := Aside0.mk (hbox); have n9_ := Aside0.mk ((by rw [hg]; exact (below_size zt19) : w.heap.size ≤ gb367)); have n10_ := Aside0.mk ((by rw [hg]; exact (below_size zt19) : w.heap.size ≤ gb367)); have n11_ := Aside0.mk ((by rw [hg]; exact Nat.ne_of_lt (blk_lt (g := gb350) (o := .cells #[.slice A0_0 l0_0.length c0_0, .slice A0_1 l0_1.length c0_1, .slice A0_2 l0_2.length c0_2, .slice A0_3 l0_3.length c0_3, .slice A0_4 l0_4.length c0_4] 36 (0, 0)) (oz BK350.out)) : gb350 ≠ gb367)); have n12_ := Aside0.mk ((by rw [hg]; exact Nat.ne_of_gt (blk_lt (g := gb350) (o := .cells #[.slice A0_0 l0_0.length c0_0, .slice A0_1 l0_1.length c0_1, .slice A0_2 l0_2.length c0_2, .slice A0_3 l0_3.length c0_3, .slice A0_4 l0_4.length c0_4] 36 (0, 0)) (oz BK350.out)) : gb367 ≠ gb350)); have n13_ := Aside0.mk ((by rw [hg]; exact Nat.ne_of_lt (blk_lt (g := gb351) (o := .cells #[.slice none 0 0, .slice none 0 0, .slice none 0 0, .slice none 0 0, .slice none 0 0] 36 (0, 0)) (oz BK351.out)) : gb351 ≠ gb367)); have n14_ := Aside0.mk ((by rw [hg]; exact Nat.ne_of_gt (blk_lt (g := gb351) (o := .cells #[.slice none 0 0, .slice none 0 0, .slice none 0 0, .slice none 0 0, .slice none 0 0] 36 (0, 0)) (oz BK351.out)) : gb367 ≠ gb351)); clear HO354; clear HO357; clear HO360; clear HO363; clear HO366; clear BK350; clear BK351; clear HB; have HO354 := n0_; have HO357 := n1_; have HO360 := n2_; have HO363 := n3_; have HO366 := n4_; have BK350 := n5_; have BK351 := n6_; have HB := n7_; have BK367 := n8_; have GW367 := n9_; have GE367 := n10_; have NB350_367 := n11_; have NB367_350 := n12_; have NB351_367 := n13_; have NB367_351 := n14_; clear n0_ n1_ n2_ n3_ n4_ n5_ n6_ n7_ n8_ n9_ n10_ n11_ n12_ n13_ n14_; clear hb hbox hg; obtain ⟨Ao10, co10, eo10⟩ := Kd.R_slice HO354.out; subst eo10; have hnb11 := NB367_350.out; have hnc11 := NB350_367.out; have hnb12 := NB367_351.out; have hnc12 := NB351_367.out; have hcz13_0 : w9.cell? ⟨gb367, 0, none⟩ = some (.slice none 0 0) := (blk_cell BK367.out 0).trans rfl; have hcz13_1 : w9.cell? ⟨gb367, 1, none⟩ = some (.slice none 0 0) := (blk_cell BK367.out 1).trans rfl; have hcz13_2 : w9.cell? ⟨gb367, 2, none⟩ = some (.slice none 0 0) := (blk_cell BK367.out 2).trans rfl; have hcz13_3 : w9.cell? ⟨gb367, 3, none⟩ = some (.slice none 0 0) := (blk_cell BK367.out 3).trans rfl; have hcz13_4 : w9.cell? ⟨gb367, 4, none⟩ = some (.slice none 0 0) := (blk_cell BK367.out 4).trans rfl; have hfz13_0 := blk_frozen BK367.out 0; have hfz13_1 := blk_frozen BK367.out 1; have hfz13_2 := blk_frozen BK367.out 2; have hfz13_3 := blk_frozen BK367.out 3; have hfz13_4 := blk_frozen BK367.out 4; obtain ⟨Ao14, co14, eo14⟩ := Kd.R_slice HO357.out; subst eo14; obtain ⟨Ao15, co15, eo15⟩ := Kd.R_slice HO360.out; subst eo15; obtain ⟨Ao16, co16, eo16⟩ := Kd.R_slice HO363.out; subst eo16; obtain ⟨Ao17, co17, eo17⟩ := Kd.R_slice HO366.out; subst eo17) | ((with_reducible refine gate_dst (N := 8) rfl ?_); refine Kd.R_lit k73 _ 73 ?hg (N := 8) ?hd (xs := ([] : List (S73))) (inner := []) (ok := fun _ => True) (okp := fun _ => True) ?hr ?hp (fun _ hk => hk) trivial (Below.refl _ _) (Nat.le_refl _) (by simp) ?_; (case hd => rfl); (case hg => rfl); (case hr => first | (go_simp; done) | (go_simp; rfl)); (case hp => exact (Reps.none _ _)); intro v369 w18 ho19 hb hg_ hnew_; clear hg_ hnew_; (first | rw [← Ny368.out] at ho19 | (simp only [Int.reduceToNat] at ho19; rw [← Ny368.out] at ho19)); have n0_ := Aside0.mk (Kd.R_below (by (with_reducible repeat (first | apply Kd.R_alloc | apply Kd.R_drewN | apply Kd.R_drew)); exact (Kd.R_mono (Kd.R_far (p := ⟨gb367, 4, none⟩) (Kd.R_far (p := ⟨gb367, 3, none⟩) (Kd.R_far (p := ⟨gb367, 2, none⟩) (Kd.R_far (p := ⟨gb367, 1, none⟩) (Kd.R_far (p := ⟨gb367, 0, none⟩) (Kd.R_types HO354.out BK367.out (by decide)) (fun _ hk => hk.2) (.slice Ao10 t352.length co10)) (fun _ hk => hk.2) (.slice Ao14 t355.length co14)) (fun _ hk => hk.2) (.slice Ao15 t358.length co15)) (fun _ hk => hk.2) (.slice Ao16 t361.length co16)) (fun _ hk => hk.2) (.slice Ao17 t364.length co17)) (fun _ h_ => h_.1))) hb); have n1_ := Aside0.mk (Kd.R_elder' (by (with_reducible repeat (first | apply Kd.R_alloc | apply Kd.R_drewN | apply Kd.R_drew)); exact (Kd.R_mono (Kd.R_far (p := ⟨gb367, 4, none⟩) (Kd.R_far (p := ⟨gb367, 3, none⟩) (Kd.R_far (p := ⟨gb367, 2, none⟩) (Kd.R_far (p := ⟨gb367, 1, none⟩) (Kd.R_far (p := ⟨gb367, 0, none⟩) (Kd.R_types HO357.out BK367.out (by decide)) (fun _ hk => hk.2) (.slice Ao10 t352.length co10)) (fun _ hk => hk.2) (.slice Ao14 t355.length co14)) (fun _ hk => hk.2) (.slice Ao15 t358.length co15)) (fun _ hk => hk.2) (.slice Ao16 t361.length co16)) (fun _ hk => hk.2) (.slice Ao17 t364.length co17)) (fun _ h_ => h_.1))) (Kd.R_base ho19) hb); have n2_ := Aside0.mk (Kd.R_below (by (with_reducible repeat (first | apply Kd.R_alloc | apply Kd.R_drewN | apply Kd.R_drew)); exact (Kd.R_mono (Kd.R_far (p := ⟨gb367, 4, none⟩) (Kd.R_far (p := ⟨gb367, 3, none⟩) (Kd.R_far (p := ⟨gb367, 2, none⟩) (Kd.R_far (p := ⟨gb367, 1, none⟩) (Kd.R_far (p := ⟨gb367, 0, none⟩) (Kd.R_types HO360.out BK367.out (by decide)) (fun _ hk => hk.2) (.slice Ao10 t352.length co10)) (fun _ hk => hk.2) (.slice Ao14 t355.length co14)) (fun _ hk => hk.2) (.slice Ao15 t358.length co15)) (fun _ hk => hk.2) (.slice Ao16 t361.length co16)) (fun _ hk => hk.2) (.slice Ao17 t364.length co17)) (fun _ h_ => h_.1))) hb); have n3_ := Aside0.mk (Kd.R_below (by (with_reducible repeat (first | apply Kd.R_alloc | apply Kd.R_drewN | apply Kd.R_drew)); exact (Kd.R_mono (Kd.R_far (p := ⟨gb367, 4, none⟩) (Kd.R_far (p := ⟨gb367, 3, none⟩) (Kd.R_far (p := ⟨gb367, 2, none⟩) (Kd.R_far (p := ⟨gb367, 1, none⟩) (Kd.R_far (p := ⟨gb367, 0, none⟩) (Kd.R_types HO363.out BK367.out (by decide)) (fun _ hk => hk.2) (.slice Ao10 t352.length co10)) (fun _ hk => hk.2) (.slice Ao14 t355.length co14)) (fun _ hk => hk.2) (.slice Ao15 t358.length co15)) (fun _ hk => hk.2) (.slice Ao16 t361.length co16)) (fun _ hk => hk.2) (.slice Ao17 t364.length co17)) (fun _ h_ => h_.1))) hb); have n4_ := Aside0.mk (Kd.R_below (by (with_reducible repeat (first | apply Kd.R_alloc | apply Kd.R_drewN | apply Kd.R_drew)); exact (Kd.R_mono (Kd.R_far (p := ⟨gb367, 4, none⟩) (Kd.R_far (p := ⟨gb367, 3, none⟩) (Kd.R_far (p := ⟨gb367, 2, none⟩) (Kd.R_far (p := ⟨gb367, 1, none⟩) (Kd.R_far (p := ⟨gb367, 0, none⟩) (Kd.R_types HO366.out BK367.out (by decide)) (fun _ hk => hk.2) (.slice Ao10 t352.length co10)) (fun _ hk => hk.2) (.slice Ao14 t355.length co14)) (fun _ hk => hk.2) (.slice Ao15 t358.length co15)) (fun _ hk => hk.2) (.slice Ao16 t361.length co16)) (fun _ hk => hk.2) (.slice Ao17 t364.length co17)) (fun _ h_ => h_.1))) hb); have n5_ := Aside0.mk (Kd.R_lower (Kd.R_new' ho19 (Kd.R_lt (by (with_reducible repeat (first | apply Kd.R_alloc | apply Kd.R_drewN | apply Kd.R_drew)); exact (Kd.R_mono (Kd.R_far (p := ⟨gb367, 4, none⟩) (Kd.R_far (p := ⟨gb367, 3, none⟩) (Kd.R_far (p := ⟨gb367, 2, none⟩) (Kd.R_far (p := ⟨gb367, 1, none⟩) (Kd.R_far (p := ⟨gb367, 0, none⟩) (Kd.R_types HO357.out BK367.out (by decide)) (fun _ hk => hk.2) (.slice Ao10 t352.length co10)) (fun _ hk => hk.2) (.slice Ao14 t355.length co14)) (fun _ hk => hk.2) (.slice Ao15 t358.length co15)) (fun _ hk => hk.2) (.slice Ao16 t361.length co16)) (fun _ hk => hk.2) (.slice Ao17 t364.length co17)) (fun _ h_ => h_.1))))) (below_size zt12)); have n6_ := Aside0.mk (blk_below (g := gb350) (o := .cells #[.slice A0_0 l0_0.length c0_0, .slice A0_1 l0_1.length c0_1, .slice A0_2 l0_2.length c0_2, .slice A0_3 l0_3.length c0_3, .slice A0_4 l0_4.length c0_4] 36 (0, 0)) (by (with_reducible repeat (first | refine blk_drewN ?_ _ | refine blk_drew ?_ | refine blk_alloc ?_ _)); refine blk_far ?_ NB350_367.out _; (with_reducible repeat (first | refine blk_drewN ?_ _ | refine blk_drew ?_ | refine blk_alloc ?_ _)); refine blk_far ?_ NB350_367.out _; (with_reducible repeat (first | refine blk_drewN ?_ _ | refine blk_drew ?_ | refine blk_alloc ?_ _)); refine blk_far ?_ NB350_367.out _; (with_reducible repeat (first | refine blk_drewN ?_ _ | refine blk_drew ?_ | refine blk_alloc ?_ _)); refine blk_far ?_ NB350_367.out _; (with_reducible repeat (first | refine blk_drewN ?_ _ | refine blk_drew ?_ | refine blk_alloc ?_ _)); refine blk_far ?_ NB350_367.out _; (with_reducible repeat (first | refine blk_drewN ?_ _ | refine blk_drew ?_ | refine blk_alloc ?_ _)); exact BK350.out) hb); have n7_ := Aside0.mk (blk_below (g := gb351) (o := .cells #[.slice none 0 0, .slice none 0 0, .slice none 0 0, .slice none 0 0, .slice none 0 0] 36 (0, 0)) (by (with_reducible repeat (first | refine blk_drewN ?_ _ | refine blk_drew ?_ | refine blk_alloc ?_ _)); refine blk_far ?_ NB351_367.out _; (with_reducible repeat (first | refine blk_drewN ?_ _ | refine blk_drew ?_ | refine blk_alloc ?_ _)); refine blk_far ?_ NB351_367.out _; (with_reducible repeat (first | refine blk_drewN ?_ _ | refine blk_drew ?_ | refine blk_alloc ?_ _)); refine blk_far ?_ NB351_367.out _; (with_reducible repeat (first | refine blk_drewN ?_ _ | refine blk_drew ?_ | refine blk_alloc ?_ _)); refine blk_far ?_ NB351_367.out _; (with_reducible repeat (first | refine blk_drewN ?_ _ | refine blk_drew ?_ | refine blk_alloc ?_ _)); refine blk_far ?_ NB351_367.out _; (with_reducible repeat (first | refine blk_drewN ?_ _ | refine blk_drew ?_ | refine blk_alloc ?_ _)); exact BK351.out) hb); have n8_ := Aside0.mk (blk_below (g := gb367) (o := .cells #[.slice Ao10 t352.length co10, .slice Ao14 t355.length co14, .slice Ao15 t358.length co15, .slice Ao16 t361.length co16, .slice Ao17 t364.length co17] 36 (0, 0)) (by (with_reducible repeat (first | refine blk_drewN ?_ _ | refine blk_drew ?_ | refine blk_alloc ?_ _)); refine blk_put (cs := #[.slice Ao10 t352.length co10, .slice Ao14 t355.length co14, .slice Ao15 t358.length co15, .slice Ao16 t361.length co16, .slice none 0 0]) ?_ 4 _ rfl; (with_reducible repeat (first | refine blk_drewN ?_ _ | refine blk_drew ?_ | refine blk_alloc ?_ _)); refine blk_put (cs := #[.slice Ao10 t352.length co10, .slice Ao14 t355.length co14, .slice Ao15 t358.length co15, .slice none 0 0, .slice none 0 0]) ?_ 3 _ rfl; (with_reducible repeat (first | refine blk_drewN ?_ _ | refine blk_drew ?_ | refine blk_alloc ?_ _)); refine blk_put (cs := #[.slice Ao10 t352.length co10, .slice Ao14 t355.length co14, .slice none 0 0, .slice none 0 0, .slice none 0 0]) ?_ 2 _ rfl; (with_reducible repeat (first | refine blk_drewN ?_ _ | refine blk_drew ?_ | refine blk_alloc ?_ _)); refine blk_put (cs := #[.slice Ao10 t352.length co10, .slice none 0 0, .slice none 0 0, .slice none 0 0, .slice none 0 0]) ?_ 1 _ rfl; (with_reducible repeat (first | refine blk_drewN ?_ _ | refine blk_drew ?_ | refine blk_alloc ?_ _)); refine blk_put (cs := #[.slice none 0 0, .slice none 0 0, .slice none 0 0, .slice none 0 0, .slice none 0 0]) ?_ 0 _ rfl; (with_reducible repeat (first | refine blk_drewN ?_ _ | refine blk_drew ?_ | refine blk_alloc ?_ _)); exact BK367.out) hb); have n9_ := Aside0.mk (below_step zt12 hb); clear HO354; clear HO357; clear HO360; clear HO363; clear HO366; clear BK350; clear BK351; clear BK367; clear HB; have HO354 := n0_; have HO357 := n1_; have HO360 := n2_; have HO363 := n3_; have HO366 := n4_; have HO370 := n5_; have BK350 := n6_; have BK351 := n7_; have BK367 := n8_; have HB := n9_; clear n0_ n1_ n2_ n3_ n4_ n5_ n6_ n7_ n8_ n9_; clear hb ho19; obtain ⟨Ao20, co20, eo20⟩ := Kd.R_slice HO370.out; subst eo20; have hcz21_0 : w18.cell? ⟨gb367, 0, none⟩ = some (.slice Ao10 t352.length co10) := (blk_cell BK367.out 0).trans rfl; have hcz21_1 : w18.cell? ⟨gb367, 1, none⟩ = some (.slice Ao14 t355.length co14) := (blk_cell BK367.out 1).trans rfl; have hcz21_2 : w18.cell? ⟨gb367, 2, none⟩ = some (.slice Ao15 t358.length co15) := (blk_cell BK367.out 2).trans rfl; have hcz21_3 : w18.cell? ⟨gb367, 3, none⟩ = some (.slice Ao16 t361.length co16) := (blk_cell BK367.out 3).trans rfl; have hcz21_4 : w18.cell? ⟨gb367, 4, none⟩ = some (.slice Ao17 t364.length co17) := (blk_cell BK367.out 4).trans rfl; have hfz21_0 := blk_frozen BK367.out 0; have hfz21_1 := blk_frozen BK367.out 1; have hfz21_2 := blk_frozen BK367.out 2; have hfz21_3 := blk_frozen BK367.out 3; have hfz21_4 := blk_frozen BK367.out 4; have hcz22_0 : w18.cell? ⟨gb350, 0, none⟩ = some (.slice A0_0 l0_0.length c0_0) := (blk_cell BK350.out 0).trans rfl; have hcz22_1 : w18.cell? ⟨gb350, 1, none⟩ = some (.slice A0_1 l0_1.length c0_1) := (blk_cell BK350.out 1).trans rfl; have hcz22_2 : w18.cell? ⟨gb350, 2, none⟩ = some (.slice A0_2 l0_2.length c0_2) := (blk_cell BK350.out 2).trans rfl; have hcz22_3 : w18.cell? ⟨gb350, 3, none⟩ = some (.slice A0_3 l0_3.length c0_3) := (blk_cell BK350.out 3).trans rfl; have hcz22_4 : w18.cell? ⟨gb350, 4, none⟩ = some (.slice A0_4 l0_4.length c0_4) := (blk_cell BK350.out 4).trans rfl; have hfz22_0 := blk_frozen BK350.out 0; have hfz22_1 := blk_frozen BK350.out 1; have hfz22_2 := blk_frozen BK350.out 2; have hfz22_3 := blk_frozen BK350.out 3; have hfz22_4 := blk_frozen BK350.out 4) | ((with_reducible refine gate_callee (f := 15) rfl ?_); refine goesL_ (some 11) rfl rfl Try.func15 (by kernel_rfl) rfl #[.agg #[.slice A0_0 l0_0.length c0_0, .slice A0_1 l0_1.length c0_1, .slice A0_2 l0_2.length c0_2, .slice A0_3 l0_3.length c0_3, .slice A0_4 l0_4.length c0_4]] rfl zt5 ?_; (with_reducible refine (spec_Unused.calls k _ _ l0_0 _ _ l0_1 _ _ l0_2 _ _ l0_3 _ _ l0_4 t371 _ ?side1 ?side2 ?side3 ?side4 ?side5 ?side6 ?side7 ?side8 ?side9 ?side10 A3.out).mono ?_); (case side1 => exact Kd.C_below HR0_0.out zt12); (case side2 => exact HC0_0.out); (case side3 => exact Kd.C_below HR0_1.out zt12); (case side4 => exact HC0_1.out); (case side5 => exact Kd.C_below HR0_2.out zt12); (case side6 => exact HC0_2.out); (case side7 => exact Kd.C_below HR0_3.out zt12); (case side8 => exact HC0_3.out); (case side9 => exact Kd.C_below HR0_4.out zt12); (case side10 => exact HC0_4.out); rintro e w23 ⟨v372, rfl, ho0, hb⟩; refine ⟨_, rfl, ?_⟩; have n0_ := Aside0.mk (Kd.R_elder' (by (with_reducible repeat (first | apply Kd.R_alloc | apply Kd.R_drewN | apply Kd.R_drew)); exact (Kd.R_mono (Kd.R_far (p := ⟨gb367, 1, none⟩) (Kd.R_types HO354.out BK367.out (by decide)) (fun _ hk => hk.2) (.slice Ao20 y368.length co20)) (fun _ h_ => h_.1))) (Kd.R_base ho0) hb); have n1_ := Aside0.mk (Kd.R_below (by (with_reducible repeat (first | apply Kd.R_alloc | apply Kd.R_drewN | apply Kd.R_drew)); exact (Kd.R_mono (Kd.R_far (p := ⟨gb367, 1, none⟩) (Kd.R_types HO357.out BK367.out (by decide)) (fun _ hk => hk.2) (.slice Ao20 y368.length co20)) (fun _ h_ => h_.1))) hb); have n2_ := Aside0.mk (Kd.R_below (by (with_reducible repeat (first | apply Kd.R_alloc | apply Kd.R_drewN | apply Kd.R_drew)); exact (Kd.R_mono (Kd.R_far (p := ⟨gb367, 1, none⟩) (Kd.R_types HO360.out BK367.out (by decide)) (fun _ hk => hk.2) (.slice Ao20 y368.length co20)) (fun _ h_ => h_.1))) hb); have n3_ := Aside0.mk (Kd.R_below (by (with_reducible repeat (first | apply Kd.R_alloc | apply Kd.R_drewN | apply Kd.R_drew)); exact (Kd.R_mono (Kd.R_far (p := ⟨gb367, 1, none⟩) (Kd.R_types HO363.out BK367.out (by decide)) (fun _ hk => hk.2) (.slice Ao20 y368.length co20)) (fun _ h_ => h_.1))) hb); have n4_ := Aside0.mk (Kd.R_below (by (with_reducible repeat (first | apply Kd.R_alloc | apply Kd.R_drewN | apply Kd.R_drew)); exact (Kd.R_mono (Kd.R_far (p := ⟨gb367, 1, none⟩) (Kd.R_types HO366.out BK367.out (by decide)) (fun _ hk => hk.2) (.slice Ao20 y368.length co20)) (fun _ h_ => h_.1))) hb); have n5_ := Aside0.mk (Kd.R_below (by (with_reducible repeat (first | apply Kd.R_alloc | apply Kd.R_drewN | apply Kd.R_drew)); exact (Kd.R_mono (Kd.R_far (p := ⟨gb367, 1, none⟩) (Kd.R_types HO370.out BK367.out (by decide)) (fun _ hk => hk.2) (.slice Ao20 y368.length co20)) (fun _ h_ => h_.1))) hb); have n6_ := Aside0.mk (Kd.R_lower (Kd.R_new' ho0 (Kd.R_lt (by (with_reducible repeat (first | apply Kd.R_alloc | apply Kd.R_drewN | apply Kd.R_drew)); exact (Kd.R_mono (Kd.R_far (p := ⟨gb367, 1, none⟩) (Kd.R_types HO354.out BK367.out (by decide)) (fun _ hk => hk.2) (.slice Ao20 y368.length co20)) (fun _ h_ => h_.1))))) (below_size zt12)); have n7_ := Aside0.mk (blk_below (g := gb350) (o := .cells #[.slice A0_0 l0_0.length c0_0, .slice A0_1 l0_1.length c0_1, .slice A0_2 l0_2.length c0_2, .slice A0_3 l0_3.length c0_3, .slice A0_4 l0_4.length c0_4] 36 (0, 0)) (by (with_reducible repeat (first | refine blk_drewN ?_ _ | refine blk_drew ?_ | refine blk_alloc ?_ _)); refine blk_far ?_ NB350_367.out _; (with_reducible repeat (first | refine blk_drewN ?_ _ | refine blk_drew ?_ | refine blk_alloc ?_ _)); exact BK350.out) hb); have n8_ := Aside0.mk (blk_below (g := gb351) (o := .cells #[.slice none 0 0, .slice none 0 0, .slice none 0 0, .slice none 0 0, .slice none 0 0] 36 (0, 0)) (by (with_reducible repeat (first | refine blk_drewN ?_ _ | refine blk_drew ?_ | refine blk_alloc ?_ _)); refine blk_far ?_ NB351_367.out _; (with_reducible repeat (first | refine blk_drewN ?_ _ | refine blk_drew ?_ | refine blk_alloc ?_ _)); exact BK351.out) hb); have n9_ := Aside0.mk (blk_below (g := gb367) (o := .cells #[.slice Ao10 t352.length co10, .slice Ao20 y368.length co20, .slice Ao15 t358.length co15, .slice Ao16 t361.length co16, .slice Ao17 t364.length co17] 36 (0, 0)) (by (with_reducible repeat (first | refine blk_drewN ?_ _ | refine blk_drew ?_ | refine blk_alloc ?_ _)); refine blk_put (cs := #[.slice Ao10 t352.length co10, .slice Ao14 t355.length co14, .slice Ao15 t358.length co15, .slice Ao16 t361.length co16, .slice Ao17 t364.length co17]) ?_ 1 _ rfl; (with_reducible repeat (first | refine blk_drewN ?_ _ | refine blk_drew ?_ | refine blk_alloc ?_ _)); exact BK367.out) hb); have n10_ := Aside0.mk (below_step zt12 hb); clear HO354; clear HO357; clear HO360; clear HO363; clear HO366; clear HO370; clear BK350; clear BK351; clear BK367; clear HB; have HO354 := n0_; have HO357 := n1_; have HO360 := n2_; have HO363 := n3_; have HO366 := n4_; have HO370 := n5_; have HO373 := n6_; have BK350 := n7_; have BK351 := n8_; have BK367 := n9_; have HB := n10_; clear n0_ n1_ n2_ n3_ n4_ n5_ n6_ n7_ n8_ n9_ n10_; (try clear hb); (try clear hb2); (try clear hk); (try clear hi); (try clear ho0)))
 go_loopg [5] k (fun kq v5 w' => ∃ (x5_1 : Int) (x368001_1 : List (S73)) (u368001 : Value), v5 = .int .i64 x5_1 ∧ Aside0 (spec_Trim.l0 kq t371 x5_1 l0_0 l0_1 l0_2 l0_3 l0_4 t352 x368001_1 t358 t361 t364 = some (r1, r2, r3, r4, r5)) ∧ Aside0 (kq ≤ k) ∧ Aside0 (Kd.R Kd.string 9 w' w.heap.size (fun k_ => some k_ ≠ ((.slice Ao10 t352.length co10) : Value).ownBlock) v372 t371) ∧ Aside0 (Kd.R Kd.string 9 w' w.heap.size (fun k_ => some k_ ≠ (v372 : Value).ownBlock) (.slice Ao10 t352.length co10) t352) ∧ Aside0 (Kd.R k73 73 w' w.heap.size (fun _ => True) u368001 x368001_1) ∧ Aside0 (Kd.R k55 55 w' w.heap.size (fun _ => True) (.slice Ao15 t358.length co15) t358) ∧ Aside0 (Kd.R k53 53 w' w.heap.size (fun _ => True) (.slice Ao16 t361.length co16) t361) ∧ Aside0 (Kd.R k50 50 w' w.heap.size (fun _ => True) (.slice Ao17 t364.length co17) t364) ∧ Aside0 (w'.heap[gb350]? = some (.cells #[(.slice A0_0 l0_0.length c0_0), (.slice A0_1 l0_1.length c0_1), (.slice A0_2 l0_2.length c0_2), (.slice A0_3 l0_3.length c0_3), (.slice A0_4 l0_4.length c0_4)] 36 (0, 0))) ∧ Aside0 (w'.heap[gb351]? = some (.cells #[(.slice none 0 0), (.slice none 0 0), (.slice none 0 0), (.slice none 0 0), (.slice none 0 0)] 36 (0, 0))) ∧ Aside0 (w'.heap[gb367]? = some (.cells #[(.slice Ao10 t352.length co10), u368001, (.slice Ao15 t358.length co15), (.slice Ao16 t361.length co16), (.slice Ao17 t364.length co17)] 36 (0, 0))) ∧ Aside0 (Below w.heap.size w w'))
 case atStart => exact ⟨(0), (y368), (.slice Ao20 y368.length co20), zt9, H', ⟨Nat.le_refl _⟩, ⟨by (with_reducible repeat (first | apply Kd.R_alloc | apply Kd.R_drewN | apply Kd.R_drew)); exact Kd.R_mono HO373.out (fun _ hk => hk.2)⟩, ⟨by (with_reducible repeat (first | apply Kd.R_alloc | apply Kd.R_drewN | apply Kd.R_drew)); exact Kd.R_mono HO354.out (fun _ hk => hk.2)⟩, ⟨by (with_reducible repeat (first | apply Kd.R_alloc | apply Kd.R_drewN | apply Kd.R_drew)); exact Kd.R_mono HO370.out (fun _ hk => trivial)⟩, ⟨by (with_reducible repeat (first | apply Kd.R_alloc | apply Kd.R_drewN | apply Kd.R_drew)); exact HO360.out⟩, ⟨by (with_reducible repeat (first | apply Kd.R_alloc | apply Kd.R_drewN | apply Kd.R_drew)); exact HO363.out⟩, ⟨by (with_reducible repeat (first | apply Kd.R_alloc | apply Kd.R_drewN | apply Kd.R_drew)); exact HO366.out⟩, ⟨by (with_reducible repeat (first | refine blk_drewN ?_ _ | refine blk_drew ?_ | refine blk_alloc ?_ _)); exact BK350.out⟩, ⟨by (with_reducible repeat (first | refine blk_drewN ?_ _ | refine blk_drew ?_ | refine blk_alloc ?_ _)); exact BK351.out⟩, ⟨by (with_reducible repeat (first | refine blk_drewN ?_ _ | refine blk_drew ?_ | refine blk_alloc ?_ _)); exact BK367.out⟩, ⟨zt12⟩⟩
 case round =>
  clear H'
  try clear c1
  try clear p2
  try clear c4
  try clear c6
  try clear c11
  try clear c12
  try clear c15
  try clear c17
  try clear hcz13_0
  try clear hcz13_1
  try clear hcz13_2
  try clear hcz13_3
  try clear hcz13_4
  try clear hcz21_0
  try clear hcz21_1
  try clear hcz21_2
  try clear hcz21_3
  try clear hcz21_4
  try clear hcz22_0
  try clear hcz22_1
  try clear hcz22_2
  try clear hcz22_3
  try clear hcz22_4
  try clear hcz7_0
  try clear hcz7_1
  try clear hcz7_2
  try clear hcz7_3
  try clear hcz7_4
  try clear hfz13_0
  try clear hfz13_1
  try clear hfz13_2
  try clear hfz13_3
  try clear hfz13_4
  try clear hfz21_0
  try clear hfz21_1
  try clear hfz21_2
  try clear hfz21_3
  try clear hfz21_4
  try clear hfz22_0
  try clear hfz22_1
  try clear hfz22_2
  try clear hfz22_3
  try clear hfz22_4
  try clear hfz7_0
  try clear hfz7_1
  try clear hfz7_2
  try clear hfz7_3
  try clear hfz7_4
  obtain ⟨x5_1, x368001_1, u368001, rfl, HA, HK1, HO_4, HO_368000, HO_368001, HO_368002, HO_368003, HO_368004, BK350, BK351, BK367, HB⟩ := hrel
  cases gk with
  | zero => exact absurd HA.out (by simp [spec_Trim.l0])
  | succ k1 =>
   have H := HA.out
   clear HA
   simp only [spec_Trim.l0] at H
   by_cases c24 : x5_1 < (l0_1.length : Int)
   ·rw [if_pos c24] at H
    have c24b0 := decide_eq_true c24
    clear c24
    replace H := it0 H
    obtain ⟨c25, H⟩ := H
    have c25b0 : decide (0 ≤ x5_1) = true := decide_eq_true c25
    clear c25
    replace H := bnd H
    obtain ⟨t375, A26, H⟩ := H
    try dsimp only at H
    by_cases c27 : t375 = true
    ·subst c27
     rw [if_pos rfl] at H
     have H' := Aside0.mk H
     clear H
     have hnb28 := NB350_351.out
     have hnc28 := NB351_350.out
     have hnb29 := NB350_367.out
     have hnc29 := NB367_350.out
     have hcz30_0 : wr.cell? ⟨gb350, 0, none⟩ = some (.slice A0_0 l0_0.length c0_0) := (blk_cell BK350.out 0).trans rfl
     have hcz30_1 : wr.cell? ⟨gb350, 1, none⟩ = some (.slice A0_1 l0_1.length c0_1) := (blk_cell BK350.out 1).trans rfl
     have hcz30_2 : wr.cell? ⟨gb350, 2, none⟩ = some (.slice A0_2 l0_2.length c0_2) := (blk_cell BK350.out 2).trans rfl
     have hcz30_3 : wr.cell? ⟨gb350, 3, none⟩ = some (.slice A0_3 l0_3.length c0_3) := (blk_cell BK350.out 3).trans rfl
     have hcz30_4 : wr.cell? ⟨gb350, 4, none⟩ = some (.slice A0_4 l0_4.length c0_4) := (blk_cell BK350.out 4).trans rfl
     have hfz30_0 := blk_frozen BK350.out 0
     have hfz30_1 := blk_frozen BK350.out 1
     have hfz30_2 := blk_frozen BK350.out 2
     have hfz30_3 := blk_frozen BK350.out 3
     have hfz30_4 := blk_frozen BK350.out 4
     have p374 : 0 ≤ (x5_1 : Int) := of_decide_eq_true zt4
     have q374 : x5_1 < (l0_1.length : Int) := of_decide_eq_true zt4
     obtain ⟨ad374, e374, hx374_0, hx374_1, hx374_2⟩ := at_T73 HR0_1.out x5_1 p374 q374
     cases e374
     replace hx374_0 := (HB.out.cell (World.block_lt_of_cell? w _ hx374_0)).trans hx374_0
     replace hx374_1 := (HB.out.cell (World.block_lt_of_cell? w _ hx374_1)).trans hx374_1
     replace hx374_2 := (HB.out.cell (World.block_lt_of_cell? w _ hx374_2)).trans hx374_2
     replace p374 := eq_true p374
     replace q374 := eq_true q374
     obtain ⟨Ao31, co31, eo31⟩ := Kd.R_slice HO_4.out
     subst eo31
     go_wp2_with (first | ((with_reducible refine gate_callee (f := 46) rfl ?_); refine goesL_ (some 26) rfl rfl Try.func46 (by kernel_rfl) rfl #[.slice Ao31 t371.length co31, .string ((rd_T73 l0_1 x5_1).f2)] rfl zt5 ?_; (with_reducible refine (spec_l6In.calls k1 _ _ t371 ((rd_T73 l0_1 x5_1).f2) true _ ?side1 ?side2 A26.out).mono ?_); (case side1 => exact cz (Kd.R_reads' HO_4.out).2.2); (case side2 => exact (Kd.R_reads' HO_4.out).2.1); rintro e w' ⟨rfl, ⟨nd, rfl⟩⟩; refine ⟨_, rfl, ?_⟩))
     go_roundg k1
     case measure => have := HK1.out; omega
     case rel => exact ⟨(wrap64 (x5_1 + 1)), (x368001_1), (u368001), zt9, H', ⟨by have := HK1.out; omega⟩, ⟨by (with_reducible repeat (first | apply Kd.R_alloc | apply Kd.R_drewN | apply Kd.R_drew)); (first | exact HO_4.out | exact Kd.R_mono HO_4.out (fun k_ h_ => by first | exact h_ | (simpa [Value.ownBlock] using h_) | (have e_ : ∀ (A : Option Addr) (n m c : Nat), (Value.slice A n c).ownBlock = (Value.slice A m c).ownBlock := (fun A n m c => by cases A <;> rfl); rw [e_ _ _ 0 _] at h_ ⊢; exact h_)))⟩, ⟨by (with_reducible repeat (first | apply Kd.R_alloc | apply Kd.R_drewN | apply Kd.R_drew)); (first | exact HO_368000.out | exact Kd.R_mono HO_368000.out (fun k_ h_ => by first | exact h_ | (simpa [Value.ownBlock] using h_) | (have e_ : ∀ (A : Option Addr) (n m c : Nat), (Value.slice A n c).ownBlock = (Value.slice A m c).ownBlock := (fun A n m c => by cases A <;> rfl); rw [e_ _ _ 0 _] at h_ ⊢; exact h_)))⟩, ⟨by (with_reducible repeat (first | apply Kd.R_alloc | apply Kd.R_drewN | apply Kd.R_drew)); (first | exact HO_368001.out | exact Kd.R_mono HO_368001.out (fun k_ h_ => by first | exact h_ | (simpa [Value.ownBlock] using h_) | (have e_ : ∀ (A : Option Addr) (n m c : Nat), (Value.slice A n c).ownBlock = (Value.slice A m c).ownBlock := (fun A n m c => by cases A <;> rfl); rw [e_ _ _ 0 _] at h_ ⊢; exact h_)))⟩, ⟨by (with_reducible repeat (first | apply Kd.R_alloc | apply Kd.R_drewN | apply Kd.R_drew)); (first | exact HO_368002.out | exact Kd.R_mono HO_368002.out (fun k_ h_ => by first | exact h_ | (simpa [Value.ownBlock] using h_) | (have e_ : ∀ (A : Option Addr) (n m c : Nat), (Value.slice A n c).ownBlock = (Value.slice A m c).ownBlock := (fun A n m c => by cases A <;> rfl); rw [e_ _ _ 0 _] at h_ ⊢; exact h_)))⟩, ⟨by (with_reducible repeat (first | apply Kd.R_alloc | apply Kd.R_drewN | apply Kd.R_drew)); (first | exact HO_368003.out | exact Kd.R_mono HO_368003.out (fun k_ h_ => by first | exact h_ | (simpa [Value.ownBlock] using h_) | (have e_ : ∀ (A : Option Addr) (n m c : Nat), (Value.slice A n c).ownBlock = (Value.slice A m c).ownBlock := (fun A n m c => by cases A <;> rfl); rw [e_ _ _ 0 _] at h_ ⊢; exact h_)))⟩, ⟨by (with_reducible repeat (first | apply Kd.R_alloc | apply Kd.R_drewN | apply Kd.R_drew)); (first | exact HO_368004.out | exact Kd.R_mono HO_368004.out (fun k_ h_ => by first | exact h_ | (simpa [Value.ownBlock] using h_) | (have e_ : ∀ (A : Option Addr) (n m c : Nat), (Value.slice A n c).ownBlock = (Value.slice A m c).ownBlock := (fun A n m c => by cases A <;> rfl); rw [e_ _ _ 0 _] at h_ ⊢; exact h_)))⟩, ⟨by (with_reducible repeat (first | refine blk_drewN ?_ _ | refine blk_drew ?_ | refine blk_alloc ?_ _)); exact BK350.out⟩, ⟨by (with_reducible repeat (first | refine blk_drewN ?_ _ | refine blk_drew ?_ | refine blk_alloc ?_ _)); exact BK351.out⟩, ⟨by (with_reducible repeat (first | refine blk_drewN ?_ _ | refine blk_drew ?_ | refine blk_alloc ?_ _)); exact BK367.out⟩, ⟨zt12⟩⟩
    ·replace c27 := Bool.eq_false_iff.mpr c27
     subst c27
     rw [if_neg (show ¬ (false = true) by decide)] at H
     replace H := it0 H
     obtain ⟨c32, H⟩ := H
     have LMc32 := Aside0.mk c32
     clear c32
     obtain ⟨y377, hy377⟩ : ∃ y_ : List (S73), y_ = (x368001_1 ++ [(⟨(rd_T73 l0_1 x5_1).f0, (rd_T73 l0_1 x5_1).f1, (rd_T73 l0_1 x5_1).f2⟩ : S73)]) := ⟨_, rfl⟩
     replace H : (spec_Trim.l0 k1 t371 (wrap64 (x5_1 + 1)) l0_0 l0_1 l0_2 l0_3 l0_4 t352 y377 t358 t361 t364) = some (r1, r2, r3, r4, r5) := by first | (rw [hy377]; with_reducible exact H) | (have H2_ := (Option.bind_some _ _).symm.trans H; rw [hy377]; with_reducible exact H2_) | (have H2_ := (Option.bind_some _ _).symm.trans H; with_reducible exact H2_) | with_reducible exact H | (rw [hy377]; exact H) | exact H
     have Ny377 := Aside0.mk hy377
     clear hy377
     have H' := Aside0.mk H
     clear H
     have hnb33 := NB350_351.out
     have hnc33 := NB351_350.out
     have hnb34 := NB350_367.out
     have hnc34 := NB367_350.out
     have hcz35_0 : wr.cell? ⟨gb350, 0, none⟩ = some (.slice A0_0 l0_0.length c0_0) := (blk_cell BK350.out 0).trans rfl
     have hcz35_1 : wr.cell? ⟨gb350, 1, none⟩ = some (.slice A0_1 l0_1.length c0_1) := (blk_cell BK350.out 1).trans rfl
     have hcz35_2 : wr.cell? ⟨gb350, 2, none⟩ = some (.slice A0_2 l0_2.length c0_2) := (blk_cell BK350.out 2).trans rfl
     have hcz35_3 : wr.cell? ⟨gb350, 3, none⟩ = some (.slice A0_3 l0_3.length c0_3) := (blk_cell BK350.out 3).trans rfl
     have hcz35_4 : wr.cell? ⟨gb350, 4, none⟩ = some (.slice A0_4 l0_4.length c0_4) := (blk_cell BK350.out 4).trans rfl
     have hfz35_0 := blk_frozen BK350.out 0
     have hfz35_1 := blk_frozen BK350.out 1
     have hfz35_2 := blk_frozen BK350.out 2
     have hfz35_3 := blk_frozen BK350.out 3
     have hfz35_4 := blk_frozen BK350.out 4
     have p374 : 0 ≤ (x5_1 : Int) := of_decide_eq_true zt4
     have q374 : x5_1 < (l0_1.length : Int) := of_decide_eq_true zt4
     obtain ⟨ad374, e374, hx374_0, hx374_1, hx374_2⟩ := at_T73 HR0_1.out x5_1 p374 q374
     cases e374
     replace hx374_0 := (HB.out.cell (World.block_lt_of_cell? w _ hx374_0)).trans hx374_0
     replace hx374_1 := (HB.out.cell (World.block_lt_of_cell? w _ hx374_1)).trans hx374_1
     replace hx374_2 := (HB.out.cell (World.block_lt_of_cell? w _ hx374_2)).trans hx374_2
     replace p374 := eq_true p374
     replace q374 := eq_true q374
     obtain ⟨Ao36, co36, eo36⟩ := Kd.R_slice HO_4.out
     subst eo36
     try go_wp2_with (first | ((with_reducible refine gate_callee (f := 46) rfl ?_); refine goesL_ (some 26) rfl rfl Try.func46 (by kernel_rfl) rfl #[.slice Ao36 t371.length co36, .string ((rd_T73 l0_1 x5_1).f2)] rfl zt5 ?_; (with_reducible refine (spec_l6In.calls k1 _ _ t371 ((rd_T73 l0_1 x5_1).f2) false _ ?side1 ?side2 A26.out).mono ?_); (case side1 => exact cz (Kd.R_reads' HO_4.out).2.2); (case side2 => exact (Kd.R_reads' HO_4.out).2.1); rintro e w' ⟨rfl, ⟨nd, rfl⟩⟩; refine ⟨_, rfl, ?_⟩; (try (rw [drewN_self wr]; generalize hq_ : World.drewN wr _ = wr; have n0_ : Aside0 (Kd.R Kd.string 9 wr w.heap.size (fun k_ => some k_ ≠ (.slice Ao36 t371.length co36 : Value).ownBlock) (.slice Ao10 t352.length co10) t352) := ⟨by rw [← hq_]; exact (rz HO_368000.out)⟩; have n1_ : Aside0 (Kd.R k73 73 wr w.heap.size (fun _ => True) u368001 x368001_1) := ⟨by rw [← hq_]; exact (rz HO_368001.out)⟩; have n2_ : Aside0 (Kd.R k55 55 wr w.heap.size (fun _ => True) (.slice Ao15 t358.length co15) t358) := ⟨by rw [← hq_]; exact (rz HO_368002.out)⟩; have n3_ : Aside0 (Kd.R k53 53 wr w.heap.size (fun _ => True) (.slice Ao16 t361.length co16) t361) := ⟨by rw [← hq_]; exact (rz HO_368003.out)⟩; have n4_ : Aside0 (Kd.R k50 50 wr w.heap.size (fun _ => True) (.slice Ao17 t364.length co17) t364) := ⟨by rw [← hq_]; exact (rz HO_368004.out)⟩; have n5_ : Aside0 (Kd.R Kd.string 9 wr w.heap.size (fun k_ => some k_ ≠ (.slice Ao10 t352.length co10 : Value).ownBlock) (.slice Ao36 t371.length co36) t371) := ⟨by rw [← hq_]; exact (rz HO_4.out)⟩; have n6_ : Aside0 (wr.heap[gb350]? = some (.cells #[.slice A0_0 l0_0.length c0_0, .slice (some ad374) l0_1.length c0_1, .slice A0_2 l0_2.length c0_2, .slice A0_3 l0_3.length c0_3, .slice A0_4 l0_4.length c0_4] 36 (0, 0))) := ⟨by rw [← hq_]; exact (oz BK350.out)⟩; have n7_ : Aside0 (wr.heap[gb351]? = some (.cells #[.slice none 0 0, .slice none 0 0, .slice none 0 0, .slice none 0 0, .slice none 0 0] 36 (0, 0))) := ⟨by rw [← hq_]; exact (oz BK351.out)⟩; have n8_ : Aside0 (wr.heap[gb367]? = some (.cells #[.slice Ao10 t352.length co10, u368001, .slice Ao15 t358.length co15, .slice Ao16 t361.length co16, .slice Ao17 t364.length co17] 36 (0, 0))) := ⟨by rw [← hq_]; exact (oz BK367.out)⟩; have n9_ : Aside0 (Below w.heap.size w wr) := ⟨by rw [← hq_]; exact zt12⟩; clear HO_368000 HO_368001 HO_368002 HO_368003 HO_368004 HO_4 BK350 BK351 BK367 HB hq_; have HO_368000 := n0_; have HO_368001 := n1_; have HO_368002 := n2_; have HO_368003 := n3_; have HO_368004 := n4_; have HO_4 := n5_; have BK350 := n6_; have BK351 := n7_; have BK367 := n8_; have HB := n9_; clear n0_ n1_ n2_ n3_ n4_ n5_ n6_ n7_ n8_ n9_))))
     have n0_ := Aside0.mk (Kd.R_drew HO_4.out)
     have n1_ := Aside0.mk (Kd.R_drew HO_368000.out)
     have n2_ := Aside0.mk (Kd.R_drew HO_368001.out)
     have n3_ := Aside0.mk (Kd.R_drew HO_368002.out)
     have n4_ := Aside0.mk (Kd.R_drew HO_368003.out)
     have n5_ := Aside0.mk (Kd.R_drew HO_368004.out)
     have n6_ := Aside0.mk (blk_drew BK350.out)
     have n7_ := Aside0.mk (blk_drew BK351.out)
     have n8_ := Aside0.mk (blk_drew BK367.out)
     have n9_ := Aside0.mk (below_drew1 HB.out)
     clear HO_4
     clear HO_368000
     clear HO_368001
     clear HO_368002
     clear HO_368003
     clear HO_368004
     clear BK350
     clear BK351
     clear BK367
     clear HB
     have HO_4 := n0_
     have HO_368000 := n1_
     have HO_368001 := n2_
     have HO_368002 := n3_
     have HO_368003 := n4_
     have HO_368004 := n5_
     have BK350 := n6_
     have BK351 := n7_
     have BK367 := n8_
     have HB := n9_
     clear n0_ n1_ n2_ n3_ n4_ n5_ n6_ n7_ n8_ n9_
     have p376 : 0 ≤ (x5_1 : Int) := of_decide_eq_true zt4
     have q376 : x5_1 < (l0_1.length : Int) := of_decide_eq_true zt4
     obtain ⟨ad376, e376, hx376_0, hx376_1, hx376_2⟩ := at_T73 HR0_1.out x5_1 p376 q376
     have hw376_2 := hx376_2
     have hw376_1 := hx376_1
     have hw376_0 := hx376_0
     obtain rfl : ad374 = ad376 := (by injection e376)
     replace hx376_0 := (HB.out.cell (World.block_lt_of_cell? w _ hx376_0)).trans hx376_0
     replace hx376_1 := (HB.out.cell (World.block_lt_of_cell? w _ hx376_1)).trans hx376_1
     replace hx376_2 := (HB.out.cell (World.block_lt_of_cell? w _ hx376_2)).trans hx376_2
     replace p376 := eq_true p376
     replace q376 := eq_true q376
     refine start_ (n := 11) (S := fun w' => w'.cell? ⟨gb367, 0, none⟩ = some (.slice Ao10 t352.length co10) ∧ w'.cell? ⟨gb367, 1, none⟩ = some (u368001) ∧ w'.cell? ⟨gb367, 2, none⟩ = some (.slice Ao15 t358.length co15) ∧ w'.cell? ⟨gb367, 3, none⟩ = some (.slice Ao16 t361.length co16) ∧ w'.cell? ⟨gb367, 4, none⟩ = some (.slice Ao17 t364.length co17) ∧ w'.cell? ⟨gb350, 0, none⟩ = some (.slice A0_0 l0_0.length c0_0) ∧ w'.cell? ⟨gb350, 1, none⟩ = some (.slice (some ad374) l0_1.length c0_1) ∧ w'.cell? ⟨gb350, 2, none⟩ = some (.slice A0_2 l0_2.length c0_2) ∧ w'.cell? ⟨gb350, 3, none⟩ = some (.slice A0_3 l0_3.length c0_3) ∧ w'.cell? ⟨gb350, 4, none⟩ = some (.slice A0_4 l0_4.length c0_4) ∧ w'.cell? (ad374.add ((x5_1).toNat * 3)) = some (.string ((rd_T73 l0_1 x5_1).f0)) ∧ w'.cell? ⟨(ad374.add ((x5_1).toNat * 3)).block, (ad374.add ((x5_1).toNat * 3)).off + 1, none⟩ = some (.string ((rd_T73 l0_1 x5_1).f1)) ∧ w'.cell? ⟨(ad374.add ((x5_1).toNat * 3)).block, (ad374.add ((x5_1).toNat * 3)).off + 2, none⟩ = some (.string ((rd_T73 l0_1 x5_1).f2))) (ds := [10]) bt0_10 (by kernel_rfl) rfl rfl ⟨(blk_cell BK367.out 0).trans rfl, (blk_cell BK367.out 1).trans rfl, (blk_cell BK367.out 2).trans rfl, (blk_cell BK367.out 3).trans rfl, (blk_cell BK367.out 4).trans rfl, (blk_cell BK350.out 0).trans rfl, (blk_cell BK350.out 1).trans rfl, (blk_cell BK350.out 2).trans rfl, (blk_cell BK350.out 3).trans rfl, (blk_cell BK350.out 4).trans rfl, ((HB.out.cell (World.block_lt_of_cell? w _ hw376_0)).trans hw376_0), ((HB.out.cell (World.block_lt_of_cell? w _ hw376_1)).trans hw376_1), ((HB.out.cell (World.block_lt_of_cell? w _ hw376_2)).trans hw376_2)⟩ (fun hHeld => ?_); refine with_tabW spec_Trim.tab8 spec_Trim.bits8 (fun HT_ HW_ => ?_)
     generalize wr.drew = w37 at HO_4 HO_368000 HO_368001 HO_368002 HO_368003 HO_368004 BK350 BK351 BK367 HB hx376_0 hx376_1 hx376_2 hHeld ⊢
     refine pure_ (i := 0) (N := some 28) (v := ?_) (a' := ?_) bt1_10 rfl rfl (any_of HT_.out (by kernel_rfl)) (fun _ _ _ h => h) (Or.inl ⟨by rfl, ?_⟩) ?_ ?_
     rotate_left
     ·intro w'
      go_simp
      with_reducible rfl
     rotate_left
     ·simp only [Act.put, List.setIfInBounds_toArray, List.set_cons_zero, List.set_cons_succ, i64_w, i32_w]
      rfl
     refine pure_ (i := 2) (N := some 30) (v := ?_) (a' := ?_) bt2_10 rfl rfl (any_of HT_.out (by kernel_rfl)) (fun _ _ _ h => h) (Or.inl ⟨by rfl, ?_⟩) ?_ ?_
     rotate_left
     ·intro w'
      go_simp
      with_reducible rfl
     rotate_left
     ·simp only [Act.put, List.setIfInBounds_toArray, List.set_cons_zero, List.set_cons_succ, i64_w, i32_w]
      rfl
     refine pure_ (i := 4) (N := some 32) (v := ?_) (a' := ?_) bt3_10 rfl rfl (any_of HT_.out (by kernel_rfl)) (fun _ _ _ h => h) (Or.inl ⟨by rfl, ?_⟩) ?_ ?_
     rotate_left
     ·intro w'
      go_simp
      with_reducible rfl
     rotate_left
     ·simp only [Act.put, List.setIfInBounds_toArray, List.set_cons_zero, List.set_cons_succ, i64_w, i32_w]
      rfl
     refine take_ (i := 1) (N := some 29) (v := ?_) (a' := ?_) bt4_10 rfl rfl (take_ofW HT_.out HW_.out (by kernel_rfl)) (fun _ _ _ h => h) (Or.inl ⟨by rfl, ?_⟩) hHeld ?_ ?_
     rotate_left
     ·rintro w' ⟨s0, s1, s2, s3, s4, s5, s6, s7, s8, s9, s10, s11, s12⟩
      go_simp
      with_reducible rfl
     rotate_left
     ·simp only [Act.put, List.setIfInBounds_toArray, List.set_cons_zero, List.set_cons_succ, i64_w, i32_w]
      rfl
     refine take_ (i := 3) (N := some 31) (v := ?_) (a' := ?_) bt5_10 rfl rfl (take_ofW HT_.out HW_.out (by kernel_rfl)) (fun _ _ _ h => h) (Or.inl ⟨by rfl, ?_⟩) hHeld ?_ ?_
     rotate_left
     ·rintro w' ⟨s0, s1, s2, s3, s4, s5, s6, s7, s8, s9, s10, s11, s12⟩
      go_simp
      with_reducible rfl
     rotate_left
     ·simp only [Act.put, List.setIfInBounds_toArray, List.set_cons_zero, List.set_cons_succ, i64_w, i32_w]
      rfl
     refine pure_ (i := 5) (N := some 33) (v := ?_) (a' := ?_) bt6_10 rfl rfl (any_of HT_.out (by kernel_rfl)) (fun _ _ _ h => h) (Or.inl ⟨by rfl, ?_⟩) ?_ ?_
     rotate_left
     ·intro w'
      go_simp
      with_reducible rfl
     rotate_left
     ·simp only [Act.put, List.setIfInBounds_toArray, List.set_cons_zero, List.set_cons_succ, i64_w, i32_w]
      rfl
     refine take_ (i := 6) (N := some 34) (v := ?_) (a' := ?_) bt7_10 rfl rfl (take_ofW HT_.out HW_.out (by kernel_rfl)) (fun _ _ _ h => h) (Or.inl ⟨by rfl, ?_⟩) hHeld ?_ ?_
     rotate_left
     ·rintro w' ⟨s0, s1, s2, s3, s4, s5, s6, s7, s8, s9, s10, s11, s12⟩
      go_simp
      with_reducible rfl
     rotate_left
     ·simp only [Act.put, List.setIfInBounds_toArray, List.set_cons_zero, List.set_cons_succ, i64_w, i32_w]
      rfl
     refine one_ (i := 7) (N := some 35) bt8_10 rfl rfl (one_of HT_.out (by kernel_rfl)) (by decide) (fun K hK => ?_)
     refine value_ (w1 := ?_) (v := ?_) (by rfl) rfl ?_ ?_
     rotate_left 2
     ·go_simp
      constructor
      ·rfl
      ·rfl
     refine hK.out _ _ ⟨(blk_cell (blk_alloc BK367.out _) 0).trans rfl, (blk_cell (blk_alloc BK367.out _) 1).trans rfl, (blk_cell (blk_alloc BK367.out _) 2).trans rfl, (blk_cell (blk_alloc BK367.out _) 3).trans rfl, (blk_cell (blk_alloc BK367.out _) 4).trans rfl, (blk_cell (blk_alloc BK350.out _) 0).trans rfl, (blk_cell (blk_alloc BK350.out _) 1).trans rfl, (blk_cell (blk_alloc BK350.out _) 2).trans rfl, (blk_cell (blk_alloc BK350.out _) 3).trans rfl, (blk_cell (blk_alloc BK350.out _) 4).trans rfl, (World.cell?_alloc_lt _ _ _ (World.block_lt_of_cell? _ _ (((HB.out.cell (World.block_lt_of_cell? w _ hw376_0)).trans hw376_0)))).trans (((HB.out.cell (World.block_lt_of_cell? w _ hw376_0)).trans hw376_0)), (World.cell?_alloc_lt _ _ _ (World.block_lt_of_cell? _ _ (((HB.out.cell (World.block_lt_of_cell? w _ hw376_1)).trans hw376_1)))).trans (((HB.out.cell (World.block_lt_of_cell? w _ hw376_1)).trans hw376_1)), (World.cell?_alloc_lt _ _ _ (World.block_lt_of_cell? _ _ (((HB.out.cell (World.block_lt_of_cell? w _ hw376_2)).trans hw376_2)))).trans (((HB.out.cell (World.block_lt_of_cell? w _ hw376_2)).trans hw376_2))⟩ (fun hHeld => ?_)
     clear hK K
     refine norm_ (a' := ?_) ?_ ?_
     rotate_left
     ·show Act.put _ (some 35) _ = _
      simp only [Act.put, List.setIfInBounds_toArray, List.set_cons_zero, List.set_cons_succ, i64_w, i32_w]
      rfl
     refine one_ (i := 8) (N := some 36) bt9_10 rfl rfl (one_of HT_.out (by kernel_rfl)) (by decide) (fun K hK => ?_)
     refine Kd.R_append_step k73 (w0 := w) w.heap.size (by rfl) (.tmp 29) (.tmp 35) 31 73 (.agg #[(.string ⟨#[]⟩), (.string ⟨#[]⟩), (.string ⟨#[]⟩)]) 48 rfl Try.underlying31 info73 rfl (by decide) (by omega) u368001 x368001_1 (⟨(rd_T73 l0_1 x5_1).f0, (rd_T73 l0_1 x5_1).f1, (rd_T73 l0_1 x5_1).f2⟩ : S73) [.string ((rd_T73 l0_1 x5_1).f0), .string ((rd_T73 l0_1 x5_1).f1), .string ((rd_T73 l0_1 x5_1).f2)] (fun _ => True) (fun _ => False) rfl rfl ?aP (fun _ hk => hk.elim) ?aF ?aO ?aB ?aS ?aL ?_
     (case aP => exact k73_mkM _ _ _ (⟨(rd_T73 l0_1 x5_1).f0, (rd_T73 l0_1 x5_1).f1, (rd_T73 l0_1 x5_1).f2⟩ : S73))
     (case aB => exact zt12)
     (case aF => exact (fun _ _ => trivial))
     (case aO => exact (rz HO_368001.out))
     (case aS => exact (below_size zt12))
     (case aL => have := LMc32.out; omega)
     intro v378 w38 ho hb hg hat
     rw [← Ny377.out] at ho
     have n0_ := Aside0.mk (Kd.R_over' (rz HO_4.out) (Kd.R_typed (rz HO_368001.out)) (by decide) hg)
     have n1_ := Aside0.mk (Kd.R_over' (rz HO_368000.out) (Kd.R_typed (rz HO_368001.out)) (by decide) hg)
     have n2_ := Aside0.mk (Kd.R_over' (rz HO_368002.out) (Kd.R_typed (rz HO_368001.out)) (by decide) hg)
     have n3_ := Aside0.mk (Kd.R_over' (rz HO_368003.out) (Kd.R_typed (rz HO_368001.out)) (by decide) hg)
     have n4_ := Aside0.mk (Kd.R_over' (rz HO_368004.out) (Kd.R_typed (rz HO_368001.out)) (by decide) hg)
     have n5_ := Aside0.mk (blk_grown (g := gb350) (o := .cells #[.slice A0_0 l0_0.length c0_0, .slice (some ad374) l0_1.length c0_1, .slice A0_2 l0_2.length c0_2, .slice A0_3 l0_3.length c0_3, .slice A0_4 l0_4.length c0_4] 36 (0, 0)) (oz BK350.out) hg (Kd.R_ne HO_368001.out BK350.out (by decide)))
     have n6_ := Aside0.mk (blk_grown (g := gb351) (o := .cells #[.slice none 0 0, .slice none 0 0, .slice none 0 0, .slice none 0 0, .slice none 0 0] 36 (0, 0)) (oz BK351.out) hg (Kd.R_ne HO_368001.out BK351.out (by decide)))
     have n7_ := Aside0.mk (blk_grown (g := gb367) (o := .cells #[.slice Ao10 t352.length co10, u368001, .slice Ao15 t358.length co15, .slice Ao16 t361.length co16, .slice Ao17 t364.length co17] 36 (0, 0)) (oz BK367.out) hg (Kd.R_ne HO_368001.out BK367.out (by decide)))
     have n8_ := Aside0.mk (hb)
     have n9_ := Aside0.mk (ho)
     clear HO_4
     clear HO_368000
     clear HO_368002
     clear HO_368003
     clear HO_368004
     clear BK350
     clear BK351
     clear BK367
     clear HB
     clear HO_368001
     have HO_4 := n0_
     have HO_368000 := n1_
     have HO_368002 := n2_
     have HO_368003 := n3_
     have HO_368004 := n4_
     have BK350 := n5_
     have BK351 := n6_
     have BK367 := n7_
     have HB := n8_
     have HO379 := n9_
     clear n0_ n1_ n2_ n3_ n4_ n5_ n6_ n7_ n8_ n9_
     clear ho hb hg hat
     obtain ⟨Ao39, co39, eo39⟩ := Kd.R_slice HO379.out
     (first | subst eo39 | (injection eo39 with f1_ f2_ f3_; have f4_ := f1_.symm; have f5_ := f3_.symm; clear f1_ f2_ f3_; subst f4_; subst f5_))
     refine hK.out _ _ ⟨(blk_cell BK367.out 0).trans rfl, (blk_cell BK367.out 1).trans rfl, (blk_cell BK367.out 2).trans rfl, (blk_cell BK367.out 3).trans rfl, (blk_cell BK367.out 4).trans rfl, (blk_cell BK350.out 0).trans rfl, (blk_cell BK350.out 1).trans rfl, (blk_cell BK350.out 2).trans rfl, (blk_cell BK350.out 3).trans rfl, (blk_cell BK350.out 4).trans rfl, ((HB.out.cell (World.block_lt_of_cell? w _ hw376_0)).trans hw376_0), ((HB.out.cell (World.block_lt_of_cell? w _ hw376_1)).trans hw376_1), ((HB.out.cell (World.block_lt_of_cell? w _ hw376_2)).trans hw376_2)⟩ (fun hHeld => ?_)
     clear hK K
     refine norm_ (a' := ?_) ?_ ?_
     rotate_left
     ·show Act.put _ (some 36) _ = _
      simp only [Act.put, List.setIfInBounds_toArray, List.set_cons_zero, List.set_cons_succ, i64_w, i32_w]
      rfl
     refine pure_ (i := 9) (N := some 37) (v := ?_) (a' := ?_) bt10_10 rfl rfl (any_of HT_.out (by kernel_rfl)) (fun _ _ _ h => h) (Or.inl ⟨by rfl, ?_⟩) ?_ ?_
     rotate_left
     ·intro w'
      go_simp
      with_reducible rfl
     rotate_left
     ·simp only [Act.put, List.setIfInBounds_toArray, List.set_cons_zero, List.set_cons_succ, i64_w, i32_w]
      rfl
     refine last_ (i := 10) (N := none) bt11_10 rfl rfl (one_of HT_.out (by kernel_rfl)) (by decide) (fun K hK => ?_)
     have hs40 : w38.cell? ⟨gb367, 1, none⟩ = some (u368001) := (blk_cell BK367.out 1).trans rfl
     have hfs40 := blk_frozen BK367.out 1
     have hns40_0 := NB350_367.out
     have hns40_1 := NB351_367.out
     have hms40_0 := NB367_350.out
     have hms40_1 := NB367_351.out
     refine skip_ (w1 := ?_) (by rfl) rfl ?_ ?_
     rotate_left
     ·go_simp
      rfl
     refine hK.out _ _ ?_
     clear hK K
     refine done_ (done_of HT_.out (by kernel_rfl)) ?_
     try go_wp2
     go_roundg k1
     case measure => have := HK1.out; omega
     case rel => exact ⟨(wrap64 (x5_1 + 1)), (y377), (.slice Ao39 y377.length co39), zt9, H', ⟨by have := HK1.out; omega⟩, ⟨by (with_reducible repeat (first | apply Kd.R_alloc | apply Kd.R_drewN | apply Kd.R_drew)); exact Kd.R_mono (Kd.R_far (p := ⟨gb367, 1, none⟩) (Kd.R_types HO_4.out BK367.out (by decide)) (fun _ hk => hk.2) (.slice Ao39 y377.length co39)) (fun _ hk => hk.1)⟩, ⟨by (with_reducible repeat (first | apply Kd.R_alloc | apply Kd.R_drewN | apply Kd.R_drew)); exact Kd.R_mono (Kd.R_far (p := ⟨gb367, 1, none⟩) (Kd.R_types HO_368000.out BK367.out (by decide)) (fun _ hk => hk.2) (.slice Ao39 y377.length co39)) (fun _ hk => hk.1)⟩, ⟨by (with_reducible repeat (first | apply Kd.R_alloc | apply Kd.R_drewN | apply Kd.R_drew)); exact Kd.R_mono (Kd.R_far (p := ⟨gb367, 1, none⟩) (Kd.R_types HO379.out BK367.out (by decide)) (fun _ hk => hk.2) (.slice Ao39 y377.length co39)) (fun _ hk => trivial)⟩, ⟨by (with_reducible repeat (first | apply Kd.R_alloc | apply Kd.R_drewN | apply Kd.R_drew)); exact Kd.R_mono (Kd.R_far (p := ⟨gb367, 1, none⟩) (Kd.R_types HO_368002.out BK367.out (by decide)) (fun _ hk => hk.2) (.slice Ao39 y377.length co39)) (fun _ hk => trivial)⟩, ⟨by (with_reducible repeat (first | apply Kd.R_alloc | apply Kd.R_drewN | apply Kd.R_drew)); exact Kd.R_mono (Kd.R_far (p := ⟨gb367, 1, none⟩) (Kd.R_types HO_368003.out BK367.out (by decide)) (fun _ hk => hk.2) (.slice Ao39 y377.length co39)) (fun _ hk => trivial)⟩, ⟨by (with_reducible repeat (first | apply Kd.R_alloc | apply Kd.R_drewN | apply Kd.R_drew)); exact Kd.R_mono (Kd.R_far (p := ⟨gb367, 1, none⟩) (Kd.R_types HO_368004.out BK367.out (by decide)) (fun _ hk => hk.2) (.slice Ao39 y377.length co39)) (fun _ hk => trivial)⟩, ⟨by (with_reducible repeat (first | refine blk_drewN ?_ _ | refine blk_drew ?_ | refine blk_alloc ?_ _)); refine blk_far ?_ NB350_367.out _; (with_reducible repeat (first | refine blk_drewN ?_ _ | refine blk_drew ?_ | refine blk_alloc ?_ _)); exact BK350.out⟩, ⟨by (with_reducible repeat (first | refine blk_drewN ?_ _ | refine blk_drew ?_ | refine blk_alloc ?_ _)); refine blk_far ?_ NB351_367.out _; (with_reducible repeat (first | refine blk_drewN ?_ _ | refine blk_drew ?_ | refine blk_alloc ?_ _)); exact BK351.out⟩, ⟨by (with_reducible repeat (first | refine blk_drewN ?_ _ | refine blk_drew ?_ | refine blk_alloc ?_ _)); refine blk_put (cs := #[.slice Ao10 t352.length co10, u368001, .slice Ao15 t358.length co15, .slice Ao16 t361.length co16, .slice Ao17 t364.length co17]) ?_ 1 _ rfl; (with_reducible repeat (first | refine blk_drewN ?_ _ | refine blk_drew ?_ | refine blk_alloc ?_ _)); exact BK367.out⟩, ⟨zt12⟩⟩
   ·rw [if_neg c24] at H
    have c24b0 := decide_eq_false c24
    clear c24
    simp only [Option.some.injEq, Prod.mk.injEq] at H
    obtain ⟨rfl, rfl, rfl, rfl, rfl⟩ := H
    have hnb41 := NB350_351.out
    have hnc41 := NB351_350.out
    have hnb42 := NB350_367.out
    have hnc42 := NB367_350.out
    have hcz43_0 : wr.cell? ⟨gb350, 0, none⟩ = some (.slice A0_0 l0_0.length c0_0) := (blk_cell BK350.out 0).trans rfl
    have hcz43_1 : wr.cell? ⟨gb350, 1, none⟩ = some (.slice A0_1 l0_1.length c0_1) := (blk_cell BK350.out 1).trans rfl
    have hcz43_2 : wr.cell? ⟨gb350, 2, none⟩ = some (.slice A0_2 l0_2.length c0_2) := (blk_cell BK350.out 2).trans rfl
    have hcz43_3 : wr.cell? ⟨gb350, 3, none⟩ = some (.slice A0_3 l0_3.length c0_3) := (blk_cell BK350.out 3).trans rfl
    have hcz43_4 : wr.cell? ⟨gb350, 4, none⟩ = some (.slice A0_4 l0_4.length c0_4) := (blk_cell BK350.out 4).trans rfl
    have hfz43_0 := blk_frozen BK350.out 0
    have hfz43_1 := blk_frozen BK350.out 1
    have hfz43_2 := blk_frozen BK350.out 2
    have hfz43_3 := blk_frozen BK350.out 3
    have hfz43_4 := blk_frozen BK350.out 4
    have hnb44 := NB367_351.out
    have hnc44 := NB351_367.out
    have hcz45_0 : wr.cell? ⟨gb367, 0, none⟩ = some (.slice Ao10 t352.length co10) := (blk_cell BK367.out 0).trans rfl
    have hcz45_1 : wr.cell? ⟨gb367, 1, none⟩ = some (u368001) := (blk_cell BK367.out 1).trans rfl
    have hcz45_2 : wr.cell? ⟨gb367, 2, none⟩ = some (.slice Ao15 t358.length co15) := (blk_cell BK367.out 2).trans rfl
    have hcz45_3 : wr.cell? ⟨gb367, 3, none⟩ = some (.slice Ao16 t361.length co16) := (blk_cell BK367.out 3).trans rfl
    have hcz45_4 : wr.cell? ⟨gb367, 4, none⟩ = some (.slice Ao17 t364.length co17) := (blk_cell BK367.out 4).trans rfl
    have hfz45_0 := blk_frozen BK367.out 0
    have hfz45_1 := blk_frozen BK367.out 1
    have hfz45_2 := blk_frozen BK367.out 2
    have hfz45_3 := blk_frozen BK367.out 3
    have hfz45_4 := blk_frozen BK367.out 4
    have hcz46_0 : wr.cell? ⟨gb351, 0, none⟩ = some (.slice none 0 0) := (blk_cell BK351.out 0).trans rfl
    have hcz46_1 : wr.cell? ⟨gb351, 1, none⟩ = some (.slice none 0 0) := (blk_cell BK351.out 1).trans rfl
    have hcz46_2 : wr.cell? ⟨gb351, 2, none⟩ = some (.slice none 0 0) := (blk_cell BK351.out 2).trans rfl
    have hcz46_3 : wr.cell? ⟨gb351, 3, none⟩ = some (.slice none 0 0) := (blk_cell BK351.out 3).trans rfl
    have hcz46_4 : wr.cell? ⟨gb351, 4, none⟩ = some (.slice none 0 0) := (blk_cell BK351.out 4).trans rfl
    have hfz46_0 := blk_frozen BK351.out 0
    have hfz46_1 := blk_frozen BK351.out 1
    have hfz46_2 := blk_frozen BK351.out 2
    have hfz46_3 := blk_frozen BK351.out 3
    have hfz46_4 := blk_frozen BK351.out 4
    obtain ⟨Ao47, co47, eo47⟩ := Kd.R_slice HO_368001.out
    subst eo47
    go_wp2
    refine bodyPost_ret (results_cell_row rfl _ _ gb351 36 #[.slice Ao10 t352.length co10, .slice Ao47 x368001_1.length co47, .slice Ao15 t358.length co15, .slice Ao16 t361.length co16, .slice Ao17 t364.length co17] (0, 0) _ rfl (by (with_reducible repeat (first | refine blk_drewN ?_ _ | refine blk_drew ?_ | refine blk_alloc ?_ _)); refine blk_put (cs := #[.slice Ao10 t352.length co10, .slice Ao47 x368001_1.length co47, .slice Ao15 t358.length co15, .slice Ao16 t361.length co16, .slice none 0 0]) ?_ 4 _ rfl; (with_reducible repeat (first | refine blk_drewN ?_ _ | refine blk_drew ?_ | refine blk_alloc ?_ _)); refine blk_put (cs := #[.slice Ao10 t352.length co10, .slice Ao47 x368001_1.length co47, .slice Ao15 t358.length co15, .slice none 0 0, .slice none 0 0]) ?_ 3 _ rfl; (with_reducible repeat (first | refine blk_drewN ?_ _ | refine blk_drew ?_ | refine blk_alloc ?_ _)); refine blk_put (cs := #[.slice Ao10 t352.length co10, .slice Ao47 x368001_1.length co47, .slice none 0 0, .slice none 0 0, .slice none 0 0]) ?_ 2 _ rfl; (with_reducible repeat (first | refine blk_drewN ?_ _ | refine blk_drew ?_ | refine blk_alloc ?_ _)); refine blk_put (cs := #[.slice Ao10 t352.length co10, .slice none 0 0, .slice none 0 0, .slice none 0 0, .slice none 0 0]) ?_ 1 _ rfl; (with_reducible repeat (first | refine blk_drewN ?_ _ | refine blk_drew ?_ | refine blk_alloc ?_ _)); refine blk_put (cs := #[.slice none 0 0, .slice none 0 0, .slice none 0 0, .slice none 0 0, .slice none 0 0]) ?_ 0 _ rfl; (with_reducible repeat (first | refine blk_drewN ?_ _ | refine blk_drew ?_ | refine blk_alloc ?_ _)); exact BK351.out) Try.underlying36 rfl (by kernel_rfl)) rfl ?_
    exact ⟨_, _, _, _, _, zt8, by (with_reducible repeat (first | apply Kd.R_alloc | apply Kd.R_drewN | apply Kd.R_drew)); exact Kd.R_mono (Kd.R_far (p := ⟨gb351, 4, none⟩) (Kd.R_far (p := ⟨gb351, 3, none⟩) (Kd.R_far (p := ⟨gb351, 2, none⟩) (Kd.R_far (p := ⟨gb351, 1, none⟩) (Kd.R_far (p := ⟨gb351, 0, none⟩) (Kd.R_types HO_368000.out BK351.out (by decide)) (fun _ hk => hk.2) (.slice Ao10 t352.length co10)) (fun _ hk => hk.2) (.slice Ao47 x368001_1.length co47)) (fun _ hk => hk.2) (.slice Ao15 t358.length co15)) (fun _ hk => hk.2) (.slice Ao16 t361.length co16)) (fun _ hk => hk.2) (.slice Ao17 t364.length co17)) (fun _ hk => trivial), by (with_reducible repeat (first | apply Kd.R_alloc | apply Kd.R_drewN | apply Kd.R_drew)); exact Kd.R_mono (Kd.R_far (p := ⟨gb351, 4, none⟩) (Kd.R_far (p := ⟨gb351, 3, none⟩) (Kd.R_far (p := ⟨gb351, 2, none⟩) (Kd.R_far (p := ⟨gb351, 1, none⟩) (Kd.R_far (p := ⟨gb351, 0, none⟩) (Kd.R_types HO_368001.out BK351.out (by decide)) (fun _ hk => hk.2) (.slice Ao10 t352.length co10)) (fun _ hk => hk.2) (.slice Ao47 x368001_1.length co47)) (fun _ hk => hk.2) (.slice Ao15 t358.length co15)) (fun _ hk => hk.2) (.slice Ao16 t361.length co16)) (fun _ hk => hk.2) (.slice Ao17 t364.length co17)) (fun _ hk => trivial), by (with_reducible repeat (first | apply Kd.R_alloc | apply Kd.R_drewN | apply Kd.R_drew)); exact Kd.R_mono (Kd.R_far (p := ⟨gb351, 4, none⟩) (Kd.R_far (p := ⟨gb351, 3, none⟩) (Kd.R_far (p := ⟨gb351, 2, none⟩) (Kd.R_far (p := ⟨gb351, 1, none⟩) (Kd.R_far (p := ⟨gb351, 0, none⟩) (Kd.R_types HO_368002.out BK351.out (by decide)) (fun _ hk => hk.2) (.slice Ao10 t352.length co10)) (fun _ hk => hk.2) (.slice Ao47 x368001_1.length co47)) (fun _ hk => hk.2) (.slice Ao15 t358.length co15)) (fun _ hk => hk.2) (.slice Ao16 t361.length co16)) (fun _ hk => hk.2) (.slice Ao17 t364.length co17)) (fun _ hk => trivial), by (with_reducible repeat (first | apply Kd.R_alloc | apply Kd.R_drewN | apply Kd.R_drew)); exact Kd.R_mono (Kd.R_far (p := ⟨gb351, 4, none⟩) (Kd.R_far (p := ⟨gb351, 3, none⟩) (Kd.R_far (p := ⟨gb351, 2, none⟩) (Kd.R_far (p := ⟨gb351, 1, none⟩) (Kd.R_far (p := ⟨gb351, 0, none⟩) (Kd.R_types HO_368003.out BK351.out (by decide)) (fun _ hk => hk.2) (.slice Ao10 t352.length co10)) (fun _ hk => hk.2) (.slice Ao47 x368001_1.length co47)) (fun _ hk => hk.2) (.slice Ao15 t358.length co15)) (fun _ hk => hk.2) (.slice Ao16 t361.length co16)) (fun _ hk => hk.2) (.slice Ao17 t364.length co17)) (fun _ hk => trivial), by (with_reducible repeat (first | apply Kd.R_alloc | apply Kd.R_drewN | apply Kd.R_drew)); exact Kd.R_mono (Kd.R_far (p := ⟨gb351, 4, none⟩) (Kd.R_far (p := ⟨gb351, 3, none⟩) (Kd.R_far (p := ⟨gb351, 2, none⟩) (Kd.R_far (p := ⟨gb351, 1, none⟩) (Kd.R_far (p := ⟨gb351, 0, none⟩) (Kd.R_types HO_368004.out BK351.out (by decide)) (fun _ hk => hk.2) (.slice Ao10 t352.length co10)) (fun _ hk => hk.2) (.slice Ao47 x368001_1.length co47)) (fun _ hk => hk.2) (.slice Ao15 t358.length co15)) (fun _ hk => hk.2) (.slice Ao16 t361.length co16)) (fun _ hk => hk.2) (.slice Ao17 t364.length co17)) (fun _ hk => trivial), zt12⟩

/-! ### impl_plainUses: function 34 -/
mutual
def impl_plainUses.l0 : Nat → List ByteArray → List (S50) → Int → Int → List ByteArray → List (S73) → List (S55) → List (S53) → List (S50) → Option (List ByteArray)
 | 0, _, _, _, _, _, _, _, _, _ => none
 | k + 1, x3, x10, x11, x12, x381000, x381001, x381002, x381003, x381004 => if x12 < x11 then (if 0 ≤ x12 then (if x12 < (x10.length : Int) then (if ((rd_T50 x10 x12).f0) = 2 then (if x3.length < 8796093022208 then (impl_plainUses.l0 k (x3 ++ [(rd_T50 x10 x12).f2]) x10 x11 (wrap64 (x12 + 1)) x381000 x381001 x381002 x381003 x381004) else (none)) else (if ((rd_T50 x10 x12).f0) = 3 then (if x3.length < 8796093022208 then (impl_plainUses.l0 k (x3 ++ [(rd_T50 x10 x12).f2]) x10 x11 (wrap64 (x12 + 1)) x381000 x381001 x381002 x381003 x381004) else (none)) else (impl_plainUses.l0 k x3 x10 x11 (wrap64 (x12 + 1)) x381000 x381001 x381002 x381003 x381004))) else (none)) else (none)) else (impl_plainUses.l1 k x3 x381003 (x381003.length : Int) 0)
def impl_plainUses.l1 : Nat → List ByteArray → List (S53) → Int → Int → Option (List ByteArray)
 | 0, _, _, _, _ => none
 | k + 1, x3, x31, x32, x33 => if x33 < x32 then (if 0 ≤ x33 then (if x33 < (x31.length : Int) then (if ((rd_T53 x31 x33).f0) = 3 then (if x3.length < 8796093022208 then (impl_plainUses.l1 k (x3 ++ [(rd_T53 x31 x33).f1]) x31 x32 (wrap64 (x33 + 1))) else (none)) else (impl_plainUses.l1 k x3 x31 x32 (wrap64 (x33 + 1)))) else (none)) else (none)) else (some x3)
end
def impl_plainUses.f (k : Nat) (l0_0 : List ByteArray) (l0_1 : List (S73)) (l0_2 : List (S55)) (l0_3 : List (S53)) (l0_4 : List (S50)) : Option (List ByteArray) := impl_plainUses.l0 k (([] : List ByteArray)) l0_4 (l0_4.length : Int) 0 l0_0 l0_1 l0_2 l0_3 l0_4
theorem impl_plainUses.mono_l : ∀ k, (∀ y0 y1 y2 y3 y4 y5 y6 y7 y8, LeO (impl_plainUses.l0 k y0 y1 y2 y3 y4 y5 y6 y7 y8) (impl_plainUses.l0 (k + 1) y0 y1 y2 y3 y4 y5 y6 y7 y8)) ∧ (∀ y0 y1 y2 y3, LeO (impl_plainUses.l1 k y0 y1 y2 y3) (impl_plainUses.l1 (k + 1) y0 y1 y2 y3))
 | 0 => ⟨fun _ _ _ _ _ _ _ _ _ r h => by simp [impl_plainUses.l0] at h, fun _ _ _ _ r h => by simp [impl_plainUses.l1] at h⟩
 | k + 1 => by
  obtain ⟨ih0, ih1⟩ := impl_plainUses.mono_l k
  refine ⟨?_, ?_⟩
  ·intro y0 y1 y2 y3 y4 y5 y6 y7 y8
   unfold impl_plainUses.l0
   repeat' (first | (with_reducible first | exact ih0 _ _ _ _ _ _ _ _ _ | exact ih1 _ _ _ _ | exact LeO.refl _ | exact LeO.none _ | refine LeO.ite ?_ ?_ | refine LeO.bind ?_ (fun _ => ?_)) | exact LeO.none _ | refine LeO.ite ?_ ?_ | refine LeO.bind ?_ (fun _ => ?_))
  ·intro y0 y1 y2 y3
   unfold impl_plainUses.l1
   repeat' (first | (with_reducible first | exact ih0 _ _ _ _ _ _ _ _ _ | exact ih1 _ _ _ _ | exact LeO.refl _ | exact LeO.none _ | refine LeO.ite ?_ ?_ | refine LeO.bind ?_ (fun _ => ?_)) | exact LeO.none _ | refine LeO.ite ?_ ?_ | refine LeO.bind ?_ (fun _ => ?_))
theorem impl_plainUses.mono : ∀ a0 a1 a2 a3 a4 k, LeO (impl_plainUses.f k a0 a1 a2 a3 a4) (impl_plainUses.f (k + 1) a0 a1 a2 a3 a4) := by
 intro a0 a1 a2 a3 a4 k
 obtain ⟨ih0, ih1⟩ := impl_plainUses.mono_l k
 unfold impl_plainUses.f
 repeat' (first | (with_reducible first | exact ih0 _ _ _ _ _ _ _ _ _ | exact ih1 _ _ _ _ | exact LeO.refl _ | exact LeO.none _ | refine LeO.ite ?_ ?_ | refine LeO.bind ?_ (fun _ => ?_)) | exact LeO.none _ | refine LeO.ite ?_ ?_ | refine LeO.bind ?_ (fun _ => ?_))
set_option maxHeartbeats 8000000 in
set_option maxRecDepth 100000 in
theorem impl_plainUses.calls (k : Nat) (A0_0 : Option Addr) (c0_0 : Nat) (l0_0 : List ByteArray) (A0_1 : Option Addr) (c0_1 : Nat) (l0_1 : List (S73)) (A0_2 : Option Addr) (c0_2 : Nat) (l0_2 : List (S55)) (A0_3 : Option Addr) (c0_3 : Nat) (l0_3 : List (S53)) (A0_4 : Option Addr) (c0_4 : Nat) (l0_4 : List (S50)) (r : List ByteArray) (w : World) (hr0_0 : Kd.C Kd.string w A0_0 l0_0.length l0_0) (hc0_0 : l0_0.length ≤ c0_0) (hr0_1 : Kd.C k73 w A0_1 l0_1.length l0_1) (hc0_1 : l0_1.length ≤ c0_1) (hr0_2 : Kd.C k55 w A0_2 l0_2.length l0_2) (hc0_2 : l0_2.length ≤ c0_2) (hr0_3 : Kd.C k53 w A0_3 l0_3.length l0_3) (hc0_3 : l0_3.length ≤ c0_3) (hr0_4 : Kd.C k50 w A0_4 l0_4.length l0_4) (hc0_4 : l0_4.length ≤ c0_4) (h : impl_plainUses.f k l0_0 l0_1 l0_2 l0_3 l0_4 = some r) :
  Calls Try.prog 34 #[.agg #[.slice A0_0 l0_0.length c0_0, .slice A0_1 l0_1.length c0_1, .slice A0_2 l0_2.length c0_2, .slice A0_3 l0_3.length c0_3, .slice A0_4 l0_4.length c0_4]] w fun e w' => ∃ v0_ : Value, e = .returned (v0_) ∧ Kd.R Kd.string 9 w' w.heap.size (fun _ => True) v0_ r ∧ Below w.heap.size w w' := by
 have hu36 := Try.underlying36
 have hu50 := Try.underlying50
 have hu53 := Try.underlying53
 have HR0_0 := Aside0.mk hr0_0
 have HC0_0 := Aside0.mk hc0_0
 clear hr0_0 hc0_0
 have HR0_1 := Aside0.mk hr0_1
 have HC0_1 := Aside0.mk hc0_1
 clear hr0_1 hc0_1
 have HR0_2 := Aside0.mk hr0_2
 have HC0_2 := Aside0.mk hc0_2
 clear hr0_2 hc0_2
 have HR0_3 := Aside0.mk hr0_3
 have HC0_3 := Aside0.mk hc0_3
 clear hr0_3 hc0_3
 have HR0_4 := Aside0.mk hr0_4
 have HC0_4 := Aside0.mk hc0_4
 clear hr0_4 hc0_4
 have HB := Aside0.mk (Below.refl w.heap.size w)
 try unfold impl_plainUses.f at h
 have H := h
 clear h
 obtain ⟨y381, hy381⟩ : ∃ y_ : List ByteArray, y_ = (([] : List ByteArray)) := ⟨_, rfl⟩
 replace H : (impl_plainUses.l0 k y381 l0_4 (l0_4.length : Int) 0 l0_0 l0_1 l0_2 l0_3 l0_4) = some r := by first | (rw [hy381]; with_reducible exact H) | (have H2_ := (Option.bind_some _ _).symm.trans H; rw [hy381]; with_reducible exact H2_) | (have H2_ := (Option.bind_some _ _).symm.trans H; with_reducible exact H2_) | with_reducible exact H | (rw [hy381]; exact H) | exact H
 have Ny381 := Aside0.mk hy381
 clear hy381
 have H' := Aside0.mk H
 clear H
 go_enter Try.func34, Try.ntmps34
 go_wp2_with (first | ((with_reducible refine gate_dst (N := 1) rfl ?_); refine box_event ?hg (N := 1) ?hd (cs := #[.slice A0_0 l0_0.length c0_0, .slice A0_1 l0_1.length c0_1, .slice A0_2 l0_2.length c0_2, .slice A0_3 l0_3.length c0_3, .slice A0_4 l0_4.length c0_4]) (t := 36) ?hr ?_; (case hd => rfl); (case hg => rfl); (case hr => first | (go_simp; done) | (go_simp; rfl)); intro gb380 hg w2 hbox hb; have n0_ := Aside0.mk (below_step zt3 hb); have n1_ := Aside0.mk (hbox); have n2_ := Aside0.mk ((zt6 : w.heap.size ≤ gb380)); have n3_ := Aside0.mk ((zt6 : w.heap.size ≤ gb380)); clear HB; have HB := n0_; have BK380 := n1_; have GW380 := n2_; have GE380 := n3_; clear n0_ n1_ n2_ n3_; clear hb hbox hg) | ((with_reducible refine gate_dst (N := 8) rfl ?_); refine Kd.R_lit Kd.string _ 9 ?hg (N := 8) ?hd (xs := ([] : List ByteArray)) (inner := []) (ok := fun _ => True) (okp := fun _ => True) ?hr ?hp (fun _ hk => hk) trivial (Below.refl _ _) (Nat.le_refl _) (by simp) ?_; (case hd => rfl); (case hg => rfl); (case hr => first | (go_simp; done) | (go_simp; rfl)); (case hp => exact (Reps.none _ _)); intro v382 w3 ho4 hb hg_ hnew_; clear hg_ hnew_; (first | rw [← Ny381.out] at ho4 | (simp only [Int.reduceToNat] at ho4; rw [← Ny381.out] at ho4)); have n0_ := Aside0.mk (Kd.R_lower ho4 (below_size zt15)); have n1_ := Aside0.mk (blk_below (g := gb380) (o := .cells #[.slice A0_0 l0_0.length c0_0, .slice A0_1 l0_1.length c0_1, .slice A0_2 l0_2.length c0_2, .slice A0_3 l0_3.length c0_3, .slice A0_4 l0_4.length c0_4] 36 (0, 0)) (oz BK380.out) hb); have n2_ := Aside0.mk (below_step zt15 hb); clear BK380; clear HB; have HO383 := n0_; have BK380 := n1_; have HB := n2_; clear n0_ n1_ n2_; clear hb ho4; have hcz5_0 : w3.cell? ⟨gb380, 0, none⟩ = some (.slice A0_0 l0_0.length c0_0) := (blk_cell BK380.out 0).trans rfl; have hcz5_1 : w3.cell? ⟨gb380, 1, none⟩ = some (.slice A0_1 l0_1.length c0_1) := (blk_cell BK380.out 1).trans rfl; have hcz5_2 : w3.cell? ⟨gb380, 2, none⟩ = some (.slice A0_2 l0_2.length c0_2) := (blk_cell BK380.out 2).trans rfl; have hcz5_3 : w3.cell? ⟨gb380, 3, none⟩ = some (.slice A0_3 l0_3.length c0_3) := (blk_cell BK380.out 3).trans rfl; have hcz5_4 : w3.cell? ⟨gb380, 4, none⟩ = some (.slice A0_4 l0_4.length c0_4) := (blk_cell BK380.out 4).trans rfl; have hfz5_0 := blk_frozen BK380.out 0; have hfz5_1 := blk_frozen BK380.out 1; have hfz5_2 := blk_frozen BK380.out 2; have hfz5_3 := blk_frozen BK380.out 3; have hfz5_4 := blk_frozen BK380.out 4))
 go_loopg [3, 12] k (fun kq v3 v12 w' => ∃ (x3_1 : List ByteArray) (x12_1 : Int), v12 = .int .i64 x12_1 ∧ Aside0 (impl_plainUses.l0 kq x3_1 l0_4 (l0_4.length : Int) x12_1 l0_0 l0_1 l0_2 l0_3 l0_4 = some r) ∧ Aside0 (kq ≤ k) ∧ Aside0 (Kd.R Kd.string 9 w' w.heap.size (fun _ => True) v3 x3_1) ∧ Aside0 (w'.heap[gb380]? = some (.cells #[(.slice A0_0 l0_0.length c0_0), (.slice A0_1 l0_1.length c0_1), (.slice A0_2 l0_2.length c0_2), (.slice A0_3 l0_3.length c0_3), (.slice A0_4 l0_4.length c0_4)] 36 (0, 0))) ∧ Aside0 (Below w.heap.size w w'))
 case atStart => exact ⟨(y381), (0), zt9, H', ⟨Nat.le_refl _⟩, ⟨by (with_reducible repeat (first | apply Kd.R_alloc | apply Kd.R_drewN | apply Kd.R_drew)); exact HO383.out⟩, ⟨zt40⟩, ⟨zt15⟩⟩
 case round =>
  clear H'
  try clear p2
  try clear c3
  try clear hcz5_0
  try clear hcz5_1
  try clear hcz5_2
  try clear hcz5_3
  try clear hcz5_4
  try clear hfz5_0
  try clear hfz5_1
  try clear hfz5_2
  try clear hfz5_3
  try clear hfz5_4
  obtain ⟨x3_1, x12_1, rfl, HA, HK1, HO_3, BK380, HB⟩ := hrel
  cases gk with
  | zero => exact absurd HA.out (by simp [impl_plainUses.l0])
  | succ k1 =>
   have H := HA.out
   clear HA
   simp only [impl_plainUses.l0] at H
   by_cases c6 : x12_1 < (l0_4.length : Int)
   rw [if_pos c6] at H
   have c6b0 := decide_eq_true c6
   clear c6
   replace H := it0 H
   obtain ⟨c7, H⟩ := H
   have c7b0 : decide (0 ≤ x12_1) = true := decide_eq_true c7
   clear c7
   replace H := it0 H
   obtain ⟨c8, H⟩ := H
   have c8b0 := decide_eq_true c8
   clear c8
   by_cases c9 : ((rd_T50 l0_4 x12_1).f0) = 2
   rw [if_pos c9] at H
   have c9b0 := beq_iff_eq.mpr c9
   have c9b1 := bne_eq_false_iff_eq.mpr c9
   clear c9
   replace H := it0 H
   obtain ⟨c10, H⟩ := H
   have LMc10 := Aside0.mk c10
   clear c10
   obtain ⟨y386, hy386⟩ : ∃ y_ : List ByteArray, y_ = (x3_1 ++ [(rd_T50 l0_4 x12_1).f2]) := ⟨_, rfl⟩
   replace H : (impl_plainUses.l0 k1 y386 l0_4 (l0_4.length : Int) (wrap64 (x12_1 + 1)) l0_0 l0_1 l0_2 l0_3 l0_4) = some r := by first | (rw [hy386]; with_reducible exact H) | (have H2_ := (Option.bind_some _ _).symm.trans H; rw [hy386]; with_reducible exact H2_) | (have H2_ := (Option.bind_some _ _).symm.trans H; with_reducible exact H2_) | with_reducible exact H | (rw [hy386]; exact H) | exact H
   have Ny386 := Aside0.mk hy386
   clear hy386
   have H' := Aside0.mk H
   clear H
   have p384 : 0 ≤ (x12_1 : Int) := of_decide_eq_true zt4
   have q384 : x12_1 < (l0_4.length : Int) := of_decide_eq_true zt4
   obtain ⟨ad384, e384, hx384_0, hx384_1, hx384_2, hx384_3, hx384_4, hx384_5⟩ := at_T50 HR0_4.out x12_1 p384 q384
   cases e384
   replace hx384_0 := (HB.out.cell (World.block_lt_of_cell? w _ hx384_0)).trans hx384_0
   replace hx384_1 := (HB.out.cell (World.block_lt_of_cell? w _ hx384_1)).trans hx384_1
   replace hx384_2 := (HB.out.cell (World.block_lt_of_cell? w _ hx384_2)).trans hx384_2
   replace hx384_3 := (HB.out.cell (World.block_lt_of_cell? w _ hx384_3)).trans hx384_3
   replace hx384_4 := (HB.out.cell (World.block_lt_of_cell? w _ hx384_4)).trans hx384_4
   replace hx384_5 := (HB.out.cell (World.block_lt_of_cell? w _ hx384_5)).trans hx384_5
   replace p384 := eq_true p384
   replace q384 := eq_true q384
   rotate_left
   rw [if_neg c9] at H
   have c9b0 := beq_eq_false_iff_ne.mpr c9
   have c9b1 := bne_iff_ne.mpr c9
   by_cases c15 : ((rd_T50 l0_4 x12_1).f0) = 3
   rw [if_pos c15] at H
   have c15b0 := beq_iff_eq.mpr c15
   have c15b1 := bne_eq_false_iff_eq.mpr c15
   clear c15
   replace H := it0 H
   obtain ⟨c16, H⟩ := H
   have LMc16 := Aside0.mk c16
   clear c16
   obtain ⟨y389, hy389⟩ : ∃ y_ : List ByteArray, y_ = (x3_1 ++ [(rd_T50 l0_4 x12_1).f2]) := ⟨_, rfl⟩
   replace H : (impl_plainUses.l0 k1 y389 l0_4 (l0_4.length : Int) (wrap64 (x12_1 + 1)) l0_0 l0_1 l0_2 l0_3 l0_4) = some r := by first | (rw [hy389]; with_reducible exact H) | (have H2_ := (Option.bind_some _ _).symm.trans H; rw [hy389]; with_reducible exact H2_) | (have H2_ := (Option.bind_some _ _).symm.trans H; with_reducible exact H2_) | with_reducible exact H | (rw [hy389]; exact H) | exact H
   have Ny389 := Aside0.mk hy389
   clear hy389
   have H' := Aside0.mk H
   clear H
   have p384 : 0 ≤ (x12_1 : Int) := of_decide_eq_true zt4
   have q384 : x12_1 < (l0_4.length : Int) := of_decide_eq_true zt4
   obtain ⟨ad384, e384, hx384_0, hx384_1, hx384_2, hx384_3, hx384_4, hx384_5⟩ := at_T50 HR0_4.out x12_1 p384 q384
   cases e384
   replace hx384_0 := (HB.out.cell (World.block_lt_of_cell? w _ hx384_0)).trans hx384_0
   replace hx384_1 := (HB.out.cell (World.block_lt_of_cell? w _ hx384_1)).trans hx384_1
   replace hx384_2 := (HB.out.cell (World.block_lt_of_cell? w _ hx384_2)).trans hx384_2
   replace hx384_3 := (HB.out.cell (World.block_lt_of_cell? w _ hx384_3)).trans hx384_3
   replace hx384_4 := (HB.out.cell (World.block_lt_of_cell? w _ hx384_4)).trans hx384_4
   replace hx384_5 := (HB.out.cell (World.block_lt_of_cell? w _ hx384_5)).trans hx384_5
   replace p384 := eq_true p384
   replace q384 := eq_true q384
   rotate_left
   rw [if_neg c15] at H
   have c15b0 := beq_eq_false_iff_ne.mpr c15
   have c15b1 := bne_iff_ne.mpr c15
   have H' := Aside0.mk H
   clear H
   have p384 : 0 ≤ (x12_1 : Int) := of_decide_eq_true zt4
   have q384 : x12_1 < (l0_4.length : Int) := of_decide_eq_true zt4
   obtain ⟨ad384, e384, hx384_0, hx384_1, hx384_2, hx384_3, hx384_4, hx384_5⟩ := at_T50 HR0_4.out x12_1 p384 q384
   cases e384
   replace hx384_0 := (HB.out.cell (World.block_lt_of_cell? w _ hx384_0)).trans hx384_0
   replace hx384_1 := (HB.out.cell (World.block_lt_of_cell? w _ hx384_1)).trans hx384_1
   replace hx384_2 := (HB.out.cell (World.block_lt_of_cell? w _ hx384_2)).trans hx384_2
   replace hx384_3 := (HB.out.cell (World.block_lt_of_cell? w _ hx384_3)).trans hx384_3
   replace hx384_4 := (HB.out.cell (World.block_lt_of_cell? w _ hx384_4)).trans hx384_4
   replace hx384_5 := (HB.out.cell (World.block_lt_of_cell? w _ hx384_5)).trans hx384_5
   replace p384 := eq_true p384
   replace q384 := eq_true q384
   rotate_left
   ·rw [if_neg c6] at H
    have c6b0 := decide_eq_false c6
    clear c6
    have H' := Aside0.mk H
    clear H
    have hcz24_0 : wr.cell? ⟨gb380, 0, none⟩ = some (.slice A0_0 l0_0.length c0_0) := (blk_cell BK380.out 0).trans rfl
    have hcz24_1 : wr.cell? ⟨gb380, 1, none⟩ = some (.slice A0_1 l0_1.length c0_1) := (blk_cell BK380.out 1).trans rfl
    have hcz24_2 : wr.cell? ⟨gb380, 2, none⟩ = some (.slice A0_2 l0_2.length c0_2) := (blk_cell BK380.out 2).trans rfl
    have hcz24_3 : wr.cell? ⟨gb380, 3, none⟩ = some (.slice A0_3 l0_3.length c0_3) := (blk_cell BK380.out 3).trans rfl
    have hcz24_4 : wr.cell? ⟨gb380, 4, none⟩ = some (.slice A0_4 l0_4.length c0_4) := (blk_cell BK380.out 4).trans rfl
    have hfz24_0 := blk_frozen BK380.out 0
    have hfz24_1 := blk_frozen BK380.out 1
    have hfz24_2 := blk_frozen BK380.out 2
    have hfz24_3 := blk_frozen BK380.out 3
    have hfz24_4 := blk_frozen BK380.out 4
    go_wp2
    go_loopg [3, 33] k1 (fun kq v3 v33 w' => ∃ (x3_2 : List ByteArray) (x33_2 : Int), v33 = .int .i64 x33_2 ∧ Aside0 (impl_plainUses.l1 kq x3_2 l0_3 (l0_3.length : Int) x33_2 = some r) ∧ Aside0 (kq ≤ k1) ∧ Aside0 (Kd.R Kd.string 9 w' w.heap.size (fun _ => True) v3 x3_2) ∧ Aside0 (w'.heap[gb380]? = some (.cells #[(.slice A0_0 l0_0.length c0_0), (.slice A0_1 l0_1.length c0_1), (.slice A0_2 l0_2.length c0_2), (.slice A0_3 l0_3.length c0_3), (.slice A0_4 l0_4.length c0_4)] 36 (0, 0))) ∧ Aside0 (Below w.heap.size w w'))
    case atStart => exact ⟨(x3_1), (0), zt9, H', ⟨Nat.le_refl _⟩, ⟨zt27⟩, ⟨zt40⟩, ⟨zt15⟩⟩
    case round =>
     clear H'
     try clear c1
     try clear c2
     try clear p2
     try clear c3
     try clear p3
     try clear q3
     try clear hx3
     try clear c6
     try clear c6b0
     try clear p6
     try clear c7
     try clear c7b0
     try clear c8
     try clear c8b0
     try clear c9
     try clear c9b0
     try clear c9b1
     try clear c10
     try clear c12
     try clear c15
     try clear c15b0
     try clear c15b1
     try clear c16
     try clear c18
     try clear c22
     try clear hcz13_0
     try clear hcz13_1
     try clear hcz13_2
     try clear hcz13_3
     try clear hcz13_4
     try clear hcz13_5
     try clear hcz19_0
     try clear hcz19_1
     try clear hcz19_2
     try clear hcz19_3
     try clear hcz19_4
     try clear hcz19_5
     try clear hcz23_0
     try clear hcz23_1
     try clear hcz23_2
     try clear hcz23_3
     try clear hcz23_4
     try clear hcz23_5
     try clear hcz24_0
     try clear hcz24_1
     try clear hcz24_2
     try clear hcz24_3
     try clear hcz24_4
     try clear hcz5_0
     try clear hcz5_1
     try clear hcz5_2
     try clear hcz5_3
     try clear hcz5_4
     try clear hfz13_0
     try clear hfz13_1
     try clear hfz13_2
     try clear hfz13_3
     try clear hfz13_4
     try clear hfz13_5
     try clear hfz19_0
     try clear hfz19_1
     try clear hfz19_2
     try clear hfz19_3
     try clear hfz19_4
     try clear hfz19_5
     try clear hfz23_0
     try clear hfz23_1
     try clear hfz23_2
     try clear hfz23_3
     try clear hfz23_4
     try clear hfz23_5
     try clear hfz24_0
     try clear hfz24_1
     try clear hfz24_2
     try clear hfz24_3
     try clear hfz24_4
     try clear hfz5_0
     try clear hfz5_1
     try clear hfz5_2
     try clear hfz5_3
     try clear hfz5_4
     try clear hx384_0
     try clear hx384_1
     try clear hx384_2
     try clear hx384_3
     try clear hx384_4
     try clear hx384_5
     try clear p2
     try clear p384
     try clear q384
     obtain ⟨x3_2, x33_2, rfl, HA, HK2, HO_3, BK380, HB⟩ := hrel
     cases gk with
     | zero => exact absurd HA.out (by simp [impl_plainUses.l1])
     | succ k2 =>
      have H := HA.out
      clear HA
      simp only [impl_plainUses.l1] at H
      by_cases c25 : x33_2 < (l0_3.length : Int)
      rw [if_pos c25] at H
      have c25b0 := decide_eq_true c25
      clear c25
      replace H := it0 H
      obtain ⟨c26, H⟩ := H
      have c26b0 : decide (0 ≤ x33_2) = true := decide_eq_true c26
      clear c26
      replace H := it0 H
      obtain ⟨c27, H⟩ := H
      have c27b0 := decide_eq_true c27
      clear c27
      by_cases c28 : ((rd_T53 l0_3 x33_2).f0) = 3
      rw [if_pos c28] at H
      have c28b0 := beq_iff_eq.mpr c28
      have c28b1 := bne_eq_false_iff_eq.mpr c28
      clear c28
      replace H := it0 H
      obtain ⟨c29, H⟩ := H
      have LMc29 := Aside0.mk c29
      clear c29
      obtain ⟨y394, hy394⟩ : ∃ y_ : List ByteArray, y_ = (x3_2 ++ [(rd_T53 l0_3 x33_2).f1]) := ⟨_, rfl⟩
      replace H : (impl_plainUses.l1 k2 y394 l0_3 (l0_3.length : Int) (wrap64 (x33_2 + 1))) = some r := by first | (rw [hy394]; with_reducible exact H) | (have H2_ := (Option.bind_some _ _).symm.trans H; rw [hy394]; with_reducible exact H2_) | (have H2_ := (Option.bind_some _ _).symm.trans H; with_reducible exact H2_) | with_reducible exact H | (rw [hy394]; exact H) | exact H
      have Ny394 := Aside0.mk hy394
      clear hy394
      have H' := Aside0.mk H
      clear H
      have p392 : 0 ≤ (x33_2 : Int) := of_decide_eq_true zt4
      have q392 : x33_2 < (l0_3.length : Int) := of_decide_eq_true zt4
      obtain ⟨ad392, e392, hx392_0, hx392_1, hx392_2⟩ := at_T53 HR0_3.out x33_2 p392 q392
      cases e392
      replace hx392_0 := (HB.out.cell (World.block_lt_of_cell? w _ hx392_0)).trans hx392_0
      replace hx392_1 := (HB.out.cell (World.block_lt_of_cell? w _ hx392_1)).trans hx392_1
      replace hx392_2 := (HB.out.cell (World.block_lt_of_cell? w _ hx392_2)).trans hx392_2
      replace p392 := eq_true p392
      replace q392 := eq_true q392
      rotate_left
      rw [if_neg c28] at H
      have c28b0 := beq_eq_false_iff_ne.mpr c28
      have c28b1 := bne_iff_ne.mpr c28
      have H' := Aside0.mk H
      clear H
      have p392 : 0 ≤ (x33_2 : Int) := of_decide_eq_true zt4
      have q392 : x33_2 < (l0_3.length : Int) := of_decide_eq_true zt4
      obtain ⟨ad392, e392, hx392_0, hx392_1, hx392_2⟩ := at_T53 HR0_3.out x33_2 p392 q392
      cases e392
      replace hx392_0 := (HB.out.cell (World.block_lt_of_cell? w _ hx392_0)).trans hx392_0
      replace hx392_1 := (HB.out.cell (World.block_lt_of_cell? w _ hx392_1)).trans hx392_1
      replace hx392_2 := (HB.out.cell (World.block_lt_of_cell? w _ hx392_2)).trans hx392_2
      replace p392 := eq_true p392
      replace q392 := eq_true q392
      rotate_left
      rw [if_neg c25] at H
      have c25b0 := decide_eq_false c25
      clear c25
      obtain rfl := Option.some.inj H
      rotate_left
      all_goals
       repeat (go_wp2_with (first | ((with_reducible refine gate_builtin (b := .append) (xs := #[.tmp 40, .tmp 43]) rfl ?_); at_builtin; refine Kd.R_append Kd.string (w0 := w) w.heap.size rfl (.tmp 40) (.tmp 43) 22 9 (.string ⟨#[]⟩) 16 rfl Try.underlying22 info9 rfl (by decide) (by omega) u3 x3_2 ((rd_T53 l0_3 x33_2).f1) [.string ((rd_T53 l0_3 x33_2).f1)] (fun _ => True) (fun _ => False) rfl zt43 ?aP (fun _ hk => hk.elim) ?aF ?aO ?aB ?aS ?aL ?_; (case aP => exact rfl); (case aB => exact zt17); (case aF => exact (fun _ _ => trivial)); (case aO => exact (by (with_reducible repeat (first | apply Kd.R_alloc | apply Kd.R_drewN | apply Kd.R_drew)); exact Kd.R_mono (Kd.R_far (p := ⟨gb7000, 2, none⟩) (Kd.R_far (p := ⟨gb7000, 1, none⟩) (Kd.R_far (p := ⟨gb7000, 0, none⟩) (Kd.R_types HO_3.out BK7000.out (by decide)) (fun _ hk => hk.2) (.int .i64 ((rd_T53 l0_3 x33_2).f0))) (fun _ hk => hk.2) (.string ((rd_T53 l0_3 x33_2).f1))) (fun _ hk => hk.2) (.int .i64 ((rd_T53 l0_3 x33_2).f2))) (fun _ hk => trivial))); (case aS => exact (below_size zt17)); (case aL => have := LMc29.out; omega); intro v7005 w7006 ho hb hg hat; rw [← Ny394.out] at ho; have n0_ := Aside0.mk (blk_grown (g := gb380) (o := .cells #[.slice A0_0 l0_0.length c0_0, .slice A0_1 l0_1.length c0_1, .slice A0_2 l0_2.length c0_2, .slice (some ad392) l0_3.length c0_3, .slice A0_4 l0_4.length c0_4] 36 (0, 0)) (by (with_reducible repeat (first | refine blk_drewN ?_ _ | refine blk_drew ?_ | refine blk_alloc ?_ _)); refine blk_far ?_ NB7002_393.out _; (with_reducible repeat (first | refine blk_drewN ?_ _ | refine blk_drew ?_ | refine blk_alloc ?_ _)); refine blk_far ?_ NB7002_393.out _; (with_reducible repeat (first | refine blk_drewN ?_ _ | refine blk_drew ?_ | refine blk_alloc ?_ _)); refine blk_far ?_ NB7002_393.out _; (with_reducible repeat (first | refine blk_drewN ?_ _ | refine blk_drew ?_ | refine blk_alloc ?_ _)); exact BK380.out) hg (Kd.R_ne HO_3.out BK380.out (by decide))); have n1_ := Aside0.mk (blk_grown (g := gb7000) (o := .cells #[.int .i64 ((rd_T53 l0_3 x33_2).f0), .string ((rd_T53 l0_3 x33_2).f1), .int .i64 ((rd_T53 l0_3 x33_2).f2)] 53 (0, 0)) (by (with_reducible repeat (first | refine blk_drewN ?_ _ | refine blk_drew ?_ | refine blk_alloc ?_ _)); refine blk_put (cs := #[.int .i64 ((rd_T53 l0_3 x33_2).f0), .string ((rd_T53 l0_3 x33_2).f1), .int .i64 0]) ?_ 2 _ rfl; (with_reducible repeat (first | refine blk_drewN ?_ _ | refine blk_drew ?_ | refine blk_alloc ?_ _)); refine blk_put (cs := #[.int .i64 ((rd_T53 l0_3 x33_2).f0), .string (⟨#[]⟩ : ByteArray), .int .i64 0]) ?_ 1 _ rfl; (with_reducible repeat (first | refine blk_drewN ?_ _ | refine blk_drew ?_ | refine blk_alloc ?_ _)); refine blk_put (cs := #[.int .i64 0, .string (⟨#[]⟩ : ByteArray), .int .i64 0]) ?_ 0 _ rfl; (with_reducible repeat (first | refine blk_drewN ?_ _ | refine blk_drew ?_ | refine blk_alloc ?_ _)); exact BK7000.out) hg (Kd.R_ne HO_3.out BK7000.out (by decide))); have n2_ := Aside0.mk (hb); have n3_ := Aside0.mk (ho); clear BK380; clear BK7000; clear HB; clear HO_3; have BK380 := n0_; have BK7000 := n1_; have HB := n2_; have HO7007 := n3_; clear n0_ n1_ n2_ n3_; clear ho hb hg hat) | ((with_reducible refine gate_dst (N := 7) rfl ?_); refine box_event ?hg (N := 7) ?hd (cs := #[.int .i64 0, .string (⟨#[]⟩ : ByteArray), .int .i64 0]) (t := 53) ?hr ?_; (case hd => rfl); (case hg => rfl); (case hr => first | (go_simp; done) | (go_simp; rfl)); intro gb7000 hg w7001 hbox hb; have n0_ := Aside0.mk (Kd.R_below (rz HO_3.out) hb); have n1_ := Aside0.mk (blk_below (g := gb380) (o := .cells #[.slice A0_0 l0_0.length c0_0, .slice A0_1 l0_1.length c0_1, .slice A0_2 l0_2.length c0_2, .slice (some ad392) l0_3.length c0_3, .slice A0_4 l0_4.length c0_4] 36 (0, 0)) (oz BK380.out) hb); have n2_ := Aside0.mk (below_step zt15 hb); have n3_ := Aside0.mk (hbox); have n4_ := Aside0.mk ((zt23 : w.heap.size ≤ gb7000)); have n5_ := Aside0.mk ((zt23 : w.heap.size ≤ gb7000)); have n6_ := Aside0.mk ((by rw [hg]; exact Nat.ne_of_lt (blk_lt (g := gb380) (o := .cells #[.slice A0_0 l0_0.length c0_0, .slice A0_1 l0_1.length c0_1, .slice A0_2 l0_2.length c0_2, .slice (some ad392) l0_3.length c0_3, .slice A0_4 l0_4.length c0_4] 36 (0, 0)) (oz BK380.out)) : gb380 ≠ gb7000)); have n7_ := Aside0.mk ((by rw [hg]; exact Nat.ne_of_gt (blk_lt (g := gb380) (o := .cells #[.slice A0_0 l0_0.length c0_0, .slice A0_1 l0_1.length c0_1, .slice A0_2 l0_2.length c0_2, .slice (some ad392) l0_3.length c0_3, .slice A0_4 l0_4.length c0_4] 36 (0, 0)) (oz BK380.out)) : gb7000 ≠ gb380)); clear HO_3; clear BK380; clear HB; have HO_3 := n0_; have BK380 := n1_; have HB := n2_; have BK7000 := n3_; have GW7000 := n4_; have GE7000 := n5_; have NB7002_393 := n6_; have NB7000_380 := n7_; clear n0_ n1_ n2_ n3_ n4_ n5_ n6_ n7_; clear hb hbox hg; have hnb7003 := NB7000_380.out; have hnc7003 := NB7002_393.out; have hcz7004_0 : w7001.cell? ⟨gb7000, 0, none⟩ = some (.int .i64 0) := (blk_cell BK7000.out 0).trans rfl; have hcz7004_1 : w7001.cell? ⟨gb7000, 1, none⟩ = some (.string (⟨#[]⟩ : ByteArray)) := (blk_cell BK7000.out 1).trans rfl; have hcz7004_2 : w7001.cell? ⟨gb7000, 2, none⟩ = some (.int .i64 0) := (blk_cell BK7000.out 2).trans rfl; have hfz7004_0 := blk_frozen BK7000.out 0; have hfz7004_1 := blk_frozen BK7000.out 1; have hfz7004_2 := blk_frozen BK7000.out 2)); first | go_quiet (fail) | (go_roundg k2; (case measure => have := HK1.out; have := HK2.out; omega); (case rel => exact ⟨(y394), (wrap64 (x33_2 + 1)), zt9, H', ⟨by have := HK1.out; have := HK2.out; omega⟩, ⟨zt22⟩, ⟨zt40⟩, ⟨zt17⟩⟩)) | (go_roundg k2; (case measure => have := HK1.out; have := HK2.out; omega); (case rel => exact ⟨(x3_2), (wrap64 (x33_2 + 1)), zt9, H', ⟨by have := HK1.out; have := HK2.out; omega⟩, ⟨by (with_reducible repeat (first | apply Kd.R_alloc | apply Kd.R_drewN | apply Kd.R_drew)); exact Kd.R_mono (Kd.R_far (p := ⟨gb7000, 2, none⟩) (Kd.R_far (p := ⟨gb7000, 1, none⟩) (Kd.R_far (p := ⟨gb7000, 0, none⟩) (Kd.R_types HO_3.out BK7000.out (by decide)) (fun _ hk => hk.2) (.int .i64 ((rd_T53 l0_3 x33_2).f0))) (fun _ hk => hk.2) (.string ((rd_T53 l0_3 x33_2).f1))) (fun _ hk => hk.2) (.int .i64 ((rd_T53 l0_3 x33_2).f2))) (fun _ hk => trivial)⟩, ⟨by (with_reducible repeat (first | refine blk_drewN ?_ _ | refine blk_drew ?_ | refine blk_alloc ?_ _)); refine blk_far ?_ NB7002_393.out _; (with_reducible repeat (first | refine blk_drewN ?_ _ | refine blk_drew ?_ | refine blk_alloc ?_ _)); refine blk_far ?_ NB7002_393.out _; (with_reducible repeat (first | refine blk_drewN ?_ _ | refine blk_drew ?_ | refine blk_alloc ?_ _)); refine blk_far ?_ NB7002_393.out _; (with_reducible repeat (first | refine blk_drewN ?_ _ | refine blk_drew ?_ | refine blk_alloc ?_ _)); exact BK380.out⟩, ⟨zt17⟩⟩)) | (go_ret; exact ⟨_, zt8, zt27, zt15⟩))
   all_goals
    repeat (go_wp2_with (first | ((with_reducible refine gate_builtin (b := .append) (xs := #[.tmp 24, .tmp 27]) rfl ?_); at_builtin; refine Kd.R_append Kd.string (w0 := w) w.heap.size rfl (.tmp 24) (.tmp 27) 22 9 (.string ⟨#[]⟩) 16 rfl Try.underlying22 info9 rfl (by decide) (by omega) u3 x3_1 ((rd_T50 l0_4 x12_1).f2) [.string ((rd_T50 l0_4 x12_1).f2)] (fun _ => True) (fun _ => False) rfl zt43 ?aP (fun _ hk => hk.elim) ?aF ?aO ?aB ?aS ?aL ?_; (case aP => exact rfl); (case aB => exact zt17); (case aF => exact (fun _ _ => trivial)); (case aO => exact (by (with_reducible repeat (first | apply Kd.R_alloc | apply Kd.R_drewN | apply Kd.R_drew)); exact Kd.R_mono (Kd.R_far (p := ⟨gb7000, 5, none⟩) (Kd.R_far (p := ⟨gb7000, 4, none⟩) (Kd.R_far (p := ⟨gb7000, 3, none⟩) (Kd.R_far (p := ⟨gb7000, 2, none⟩) (Kd.R_far (p := ⟨gb7000, 1, none⟩) (Kd.R_far (p := ⟨gb7000, 0, none⟩) (Kd.R_types HO_3.out BK7000.out (by decide)) (fun _ hk => hk.2) (.int .i64 ((rd_T50 l0_4 x12_1).f0))) (fun _ hk => hk.2) (.int .i64 ((rd_T50 l0_4 x12_1).f1))) (fun _ hk => hk.2) (.string ((rd_T50 l0_4 x12_1).f2))) (fun _ hk => hk.2) (.string ((rd_T50 l0_4 x12_1).f3))) (fun _ hk => hk.2) (.int .i64 ((rd_T50 l0_4 x12_1).f4))) (fun _ hk => hk.2) (.int .i64 ((rd_T50 l0_4 x12_1).f5))) (fun _ hk => trivial))); (case aS => exact (below_size zt17)); (case aL => have := LMc10.out; omega); intro v7004 w7005 ho hb hg hat; rw [← Ny386.out] at ho; have n0_ := Aside0.mk (blk_grown (g := gb380) (o := .cells #[.slice A0_0 l0_0.length c0_0, .slice A0_1 l0_1.length c0_1, .slice A0_2 l0_2.length c0_2, .slice A0_3 l0_3.length c0_3, .slice (some ad384) l0_4.length c0_4] 36 (0, 0)) (by (with_reducible repeat (first | refine blk_drewN ?_ _ | refine blk_drew ?_ | refine blk_alloc ?_ _)); refine blk_far ?_ NB7002_385.out _; (with_reducible repeat (first | refine blk_drewN ?_ _ | refine blk_drew ?_ | refine blk_alloc ?_ _)); refine blk_far ?_ NB7002_385.out _; (with_reducible repeat (first | refine blk_drewN ?_ _ | refine blk_drew ?_ | refine blk_alloc ?_ _)); refine blk_far ?_ NB7002_385.out _; (with_reducible repeat (first | refine blk_drewN ?_ _ | refine blk_drew ?_ | refine blk_alloc ?_ _)); refine blk_far ?_ NB7002_385.out _; (with_reducible repeat (first | refine blk_drewN ?_ _ | refine blk_drew ?_ | refine blk_alloc ?_ _)); refine blk_far ?_ NB7002_385.out _; (with_reducible repeat (first | refine blk_drewN ?_ _ | refine blk_drew ?_ | refine blk_alloc ?_ _)); refine blk_far ?_ NB7002_385.out _; (with_reducible repeat (first | refine blk_drewN ?_ _ | refine blk_drew ?_ | refine blk_alloc ?_ _)); exact BK380.out) hg (Kd.R_ne HO_3.out BK380.out (by decide))); have n1_ := Aside0.mk (blk_grown (g := gb7000) (o := .cells #[.int .i64 ((rd_T50 l0_4 x12_1).f0), .int .i64 ((rd_T50 l0_4 x12_1).f1), .string ((rd_T50 l0_4 x12_1).f2), .string ((rd_T50 l0_4 x12_1).f3), .int .i64 ((rd_T50 l0_4 x12_1).f4), .int .i64 ((rd_T50 l0_4 x12_1).f5)] 50 (0, 0)) (by (with_reducible repeat (first | refine blk_drewN ?_ _ | refine blk_drew ?_ | refine blk_alloc ?_ _)); refine blk_put (cs := #[.int .i64 ((rd_T50 l0_4 x12_1).f0), .int .i64 ((rd_T50 l0_4 x12_1).f1), .string ((rd_T50 l0_4 x12_1).f2), .string ((rd_T50 l0_4 x12_1).f3), .int .i64 ((rd_T50 l0_4 x12_1).f4), .int .i64 0]) ?_ 5 _ rfl; (with_reducible repeat (first | refine blk_drewN ?_ _ | refine blk_drew ?_ | refine blk_alloc ?_ _)); refine blk_put (cs := #[.int .i64 ((rd_T50 l0_4 x12_1).f0), .int .i64 ((rd_T50 l0_4 x12_1).f1), .string ((rd_T50 l0_4 x12_1).f2), .string ((rd_T50 l0_4 x12_1).f3), .int .i64 0, .int .i64 0]) ?_ 4 _ rfl; (with_reducible repeat (first | refine blk_drewN ?_ _ | refine blk_drew ?_ | refine blk_alloc ?_ _)); refine blk_put (cs := #[.int .i64 ((rd_T50 l0_4 x12_1).f0), .int .i64 ((rd_T50 l0_4 x12_1).f1), .string ((rd_T50 l0_4 x12_1).f2), .string (⟨#[]⟩ : ByteArray), .int .i64 0, .int .i64 0]) ?_ 3 _ rfl; (with_reducible repeat (first | refine blk_drewN ?_ _ | refine blk_drew ?_ | refine blk_alloc ?_ _)); refine blk_put (cs := #[.int .i64 ((rd_T50 l0_4 x12_1).f0), .int .i64 ((rd_T50 l0_4 x12_1).f1), .string (⟨#[]⟩ : ByteArray), .string (⟨#[]⟩ : ByteArray), .int .i64 0, .int .i64 0]) ?_ 2 _ rfl; (with_reducible repeat (first | refine blk_drewN ?_ _ | refine blk_drew ?_ | refine blk_alloc ?_ _)); refine blk_put (cs := #[.int .i64 ((rd_T50 l0_4 x12_1).f0), .int .i64 0, .string (⟨#[]⟩ : ByteArray), .string (⟨#[]⟩ : ByteArray), .int .i64 0, .int .i64 0]) ?_ 1 _ rfl; (with_reducible repeat (first | refine blk_drewN ?_ _ | refine blk_drew ?_ | refine blk_alloc ?_ _)); refine blk_put (cs := #[.int .i64 0, .int .i64 0, .string (⟨#[]⟩ : ByteArray), .string (⟨#[]⟩ : ByteArray), .int .i64 0, .int .i64 0]) ?_ 0 _ rfl; (with_reducible repeat (first | refine blk_drewN ?_ _ | refine blk_drew ?_ | refine blk_alloc ?_ _)); exact BK7000.out) hg (Kd.R_ne HO_3.out BK7000.out (by decide))); have n2_ := Aside0.mk (hb); have n3_ := Aside0.mk (ho); clear BK380; clear BK7000; clear HB; clear HO_3; have BK380 := n0_; have BK7000 := n1_; have HB := n2_; have HO7006 := n3_; clear n0_ n1_ n2_ n3_; clear ho hb hg hat) | ((with_reducible refine gate_builtin (b := .append) (xs := #[.tmp 24, .tmp 27]) rfl ?_); at_builtin; refine Kd.R_append Kd.string (w0 := w) w.heap.size rfl (.tmp 24) (.tmp 27) 22 9 (.string ⟨#[]⟩) 16 rfl Try.underlying22 info9 rfl (by decide) (by omega) u3 x3_1 ((rd_T50 l0_4 x12_1).f2) [.string ((rd_T50 l0_4 x12_1).f2)] (fun _ => True) (fun _ => False) rfl zt43 ?aP (fun _ hk => hk.elim) ?aF ?aO ?aB ?aS ?aL ?_; (case aP => exact rfl); (case aB => exact zt17); (case aF => exact (fun _ _ => trivial)); (case aO => exact (by (with_reducible repeat (first | apply Kd.R_alloc | apply Kd.R_drewN | apply Kd.R_drew)); exact Kd.R_mono (Kd.R_far (p := ⟨gb7000, 5, none⟩) (Kd.R_far (p := ⟨gb7000, 4, none⟩) (Kd.R_far (p := ⟨gb7000, 3, none⟩) (Kd.R_far (p := ⟨gb7000, 2, none⟩) (Kd.R_far (p := ⟨gb7000, 1, none⟩) (Kd.R_far (p := ⟨gb7000, 0, none⟩) (Kd.R_types HO_3.out BK7000.out (by decide)) (fun _ hk => hk.2) (.int .i64 ((rd_T50 l0_4 x12_1).f0))) (fun _ hk => hk.2) (.int .i64 ((rd_T50 l0_4 x12_1).f1))) (fun _ hk => hk.2) (.string ((rd_T50 l0_4 x12_1).f2))) (fun _ hk => hk.2) (.string ((rd_T50 l0_4 x12_1).f3))) (fun _ hk => hk.2) (.int .i64 ((rd_T50 l0_4 x12_1).f4))) (fun _ hk => hk.2) (.int .i64 ((rd_T50 l0_4 x12_1).f5))) (fun _ hk => trivial))); (case aS => exact (below_size zt17)); (case aL => have := LMc16.out; omega); intro v7004 w7005 ho hb hg hat; rw [← Ny389.out] at ho; have n0_ := Aside0.mk (blk_grown (g := gb380) (o := .cells #[.slice A0_0 l0_0.length c0_0, .slice A0_1 l0_1.length c0_1, .slice A0_2 l0_2.length c0_2, .slice A0_3 l0_3.length c0_3, .slice (some ad384) l0_4.length c0_4] 36 (0, 0)) (by (with_reducible repeat (first | refine blk_drewN ?_ _ | refine blk_drew ?_ | refine blk_alloc ?_ _)); refine blk_far ?_ NB7002_385.out _; (with_reducible repeat (first | refine blk_drewN ?_ _ | refine blk_drew ?_ | refine blk_alloc ?_ _)); refine blk_far ?_ NB7002_385.out _; (with_reducible repeat (first | refine blk_drewN ?_ _ | refine blk_drew ?_ | refine blk_alloc ?_ _)); refine blk_far ?_ NB7002_385.out _; (with_reducible repeat (first | refine blk_drewN ?_ _ | refine blk_drew ?_ | refine blk_alloc ?_ _)); refine blk_far ?_ NB7002_385.out _; (with_reducible repeat (first | refine blk_drewN ?_ _ | refine blk_drew ?_ | refine blk_alloc ?_ _)); refine blk_far ?_ NB7002_385.out _; (with_reducible repeat (first | refine blk_drewN ?_ _ | refine blk_drew ?_ | refine blk_alloc ?_ _)); refine blk_far ?_ NB7002_385.out _; (with_reducible repeat (first | refine blk_drewN ?_ _ | refine blk_drew ?_ | refine blk_alloc ?_ _)); exact BK380.out) hg (Kd.R_ne HO_3.out BK380.out (by decide))); have n1_ := Aside0.mk (blk_grown (g := gb7000) (o := .cells #[.int .i64 ((rd_T50 l0_4 x12_1).f0), .int .i64 ((rd_T50 l0_4 x12_1).f1), .string ((rd_T50 l0_4 x12_1).f2), .string ((rd_T50 l0_4 x12_1).f3), .int .i64 ((rd_T50 l0_4 x12_1).f4), .int .i64 ((rd_T50 l0_4 x12_1).f5)] 50 (0, 0)) (by (with_reducible repeat (first | refine blk_drewN ?_ _ | refine blk_drew ?_ | refine blk_alloc ?_ _)); refine blk_put (cs := #[.int .i64 ((rd_T50 l0_4 x12_1).f0), .int .i64 ((rd_T50 l0_4 x12_1).f1), .string ((rd_T50 l0_4 x12_1).f2), .string ((rd_T50 l0_4 x12_1).f3), .int .i64 ((rd_T50 l0_4 x12_1).f4), .int .i64 0]) ?_ 5 _ rfl; (with_reducible repeat (first | refine blk_drewN ?_ _ | refine blk_drew ?_ | refine blk_alloc ?_ _)); refine blk_put (cs := #[.int .i64 ((rd_T50 l0_4 x12_1).f0), .int .i64 ((rd_T50 l0_4 x12_1).f1), .string ((rd_T50 l0_4 x12_1).f2), .string ((rd_T50 l0_4 x12_1).f3), .int .i64 0, .int .i64 0]) ?_ 4 _ rfl; (with_reducible repeat (first | refine blk_drewN ?_ _ | refine blk_drew ?_ | refine blk_alloc ?_ _)); refine blk_put (cs := #[.int .i64 ((rd_T50 l0_4 x12_1).f0), .int .i64 ((rd_T50 l0_4 x12_1).f1), .string ((rd_T50 l0_4 x12_1).f2), .string (⟨#[]⟩ : ByteArray), .int .i64 0, .int .i64 0]) ?_ 3 _ rfl; (with_reducible repeat (first | refine blk_drewN ?_ _ | refine blk_drew ?_ | refine blk_alloc ?_ _)); refine blk_put (cs := #[.int .i64 ((rd_T50 l0_4 x12_1).f0), .int .i64 ((rd_T50 l0_4 x12_1).f1), .string (⟨#[]⟩ : ByteArray), .string (⟨#[]⟩ : ByteArray), .int .i64 0, .int .i64 0]) ?_ 2 _ rfl; (with_reducible repeat (first | refine blk_drewN ?_ _ | refine blk_drew ?_ | refine blk_alloc ?_ _)); refine blk_put (cs := #[.int .i64 ((rd_T50 l0_4 x12_1).f0), .int .i64 0, .string (⟨#[]⟩ : ByteArray), .string (⟨#[]⟩ : ByteArray), .int .i64 0, .int .i64 0]) ?_ 1 _ rfl; (with_reducible repeat (first | refine blk_drewN ?_ _ | refine blk_drew ?_ | refine blk_alloc ?_ _)); refine blk_put (cs := #[.int .i64 0, .int .i64 0, .string (⟨#[]⟩ : ByteArray), .string (⟨#[]⟩ : ByteArray), .int .i64 0, .int .i64 0]) ?_ 0 _ rfl; (with_reducible repeat (first | refine blk_drewN ?_ _ | refine blk_drew ?_ | refine blk_alloc ?_ _)); exact BK7000.out) hg (Kd.R_ne HO_3.out BK7000.out (by decide))); have n2_ := Aside0.mk (hb); have n3_ := Aside0.mk (ho); clear BK380; clear BK7000; clear HB; clear HO_3; have BK380 := n0_; have BK7000 := n1_; have HB := n2_; have HO7006 := n3_; clear n0_ n1_ n2_ n3_; clear ho hb hg hat) | ((with_reducible refine gate_dst (N := 5) rfl ?_); refine box_event ?hg (N := 5) ?hd (cs := #[.int .i64 0, .int .i64 0, .string (⟨#[]⟩ : ByteArray), .string (⟨#[]⟩ : ByteArray), .int .i64 0, .int .i64 0]) (t := 50) ?hr ?_; (case hd => rfl); (case hg => rfl); (case hr => first | (go_simp; done) | (go_simp; rfl)); intro gb7000 hg w7001 hbox hb; have n0_ := Aside0.mk (Kd.R_below (rz HO_3.out) hb); have n1_ := Aside0.mk (blk_below (g := gb380) (o := .cells #[.slice A0_0 l0_0.length c0_0, .slice A0_1 l0_1.length c0_1, .slice A0_2 l0_2.length c0_2, .slice A0_3 l0_3.length c0_3, .slice (some ad384) l0_4.length c0_4] 36 (0, 0)) (oz BK380.out) hb); have n2_ := Aside0.mk (below_step zt15 hb); have n3_ := Aside0.mk (hbox); have n4_ := Aside0.mk ((zt23 : w.heap.size ≤ gb7000)); have n5_ := Aside0.mk ((zt23 : w.heap.size ≤ gb7000)); have n6_ := Aside0.mk ((by rw [hg]; exact Nat.ne_of_lt (blk_lt (g := gb380) (o := .cells #[.slice A0_0 l0_0.length c0_0, .slice A0_1 l0_1.length c0_1, .slice A0_2 l0_2.length c0_2, .slice A0_3 l0_3.length c0_3, .slice (some ad384) l0_4.length c0_4] 36 (0, 0)) (oz BK380.out)) : gb380 ≠ gb7000)); have n7_ := Aside0.mk ((by rw [hg]; exact Nat.ne_of_gt (blk_lt (g := gb380) (o := .cells #[.slice A0_0 l0_0.length c0_0, .slice A0_1 l0_1.length c0_1, .slice A0_2 l0_2.length c0_2, .slice A0_3 l0_3.length c0_3, .slice (some ad384) l0_4.length c0_4] 36 (0, 0)) (oz BK380.out)) : gb7000 ≠ gb380)); clear HO_3; clear BK380; clear HB; have HO_3 := n0_; have BK380 := n1_; have HB := n2_; have BK7000 := n3_; have GW7000 := n4_; have GE7000 := n5_; have NB7002_385 := n6_; have NB7000_380 := n7_; clear n0_ n1_ n2_ n3_ n4_ n5_ n6_ n7_; clear hb hbox hg; have hnb7003 := NB7000_380.out; have hnc7003 := NB7002_385.out; have hcz13_0 : w7001.cell? ⟨gb7000, 0, none⟩ = some (.int .i64 0) := (blk_cell BK7000.out 0).trans rfl; have hcz13_1 : w7001.cell? ⟨gb7000, 1, none⟩ = some (.int .i64 0) := (blk_cell BK7000.out 1).trans rfl; have hcz13_2 : w7001.cell? ⟨gb7000, 2, none⟩ = some (.string (⟨#[]⟩ : ByteArray)) := (blk_cell BK7000.out 2).trans rfl; have hcz13_3 : w7001.cell? ⟨gb7000, 3, none⟩ = some (.string (⟨#[]⟩ : ByteArray)) := (blk_cell BK7000.out 3).trans rfl; have hcz13_4 : w7001.cell? ⟨gb7000, 4, none⟩ = some (.int .i64 0) := (blk_cell BK7000.out 4).trans rfl; have hcz13_5 : w7001.cell? ⟨gb7000, 5, none⟩ = some (.int .i64 0) := (blk_cell BK7000.out 5).trans rfl; have hfz13_0 := blk_frozen BK7000.out 0; have hfz13_1 := blk_frozen BK7000.out 1; have hfz13_2 := blk_frozen BK7000.out 2; have hfz13_3 := blk_frozen BK7000.out 3; have hfz13_4 := blk_frozen BK7000.out 4; have hfz13_5 := blk_frozen BK7000.out 5) | ((with_reducible refine gate_dst (N := 5) rfl ?_); refine box_event ?hg (N := 5) ?hd (cs := #[.int .i64 0, .int .i64 0, .string (⟨#[]⟩ : ByteArray), .string (⟨#[]⟩ : ByteArray), .int .i64 0, .int .i64 0]) (t := 50) ?hr ?_; (case hd => rfl); (case hg => rfl); (case hr => first | (go_simp; done) | (go_simp; rfl)); intro gb7000 hg w7001 hbox hb; have n0_ := Aside0.mk (Kd.R_below (rz HO_3.out) hb); have n1_ := Aside0.mk (blk_below (g := gb380) (o := .cells #[.slice A0_0 l0_0.length c0_0, .slice A0_1 l0_1.length c0_1, .slice A0_2 l0_2.length c0_2, .slice A0_3 l0_3.length c0_3, .slice (some ad384) l0_4.length c0_4] 36 (0, 0)) (oz BK380.out) hb); have n2_ := Aside0.mk (below_step zt15 hb); have n3_ := Aside0.mk (hbox); have n4_ := Aside0.mk ((zt23 : w.heap.size ≤ gb7000)); have n5_ := Aside0.mk ((zt23 : w.heap.size ≤ gb7000)); have n6_ := Aside0.mk ((by rw [hg]; exact Nat.ne_of_lt (blk_lt (g := gb380) (o := .cells #[.slice A0_0 l0_0.length c0_0, .slice A0_1 l0_1.length c0_1, .slice A0_2 l0_2.length c0_2, .slice A0_3 l0_3.length c0_3, .slice (some ad384) l0_4.length c0_4] 36 (0, 0)) (oz BK380.out)) : gb380 ≠ gb7000)); have n7_ := Aside0.mk ((by rw [hg]; exact Nat.ne_of_gt (blk_lt (g := gb380) (o := .cells #[.slice A0_0 l0_0.length c0_0, .slice A0_1 l0_1.length c0_1, .slice A0_2 l0_2.length c0_2, .slice A0_3 l0_3.length c0_3, .slice (some ad384) l0_4.length c0_4] 36 (0, 0)) (oz BK380.out)) : gb7000 ≠ gb380)); clear HO_3; clear BK380; clear HB; have HO_3 := n0_; have BK380 := n1_; have HB := n2_; have BK7000 := n3_; have GW7000 := n4_; have GE7000 := n5_; have NB7002_385 := n6_; have NB7000_380 := n7_; clear n0_ n1_ n2_ n3_ n4_ n5_ n6_ n7_; clear hb hbox hg; have hnb7003 := NB7000_380.out; have hnc7003 := NB7002_385.out; have hcz19_0 : w7001.cell? ⟨gb7000, 0, none⟩ = some (.int .i64 0) := (blk_cell BK7000.out 0).trans rfl; have hcz19_1 : w7001.cell? ⟨gb7000, 1, none⟩ = some (.int .i64 0) := (blk_cell BK7000.out 1).trans rfl; have hcz19_2 : w7001.cell? ⟨gb7000, 2, none⟩ = some (.string (⟨#[]⟩ : ByteArray)) := (blk_cell BK7000.out 2).trans rfl; have hcz19_3 : w7001.cell? ⟨gb7000, 3, none⟩ = some (.string (⟨#[]⟩ : ByteArray)) := (blk_cell BK7000.out 3).trans rfl; have hcz19_4 : w7001.cell? ⟨gb7000, 4, none⟩ = some (.int .i64 0) := (blk_cell BK7000.out 4).trans rfl; have hcz19_5 : w7001.cell? ⟨gb7000, 5, none⟩ = some (.int .i64 0) := (blk_cell BK7000.out 5).trans rfl; have hfz19_0 := blk_frozen BK7000.out 0; have hfz19_1 := blk_frozen BK7000.out 1; have hfz19_2 := blk_frozen BK7000.out 2; have hfz19_3 := blk_frozen BK7000.out 3; have hfz19_4 := blk_frozen BK7000.out 4; have hfz19_5 := blk_frozen BK7000.out 5) | ((with_reducible refine gate_dst (N := 5) rfl ?_); refine box_event ?hg (N := 5) ?hd (cs := #[.int .i64 0, .int .i64 0, .string (⟨#[]⟩ : ByteArray), .string (⟨#[]⟩ : ByteArray), .int .i64 0, .int .i64 0]) (t := 50) ?hr ?_; (case hd => rfl); (case hg => rfl); (case hr => first | (go_simp; done) | (go_simp; rfl)); intro gb7000 hg w7001 hbox hb; have n0_ := Aside0.mk (Kd.R_below (rz HO_3.out) hb); have n1_ := Aside0.mk (blk_below (g := gb380) (o := .cells #[.slice A0_0 l0_0.length c0_0, .slice A0_1 l0_1.length c0_1, .slice A0_2 l0_2.length c0_2, .slice A0_3 l0_3.length c0_3, .slice (some ad384) l0_4.length c0_4] 36 (0, 0)) (oz BK380.out) hb); have n2_ := Aside0.mk (below_step zt15 hb); have n3_ := Aside0.mk (hbox); have n4_ := Aside0.mk ((zt23 : w.heap.size ≤ gb7000)); have n5_ := Aside0.mk ((zt23 : w.heap.size ≤ gb7000)); have n6_ := Aside0.mk ((by rw [hg]; exact Nat.ne_of_lt (blk_lt (g := gb380) (o := .cells #[.slice A0_0 l0_0.length c0_0, .slice A0_1 l0_1.length c0_1, .slice A0_2 l0_2.length c0_2, .slice A0_3 l0_3.length c0_3, .slice (some ad384) l0_4.length c0_4] 36 (0, 0)) (oz BK380.out)) : gb380 ≠ gb7000)); have n7_ := Aside0.mk ((by rw [hg]; exact Nat.ne_of_gt (blk_lt (g := gb380) (o := .cells #[.slice A0_0 l0_0.length c0_0, .slice A0_1 l0_1.length c0_1, .slice A0_2 l0_2.length c0_2, .slice A0_3 l0_3.length c0_3, .slice (some ad384) l0_4.length c0_4] 36 (0, 0)) (oz BK380.out)) : gb7000 ≠ gb380)); clear HO_3; clear BK380; clear HB; have HO_3 := n0_; have BK380 := n1_; have HB := n2_; have BK7000 := n3_; have GW7000 := n4_; have GE7000 := n5_; have NB7002_385 := n6_; have NB7000_380 := n7_; clear n0_ n1_ n2_ n3_ n4_ n5_ n6_ n7_; clear hb hbox hg; have hnb7003 := NB7000_380.out; have hnc7003 := NB7002_385.out; have hcz23_0 : w7001.cell? ⟨gb7000, 0, none⟩ = some (.int .i64 0) := (blk_cell BK7000.out 0).trans rfl; have hcz23_1 : w7001.cell? ⟨gb7000, 1, none⟩ = some (.int .i64 0) := (blk_cell BK7000.out 1).trans rfl; have hcz23_2 : w7001.cell? ⟨gb7000, 2, none⟩ = some (.string (⟨#[]⟩ : ByteArray)) := (blk_cell BK7000.out 2).trans rfl; have hcz23_3 : w7001.cell? ⟨gb7000, 3, none⟩ = some (.string (⟨#[]⟩ : ByteArray)) := (blk_cell BK7000.out 3).trans rfl; have hcz23_4 : w7001.cell? ⟨gb7000, 4, none⟩ = some (.int .i64 0) := (blk_cell BK7000.out 4).trans rfl; have hcz23_5 : w7001.cell? ⟨gb7000, 5, none⟩ = some (.int .i64 0) := (blk_cell BK7000.out 5).trans rfl; have hfz23_0 := blk_frozen BK7000.out 0; have hfz23_1 := blk_frozen BK7000.out 1; have hfz23_2 := blk_frozen BK7000.out 2; have hfz23_3 := blk_frozen BK7000.out 3; have hfz23_4 := blk_frozen BK7000.out 4; have hfz23_5 := blk_frozen BK7000.out 5)); first | go_quiet (fail) | (go_roundg k1; (case measure => have := HK1.out; omega); (case rel => exact ⟨(y386), (wrap64 (x12_1 + 1)), zt9, H', ⟨by have := HK1.out; omega⟩, ⟨by (with_reducible repeat (first | apply Kd.R_alloc | apply Kd.R_drewN | apply Kd.R_drew)); (first | exact HO7006.out | exact Kd.R_mono HO7006.out (fun k_ h_ => by first | exact h_ | (simpa [Value.ownBlock] using h_) | (have e_ : ∀ (A : Option Addr) (n m c : Nat), (Value.slice A n c).ownBlock = (Value.slice A m c).ownBlock := (fun A n m c => by cases A <;> rfl); rw [e_ _ _ 0 _] at h_ ⊢; exact h_)))⟩, ⟨zt40⟩, ⟨zt17⟩⟩)) | (go_roundg k1; (case measure => have := HK1.out; omega); (case rel => exact ⟨(y389), (wrap64 (x12_1 + 1)), zt9, H', ⟨by have := HK1.out; omega⟩, ⟨by (with_reducible repeat (first | apply Kd.R_alloc | apply Kd.R_drewN | apply Kd.R_drew)); (first | exact HO7006.out | exact Kd.R_mono HO7006.out (fun k_ h_ => by first | exact h_ | (simpa [Value.ownBlock] using h_) | (have e_ : ∀ (A : Option Addr) (n m c : Nat), (Value.slice A n c).ownBlock = (Value.slice A m c).ownBlock := (fun A n m c => by cases A <;> rfl); rw [e_ _ _ 0 _] at h_ ⊢; exact h_)))⟩, ⟨zt40⟩, ⟨zt17⟩⟩)) | (go_roundg k1; (case measure => have := HK1.out; omega); (case rel => exact ⟨(x3_1), (wrap64 (x12_1 + 1)), zt9, H', ⟨by have := HK1.out; omega⟩, ⟨by (with_reducible repeat (first | apply Kd.R_alloc | apply Kd.R_drewN | apply Kd.R_drew)); exact Kd.R_mono (Kd.R_far (p := ⟨gb7000, 5, none⟩) (Kd.R_far (p := ⟨gb7000, 4, none⟩) (Kd.R_far (p := ⟨gb7000, 3, none⟩) (Kd.R_far (p := ⟨gb7000, 2, none⟩) (Kd.R_far (p := ⟨gb7000, 1, none⟩) (Kd.R_far (p := ⟨gb7000, 0, none⟩) (Kd.R_types HO_3.out BK7000.out (by decide)) (fun _ hk => hk.2) (.int .i64 ((rd_T50 l0_4 x12_1).f0))) (fun _ hk => hk.2) (.int .i64 ((rd_T50 l0_4 x12_1).f1))) (fun _ hk => hk.2) (.string ((rd_T50 l0_4 x12_1).f2))) (fun _ hk => hk.2) (.string ((rd_T50 l0_4 x12_1).f3))) (fun _ hk => hk.2) (.int .i64 ((rd_T50 l0_4 x12_1).f4))) (fun _ hk => hk.2) (.int .i64 ((rd_T50 l0_4 x12_1).f5))) (fun _ hk => trivial)⟩, ⟨by (with_reducible repeat (first | refine blk_drewN ?_ _ | refine blk_drew ?_ | refine blk_alloc ?_ _)); refine blk_far ?_ NB7002_385.out _; (with_reducible repeat (first | refine blk_drewN ?_ _ | refine blk_drew ?_ | refine blk_alloc ?_ _)); refine blk_far ?_ NB7002_385.out _; (with_reducible repeat (first | refine blk_drewN ?_ _ | refine blk_drew ?_ | refine blk_alloc ?_ _)); refine blk_far ?_ NB7002_385.out _; (with_reducible repeat (first | refine blk_drewN ?_ _ | refine blk_drew ?_ | refine blk_alloc ?_ _)); refine blk_far ?_ NB7002_385.out _; (with_reducible repeat (first | refine blk_drewN ?_ _ | refine blk_drew ?_ | refine blk_alloc ?_ _)); refine blk_far ?_ NB7002_385.out _; (with_reducible repeat (first | refine blk_drewN ?_ _ | refine blk_drew ?_ | refine blk_alloc ?_ _)); refine blk_far ?_ NB7002_385.out _; (with_reducible repeat (first | refine blk_drewN ?_ _ | refine blk_drew ?_ | refine blk_alloc ?_ _)); exact BK380.out⟩, ⟨zt17⟩⟩)))

end Go.Proofs.Ytopicidanlienaa.PFnExactTrim

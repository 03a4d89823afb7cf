-- Out of the kit's print, with contracts of mine among it (myprint.py).
import Derived.Test.YtopicidanlienaaPFnExactTrimx0
import Derived.Test.YtopicidanlienaaPFnExactTrimx11
namespace Go.Proofs.Ytopicidanlienaa.PFnExactTrim
open Go.RowKit Go.Proofs.YtopicidanlienaaW.PrintWords Go.Proofs.YtopicidanlienaaW.PrintLast Go.Proofs.YtopicidanlienaaW.PrintMore
attribute [local go_sem] max2_int min2_int max_two min_two max_three min_three max_four min_four   -- for this text's walks alone
set_option linter.unusedVariables false
set_option linter.unusedSimpArgs false

/-! ### impl_Stmt: function 75 (a contract of mine) -/
abbrev bt0_12 : Array Bool := #[false, false, false, false, false, false, false, false, false, false, false, false, false, false, false, false, false]
abbrev bt1_12 : Array Bool := #[true, false, false, false, false, false, false, false, false, false, false, false, false, false, false, false, false]
abbrev bt2_12 : Array Bool := #[true, false, false, true, false, false, false, false, false, false, false, false, false, false, false, false, false]
abbrev bt3_12 : Array Bool := #[true, false, false, true, false, false, true, false, false, false, false, false, false, false, false, false, false]
abbrev bt4_12 : Array Bool := #[true, false, false, true, false, false, true, false, false, true, false, false, false, false, false, false, false]
abbrev bt5_12 : Array Bool := #[true, false, false, true, false, false, true, false, false, true, false, false, true, false, false, false, false]
abbrev bt6_12 : Array Bool := #[true, true, false, true, false, false, true, false, false, true, false, false, true, false, false, false, false]
abbrev bt7_12 : Array Bool := #[true, true, false, true, true, false, true, false, false, true, false, false, true, false, false, false, false]
abbrev bt8_12 : Array Bool := #[true, true, false, true, true, false, true, true, false, true, false, false, true, false, false, false, false]
abbrev bt9_12 : Array Bool := #[true, true, false, true, true, false, true, true, false, true, true, false, true, false, false, false, false]
abbrev bt10_12 : Array Bool := #[true, true, false, true, true, false, true, true, false, true, true, false, true, true, false, false, false]
abbrev bt11_12 : Array Bool := #[true, true, true, true, true, false, true, true, false, true, true, false, true, true, false, false, false]
abbrev bt12_12 : Array Bool := #[true, true, true, true, true, true, true, true, false, true, true, false, true, true, false, false, false]
abbrev bt13_12 : Array Bool := #[true, true, true, true, true, true, true, true, true, true, true, false, true, true, false, false, false]
abbrev bt14_12 : Array Bool := #[true, true, true, true, true, true, true, true, true, true, true, true, true, true, false, false, false]
abbrev bt15_12 : Array Bool := #[true, true, true, true, true, true, true, true, true, true, true, true, true, true, true, false, false]
abbrev bt16_12 : Array Bool := #[true, true, true, true, true, true, true, true, true, true, true, true, true, true, true, true, false]
abbrev bt17_12 : Array Bool := #[true, true, true, true, true, true, true, true, true, true, true, true, true, true, true, true, true]
def impl_Stmt.f (l0 : List S53) : Option (List S53) := if l0.length * 32 ≤ 140737488355328 then some l0 else none
theorem impl_Stmt.none_ {w : World} {l0 : List S53} (h : Kd.C k53 w none l0.length l0) : l0 = [] := by
 cases l0 with
 | nil => rfl
 | cons x r =>
  obtain ⟨ad, c, e, _⟩ := Kd.C_get h x 0 (Int.le_refl _) (by simp only [List.length_cons]; omega)
  cases e
set_option maxHeartbeats 4000000 in
set_option maxRecDepth 100000 in
theorem impl_Stmt.calls (A0 : Option Addr) (c0 : Nat) (l0 : List S53) (r : List S53) (w : World) (hr0 : Kd.C k53 w A0 l0.length l0) (hc0 : l0.length ≤ c0) (h : impl_Stmt.f l0 = some r) :
  Calls Try.prog 75 #[.slice A0 l0.length c0] w fun e w' => ∃ v0_ : Value, e = .returned (v0_) ∧ Kd.R k53 53 w' w.heap.size (fun _ => True) v0_ r ∧ Below w.heap.size w w' := by
 unfold impl_Stmt.f at h
 by_cases c : l0.length * 32 ≤ 140737488355328
 case neg => rw [if_neg c] at h; cases h
 rw [if_pos c] at h
 obtain rfl := Option.some.inj h
 clear h
 have hq : ∀ (w : World) (a : Option Addr) (n c n' c' : Nat), (binOp .eql 33 (.slice a n c) (.slice none n' c')).run Try.prog w = .ok (.bool a.isNone) w := fun w a n c n' c' => Lib.run_eql_slice_nil w _ _ a n c n' c' Try.underlying33
 cases A0 with
 | none =>
  obtain rfl := impl_Stmt.none_ hr0
  clear hr0 hc0 c
  go_enter Try.func75, Try.ntmps75
  go_wp2
  go_ret
  exact ⟨_, rfl, Kd.R_nil _ _ _ _ _, Below.refl _ _⟩
 | some ad =>
  have HR := Aside0.mk hr0
  have HC := Aside0.mk hc0
  have HL := Aside0.mk c
  clear hr0 hc0 c
  go_enter Try.func75, Try.ntmps75
  go_wp2_with (first
   | ((with_reducible refine gate_dst (N := 5) rfl ?_); refine Kd.R_lit k53 _ 53 ?hg (N := 5) ?hd (xs := ([] : List S53)) (inner := []) (ok := fun _ => True) (okp := fun _ => True) ?hr ?hp (fun _ hk => hk) trivial (Below.refl _ _) (Nat.le_refl _) (by simp) ?_; (case hd => rfl); (case hg => rfl); (case hr => first | (go_simp; done) | (go_simp; rfl)); (case hp => exact (Reps.none _ _)); intro v5 w1 ho1 hb1 hg_ hnew_; clear hg_ hnew_; have HO1 := Aside0.mk (show Kd.R k53 53 w1 w.heap.size (fun _ => True) v5 ([] : List S53) from ho1); have HB1 := Aside0.mk hb1; clear ho1 hb1)
   | ((with_reducible refine gate_builtin (b := .append) (xs := #[.tmp 5, .tmp 6]) rfl ?_); at_builtin; refine Kd.R_append_rows k53 (w0 := w) w.heap.size rfl (.tmp 5) (.tmp 6) 33 53 (.agg #[(.int .i64 0), (.string ⟨#[]⟩), (.int .i64 0)]) 32 rfl Try.underlying33 info53 rfl (by decide) (by omega) v5 ([] : List S53) l0 _ _ _ (fun _ => True) (fun _ => False) rfl rfl ?aO ?aR (fun _ _ h => h) (fun _ h => h.elim) ?aF ?aB ?aS ?aL ?_; (case aO => (with_reducible repeat (first | apply Kd.R_alloc | apply Kd.R_drewN | apply Kd.R_drew)); exact HO1.out); (case aR => exact cz (Kd.C_below HR.out HB1.out)); (case aF => exact fun _ _ => trivial); (case aB => repeat (first | (with_reducible first | exact HB1.out | apply below_alloc | apply pw_below_drewN | apply below_drew1) | exact HB1.out)); (case aS => exact HB1.out.size); (case aL => have := HL.out; simp only [List.length_nil]; omega); intro v7 w2 ho2 hb2 hg2 hat2; have HO2 := Aside0.mk ho2; have HB2 := Aside0.mk hb2; clear ho2 hb2 hg2 hat2))
  go_ret
  exact ⟨_, rfl, HO2.out, HB2.out⟩

/-! ### impl_Expr: function 76 (a contract of mine) -/
def impl_Expr.f (l0 : List S50) : Option (List S50) := if l0.length * 64 ≤ 140737488355328 then some l0 else none
theorem impl_Expr.none_ {w : World} {l0 : List S50} (h : Kd.C k50 w none l0.length l0) : l0 = [] := by
 cases l0 with
 | nil => rfl
 | cons x r =>
  obtain ⟨ad, c, e, _⟩ := Kd.C_get h x 0 (Int.le_refl _) (by simp only [List.length_cons]; omega)
  cases e
set_option maxHeartbeats 4000000 in
set_option maxRecDepth 100000 in
theorem impl_Expr.calls (A0 : Option Addr) (c0 : Nat) (l0 : List S50) (r : List S50) (w : World) (hr0 : Kd.C k50 w A0 l0.length l0) (hc0 : l0.length ≤ c0) (h : impl_Expr.f l0 = some r) :
  Calls Try.prog 76 #[.slice A0 l0.length c0] w fun e w' => ∃ v0_ : Value, e = .returned (v0_) ∧ Kd.R k50 50 w' w.heap.size (fun _ => True) v0_ r ∧ Below w.heap.size w w' := by
 unfold impl_Expr.f at h
 by_cases c : l0.length * 64 ≤ 140737488355328
 case neg => rw [if_neg c] at h; cases h
 rw [if_pos c] at h
 obtain rfl := Option.some.inj h
 clear h
 have hq : ∀ (w : World) (a : Option Addr) (n c n' c' : Nat), (binOp .eql 34 (.slice a n c) (.slice none n' c')).run Try.prog w = .ok (.bool a.isNone) w := fun w a n c n' c' => Lib.run_eql_slice_nil w _ _ a n c n' c' Try.underlying34
 cases A0 with
 | none =>
  obtain rfl := impl_Expr.none_ hr0
  clear hr0 hc0 c
  go_enter Try.func76, Try.ntmps76
  go_wp2
  go_ret
  exact ⟨_, rfl, Kd.R_nil _ _ _ _ _, Below.refl _ _⟩
 | some ad =>
  have HR := Aside0.mk hr0
  have HC := Aside0.mk hc0
  have HL := Aside0.mk c
  clear hr0 hc0 c
  go_enter Try.func76, Try.ntmps76
  go_wp2_with (first
   | ((with_reducible refine gate_dst (N := 5) rfl ?_); refine Kd.R_lit k50 _ 50 ?hg (N := 5) ?hd (xs := ([] : List S50)) (inner := []) (ok := fun _ => True) (okp := fun _ => True) ?hr ?hp (fun _ hk => hk) trivial (Below.refl _ _) (Nat.le_refl _) (by simp) ?_; (case hd => rfl); (case hg => rfl); (case hr => first | (go_simp; done) | (go_simp; rfl)); (case hp => exact (Reps.none _ _)); intro v5 w1 ho1 hb1 hg_ hnew_; clear hg_ hnew_; have HO1 := Aside0.mk (show Kd.R k50 50 w1 w.heap.size (fun _ => True) v5 ([] : List S50) from ho1); have HB1 := Aside0.mk hb1; clear ho1 hb1)
   | ((with_reducible refine gate_builtin (b := .append) (xs := #[.tmp 5, .tmp 6]) rfl ?_); at_builtin; refine Kd.R_append_rows k50 (w0 := w) w.heap.size rfl (.tmp 5) (.tmp 6) 34 50 (.agg #[(.int .i64 0), (.int .i64 0), (.string ⟨#[]⟩), (.string ⟨#[]⟩), (.int .i64 0), (.int .i64 0)]) 64 rfl Try.underlying34 info50 rfl (by decide) (by omega) v5 ([] : List S50) l0 _ _ _ (fun _ => True) (fun _ => False) rfl rfl ?aO ?aR (fun _ _ h => h) (fun _ h => h.elim) ?aF ?aB ?aS ?aL ?_; (case aO => (with_reducible repeat (first | apply Kd.R_alloc | apply Kd.R_drewN | apply Kd.R_drew)); exact HO1.out); (case aR => exact cz (Kd.C_below HR.out HB1.out)); (case aF => exact fun _ _ => trivial); (case aB => repeat (first | (with_reducible first | exact HB1.out | apply below_alloc | apply pw_below_drewN | apply below_drew1) | exact HB1.out)); (case aS => exact HB1.out.size); (case aL => have := HL.out; simp only [List.length_nil]; omega); intro v7 w2 ho2 hb2 hg2 hat2; have HO2 := Aside0.mk ho2; have HB2 := Aside0.mk hb2; clear ho2 hb2 hg2 hat2))
  go_ret
  exact ⟨_, rfl, HO2.out, HB2.out⟩

/-! ### impl_cloneMod: function 49 -/
def impl_cloneMod.f (l0_0 : List ByteArray) (l0_1 : List (S73)) (l0_2 : List (S55)) (l0_3 : List (S53)) (l0_4 : List (S50)) : Option (List ByteArray × (List (S73)) × (List (S55)) × (List (S53)) × (List (S50))) := (slices_Clone_string_string.f l0_0).bind fun t438 => ((impl_Imp.f l0_1).bind fun t441 => ((impl_Exp.f l0_2).bind fun t444 => ((impl_Stmt.f l0_3).bind fun t447 => ((impl_Expr.f l0_4).bind fun t450 => (some (t438, t441, t444, t447, t450))))))
def impl_cloneMod.T1 : Bool × List (List Nat × List Nat) := (true, [([], []), ([0], [0]), ([1], [1]), ([], []), ([3], [3]), ([4, 2], [4]), ([], []), ([6], [6]), ([7, 5], [7]), ([], []), ([9], [9]), ([10, 8], [10]), ([], []), ([12], [12]), ([13, 11], [13]), ([2, 5, 8, 11, 14], [2, 5, 8, 11, 14]), ([15, 14, 0, 1, 2, 3, 4, 5, 6, 7, 8, 9, 10, 11, 12, 13, 14, 15], [15])])
def impl_cloneMod.B1 : List Nat := [0, 1, 3, 0, 8, 31, 0, 64, 255, 0, 512, 2047, 0, 4096, 16383, 32767, 65535]
theorem impl_cloneMod.tab1 : rtab .any (opsOf Try.f49 1) = impl_cloneMod.T1 := by kernel_rfl
theorem impl_cloneMod.bits1 : waitsOk impl_cloneMod.T1.2 impl_cloneMod.B1 = true := by kernel_rfl
set_option maxHeartbeats 8000000 in
set_option maxRecDepth 100000 in
theorem impl_cloneMod.calls (A0_0 : Option Addr) (c0_0 : Nat) (l0_0 : List ByteArray) (A0_1 : Option Addr) (c0_1 : Nat) (l0_1 : List (S73)) (A0_2 : Option Addr) (c0_2 : Nat) (l0_2 : List (S55)) (A0_3 : Option Addr) (c0_3 : Nat) (l0_3 : List (S53)) (A0_4 : Option Addr) (c0_4 : Nat) (l0_4 : List (S50)) (r1 : List ByteArray) (r2 : List (S73)) (r3 : List (S55)) (r4 : List (S53)) (r5 : List (S50)) (w : World) (hr0_0 : Kd.C Kd.string w A0_0 l0_0.length l0_0) (hc0_0 : l0_0.length ≤ c0_0) (hr0_1 : Kd.C k73 w A0_1 l0_1.length l0_1) (hc0_1 : l0_1.length ≤ c0_1) (hr0_2 : Kd.C k55 w A0_2 l0_2.length l0_2) (hc0_2 : l0_2.length ≤ c0_2) (hr0_3 : Kd.C k53 w A0_3 l0_3.length l0_3) (hc0_3 : l0_3.length ≤ c0_3) (hr0_4 : Kd.C k50 w A0_4 l0_4.length l0_4) (hc0_4 : l0_4.length ≤ c0_4) (h : impl_cloneMod.f l0_0 l0_1 l0_2 l0_3 l0_4 = some (r1, r2, r3, r4, r5)) :
  Calls Try.prog 49 #[.agg #[.slice A0_0 l0_0.length c0_0, .slice A0_1 l0_1.length c0_1, .slice A0_2 l0_2.length c0_2, .slice A0_3 l0_3.length c0_3, .slice A0_4 l0_4.length c0_4]] w fun e w' => ∃ v0_ v1_ v2_ v3_ v4_ : Value, e = .returned (.agg #[v0_, v1_, v2_, v3_, v4_]) ∧ Kd.R Kd.string 9 w' w.heap.size (fun _ => True) v0_ r1 ∧ Kd.R k73 73 w' w.heap.size (fun _ => True) v1_ r2 ∧ Kd.R k55 55 w' w.heap.size (fun _ => True) v2_ r3 ∧ Kd.R k53 53 w' w.heap.size (fun _ => True) v3_ r4 ∧ Kd.R k50 50 w' w.heap.size (fun _ => True) v4_ r5 ∧ Below w.heap.size w w' := by
 have hu36 := Try.underlying36
 have HR0_0 := Aside0.mk hr0_0
 have HC0_0 := Aside0.mk hc0_0
 clear hr0_0 hc0_0
 have HR0_1 := Aside0.mk hr0_1
 have HC0_1 := Aside0.mk hc0_1
 clear hr0_1 hc0_1
 have HR0_2 := Aside0.mk hr0_2
 have HC0_2 := Aside0.mk hc0_2
 clear hr0_2 hc0_2
 have HR0_3 := Aside0.mk hr0_3
 have HC0_3 := Aside0.mk hc0_3
 clear hr0_3 hc0_3
 have HR0_4 := Aside0.mk hr0_4
 have HC0_4 := Aside0.mk hc0_4
 clear hr0_4 hc0_4
 have HB := Aside0.mk (Below.refl w.heap.size w)
 try unfold impl_cloneMod.f at h
 have H := h
 clear h
 replace H := bnd H
 obtain ⟨t438, A2, H⟩ := H
 try dsimp only at H
 replace H := bnd H
 obtain ⟨t441, A3, H⟩ := H
 try dsimp only at H
 replace H := bnd H
 obtain ⟨t444, A4, H⟩ := H
 try dsimp only at H
 replace H := bnd H
 obtain ⟨t447, A5, H⟩ := H
 try dsimp only at H
 replace H := bnd H
 obtain ⟨t450, A6, H⟩ := H
 try dsimp only at H
 simp only [Option.some.injEq, Prod.mk.injEq] at H
 obtain ⟨rfl, rfl, rfl, rfl, rfl⟩ := H
 go_enter Try.func49, Try.ntmps49
 try go_wp2_with (first | ((with_reducible refine gate_dst (N := 1) rfl ?_); refine box_event ?hg (N := 1) ?hd (cs := #[.slice A0_0 l0_0.length c0_0, .slice A0_1 l0_1.length c0_1, .slice A0_2 l0_2.length c0_2, .slice A0_3 l0_3.length c0_3, .slice A0_4 l0_4.length c0_4]) (t := 36) ?hr ?_; (case hd => rfl); (case hg => rfl); (case hr => first | (go_simp; done) | (go_simp; rfl)); intro gb436 hg w7 hbox hb; have n0_ := Aside0.mk (below_step zt3 hb); have n1_ := Aside0.mk (hbox); have n2_ := Aside0.mk ((zt6 : w.heap.size ≤ gb436)); have n3_ := Aside0.mk ((zt6 : w.heap.size ≤ gb436)); clear HB; have HB := n0_; have BK436 := n1_; have GW436 := n2_; have GE436 := n3_; clear n0_ n1_ n2_ n3_; clear hb hbox hg) | ((with_reducible refine gate_dst (N := 2) rfl ?_); refine box_event ?hg (N := 2) ?hd (cs := #[.slice none 0 0, .slice none 0 0, .slice none 0 0, .slice none 0 0, .slice none 0 0]) (t := 36) ?hr ?_; (case hd => rfl); (case hg => rfl); (case hr => first | (go_simp; done) | (go_simp; rfl)); intro gb437 hg w8 hbox hb; have n0_ := Aside0.mk (blk_below (g := gb436) (o := .cells #[.slice A0_0 l0_0.length c0_0, .slice A0_1 l0_1.length c0_1, .slice A0_2 l0_2.length c0_2, .slice A0_3 l0_3.length c0_3, .slice A0_4 l0_4.length c0_4] 36 (0, 0)) (oz BK436.out) hb); have n1_ := Aside0.mk (below_step (by repeat (first | (with_reducible first | exact HB.out | apply below_alloc | apply pw_below_drewN | apply below_drew1 | refine below_set ?_ GE436.out) | exact HB.out)) hb); have n2_ := Aside0.mk (hbox); have n3_ := Aside0.mk ((by rw [hg]; exact (below_size (by repeat (first | (with_reducible first | exact HB.out | apply below_alloc | apply pw_below_drewN | apply below_drew1 | refine below_set ?_ GE436.out) | exact HB.out))) : w.heap.size ≤ gb437)); have n4_ := Aside0.mk ((by rw [hg]; exact (below_size (by repeat (first | (with_reducible first | exact HB.out | apply below_alloc | apply pw_below_drewN | apply below_drew1 | refine below_set ?_ GE436.out) | exact HB.out))) : w.heap.size ≤ gb437)); have n5_ := Aside0.mk ((by rw [hg]; exact Nat.ne_of_lt (blk_lt (g := gb436) (o := .cells #[.slice A0_0 l0_0.length c0_0, .slice A0_1 l0_1.length c0_1, .slice A0_2 l0_2.length c0_2, .slice A0_3 l0_3.length c0_3, .slice A0_4 l0_4.length c0_4] 36 (0, 0)) (oz BK436.out)) : gb436 ≠ gb437)); have n6_ := Aside0.mk ((by rw [hg]; exact Nat.ne_of_gt (blk_lt (g := gb436) (o := .cells #[.slice A0_0 l0_0.length c0_0, .slice A0_1 l0_1.length c0_1, .slice A0_2 l0_2.length c0_2, .slice A0_3 l0_3.length c0_3, .slice A0_4 l0_4.length c0_4] 36 (0, 0)) (oz BK436.out)) : gb437 ≠ gb436)); clear BK436; clear HB; have BK436 := n0_; have HB := n1_; have BK437 := n2_; have GW437 := n3_; have GE437 := n4_; have NB436_437 := n5_; have NB437_436 := n6_; clear n0_ n1_ n2_ n3_ n4_ n5_ n6_; clear hb hbox hg))
 have n0_ := Aside0.mk (blk_drew BK436.out)
 have n1_ := Aside0.mk (blk_drew BK437.out)
 have n2_ := Aside0.mk (below_drew1 HB.out)
 clear BK436
 clear BK437
 clear HB
 have BK436 := n0_
 have BK437 := n1_
 have HB := n2_
 clear n0_ n1_ n2_
 refine start_ (n := 17) (S := fun w' => w'.cell? ⟨gb436, 0, none⟩ = some (.slice A0_0 l0_0.length c0_0) ∧ w'.cell? ⟨gb436, 1, none⟩ = some (.slice A0_1 l0_1.length c0_1) ∧ w'.cell? ⟨gb436, 2, none⟩ = some (.slice A0_2 l0_2.length c0_2) ∧ w'.cell? ⟨gb436, 3, none⟩ = some (.slice A0_3 l0_3.length c0_3) ∧ w'.cell? ⟨gb436, 4, none⟩ = some (.slice A0_4 l0_4.length c0_4)) (ds := []) bt0_12 (by kernel_rfl) rfl rfl ⟨(blk_cell BK436.out 0).trans rfl, (blk_cell BK436.out 1).trans rfl, (blk_cell BK436.out 2).trans rfl, (blk_cell BK436.out 3).trans rfl, (blk_cell BK436.out 4).trans rfl⟩ (fun hHeld => ?_); refine with_tabW impl_cloneMod.tab1 impl_cloneMod.bits1 (fun HT_ HW_ => ?_)
 generalize w8.drew = w9 at BK436 BK437 HB hHeld ⊢
 refine pure_ (i := 0) (N := some 3) (v := ?_) (a' := ?_) bt1_12 rfl rfl (any_of HT_.out (by kernel_rfl)) (fun _ _ _ h => h) (Or.inl ⟨by rfl, ?_⟩) ?_ ?_
 rotate_left
 ·intro w'
  go_simp
  with_reducible rfl
 rotate_left
 ·simp only [Act.put, List.setIfInBounds_toArray, List.set_cons_zero, List.set_cons_succ, i64_w, i32_w]
  rfl
 refine pure_ (i := 3) (N := some 6) (v := ?_) (a' := ?_) bt2_12 rfl rfl (any_of HT_.out (by kernel_rfl)) (fun _ _ _ h => h) (Or.inl ⟨by rfl, ?_⟩) ?_ ?_
 rotate_left
 ·intro w'
  go_simp
  with_reducible rfl
 rotate_left
 ·simp only [Act.put, List.setIfInBounds_toArray, List.set_cons_zero, List.set_cons_succ, i64_w, i32_w]
  rfl
 refine pure_ (i := 6) (N := some 9) (v := ?_) (a' := ?_) bt3_12 rfl rfl (any_of HT_.out (by kernel_rfl)) (fun _ _ _ h => h) (Or.inl ⟨by rfl, ?_⟩) ?_ ?_
 rotate_left
 ·intro w'
  go_simp
  with_reducible rfl
 rotate_left
 ·simp only [Act.put, List.setIfInBounds_toArray, List.set_cons_zero, List.set_cons_succ, i64_w, i32_w]
  rfl
 refine pure_ (i := 9) (N := some 12) (v := ?_) (a' := ?_) bt4_12 rfl rfl (any_of HT_.out (by kernel_rfl)) (fun _ _ _ h => h) (Or.inl ⟨by rfl, ?_⟩) ?_ ?_
 rotate_left
 ·intro w'
  go_simp
  with_reducible rfl
 rotate_left
 ·simp only [Act.put, List.setIfInBounds_toArray, List.set_cons_zero, List.set_cons_succ, i64_w, i32_w]
  rfl
 refine pure_ (i := 12) (N := some 15) (v := ?_) (a' := ?_) bt5_12 rfl rfl (any_of HT_.out (by kernel_rfl)) (fun _ _ _ h => h) (Or.inl ⟨by rfl, ?_⟩) ?_ ?_
 rotate_left
 ·intro w'
  go_simp
  with_reducible rfl
 rotate_left
 ·simp only [Act.put, List.setIfInBounds_toArray, List.set_cons_zero, List.set_cons_succ, i64_w, i32_w]
  rfl
 refine take_ (i := 1) (N := some 4) (v := ?_) (a' := ?_) bt6_12 rfl rfl (take_ofW HT_.out HW_.out (by kernel_rfl)) (fun _ _ _ h => h) (Or.inl ⟨by rfl, ?_⟩) hHeld ?_ ?_
 rotate_left
 ·rintro w' ⟨s0, s1, s2, s3, s4⟩
  go_simp
  with_reducible rfl
 rotate_left
 ·simp only [Act.put, List.setIfInBounds_toArray, List.set_cons_zero, List.set_cons_succ, i64_w, i32_w]
  rfl
 refine take_ (i := 4) (N := some 7) (v := ?_) (a' := ?_) bt7_12 rfl rfl (take_ofW HT_.out HW_.out (by kernel_rfl)) (fun _ _ _ h => h) (Or.inl ⟨by rfl, ?_⟩) hHeld ?_ ?_
 rotate_left
 ·rintro w' ⟨s0, s1, s2, s3, s4⟩
  go_simp
  with_reducible rfl
 rotate_left
 ·simp only [Act.put, List.setIfInBounds_toArray, List.set_cons_zero, List.set_cons_succ, i64_w, i32_w]
  rfl
 refine take_ (i := 7) (N := some 10) (v := ?_) (a' := ?_) bt8_12 rfl rfl (take_ofW HT_.out HW_.out (by kernel_rfl)) (fun _ _ _ h => h) (Or.inl ⟨by rfl, ?_⟩) hHeld ?_ ?_
 rotate_left
 ·rintro w' ⟨s0, s1, s2, s3, s4⟩
  go_simp
  with_reducible rfl
 rotate_left
 ·simp only [Act.put, List.setIfInBounds_toArray, List.set_cons_zero, List.set_cons_succ, i64_w, i32_w]
  rfl
 refine take_ (i := 10) (N := some 13) (v := ?_) (a' := ?_) bt9_12 rfl rfl (take_ofW HT_.out HW_.out (by kernel_rfl)) (fun _ _ _ h => h) (Or.inl ⟨by rfl, ?_⟩) hHeld ?_ ?_
 rotate_left
 ·rintro w' ⟨s0, s1, s2, s3, s4⟩
  go_simp
  with_reducible rfl
 rotate_left
 ·simp only [Act.put, List.setIfInBounds_toArray, List.set_cons_zero, List.set_cons_succ, i64_w, i32_w]
  rfl
 refine take_ (i := 13) (N := some 16) (v := ?_) (a' := ?_) bt10_12 rfl rfl (take_ofW HT_.out HW_.out (by kernel_rfl)) (fun _ _ _ h => h) (Or.inl ⟨by rfl, ?_⟩) hHeld ?_ ?_
 rotate_left
 ·rintro w' ⟨s0, s1, s2, s3, s4⟩
  go_simp
  with_reducible rfl
 rotate_left
 ·simp only [Act.put, List.setIfInBounds_toArray, List.set_cons_zero, List.set_cons_succ, i64_w, i32_w]
  rfl
 refine one_ (i := 2) (N := some 5) bt11_12 rfl rfl (one_of HT_.out (by kernel_rfl)) (by decide) (fun K hK => ?_)
 refine goes_ Try.func72 (by kernel_rfl) rfl #[.slice A0_0 l0_0.length c0_0] (by rfl) rfl rfl zt5 ?_
 with_reducible refine (slices_Clone_string_string.calls _ _ l0_0 t438 _ ?side1 ?side2 A2.out).mono ?_
 (case side1 => exact cz (Kd.C_below HR0_0.out HB.out))
 (case side2 => exact HC0_0.out)
 rintro e w10 ⟨v439, rfl, ho0, hb⟩
 refine ⟨_, rfl, ?_⟩
 have n0_ := Aside0.mk (Kd.R_lower ho0 (below_size zt18))
 have n1_ := Aside0.mk (blk_below (g := gb436) (o := .cells #[.slice A0_0 l0_0.length c0_0, .slice A0_1 l0_1.length c0_1, .slice A0_2 l0_2.length c0_2, .slice A0_3 l0_3.length c0_3, .slice A0_4 l0_4.length c0_4] 36 (0, 0)) (oz BK436.out) hb)
 have n2_ := Aside0.mk (blk_below (g := gb437) (o := .cells #[.slice none 0 0, .slice none 0 0, .slice none 0 0, .slice none 0 0, .slice none 0 0] 36 (0, 0)) (oz BK437.out) hb)
 have n3_ := Aside0.mk (below_step zt18 hb)
 clear BK436
 clear BK437
 clear HB
 have HO440 := n0_
 have BK436 := n1_
 have BK437 := n2_
 have HB := n3_
 clear n0_ n1_ n2_ n3_
 (try clear hb)
 (try clear hb2)
 (try clear hk)
 (try clear hi)
 (try clear ho0)
 refine hK.out _ _ ⟨(blk_cell BK436.out 0).trans rfl, (blk_cell BK436.out 1).trans rfl, (blk_cell BK436.out 2).trans rfl, (blk_cell BK436.out 3).trans rfl, (blk_cell BK436.out 4).trans rfl⟩ (fun hHeld => ?_)
 clear hK K
 refine norm_ (a' := ?_) ?_ ?_
 rotate_left
 ·show Act.put _ (some 5) _ = _
  simp only [Act.put, List.setIfInBounds_toArray, List.set_cons_zero, List.set_cons_succ, i64_w, i32_w]
  rfl
 refine one_ (i := 5) (N := some 8) bt12_12 rfl rfl (one_of HT_.out (by kernel_rfl)) (by decide) (fun K hK => ?_)
 refine goes_ Try.func73 (by kernel_rfl) rfl #[.slice A0_1 l0_1.length c0_1] (by rfl) rfl rfl zt5 ?_
 with_reducible refine (impl_Imp.calls _ _ l0_1 t441 _ ?side1 ?side2 A3.out).mono ?_
 (case side1 => exact cz (Kd.C_below HR0_1.out HB.out))
 (case side2 => exact HC0_1.out)
 rintro e w11 ⟨v442, rfl, ho0, hb⟩
 refine ⟨_, rfl, ?_⟩
 have n0_ := Aside0.mk (Kd.R_below (rz HO440.out) hb)
 have n1_ := Aside0.mk (Kd.R_lower ho0 (below_size zt18))
 have n2_ := Aside0.mk (blk_below (g := gb436) (o := .cells #[.slice A0_0 l0_0.length c0_0, .slice A0_1 l0_1.length c0_1, .slice A0_2 l0_2.length c0_2, .slice A0_3 l0_3.length c0_3, .slice A0_4 l0_4.length c0_4] 36 (0, 0)) (oz BK436.out) hb)
 have n3_ := Aside0.mk (blk_below (g := gb437) (o := .cells #[.slice none 0 0, .slice none 0 0, .slice none 0 0, .slice none 0 0, .slice none 0 0] 36 (0, 0)) (oz BK437.out) hb)
 have n4_ := Aside0.mk (below_step zt18 hb)
 clear HO440
 clear BK436
 clear BK437
 clear HB
 have HO440 := n0_
 have HO443 := n1_
 have BK436 := n2_
 have BK437 := n3_
 have HB := n4_
 clear n0_ n1_ n2_ n3_ n4_
 (try clear hb)
 (try clear hb2)
 (try clear hk)
 (try clear hi)
 (try clear ho0)
 refine hK.out _ _ ⟨(blk_cell BK436.out 0).trans rfl, (blk_cell BK436.out 1).trans rfl, (blk_cell BK436.out 2).trans rfl, (blk_cell BK436.out 3).trans rfl, (blk_cell BK436.out 4).trans rfl⟩ (fun hHeld => ?_)
 clear hK K
 refine norm_ (a' := ?_) ?_ ?_
 rotate_left
 ·show Act.put _ (some 8) _ = _
  simp only [Act.put, List.setIfInBounds_toArray, List.set_cons_zero, List.set_cons_succ, i64_w, i32_w]
  rfl
 refine one_ (i := 8) (N := some 11) bt13_12 rfl rfl (one_of HT_.out (by kernel_rfl)) (by decide) (fun K hK => ?_)
 refine goes_ Try.func74 (by kernel_rfl) rfl #[.slice A0_2 l0_2.length c0_2] (by rfl) rfl rfl zt5 ?_
 with_reducible refine (impl_Exp.calls _ _ l0_2 t444 _ ?side1 ?side2 A4.out).mono ?_
 (case side1 => exact cz (Kd.C_below HR0_2.out HB.out))
 (case side2 => exact HC0_2.out)
 rintro e w12 ⟨v445, rfl, ho0, hb⟩
 refine ⟨_, rfl, ?_⟩
 have n0_ := Aside0.mk (Kd.R_below (rz HO440.out) hb)
 have n1_ := Aside0.mk (Kd.R_below (rz HO443.out) hb)
 have n2_ := Aside0.mk (Kd.R_lower ho0 (below_size zt18))
 have n3_ := Aside0.mk (blk_below (g := gb436) (o := .cells #[.slice A0_0 l0_0.length c0_0, .slice A0_1 l0_1.length c0_1, .slice A0_2 l0_2.length c0_2, .slice A0_3 l0_3.length c0_3, .slice A0_4 l0_4.length c0_4] 36 (0, 0)) (oz BK436.out) hb)
 have n4_ := Aside0.mk (blk_below (g := gb437) (o := .cells #[.slice none 0 0, .slice none 0 0, .slice none 0 0, .slice none 0 0, .slice none 0 0] 36 (0, 0)) (oz BK437.out) hb)
 have n5_ := Aside0.mk (below_step zt18 hb)
 clear HO440
 clear HO443
 clear BK436
 clear BK437
 clear HB
 have HO440 := n0_
 have HO443 := n1_
 have HO446 := n2_
 have BK436 := n3_
 have BK437 := n4_
 have HB := n5_
 clear n0_ n1_ n2_ n3_ n4_ n5_
 (try clear hb)
 (try clear hb2)
 (try clear hk)
 (try clear hi)
 (try clear ho0)
 refine hK.out _ _ ⟨(blk_cell BK436.out 0).trans rfl, (blk_cell BK436.out 1).trans rfl, (blk_cell BK436.out 2).trans rfl, (blk_cell BK436.out 3).trans rfl, (blk_cell BK436.out 4).trans rfl⟩ (fun hHeld => ?_)
 clear hK K
 refine norm_ (a' := ?_) ?_ ?_
 rotate_left
 ·show Act.put _ (some 11) _ = _
  simp only [Act.put, List.setIfInBounds_toArray, List.set_cons_zero, List.set_cons_succ, i64_w, i32_w]
  rfl
 refine one_ (i := 11) (N := some 14) bt14_12 rfl rfl (one_of HT_.out (by kernel_rfl)) (by decide) (fun K hK => ?_)
 refine goes_ Try.func75 (by kernel_rfl) rfl #[.slice A0_3 l0_3.length c0_3] (by rfl) rfl rfl zt5 ?_
 with_reducible refine (impl_Stmt.calls _ _ l0_3 t447 _ ?side1 ?side2 A5.out).mono ?_
 (case side1 => exact cz (Kd.C_below HR0_3.out HB.out))
 (case side2 => exact HC0_3.out)
 rintro e w13 ⟨v448, rfl, ho0, hb⟩
 refine ⟨_, rfl, ?_⟩
 have n0_ := Aside0.mk (Kd.R_below (rz HO440.out) hb)
 have n1_ := Aside0.mk (Kd.R_below (rz HO443.out) hb)
 have n2_ := Aside0.mk (Kd.R_below (rz HO446.out) hb)
 have n3_ := Aside0.mk (Kd.R_lower ho0 (below_size zt18))
 have n4_ := Aside0.mk (blk_below (g := gb436) (o := .cells #[.slice A0_0 l0_0.length c0_0, .slice A0_1 l0_1.length c0_1, .slice A0_2 l0_2.length c0_2, .slice A0_3 l0_3.length c0_3, .slice A0_4 l0_4.length c0_4] 36 (0, 0)) (oz BK436.out) hb)
 have n5_ := Aside0.mk (blk_below (g := gb437) (o := .cells #[.slice none 0 0, .slice none 0 0, .slice none 0 0, .slice none 0 0, .slice none 0 0] 36 (0, 0)) (oz BK437.out) hb)
 have n6_ := Aside0.mk (below_step zt18 hb)
 clear HO440
 clear HO443
 clear HO446
 clear BK436
 clear BK437
 clear HB
 have HO440 := n0_
 have HO443 := n1_
 have HO446 := n2_
 have HO449 := n3_
 have BK436 := n4_
 have BK437 := n5_
 have HB := n6_
 clear n0_ n1_ n2_ n3_ n4_ n5_ n6_
 (try clear hb)
 (try clear hb2)
 (try clear hk)
 (try clear hi)
 (try clear ho0)
 refine hK.out _ _ ⟨(blk_cell BK436.out 0).trans rfl, (blk_cell BK436.out 1).trans rfl, (blk_cell BK436.out 2).trans rfl, (blk_cell BK436.out 3).trans rfl, (blk_cell BK436.out 4).trans rfl⟩ (fun hHeld => ?_)
 clear hK K
 refine norm_ (a' := ?_) ?_ ?_
 rotate_left
 ·show Act.put _ (some 14) _ = _
  simp only [Act.put, List.setIfInBounds_toArray, List.set_cons_zero, List.set_cons_succ, i64_w, i32_w]
  rfl
 refine one_ (i := 14) (N := some 17) bt15_12 rfl rfl (one_of HT_.out (by kernel_rfl)) (by decide) (fun K hK => ?_)
 refine goes_ Try.func76 (by kernel_rfl) rfl #[.slice A0_4 l0_4.length c0_4] (by rfl) rfl rfl zt5 ?_
 with_reducible refine (impl_Expr.calls _ _ l0_4 t450 _ ?side1 ?side2 A6.out).mono ?_
 (case side1 => exact cz (Kd.C_below HR0_4.out HB.out))
 (case side2 => exact HC0_4.out)
 rintro e w14 ⟨v451, rfl, ho0, hb⟩
 refine ⟨_, rfl, ?_⟩
 have n0_ := Aside0.mk (Kd.R_below (rz HO440.out) hb)
 have n1_ := Aside0.mk (Kd.R_below (rz HO443.out) hb)
 have n2_ := Aside0.mk (Kd.R_below (rz HO446.out) hb)
 have n3_ := Aside0.mk (Kd.R_below (rz HO449.out) hb)
 have n4_ := Aside0.mk (Kd.R_lower ho0 (below_size zt18))
 have n5_ := Aside0.mk (blk_below (g := gb436) (o := .cells #[.slice A0_0 l0_0.length c0_0, .slice A0_1 l0_1.length c0_1, .slice A0_2 l0_2.length c0_2, .slice A0_3 l0_3.length c0_3, .slice A0_4 l0_4.length c0_4] 36 (0, 0)) (oz BK436.out) hb)
 have n6_ := Aside0.mk (blk_below (g := gb437) (o := .cells #[.slice none 0 0, .slice none 0 0, .slice none 0 0, .slice none 0 0, .slice none 0 0] 36 (0, 0)) (oz BK437.out) hb)
 have n7_ := Aside0.mk (below_step zt18 hb)
 clear HO440
 clear HO443
 clear HO446
 clear HO449
 clear BK436
 clear BK437
 clear HB
 have HO440 := n0_
 have HO443 := n1_
 have HO446 := n2_
 have HO449 := n3_
 have HO452 := n4_
 have BK436 := n5_
 have BK437 := n6_
 have HB := n7_
 clear n0_ n1_ n2_ n3_ n4_ n5_ n6_ n7_
 (try clear hb)
 (try clear hb2)
 (try clear hk)
 (try clear hi)
 (try clear ho0)
 obtain ⟨Ao15, co15, eo15⟩ := Kd.R_slice HO452.out
 (first | subst eo15 | (injection eo15 with f1_ f2_ f3_; have f4_ := f1_.symm; have f5_ := f3_.symm; clear f1_ f2_ f3_; subst f4_; subst f5_))
 obtain ⟨Ao16, co16, eo16⟩ := Kd.R_slice HO449.out
 (first | subst eo16 | (injection eo16 with f1_ f2_ f3_; have f4_ := f1_.symm; have f5_ := f3_.symm; clear f1_ f2_ f3_; subst f4_; subst f5_))
 obtain ⟨Ao17, co17, eo17⟩ := Kd.R_slice HO446.out
 (first | subst eo17 | (injection eo17 with f1_ f2_ f3_; have f4_ := f1_.symm; have f5_ := f3_.symm; clear f1_ f2_ f3_; subst f4_; subst f5_))
 obtain ⟨Ao18, co18, eo18⟩ := Kd.R_slice HO443.out
 (first | subst eo18 | (injection eo18 with f1_ f2_ f3_; have f4_ := f1_.symm; have f5_ := f3_.symm; clear f1_ f2_ f3_; subst f4_; subst f5_))
 obtain ⟨Ao19, co19, eo19⟩ := Kd.R_slice HO440.out
 (first | subst eo19 | (injection eo19 with f1_ f2_ f3_; have f4_ := f1_.symm; have f5_ := f3_.symm; clear f1_ f2_ f3_; subst f4_; subst f5_))
 refine hK.out _ _ ⟨(blk_cell BK436.out 0).trans rfl, (blk_cell BK436.out 1).trans rfl, (blk_cell BK436.out 2).trans rfl, (blk_cell BK436.out 3).trans rfl, (blk_cell BK436.out 4).trans rfl⟩ (fun hHeld => ?_)
 clear hK K
 refine norm_ (a' := ?_) ?_ ?_
 rotate_left
 ·show Act.put _ (some 17) _ = _
  simp only [Act.put, List.setIfInBounds_toArray, List.set_cons_zero, List.set_cons_succ, i64_w, i32_w]
  rfl
 refine pure_ (i := 15) (N := some 18) (v := ?_) (a' := ?_) bt16_12 rfl rfl (any_of HT_.out (by kernel_rfl)) (fun _ _ _ h => h) (Or.inl ⟨by rfl, ?_⟩) ?_ ?_
 rotate_left
 ·intro w'
  go_simp
  with_reducible rfl
 rotate_left
 ·simp only [Act.put, List.setIfInBounds_toArray, List.set_cons_zero, List.set_cons_succ, i64_w, i32_w]
  rfl
 refine one_ (i := 16) (N := none) bt17_12 rfl rfl (one_of HT_.out (by kernel_rfl)) (by decide) (fun K hK => ?_)
 have hs20 : w14.cell? ⟨gb437, 0, none⟩ = some (.slice none 0 0) := (blk_cell BK437.out 0).trans rfl
 have hfs20 := blk_frozen BK437.out 0
 have hns20_0 := NB436_437.out
 have hms20_0 := NB437_436.out
 have hs21 : w14.cell? ⟨gb437, 1, none⟩ = some (.slice none 0 0) := (blk_cell BK437.out 1).trans rfl
 have hfs21 := blk_frozen BK437.out 1
 have hns21_0 := NB436_437.out
 have hms21_0 := NB437_436.out
 have hs22 : w14.cell? ⟨gb437, 2, none⟩ = some (.slice none 0 0) := (blk_cell BK437.out 2).trans rfl
 have hfs22 := blk_frozen BK437.out 2
 have hns22_0 := NB436_437.out
 have hms22_0 := NB437_436.out
 have hs23 : w14.cell? ⟨gb437, 3, none⟩ = some (.slice none 0 0) := (blk_cell BK437.out 3).trans rfl
 have hfs23 := blk_frozen BK437.out 3
 have hns23_0 := NB436_437.out
 have hms23_0 := NB437_436.out
 have hs24 : w14.cell? ⟨gb437, 4, none⟩ = some (.slice none 0 0) := (blk_cell BK437.out 4).trans rfl
 have hfs24 := blk_frozen BK437.out 4
 have hns24_0 := NB436_437.out
 have hms24_0 := NB437_436.out
 refine skip_ (w1 := ?_) (by rfl) rfl ?_ ?_
 rotate_left
 ·go_simp
  rfl
 refine hK.out _ _ ⟨((cell_far (p := ⟨gb437, _, none⟩) NB436_437.out _).trans (((cell_far (p := ⟨gb437, _, none⟩) NB436_437.out _).trans (((cell_far (p := ⟨gb437, _, none⟩) NB436_437.out _).trans (((cell_far (p := ⟨gb437, _, none⟩) NB436_437.out _).trans (((cell_far (p := ⟨gb437, _, none⟩) NB436_437.out _).trans (hHeld.1)))))))))), ((cell_far (p := ⟨gb437, _, none⟩) NB436_437.out _).trans (((cell_far (p := ⟨gb437, _, none⟩) NB436_437.out _).trans (((cell_far (p := ⟨gb437, _, none⟩) NB436_437.out _).trans (((cell_far (p := ⟨gb437, _, none⟩) NB436_437.out _).trans (((cell_far (p := ⟨gb437, _, none⟩) NB436_437.out _).trans (hHeld.2.1)))))))))), ((cell_far (p := ⟨gb437, _, none⟩) NB436_437.out _).trans (((cell_far (p := ⟨gb437, _, none⟩) NB436_437.out _).trans (((cell_far (p := ⟨gb437, _, none⟩) NB436_437.out _).trans (((cell_far (p := ⟨gb437, _, none⟩) NB436_437.out _).trans (((cell_far (p := ⟨gb437, _, none⟩) NB436_437.out _).trans (hHeld.2.2.1)))))))))), ((cell_far (p := ⟨gb437, _, none⟩) NB436_437.out _).trans (((cell_far (p := ⟨gb437, _, none⟩) NB436_437.out _).trans (((cell_far (p := ⟨gb437, _, none⟩) NB436_437.out _).trans (((cell_far (p := ⟨gb437, _, none⟩) NB436_437.out _).trans (((cell_far (p := ⟨gb437, _, none⟩) NB436_437.out _).trans (hHeld.2.2.2.1)))))))))), ((cell_far (p := ⟨gb437, _, none⟩) NB436_437.out _).trans (((cell_far (p := ⟨gb437, _, none⟩) NB436_437.out _).trans (((cell_far (p := ⟨gb437, _, none⟩) NB436_437.out _).trans (((cell_far (p := ⟨gb437, _, none⟩) NB436_437.out _).trans (((cell_far (p := ⟨gb437, _, none⟩) NB436_437.out _).trans (hHeld.2.2.2.2))))))))))⟩ (fun hHeld => ?_)
 clear hK K
 refine done_ (done_of HT_.out (by kernel_rfl)) ?_
 try go_wp2
 refine bodyPost_ret (results_cell_row rfl _ _ gb437 36 #[.slice Ao19 t438.length co19, .slice Ao18 t441.length co18, .slice Ao17 t444.length co17, .slice Ao16 t447.length co16, .slice Ao15 t450.length co15] (0, 0) _ rfl (by (with_reducible repeat (first | refine blk_drewN ?_ _ | refine blk_drew ?_ | refine blk_alloc ?_ _)); refine blk_put (cs := #[.slice Ao19 t438.length co19, .slice Ao18 t441.length co18, .slice Ao17 t444.length co17, .slice Ao16 t447.length co16, .slice none 0 0]) ?_ 4 _ rfl; (with_reducible repeat (first | refine blk_drewN ?_ _ | refine blk_drew ?_ | refine blk_alloc ?_ _)); refine blk_put (cs := #[.slice Ao19 t438.length co19, .slice Ao18 t441.length co18, .slice Ao17 t444.length co17, .slice none 0 0, .slice none 0 0]) ?_ 3 _ rfl; (with_reducible repeat (first | refine blk_drewN ?_ _ | refine blk_drew ?_ | refine blk_alloc ?_ _)); refine blk_put (cs := #[.slice Ao19 t438.length co19, .slice Ao18 t441.length co18, .slice none 0 0, .slice none 0 0, .slice none 0 0]) ?_ 2 _ rfl; (with_reducible repeat (first | refine blk_drewN ?_ _ | refine blk_drew ?_ | refine blk_alloc ?_ _)); refine blk_put (cs := #[.slice Ao19 t438.length co19, .slice none 0 0, .slice none 0 0, .slice none 0 0, .slice none 0 0]) ?_ 1 _ rfl; (with_reducible repeat (first | refine blk_drewN ?_ _ | refine blk_drew ?_ | refine blk_alloc ?_ _)); refine blk_put (cs := #[.slice none 0 0, .slice none 0 0, .slice none 0 0, .slice none 0 0, .slice none 0 0]) ?_ 0 _ rfl; (with_reducible repeat (first | refine blk_drewN ?_ _ | refine blk_drew ?_ | refine blk_alloc ?_ _)); exact BK437.out) Try.underlying36 rfl (by kernel_rfl)) rfl ?_
 exact ⟨_, _, _, _, _, zt8, by (with_reducible repeat (first | apply Kd.R_alloc | apply Kd.R_drewN | apply Kd.R_drew)); exact Kd.R_mono (Kd.R_far (p := ⟨gb437, 4, none⟩) (Kd.R_far (p := ⟨gb437, 3, none⟩) (Kd.R_far (p := ⟨gb437, 2, none⟩) (Kd.R_far (p := ⟨gb437, 1, none⟩) (Kd.R_far (p := ⟨gb437, 0, none⟩) (Kd.R_types HO440.out BK437.out (by decide)) (fun _ hk => hk.2) (.slice Ao19 t438.length co19)) (fun _ hk => hk.2) (.slice Ao18 t441.length co18)) (fun _ hk => hk.2) (.slice Ao17 t444.length co17)) (fun _ hk => hk.2) (.slice Ao16 t447.length co16)) (fun _ hk => hk.2) (.slice Ao15 t450.length co15)) (fun _ hk => trivial), by (with_reducible repeat (first | apply Kd.R_alloc | apply Kd.R_drewN | apply Kd.R_drew)); exact Kd.R_mono (Kd.R_far (p := ⟨gb437, 4, none⟩) (Kd.R_far (p := ⟨gb437, 3, none⟩) (Kd.R_far (p := ⟨gb437, 2, none⟩) (Kd.R_far (p := ⟨gb437, 1, none⟩) (Kd.R_far (p := ⟨gb437, 0, none⟩) (Kd.R_types HO443.out BK437.out (by decide)) (fun _ hk => hk.2) (.slice Ao19 t438.length co19)) (fun _ hk => hk.2) (.slice Ao18 t441.length co18)) (fun _ hk => hk.2) (.slice Ao17 t444.length co17)) (fun _ hk => hk.2) (.slice Ao16 t447.length co16)) (fun _ hk => hk.2) (.slice Ao15 t450.length co15)) (fun _ hk => trivial), by (with_reducible repeat (first | apply Kd.R_alloc | apply Kd.R_drewN | apply Kd.R_drew)); exact Kd.R_mono (Kd.R_far (p := ⟨gb437, 4, none⟩) (Kd.R_far (p := ⟨gb437, 3, none⟩) (Kd.R_far (p := ⟨gb437, 2, none⟩) (Kd.R_far (p := ⟨gb437, 1, none⟩) (Kd.R_far (p := ⟨gb437, 0, none⟩) (Kd.R_types HO446.out BK437.out (by decide)) (fun _ hk => hk.2) (.slice Ao19 t438.length co19)) (fun _ hk => hk.2) (.slice Ao18 t441.length co18)) (fun _ hk => hk.2) (.slice Ao17 t444.length co17)) (fun _ hk => hk.2) (.slice Ao16 t447.length co16)) (fun _ hk => hk.2) (.slice Ao15 t450.length co15)) (fun _ hk => trivial), by (with_reducible repeat (first | apply Kd.R_alloc | apply Kd.R_drewN | apply Kd.R_drew)); exact Kd.R_mono (Kd.R_far (p := ⟨gb437, 4, none⟩) (Kd.R_far (p := ⟨gb437, 3, none⟩) (Kd.R_far (p := ⟨gb437, 2, none⟩) (Kd.R_far (p := ⟨gb437, 1, none⟩) (Kd.R_far (p := ⟨gb437, 0, none⟩) (Kd.R_types HO449.out BK437.out (by decide)) (fun _ hk => hk.2) (.slice Ao19 t438.length co19)) (fun _ hk => hk.2) (.slice Ao18 t441.length co18)) (fun _ hk => hk.2) (.slice Ao17 t444.length co17)) (fun _ hk => hk.2) (.slice Ao16 t447.length co16)) (fun _ hk => hk.2) (.slice Ao15 t450.length co15)) (fun _ hk => trivial), by (with_reducible repeat (first | apply Kd.R_alloc | apply Kd.R_drewN | apply Kd.R_drew)); exact Kd.R_mono (Kd.R_far (p := ⟨gb437, 4, none⟩) (Kd.R_far (p := ⟨gb437, 3, none⟩) (Kd.R_far (p := ⟨gb437, 2, none⟩) (Kd.R_far (p := ⟨gb437, 1, none⟩) (Kd.R_far (p := ⟨gb437, 0, none⟩) (Kd.R_types HO452.out BK437.out (by decide)) (fun _ hk => hk.2) (.slice Ao19 t438.length co19)) (fun _ hk => hk.2) (.slice Ao18 t441.length co18)) (fun _ hk => hk.2) (.slice Ao17 t444.length co17)) (fun _ hk => hk.2) (.slice Ao16 t447.length co16)) (fun _ hk => hk.2) (.slice Ao15 t450.length co15)) (fun _ hk => trivial), zt18⟩

/-! ### impl_Trim: function 18 (a contract of mine) -/
def impl_Trim.enc (x : S73) : List Value := [.string x.f0, .string x.f1, .string x.f2]
theorem impl_Trim.one (x : S73) : ∀ u ∈ impl_Trim.enc x, u.oneCell' = true := by
 intro u hu
 simp only [impl_Trim.enc, List.mem_cons, List.not_mem_nil, or_false] at hu
 rcases hu with rfl | rfl | rfl <;> rfl
theorem impl_Trim.take_flat (l : List S73) (i : Nat) (h : i ≤ l.length) : (l.flatMap impl_Trim.enc).take (i * 3) = (l.take i).flatMap impl_Trim.enc := by
 conv => lhs; rw [← List.take_append_drop i l, List.flatMap_append]
 exact List.take_left' (by rw [Ytopicidanlienaa.RowL.flat_len (sz := 3) (fun _ => rfl), List.length_take, Nat.min_eq_left h])
theorem impl_Trim.drop_flat (l : List S73) (i : Nat) (h : i ≤ l.length) : (l.flatMap impl_Trim.enc).drop (i * 3) = (l.drop i).flatMap impl_Trim.enc := by
 conv => lhs; rw [← List.take_append_drop i l, List.flatMap_append]
 exact List.drop_left' (by rw [Ytopicidanlienaa.RowL.flat_len (sz := 3) (fun _ => rfl), List.length_take, Nat.min_eq_left h])
theorem impl_Trim.set_flat (l : List S73) (i : Nat) (x : S73) (h : i < l.length) : (l.set i x).flatMap impl_Trim.enc = (l.flatMap impl_Trim.enc).take (i * 3) ++ (impl_Trim.enc x ++ (l.flatMap impl_Trim.enc).drop (i * 3 + 3)) := by
 rw [impl_Trim.take_flat l i (by omega), show i * 3 + 3 = (i + 1) * 3 by omega, impl_Trim.drop_flat l (i + 1) (by omega), List.set_eq_take_append_cons_drop, if_pos h, List.flatMap_append, List.flatMap_cons]
theorem impl_Trim.at_flat (l : List S73) (j t : Nat) (h : j < l.length) (ht : t < 3) : (l.flatMap impl_Trim.enc)[j * 3 + t]? = (impl_Trim.enc l[j])[t]? := by
 rw [← List.getElem?_drop, impl_Trim.drop_flat l j (by omega), List.drop_eq_getElem_cons h, List.flatMap_cons, List.getElem?_append_left ht]
theorem impl_Trim.lay_take (c e : List Value) (o k L : Nat) (hk : e.length = k) (h : o + k ≤ L) (hL : L ≤ c.length) : (c.take o ++ (e ++ c.drop (o + k))).take L = (c.take L).take o ++ (e ++ (c.take L).drop (o + k)) := by
 obtain ⟨A, B, rfl, hA⟩ : ∃ A B, c = A ++ B ∧ A.length = L := ⟨c.take L, c.drop L, (List.take_append_drop L c).symm, by rw [List.length_take]; omega⟩
 rw [List.take_append_of_le_length (l₁ := A) (l₂ := B) (i := o) (by omega), List.drop_append_of_le_length (l₁ := A) (l₂ := B) (i := o + k) (by omega), ← hA, List.take_left]
 rw [show A.take o ++ (e ++ (A.drop (o + k) ++ B)) = (A.take o ++ (e ++ A.drop (o + k))) ++ B from by simp]
 exact List.take_left' (by simp only [List.length_append, List.length_take, List.length_drop]; omega)
theorem impl_Trim.empty (A : Option Addr) (c : Nat) (fv : Value) (w : World) :
  Calls Try.prog 77 #[.slice A 0 c, fv] w fun e w' => e = .returned (.int .i64 (-1)) ∧ w' = w := by
 go_enter Try.func77, Try.ntmps77
 go_wp2
 go_loopg [5, 8] 0 (fun _ _ s8 wr => s8 = .int .i64 0 ∧ wr = w)
 case atStart => exact ⟨rfl, rfl⟩
 case round =>
  obtain ⟨rfl, rfl⟩ := hrel
  go_wp2
  go_ret
  exact ⟨rfl, rfl⟩
theorem impl_Trim.three {W : World} {gb T : Nat} {a b c u v z : Value} (h : W.heap[gb]? = some (.cells #[a, b, c] T (0, 0))) : (((W.setCell ⟨gb, 0, none⟩ u).setCell ⟨gb, 1, none⟩ v).setCell ⟨gb, 2, none⟩ z).heap[gb]? = some (.cells #[u, v, z] T (0, 0)) := by
 simp [World.setCell, Array.getElem?_modify, h]
set_option maxHeartbeats 8000000 in
set_option maxRecDepth 100000 in
theorem impl_Trim.del (F : Nat) (lb : Array Value) (eg : ∀ args w, (callFunc F args).run Try.prog w = .ok (.enter F args) w) (p : S73 → Bool) (P0_ : Nat → Prop) (v : Value) (l : List S73) (w0 w : World) (hB : Below w0.heap.size w0 w) (ho : Kd.R k73 73 w w0.heap.size P0_ v l)
  (hp : ∀ (W : World) (x : S73), Kept w W P0_ → Calls Try.prog F (#[.agg (impl_Trim.enc x).toArray] ++ lb) W fun e w' => e = .returned (.bool (p x)) ∧ Below W.heap.size W w') :
  Calls Try.prog 50 #[v, .func (.func F) #[] lb] w fun e w' => ∃ v' : Value, e = .returned v' ∧ Kd.R k73 73 w' w0.heap.size P0_ v' (l.filter fun x => !p x) ∧ Below w0.heap.size w0 w' ∧ Kept w w' P0_ := by
 haveI : Inhabited S73 := ⟨z73⟩
 by_cases hn : l = []
 ·subst hn
  obtain ⟨A, c, rfl⟩ : ∃ A c, v = .slice A 0 c := by
   obtain ⟨_, inner, h, _⟩ := ho
   rcases h.2 with ⟨rfl, _⟩ | ⟨g, cap, cur, rfl, _⟩
   ·exact ⟨_, _, rfl⟩
   ·exact ⟨_, _, rfl⟩
  have HO := Aside0.mk ho
  have HB := Aside0.mk hB
  clear ho hB hp
  have hcon := impl_Trim.empty A c (.func (.func F) #[] lb) w
  go_enter Try.func50, Try.ntmps50
  go_wp2_with (go_at_call 77; refine hcon.mono ?_; rintro e w' ⟨rfl, rfl⟩)
  go_ret
  exact ⟨_, rfl, HO.out, HB.out, Kept.refl _ _⟩
 ·obtain ⟨g, cap, cur, rfl, hb, hg, hnc, hmx, hs, ht, hok⟩ := Ytopicidanlienaa.RowL.R_open (enc := impl_Trim.enc) (fun w base ok x cs hx => k73_openM hx) ho hn
  have hsz : k73.sz = 3 := rfl
  have hl3 : ∀ x, (impl_Trim.enc x).length = 3 := fun _ => rfl
  rw [hsz] at hs ht
  have hpos := List.length_pos_iff.2 hn
  have hgw : g < w.heap.size := blk_lt hg
  have hmm : l.length ≤ 9223372036854775807 := by unfold maxLen at hmx; omega
  have hcm : cap ≤ 9223372036854775807 := by unfold maxLen at hmx; omega
  have hIF := AnyQ.slices_IndexFunc Try.laysIFI 3 Try.isAgg73 Try.sizeOf73 impl_Trim.enc hl3 p F lb eg g 0 l.length cap l w (fun W x hb => ((hp W x (Kept.of_below hb P0_)).mono fun e w' h => ⟨h.1, hb.trans (h.2.mono hb.size)⟩)) (Nat.le_refl _) (by omega) hgw (fun j hj i v hi => by
   have h3 : i < 3 := by have := (List.getElem?_eq_some_iff.1 hi).1; rwa [hl3] at this
   rw [Ytopicidanlienaa.RowL.cell_of hg, Nat.zero_add]
   have e1 : cur.toList[j * 3 + i]? = (cur.toList.take (l.length * 3))[j * 3 + i]? := by rw [List.getElem?_take, if_pos (by omega)]
   rw [e1, ht, impl_Trim.at_flat l j i hj h3, ← hi, getElem!_pos l j hj])
  change Calls Try.prog 77 _ _ _ at hIF
  rw [List.take_length] at hIF
  have HP := Aside0.mk hp
  have HO := Aside0.mk ho
  have HB := Aside0.mk hB
  clear hp ho hB
  rcases Go.Proofs.idxByFrom_spec (fun _ y => p y) default l 0 with ⟨e1, hall⟩ | ⟨k0, hk0, e1, htt, hall⟩
  ·have e2 : Lib.idxBy (fun _ y => p y) l default = -1 := e1
   rw [e2] at hIF
   have ef : (l.filter fun x => !p x) = l := List.filter_eq_self.2 (fun x hx => by
    obtain ⟨j, hj, rfl⟩ := List.getElem_of_mem hx
    have := hall j hj
    rw [getElem!_pos l j hj] at this
    rw [this]; rfl)
   rw [ef]
   clear hall e1 e2 ef hg ht hs
   go_enter Try.func50, Try.ntmps50
   go_wp2_with (go_at_call 77; refine hIF.mono ?_; rintro e w1 ⟨rfl, hb1⟩; have HB1 := Aside0.mk hb1; clear hb1)
   go_ret
   exact ⟨_, rfl, Kd.R_below HO.out HB1.out, HB.out.trans (HB1.out.mono HB.out.size), Kept.of_below HB1.out _⟩
  ·have e2 : Lib.idxBy (fun _ y => p y) l default = (k0 : Int) := by unfold Lib.idxBy; rw [e1]; simp
   rw [e2] at hIF
   have hne1 : ((k0 : Int) == -1) = false := beq_eq_false_iff_ne.2 (by omega)
   obtain ⟨kp, HK⟩ : ∃ kp : Nat → Bool, Aside0 (kp = fun j => !p l.toArray[j]!) := ⟨_, ⟨rfl⟩⟩
   have hdg : ∀ j, l.toArray[j]! = l[j]! := fun j => by rw [← List.getElem!_toArray]
   have HI0 := Aside0.mk (Go.Lib.KeptInv.start (kp := kp) (d := l.toArray) (k0 := k0) (fun j hj => by rw [HK.out]; show (!p l.toArray[j]!) = true; rw [hdg, hall j hj]; rfl) (by rw [HK.out]; show (!p l.toArray[k0]!) = false; rw [hdg, htt]; rfl))
   have HG0 := Aside0.mk (And.intro hg (And.intro hs ht))
   have HF := Aside0.mk (show (l.filter fun x => !p x) = Go.Lib.keptUpTo kp l.toArray l.toArray.size from by rw [HK.out]; exact (Go.Lib.keptUpTo_filter (fun x => !p x) l.toArray).symm)
   clear hall e1 e2 htt hdg hg hs ht HO
   go_enter Try.func50, Try.ntmps50
   go_wp2_with (go_at_call 77; refine hIF.mono ?_; rintro e w1 ⟨rfl, hb1⟩; have HB1 := Aside0.mk hb1; clear hb1)
   go_loopg [5, 6, 7] l.length (fun gg s5 s6 _ wr => ∃ (i j : Nat) (dk : Array S73) (cu : Array Value), s5 = .int .i64 i ∧ s6 = .int .i64 j ∧ Aside0 (j ≤ l.length ∧ l.length - j ≤ gg) ∧ Aside0 (Go.Lib.KeptInv kp l.toArray j i dk) ∧ Aside0 (wr.heap[g]? = some (.cells cu 73 (0, 0)) ∧ cu.size = cap * 3 ∧ cu.toList.take (l.length * 3) = dk.toList.flatMap impl_Trim.enc) ∧ Aside0 (Kept w wr P0_ ∧ Below w0.heap.size w0 wr))
   case atStart => exact ⟨k0, k0 + 1, l.toArray, cur, rfl, by go_num, ⟨by omega, by omega⟩, HI0, ⟨(HB1.out.block g hgw).trans HG0.out.1, HG0.out.2.1, HG0.out.2.2⟩, ⟨Kept.of_below HB1.out _, HB.out.trans (HB1.out.mono HB.out.size)⟩⟩
   case round =>
    obtain ⟨i, j, dk, cu, rfl, rfl, HJ, HI, HG, HW⟩ := hrel
    clear HB1 hIF
    have hij := HI.out.lt
    have hds : dk.size = l.length := by rw [HI.out.size]; simp
    obtain ⟨hjd, hgg⟩ := HJ.out
    clear HJ
    have hfz : ∀ o, wr.frozen? ⟨g, o, none⟩ = false := fun o => Ytopicidanlienaa.RowL.free_of HG.out.1 o
    by_cases hlt : j < l.length
    ·obtain ⟨x, hx⟩ : ∃ x, x = l[j]! := ⟨_, rfl⟩
     have hxe : l[j] = x := by rw [hx, getElem!_pos l j hlt]
     have hdx : dk.toList[j]'(by simpa [hds] using hlt) = x := by
      have := HI.out.high j (by omega)
      rw [getElem!_pos dk j (by omega)] at this
      rw [Array.getElem_toList, this, hx]; simp
     have hcw : ∀ t v, t < 3 → (impl_Trim.enc x)[t]? = some v → wr.cell? ⟨g, j * 3 + t, none⟩ = some v := fun t v h3 hv => by
      rw [Ytopicidanlienaa.RowL.cell_of HG.out.1]
      have e1 : cu.toList[j * 3 + t]? = (cu.toList.take (l.length * 3))[j * 3 + t]? := by rw [List.getElem?_take, if_pos (by omega)]
      rw [e1, HG.out.2.2, impl_Trim.at_flat dk.toList j t (by simpa [hds] using hlt) h3, hdx]; exact hv
     have x0 : wr.cell? ⟨g, j * 3, none⟩ = some (.string x.f0) := hcw 0 _ (by omega) rfl
     have x1 : wr.cell? ⟨g, j * 3 + 1, none⟩ = some (.string x.f1) := hcw 1 _ (by omega) rfl
     have x2 : wr.cell? ⟨g, j * 3 + 2, none⟩ = some (.string x.f2) := hcw 2 _ (by omega) rfl
     have HX := Aside0.mk hx
     clear hcw hdx hxe hx hfz
     have p0 : (0 : Int) ≤ (j : Int) := by omega
     have p1 : (j : Int) < (l.length : Int) := by omega
     go_upto_region 8 with (first | ((with_reducible refine gate_dst (N := 7) rfl ?_); refine box_event ?hg (N := 7) ?hd (cs := #[.string (⟨#[]⟩ : ByteArray), .string (⟨#[]⟩ : ByteArray), .string (⟨#[]⟩ : ByteArray)]) (t := 73) ?hr ?_; (case hd => rfl); (case hg => rfl); (case hr => first | (go_simp; done) | (go_simp; rfl)); intro gb hge wb hbox hb; have HGN := Aside0.mk (show g ≠ gb by rw [hge]; exact Nat.ne_of_lt (blk_lt HG.out.1)); have HGE := Aside0.mk (show wr.heap.size ≤ gb by rw [hge]; exact Nat.le_refl _); have BG1 := Aside0.mk hbox; have HB1 := Aside0.mk hb; have hz0b := (blk_cell hbox 0).trans rfl; have hz1b := (blk_cell hbox 1).trans rfl; have hz2b := (blk_cell hbox 2).trans rfl; have hf0b := blk_frozen hbox 0; have hf1b := blk_frozen hbox 1; have hf2b := blk_frozen hbox 2; clear hb hbox hge))
     have HGX := Aside0.mk (show (((wb.setCell ⟨gb, 0, none⟩ (.string x.f0)).setCell ⟨gb, 1, none⟩ (.string x.f1)).setCell ⟨gb, 2, none⟩ (.string x.f2)).heap[g]? = some (.cells cu 73 (0, 0)) from blk_far (p := ⟨gb, 2, none⟩) (blk_far (p := ⟨gb, 1, none⟩) (blk_far (p := ⟨gb, 0, none⟩) (blk_below HG.out.1 HB1.out) HGN.out (.string x.f0)) HGN.out (.string x.f1)) HGN.out (.string x.f2))
     have BGX := Aside0.mk (impl_Trim.three (u := .string x.f0) (v := .string x.f1) (z := .string x.f2) BG1.out)
     have HKX := Aside0.mk (show Kept w (((wb.setCell ⟨gb, 0, none⟩ (.string x.f0)).setCell ⟨gb, 1, none⟩ (.string x.f1)).setCell ⟨gb, 2, none⟩ (.string x.f2)) P0_ from Kept.setCell (p := ⟨gb, 2, none⟩) (Kept.setCell (p := ⟨gb, 1, none⟩) (Kept.setCell (p := ⟨gb, 0, none⟩) (Kept.below HW.out.1 HB1.out) (.inr (Nat.le_trans HW.out.1.1 HGE.out)) _) (.inr (Nat.le_trans HW.out.1.1 HGE.out)) _) (.inr (Nat.le_trans HW.out.1.1 HGE.out)) _)
     have HBX := Aside0.mk (below_set (j := 2) (v := .string x.f2) (below_set (j := 1) (v := .string x.f1) (below_set (j := 0) (v := .string x.f0) (below_step HW.out.2 HB1.out) (Nat.le_trans HW.out.2.size HGE.out)) (Nat.le_trans HW.out.2.size HGE.out)) (Nat.le_trans HW.out.2.size HGE.out))
     have HC := Aside0.mk HG.out.2
     clear HW HG BG1 HB1 hz0b hz1b hz2b hf0b hf1b hf2b x0 x1 x2
     generalize (((wb.setCell ⟨gb, 0, none⟩ (.string x.f0)).setCell ⟨gb, 1, none⟩ (.string x.f1)).setCell ⟨gb, 2, none⟩ (.string x.f2)) = wx at HGX BGX HKX HBX ⊢
     have y0 : wx.cell? ⟨gb, 0, none⟩ = some (.string x.f0) := (blk_cell BGX.out 0).trans rfl
     have y1 : wx.cell? ⟨gb, 1, none⟩ = some (.string x.f1) := (blk_cell BGX.out 1).trans rfl
     have y2 : wx.cell? ⟨gb, 2, none⟩ = some (.string x.f2) := (blk_cell BGX.out 2).trans rfl
     have hcall := HP.out wx x HKX.out
     obtain ⟨b, hbx⟩ : ∃ b, b = p x := ⟨_, rfl⟩
     rw [← hbx] at hcall
     have HBB := Aside0.mk hbx
     have HCALL := Aside0.mk hcall
     clear hbx hcall
     have hcs := HC.out.1
     cases b with
     | false =>
      go_wp2_with fail
      (go_at_fn F; refine HCALL.out.mono ?_; rintro e wq ⟨rfl, hb⟩; have HGQ := Aside0.mk (blk_below HGX.out hb); have BGQ := Aside0.mk (blk_below BGX.out hb); have HKQ := Aside0.mk (Kept.below HKX.out hb); have HBQ := Aside0.mk (below_step HBX.out hb); have z0 : wq.cell? ⟨gb, 0, none⟩ = some (.string x.f0) := (blk_cell BGQ.out 0).trans rfl; have z1 : wq.cell? ⟨gb, 1, none⟩ = some (.string x.f1) := (blk_cell BGQ.out 1).trans rfl; have z2 : wq.cell? ⟨gb, 2, none⟩ = some (.string x.f2) := (blk_cell BGQ.out 2).trans rfl; have f0 : wq.frozen? ⟨g, i * 3, none⟩ = false := Ytopicidanlienaa.RowL.free_of HGQ.out _; have f1 : wq.frozen? ⟨g, i * 3 + 1, none⟩ = false := Ytopicidanlienaa.RowL.free_of HGQ.out _; have f2 : wq.frozen? ⟨g, i * 3 + 2, none⟩ = false := Ytopicidanlienaa.RowL.free_of HGQ.out _; obtain ⟨o0, c0⟩ : ∃ v, wq.cell? ⟨g, i * 3, none⟩ = some v := ⟨_, (Ytopicidanlienaa.RowL.cell_of HGQ.out (i * 3)).trans (List.getElem?_eq_getElem (by rw [Array.length_toList]; omega))⟩; obtain ⟨o1, c1⟩ : ∃ v, wq.cell? ⟨g, i * 3 + 1, none⟩ = some v := ⟨_, (Ytopicidanlienaa.RowL.cell_of HGQ.out (i * 3 + 1)).trans (List.getElem?_eq_getElem (by rw [Array.length_toList]; omega))⟩; obtain ⟨o2, c2⟩ : ∃ v, wq.cell? ⟨g, i * 3 + 2, none⟩ = some v := ⟨_, (Ytopicidanlienaa.RowL.cell_of HGQ.out (i * 3 + 2)).trans (List.getElem?_eq_getElem (by rw [Array.length_toList]; omega))⟩; clear hb hcs HGX BGX HKX HBX y0 y1 y2)
      go_wp2
      go_roundg (l.length - (j + 1))
      case measure => omega
      case rel =>
       have hd : l.toArray[j]! = x := by rw [HX.out]; simp
       refine ⟨i + 1, j + 1, dk.setIfInBounds i x, Ytopicidanlienaa.RowL.lay cu (i * 3) (impl_Trim.enc x), by go_num, by go_num, ⟨by omega, Nat.le_refl _⟩, ⟨?_⟩, ⟨Ytopicidanlienaa.RowL.heap_setCells g _ (impl_Trim.enc x) (i * 3) wq cu HGQ.out, ?_, ?_⟩, ⟨Kept.setCell (p := ⟨g, i * 3 + 2, none⟩) (Kept.setCell (p := ⟨g, i * 3 + 1, none⟩) (Kept.setCell (p := ⟨g, i * 3, none⟩) HKQ.out (.inl hok) _) (.inl hok) _) (.inl hok) _, below_set (j := i * 3 + 2) (below_set (j := i * 3 + 1) (below_set (j := i * 3) HBQ.out hb) hb) hb⟩⟩
       ·have := HI.out.keep (by simpa using hlt) (by rw [HK.out]; show (!p l.toArray[j]!) = true; rw [hd, ← HBB.out]; rfl)
        rwa [hd] at this
       ·rw [Ytopicidanlienaa.RowL.lay_size]; exact HC.out.1
       ·have hcs := HC.out.1
        rw [Ytopicidanlienaa.RowL.lay_list _ _ _ (by rw [hl3]; omega), Array.toList_setIfInBounds, impl_Trim.set_flat _ _ _ (by rw [Array.length_toList]; omega), ← HC.out.2, hl3]
        exact impl_Trim.lay_take cu.toList (impl_Trim.enc x) (i * 3) 3 (l.length * 3) (hl3 x) (by omega) (by have h2 : cu.toList.length = cap * 3 := hcs; omega)
     | true =>
      go_wp2_with (first | (go_at_fn F; refine HCALL.out.mono ?_; rintro e wq ⟨rfl, hb⟩; have HGQ := Aside0.mk (blk_below HGX.out hb); have HKQ := Aside0.mk (Kept.below HKX.out hb); have HBQ := Aside0.mk (below_step HBX.out hb); clear hb hcs HGX BGX HKX HBX y0 y1 y2))
      go_roundg (l.length - (j + 1))
      case measure => omega
      case rel =>
       have hd : l.toArray[j]! = x := by rw [HX.out]; simp
       exact ⟨i, j + 1, dk, cu, rfl, by go_num, ⟨by omega, Nat.le_refl _⟩, ⟨HI.out.skip (by rw [HK.out]; show (!p l.toArray[j]!) = false; rw [hd, ← HBB.out]; rfl)⟩, ⟨HGQ.out, HC.out⟩, ⟨HKQ.out, HBQ.out⟩⟩
    ·obtain rfl : j = l.length := by omega
     have hltz : ¬ (l.length : Int) < (l.length : Int) := by omega
     have hcs := HG.out.2.1
     have hcl : ∀ ty, (Builtin.clear_ #[31] ty #[.slice (some ⟨g, i * 3, none⟩) (l.length - i) (cap - i)]).run Try.prog wr = .ok (.tuple #[]) (wr.setCells g (i * 3) (Builtin.zeroCells (Value.cells (.agg #[.string ⟨#[]⟩, .string ⟨#[]⟩, .string ⟨#[]⟩])) (l.length - i)).toList) :=
      fun ty => Ytopicidanlienaa.DelL.clear_run wr _ _ ty (.agg #[.string ⟨#[]⟩, .string ⟨#[]⟩, .string ⟨#[]⟩]) Try.underlying31 Try.zeroValue73 (by intro u hu; simp [Value.cells] at hu; subst hu; rfl) g _ _ _ (by omega)
       (fun j hj => by
        have hj2 : j < (l.length - i) * 3 := hj
        rw [Ytopicidanlienaa.RowL.cell_of HG.out.1, List.getElem?_eq_getElem (by rw [Array.length_toList]; omega)]; rfl)
       (fun j hj => hfz _)
     obtain ⟨zs, hzs⟩ : ∃ zs, zs = (Builtin.zeroCells (Value.cells (.agg #[.string ⟨#[]⟩, .string ⟨#[]⟩, .string ⟨#[]⟩])) (l.length - i)).toList := ⟨_, rfl⟩
     have hzl : zs.length = (l.length - i) * 3 := by rw [hzs]; simp [Builtin.zeroCells, Value.cells]
     rw [← hzs] at hcl
     obtain ⟨W2, hW2⟩ : ∃ W2, W2 = wr.setCells g (i * 3) zs := ⟨_, rfl⟩
     rw [← hW2] at hcl
     have hil : (Go.Lib.keptUpTo kp l.toArray l.toArray.size).length = i := HI.out.len
     have HRES := Aside0.mk (show Kd.R k73 73 W2 w0.heap.size P0_ (.slice (some ⟨g, 0, none⟩) i cap) (l.filter fun x => !p x) from by
      have hfl : (l.filter fun x => !p x).length = i := by rw [HF.out]; exact hil
      have := Ytopicidanlienaa.RowL.R_shut (d := k73) (enc := impl_Trim.enc) (l := l.filter fun x => !p x) (base := w0.heap.size) (ok := P0_) (fun w base ok x => k73_mkM w base ok x) hl3 hb (w := W2) (by rw [hW2]; exact Ytopicidanlienaa.RowL.heap_setCells g _ zs (i * 3) wr cu HG.out.1) (by rw [hfl]; omega) hmx (by rw [Ytopicidanlienaa.RowL.lay_size]; exact hcs)
       (by
        rw [hfl, hsz, Ytopicidanlienaa.RowL.lay_list _ _ _ (by rw [hzl]; omega), List.take_left' (by rw [List.length_take, Array.length_toList]; omega)]
        have e1 : cu.toList.take (i * 3) = (cu.toList.take (l.length * 3)).take (i * 3) := by rw [List.take_take, Nat.min_eq_left (by omega)]
        rw [e1, HG.out.2.2, impl_Trim.take_flat _ _ (by rw [Array.length_toList]; omega), HF.out]
        congr 1
        apply List.ext_getElem?
        intro q
        by_cases hq : q < i
        ·rw [List.getElem?_take, if_pos hq]
         have := HI.out.low q hq
         rw [show l.toArray.size = l.length from by simp, this, getElem!_pos dk q (by omega), Array.getElem?_toList, Array.getElem?_eq_getElem]
        ·rw [List.getElem?_eq_none (by rw [List.length_take]; omega), List.getElem?_eq_none (by rw [hil]; omega)])
       hok
      rw [hfl] at this
      exact this)
     have HBEL := Aside0.mk (show Below w0.heap.size w0 W2 from by rw [hW2]; exact Ytopicidanlienaa.RowL.below_cells hb _ _ _ HW.out.2)
     have HKEPT := Aside0.mk (show Kept w W2 P0_ from by rw [hW2]; exact Ytopicidanlienaa.RowL.kept_cells (S := P0_) (.inl hok) _ _ _ HW.out.1)
     clear hzs hzl hW2 hil hcs hfz HG HW HI hds
     have hi6 : ¬ (cap = i) := by omega
     have hi7 : i ≤ cap := by omega
     have hi8 : i ≤ l.length := by omega
     go_wp2
     go_ret
     exact ⟨_, rfl, HRES.out, HBEL.out, HKEPT.out⟩
def impl_Trim.hasB (u : List ByteArray) (s : ByteArray) : Bool := u.any fun y => s.toList == y.toList
def impl_Trim.f (k : Nat) (l0_0 : List (ByteArray)) (l0_1 : List (S73)) (l0_2 : List (S55)) (l0_3 : List (S53)) (l0_4 : List (S50)) : Option (List (ByteArray) × List (S73) × List (S55) × List (S53) × List (S50)) :=
 (impl_cloneMod.f l0_0 l0_1 l0_2 l0_3 l0_4).bind fun t => (impl_Unused.f k l0_0 l0_1 l0_2 l0_3 l0_4).bind fun u => if u.length ≤ 1048576 then some (t.1, (t.2.1.filter fun x => !impl_Trim.hasB u x.f2), t.2.2) else none
theorem impl_Trim.mono : ∀ a0 a1 a2 a3 a4 k, LeO (impl_Trim.f k a0 a1 a2 a3 a4) (impl_Trim.f (k + 1) a0 a1 a2 a3 a4) := by
 intro a0 a1 a2 a3 a4 k
 unfold impl_Trim.f
 exact LeO.bind (LeO.refl _) (fun _ => LeO.bind (impl_Unused.mono _ _ _ _ _ _) (fun _ => LeO.refl _))
theorem impl_Trim.has_loop (b : List ByteArray) (hl : b.length ≤ 1048576) (x : ByteArray) (d : Nat) : ∀ i : Nat, i + d = b.length → ∃ k j, slices_Index_string_string.l0 k b x (b.length : Int) i = some j ∧ decide (j ≥ 0) = impl_Trim.hasB (b.drop i) x := by
 induction d with
 | zero =>
  intro i hi
  rw [List.drop_eq_nil_of_le (by omega)]
  refine ⟨1, -1, ?_, rfl⟩
  have c : ¬ (i : Int) < (b.length : Int) := by omega
  simp only [slices_Index_string_string.l0, if_neg c]
 | succ d ih =>
  intro i hi
  have hn : wrap64 ((i : Int) + 1) = ((i + 1 : Nat) : Int) := by unfold wrap64; omega
  have c0 : (i : Int) < (b.length : Int) := by omega
  have c1 : 0 ≤ (i : Int) := by omega
  have e0 : b.drop i = rdOf ByteArray.empty b (i : Int) :: b.drop (i + 1) := by
   rw [List.drop_eq_getElem_cons (by omega)]
   congr 1
   show _ = b.getD _ _
   rw [Int.toNat_natCast, List.getD_eq_getElem?_getD, List.getElem?_eq_getElem (by omega)]; rfl
  rw [e0, show ∀ (y : ByteArray) (r : List ByteArray), impl_Trim.hasB (y :: r) x = ((x.toList == y.toList) || impl_Trim.hasB r x) from fun _ _ => rfl]
  by_cases h : x.toList = (rdOf ByteArray.empty b (i : Int)).toList
  ·refine ⟨1, i, ?_, ?_⟩
   ·simp only [slices_Index_string_string.l0, if_pos c0, if_pos c1, if_pos h]
   ·rw [beq_iff_eq.2 h, Bool.true_or]; exact decide_eq_true c1
  ·obtain ⟨k, j, e, hj⟩ := ih (i + 1) (by omega)
   refine ⟨k + 1, j, ?_, ?_⟩
   ·simp only [slices_Index_string_string.l0, if_pos c0, if_pos c1, if_neg h, hn]; exact e
   ·rw [hj, beq_eq_false_iff_ne.2 h, Bool.false_or]
theorem impl_Trim.has (b : List ByteArray) (hl : b.length ≤ 1048576) (x : ByteArray) : ∃ k, slices_Contains_string_string.f k b x = some (impl_Trim.hasB b x) := by
 obtain ⟨k, j, e, hj⟩ := impl_Trim.has_loop b hl x b.length 0 (by omega)
 rw [List.drop_zero] at hj
 refine ⟨k, ?_⟩
 unfold slices_Contains_string_string.f slices_Index_string_string.f
 have e2 : slices_Index_string_string.l0 k b x (b.length : Int) 0 = some j := e
 rw [e2, Option.bind_some, hj]
theorem impl_Trim.clo (B : Nat) (A : Option Addr) (c : Nat) (u : List ByteArray) (hl : u.length ≤ 1048576) (hc : u.length ≤ c) (x : S73) (W : World) (hcell : W.cell? ⟨B, 0, none⟩ = some (.slice A u.length c)) (hC : Kd.C Kd.string W A u.length u) :
  Calls Try.prog 51 (#[.agg (impl_Trim.enc x).toArray] ++ #[.pointer (some ⟨B, 0, none⟩)]) W fun e w' => e = .returned (.bool (impl_Trim.hasB u x.f2)) ∧ Below W.heap.size W w' := by
 have hBW : B < W.heap.size := World.block_lt_of_cell? W _ hcell
 have hne : B ≠ W.heap.size := by omega
 have HCC := Aside0.mk hC
 obtain ⟨kk, hkk⟩ := impl_Trim.has u hl x.f2
 have HK := Aside0.mk hkk
 clear hC hkk
 show Calls Try.prog 51 #[.agg #[.string x.f0, .string x.f1, .string x.f2], .pointer (some ⟨B, 0, none⟩)] W _
 go_enter Try.func51, Try.ntmps51
 go_wp2_with (first | (go_at_call 47; refine (slices_Contains_string_string.calls kk A c u x.f2 _ _ (Kd.C_below HCC.out (below_alloc (Below.refl _ _) _)) hc HK.out).mono ?_; rintro e wq ⟨rfl, hb⟩; have HB := Aside0.mk hb; clear hb))
 go_ret
 obtain ⟨n, hn⟩ := HB.out
 exact ⟨rfl, by rw [hn]; exact pw_below_drewN (below_alloc (Below.refl _ _) _) _⟩
theorem impl_Trim.row_ne {α β : Type} {d : Kd α} {d2 : Kd β} {e e2 : Nat} {w : World} {base base2 : Nat} {ok ok2 : Nat → Prop} {v v2 : Value} {xs : List α} {ys : List β} (hE : d.E = []) (h : d.R e w base ok v xs) (h2 : d2.R e2 w base2 ok2 v2 ys) (hne : e ≠ e2) : d.R e w base (fun k => ¬ some k = v2.ownBlock) v xs :=
 Kd.R_mono (Kd.R_tight2 hE h) (fun k hk h3 => by
  obtain ⟨_, o1⟩ := Kd.R_own h
  obtain ⟨_, o2⟩ := Kd.R_own h2
  obtain ⟨c1, e1⟩ := own_typed o1 k hk.1.symm
  obtain ⟨c2, e2'⟩ := own_typed o2 k h3.symm
  rw [e1] at e2'
  injection e2' with e3
  injection e3 with _ e4
  exact hne e4)
theorem impl_Trim.blk_ne {β : Type} {d2 : Kd β} {e e2 : Nat} {w : World} {base2 : Nat} {ok2 : Nat → Prop} {v2 : Value} {ys : List β} {g : Nat} {cs : Array Value} (h : w.heap[g]? = some (.cells cs e (0, 0))) (h2 : d2.R e2 w base2 ok2 v2 ys) (hne : e ≠ e2) : ¬ some g = v2.ownBlock := fun h3 => by
 obtain ⟨_, o2⟩ := Kd.R_own h2
 obtain ⟨c2, e2'⟩ := own_typed o2 g h3.symm
 rw [h] at e2'
 injection e2' with e3
 injection e3 with _ e4
 exact hne e4
theorem impl_Trim.five {W : World} {gb T : Nat} {a b c d e u v z y x : Value} (h : W.heap[gb]? = some (.cells #[a, b, c, d, e] T (0, 0))) : (((((W.setCell ⟨gb, 0, none⟩ u).setCell ⟨gb, 1, none⟩ v).setCell ⟨gb, 2, none⟩ z).setCell ⟨gb, 3, none⟩ y).setCell ⟨gb, 4, none⟩ x).heap[gb]? = some (.cells #[u, v, z, y, x] T (0, 0)) := by
 simp [World.setCell, Array.getElem?_modify, h]
theorem impl_Trim.setOne {W : World} {gb T : Nat} {cs : Array Value} (i : Nat) (u : Value) (h : W.heap[gb]? = some (.cells cs T (0, 0))) : (W.setCell ⟨gb, i, none⟩ u).heap[gb]? = some (.cells (cs.setIfInBounds i u) T (0, 0)) := by
 simp [World.setCell, Array.getElem?_modify, h]
set_option maxHeartbeats 8000000 in
set_option maxRecDepth 100000 in
theorem impl_Trim.calls (k : Nat) (A0_0 : Option Addr) (c0_0 : Nat) (l0_0 : List (ByteArray)) (A0_1 : Option Addr) (c0_1 : Nat) (l0_1 : List (S73)) (A0_2 : Option Addr) (c0_2 : Nat) (l0_2 : List (S55)) (A0_3 : Option Addr) (c0_3 : Nat) (l0_3 : List (S53)) (A0_4 : Option Addr) (c0_4 : Nat) (l0_4 : List (S50)) (r1 : List (ByteArray)) (r2 : List (S73)) (r3 : List (S55)) (r4 : List (S53)) (r5 : List (S50)) (w : World) (hr0_0 : Kd.C Kd.string w A0_0 l0_0.length l0_0) (hc0_0 : l0_0.length ≤ c0_0) (hr0_1 : Kd.C k73 w A0_1 l0_1.length l0_1) (hc0_1 : l0_1.length ≤ c0_1) (hr0_2 : Kd.C k55 w A0_2 l0_2.length l0_2) (hc0_2 : l0_2.length ≤ c0_2) (hr0_3 : Kd.C k53 w A0_3 l0_3.length l0_3) (hc0_3 : l0_3.length ≤ c0_3) (hr0_4 : Kd.C k50 w A0_4 l0_4.length l0_4) (hc0_4 : l0_4.length ≤ c0_4) (h : impl_Trim.f k l0_0 l0_1 l0_2 l0_3 l0_4 = some (r1, r2, r3, r4, r5)) :
  Calls Try.prog 18 #[.agg #[.slice A0_0 l0_0.length c0_0, .slice A0_1 l0_1.length c0_1, .slice A0_2 l0_2.length c0_2, .slice A0_3 l0_3.length c0_3, .slice A0_4 l0_4.length c0_4]] w fun e w' => ∃ v0_ v1_ v2_ v3_ v4_ : Value, e = .returned (.agg #[v0_, v1_, v2_, v3_, v4_]) ∧ Kd.R Kd.string 9 w' w.heap.size (fun _ => True) v0_ r1 ∧ Kd.R k73 73 w' w.heap.size (fun _ => True) v1_ r2 ∧ Kd.R k55 55 w' w.heap.size (fun _ => True) v2_ r3 ∧ Kd.R k53 53 w' w.heap.size (fun _ => True) v3_ r4 ∧ Kd.R k50 50 w' w.heap.size (fun _ => True) v4_ r5 ∧ Below w.heap.size w w' := by
 unfold impl_Trim.f at h
 rcases e1 : impl_cloneMod.f l0_0 l0_1 l0_2 l0_3 l0_4 with _ | ⟨t1, t2, t3, t4, t5⟩
 ·rw [e1] at h; cases h
 rw [e1, Option.bind_some] at h
 rcases e2 : impl_Unused.f k l0_0 l0_1 l0_2 l0_3 l0_4 with _ | u
 ·rw [e2] at h; cases h
 rw [e2, Option.bind_some] at h
 by_cases hul : u.length ≤ 1048576
 case neg => rw [if_neg hul] at h; cases h
 rw [if_pos hul] at h
 simp only [Option.some.injEq, Prod.mk.injEq] at h
 obtain ⟨rfl, htf, rfl, rfl, rfl⟩ := h
 have HTF := Aside0.mk htf.symm
 clear htf
 have HR0 := Aside0.mk hr0_0
 have HC0 := Aside0.mk hc0_0
 have HR1 := Aside0.mk hr0_1
 have HC1 := Aside0.mk hc0_1
 have HR2 := Aside0.mk hr0_2
 have HC2 := Aside0.mk hc0_2
 have HR3 := Aside0.mk hr0_3
 have HC3 := Aside0.mk hc0_3
 have HR4 := Aside0.mk hr0_4
 have HC4 := Aside0.mk hc0_4
 clear hr0_0 hc0_0 hr0_1 hc0_1 hr0_2 hc0_2 hr0_3 hc0_3 hr0_4 hc0_4
 have HE1 := Aside0.mk e1
 have HE2 := Aside0.mk e2
 clear e1 e2
 go_enter Try.func18, Try.ntmps18
 go_upto_region 1 with (first
  | ((with_reducible refine gate_dst (N := 1) rfl ?_); refine box_event ?hg (N := 1) ?hd (cs := #[.slice A0_0 l0_0.length c0_0, .slice A0_1 l0_1.length c0_1, .slice A0_2 l0_2.length c0_2, .slice A0_3 l0_3.length c0_3, .slice A0_4 l0_4.length c0_4]) (t := 36) ?hr ?_; (case hd => rfl); (case hg => rfl); (case hr => first | (go_simp; done) | (go_simp; rfl)); intro b1 hg1 w1 hbox hb; have HG1 := Aside0.mk hg1; have HB1 := Aside0.mk hb; have BX1 := Aside0.mk hbox; clear hb hbox hg1)
  | ((with_reducible refine gate_dst (N := 2) rfl ?_); refine box_event ?hg (N := 2) ?hd (cs := #[.slice none 0 0, .slice none 0 0, .slice none 0 0, .slice none 0 0, .slice none 0 0]) (t := 36) ?hr ?_; (case hd => rfl); (case hg => rfl); (case hr => first | (go_simp; done) | (go_simp; rfl)); intro b2 hg2 w2 hbox hb; have HGE2 := Aside0.mk (show w.heap.size ≤ b2 by rw [hg2]; exact below_size HB1.out); have HB2 := Aside0.mk (below_step HB1.out hb); have BX2 := Aside0.mk hbox; have BX1' := Aside0.mk (blk_below BX1.out hb); clear hb hbox hg2))
 have y0 := (blk_cell BX1'.out 0).trans rfl
 have y1 := (blk_cell BX1'.out 1).trans rfl
 have y2 := (blk_cell BX1'.out 2).trans rfl
 have y3 := (blk_cell BX1'.out 3).trans rfl
 have y4 := (blk_cell BX1'.out 4).trans rfl
 go_upto_region 2 with (first
  | (go_at_call 49; refine (impl_cloneMod.calls A0_0 c0_0 l0_0 A0_1 c0_1 l0_1 A0_2 c0_2 l0_2 A0_3 c0_3 l0_3 A0_4 c0_4 l0_4 t1 t2 t3 t4 t5 _ (Kd.C_below HR0.out HB2.out) HC0.out (Kd.C_below HR1.out HB2.out) HC1.out (Kd.C_below HR2.out HB2.out) HC2.out (Kd.C_below HR3.out HB2.out) HC3.out (Kd.C_below HR4.out HB2.out) HC4.out HE1.out).mono ?_; rintro e w3 ⟨v0, v1, v2, v3, v4, rfl, o0, o1, o2, o3, o4, hb⟩; obtain ⟨Av0, cv0, rfl, hcv0, _⟩ := Kd.R_reads o0; obtain ⟨Av1, cv1, rfl, hcv1, _⟩ := Kd.R_reads o1; obtain ⟨Av2, cv2, rfl, hcv2, _⟩ := Kd.R_reads o2; obtain ⟨Av3, cv3, rfl, hcv3, _⟩ := Kd.R_reads o3; obtain ⟨Av4, cv4, rfl, hcv4, _⟩ := Kd.R_reads o4; have HO0 := Aside0.mk (Kd.R_lower o0 (below_size HB2.out)); have HO1 := Aside0.mk (Kd.R_lower o1 (below_size HB2.out)); have HO2 := Aside0.mk (Kd.R_lower o2 (below_size HB2.out)); have HO3 := Aside0.mk (Kd.R_lower o3 (below_size HB2.out)); have HO4 := Aside0.mk (Kd.R_lower o4 (below_size HB2.out)); have HB3 := Aside0.mk (below_step HB2.out hb); have BX1'' := Aside0.mk (blk_below BX1'.out hb); have BX2'' := Aside0.mk (blk_below BX2.out hb); clear hb o0 o1 o2 o3 o4 y0 y1 y2 y3 y4)
  | ((with_reducible refine gate_dst (N := 3) rfl ?_); refine box_event ?hg (N := 3) ?hd (cs := #[.slice none 0 0, .slice none 0 0, .slice none 0 0, .slice none 0 0, .slice none 0 0]) (t := 36) ?hr ?_; (case hd => rfl); (case hg => rfl); (case hr => first | (go_simp; done) | (go_simp; rfl)); intro b3 hg3 w4 hbox hb; have HG31 := Aside0.mk (show b1 ≠ b3 by rw [hg3]; exact Nat.ne_of_lt (blk_lt BX1''.out)); have HG32 := Aside0.mk (show b2 ≠ b3 by rw [hg3]; exact Nat.ne_of_lt (blk_lt BX2''.out)); have HG3 := Aside0.mk (show w.heap.size ≤ b3 by rw [hg3]; exact below_size HB3.out); have HB4 := Aside0.mk (below_step HB3.out hb); have BX3 := Aside0.mk hbox; have BX14 := Aside0.mk (blk_below BX1''.out hb); have BX24 := Aside0.mk (blk_below BX2''.out hb); have HQ0 := Aside0.mk (Kd.R_below HO0.out hb); have HQ1 := Aside0.mk (Kd.R_below HO1.out hb); have HQ2 := Aside0.mk (Kd.R_below HO2.out hb); have HQ3 := Aside0.mk (Kd.R_below HO3.out hb); have HQ4 := Aside0.mk (Kd.R_below HO4.out hb); have z0 := (blk_cell hbox 0).trans rfl; have zf0 := blk_frozen hbox 0; have z1 := (blk_cell hbox 1).trans rfl; have zf1 := blk_frozen hbox 1; have z2 := (blk_cell hbox 2).trans rfl; have zf2 := blk_frozen hbox 2; have z3 := (blk_cell hbox 3).trans rfl; have zf3 := blk_frozen hbox 3; have z4 := (blk_cell hbox 4).trans rfl; have zf4 := blk_frozen hbox 4; clear hb hbox hg3))
 have HP0 := Aside0.mk (show Kd.R Kd.string 9 (((((w4.setCell ⟨b3, 0, none⟩ (.slice Av0 t1.length cv0)).setCell ⟨b3, 1, none⟩ (.slice Av1 t2.length cv1)).setCell ⟨b3, 2, none⟩ (.slice Av2 t3.length cv2)).setCell ⟨b3, 3, none⟩ (.slice Av3 t4.length cv3)).setCell ⟨b3, 4, none⟩ (.slice Av4 t5.length cv4)) w.heap.size (fun _ => True) (.slice Av0 t1.length cv0) t1 from Kd.R_mono (Kd.R_far (p := ⟨b3, 4, none⟩) (Kd.R_far (p := ⟨b3, 3, none⟩) (Kd.R_far (p := ⟨b3, 2, none⟩) (Kd.R_far (p := ⟨b3, 1, none⟩) (Kd.R_far (p := ⟨b3, 0, none⟩) (Kd.R_types HQ0.out BX3.out (by decide)) (fun _ hk => hk.2) _) (fun _ hk => hk.2) _) (fun _ hk => hk.2) _) (fun _ hk => hk.2) _) (fun _ hk => hk.2) _) (fun _ _ => trivial))
 have HP1 := Aside0.mk (show Kd.R k73 73 (((((w4.setCell ⟨b3, 0, none⟩ (.slice Av0 t1.length cv0)).setCell ⟨b3, 1, none⟩ (.slice Av1 t2.length cv1)).setCell ⟨b3, 2, none⟩ (.slice Av2 t3.length cv2)).setCell ⟨b3, 3, none⟩ (.slice Av3 t4.length cv3)).setCell ⟨b3, 4, none⟩ (.slice Av4 t5.length cv4)) w.heap.size (fun _ => True) (.slice Av1 t2.length cv1) t2 from Kd.R_mono (Kd.R_far (p := ⟨b3, 4, none⟩) (Kd.R_far (p := ⟨b3, 3, none⟩) (Kd.R_far (p := ⟨b3, 2, none⟩) (Kd.R_far (p := ⟨b3, 1, none⟩) (Kd.R_far (p := ⟨b3, 0, none⟩) (Kd.R_types HQ1.out BX3.out (by decide)) (fun _ hk => hk.2) _) (fun _ hk => hk.2) _) (fun _ hk => hk.2) _) (fun _ hk => hk.2) _) (fun _ hk => hk.2) _) (fun _ _ => trivial))
 have HP2 := Aside0.mk (show Kd.R k55 55 (((((w4.setCell ⟨b3, 0, none⟩ (.slice Av0 t1.length cv0)).setCell ⟨b3, 1, none⟩ (.slice Av1 t2.length cv1)).setCell ⟨b3, 2, none⟩ (.slice Av2 t3.length cv2)).setCell ⟨b3, 3, none⟩ (.slice Av3 t4.length cv3)).setCell ⟨b3, 4, none⟩ (.slice Av4 t5.length cv4)) w.heap.size (fun _ => True) (.slice Av2 t3.length cv2) t3 from Kd.R_mono (Kd.R_far (p := ⟨b3, 4, none⟩) (Kd.R_far (p := ⟨b3, 3, none⟩) (Kd.R_far (p := ⟨b3, 2, none⟩) (Kd.R_far (p := ⟨b3, 1, none⟩) (Kd.R_far (p := ⟨b3, 0, none⟩) (Kd.R_types HQ2.out BX3.out (by decide)) (fun _ hk => hk.2) _) (fun _ hk => hk.2) _) (fun _ hk => hk.2) _) (fun _ hk => hk.2) _) (fun _ hk => hk.2) _) (fun _ _ => trivial))
 have HP3 := Aside0.mk (show Kd.R k53 53 (((((w4.setCell ⟨b3, 0, none⟩ (.slice Av0 t1.length cv0)).setCell ⟨b3, 1, none⟩ (.slice Av1 t2.length cv1)).setCell ⟨b3, 2, none⟩ (.slice Av2 t3.length cv2)).setCell ⟨b3, 3, none⟩ (.slice Av3 t4.length cv3)).setCell ⟨b3, 4, none⟩ (.slice Av4 t5.length cv4)) w.heap.size (fun _ => True) (.slice Av3 t4.length cv3) t4 from Kd.R_mono (Kd.R_far (p := ⟨b3, 4, none⟩) (Kd.R_far (p := ⟨b3, 3, none⟩) (Kd.R_far (p := ⟨b3, 2, none⟩) (Kd.R_far (p := ⟨b3, 1, none⟩) (Kd.R_far (p := ⟨b3, 0, none⟩) (Kd.R_types HQ3.out BX3.out (by decide)) (fun _ hk => hk.2) _) (fun _ hk => hk.2) _) (fun _ hk => hk.2) _) (fun _ hk => hk.2) _) (fun _ hk => hk.2) _) (fun _ _ => trivial))
 have HP4 := Aside0.mk (show Kd.R k50 50 (((((w4.setCell ⟨b3, 0, none⟩ (.slice Av0 t1.length cv0)).setCell ⟨b3, 1, none⟩ (.slice Av1 t2.length cv1)).setCell ⟨b3, 2, none⟩ (.slice Av2 t3.length cv2)).setCell ⟨b3, 3, none⟩ (.slice Av3 t4.length cv3)).setCell ⟨b3, 4, none⟩ (.slice Av4 t5.length cv4)) w.heap.size (fun _ => True) (.slice Av4 t5.length cv4) t5 from Kd.R_mono (Kd.R_far (p := ⟨b3, 4, none⟩) (Kd.R_far (p := ⟨b3, 3, none⟩) (Kd.R_far (p := ⟨b3, 2, none⟩) (Kd.R_far (p := ⟨b3, 1, none⟩) (Kd.R_far (p := ⟨b3, 0, none⟩) (Kd.R_types HQ4.out BX3.out (by decide)) (fun _ hk => hk.2) _) (fun _ hk => hk.2) _) (fun _ hk => hk.2) _) (fun _ hk => hk.2) _) (fun _ hk => hk.2) _) (fun _ _ => trivial))
 have BX15 := Aside0.mk (blk_far (p := ⟨b3, 4, none⟩) (blk_far (p := ⟨b3, 3, none⟩) (blk_far (p := ⟨b3, 2, none⟩) (blk_far (p := ⟨b3, 1, none⟩) (blk_far (p := ⟨b3, 0, none⟩) BX14.out HG31.out (.slice Av0 t1.length cv0)) HG31.out (.slice Av1 t2.length cv1)) HG31.out (.slice Av2 t3.length cv2)) HG31.out (.slice Av3 t4.length cv3)) HG31.out (.slice Av4 t5.length cv4))
 have BX25 := Aside0.mk (blk_far (p := ⟨b3, 4, none⟩) (blk_far (p := ⟨b3, 3, none⟩) (blk_far (p := ⟨b3, 2, none⟩) (blk_far (p := ⟨b3, 1, none⟩) (blk_far (p := ⟨b3, 0, none⟩) BX24.out HG32.out (.slice Av0 t1.length cv0)) HG32.out (.slice Av1 t2.length cv1)) HG32.out (.slice Av2 t3.length cv2)) HG32.out (.slice Av3 t4.length cv3)) HG32.out (.slice Av4 t5.length cv4))
 have BX35 := Aside0.mk (impl_Trim.five (u := (.slice Av0 t1.length cv0)) (v := (.slice Av1 t2.length cv1)) (z := (.slice Av2 t3.length cv2)) (y := (.slice Av3 t4.length cv3)) (x := (.slice Av4 t5.length cv4)) BX3.out)
 have HB5 := Aside0.mk (below_set (j := 4) (v := (.slice Av4 t5.length cv4)) (below_set (j := 3) (v := (.slice Av3 t4.length cv3)) (below_set (j := 2) (v := (.slice Av2 t3.length cv2)) (below_set (j := 1) (v := (.slice Av1 t2.length cv1)) (below_set (j := 0) (v := (.slice Av0 t1.length cv0)) HB4.out HG3.out) HG3.out) HG3.out) HG3.out) HG3.out)
 clear BX14 BX24 BX3 HB4 HQ0 HQ1 HQ2 HQ3 HQ4 HO0 HO1 HO2 HO3 HO4 BX1 BX1' BX1'' BX2 BX2'' HB1 HB2 HB3 HG1 z0 z1 z2 z3 z4 zf0 zf1 zf2 zf3 zf4 HE1
 generalize (((((w4.setCell ⟨b3, 0, none⟩ (.slice Av0 t1.length cv0)).setCell ⟨b3, 1, none⟩ (.slice Av1 t2.length cv1)).setCell ⟨b3, 2, none⟩ (.slice Av2 t3.length cv2)).setCell ⟨b3, 3, none⟩ (.slice Av3 t4.length cv3)).setCell ⟨b3, 4, none⟩ (.slice Av4 t5.length cv4)) = w5 at HP0 HP1 HP2 HP3 HP4 BX15 BX25 BX35 HB5 ⊢
 have y0 := (blk_cell BX15.out 0).trans rfl
 have y1 := (blk_cell BX15.out 1).trans rfl
 have y2 := (blk_cell BX15.out 2).trans rfl
 have y3 := (blk_cell BX15.out 3).trans rfl
 have y4 := (blk_cell BX15.out 4).trans rfl
 go_upto_region 3 with (first
  | (go_at_call 16; refine (impl_Unused.calls k A0_0 c0_0 l0_0 A0_1 c0_1 l0_1 A0_2 c0_2 l0_2 A0_3 c0_3 l0_3 A0_4 c0_4 l0_4 u _ (Kd.C_below HR0.out HB5.out) HC0.out (Kd.C_below HR1.out HB5.out) HC1.out (Kd.C_below HR2.out HB5.out) HC2.out (Kd.C_below HR3.out HB5.out) HC3.out (Kd.C_below HR4.out HB5.out) HC4.out HE2.out).mono ?_; rintro e w6 ⟨vu, rfl, ou, hb⟩; obtain ⟨Au, cu, rfl, hcu, _⟩ := Kd.R_reads ou; have HU6 := Aside0.mk (Kd.R_lower ou (below_size HB5.out)); have HS60 := Aside0.mk (Kd.R_below HP0.out hb); have HS61 := Aside0.mk (Kd.R_below HP1.out hb); have HS62 := Aside0.mk (Kd.R_below HP2.out hb); have HS63 := Aside0.mk (Kd.R_below HP3.out hb); have HS64 := Aside0.mk (Kd.R_below HP4.out hb); have HB6 := Aside0.mk (below_step HB5.out hb); have BX26 := Aside0.mk (blk_below BX25.out hb); have BX36 := Aside0.mk (blk_below BX35.out hb); clear hb ou y0 y1 y2 y3 y4)
  | ((with_reducible refine gate_dst (N := 4) rfl ?_); refine box_event ?hg (N := 4) ?hd (cs := #[.slice none 0 0]) (t := 22) ?hr ?_; (case hd => rfl); (case hg => rfl); (case hr => first | (go_simp; done) | (go_simp; rfl)); intro b4 hg4 w7 hbox hb; have HG42 := Aside0.mk (show b2 ≠ b4 by rw [hg4]; exact Nat.ne_of_lt (blk_lt BX26.out)); have HG43 := Aside0.mk (show b3 ≠ b4 by rw [hg4]; exact Nat.ne_of_lt (blk_lt BX36.out)); have HG4 := Aside0.mk (show w.heap.size ≤ b4 by rw [hg4]; exact below_size HB6.out); have HB7 := Aside0.mk (below_step HB6.out hb); have BX4 := Aside0.mk hbox; have BX27 := Aside0.mk (blk_below BX26.out hb); have BX37 := Aside0.mk (blk_below BX36.out hb); have HU7 := Aside0.mk (Kd.R_below HU6.out hb); have HS70 := Aside0.mk (Kd.R_below HS60.out hb); have HS71 := Aside0.mk (Kd.R_below HS61.out hb); have HS72 := Aside0.mk (Kd.R_below HS62.out hb); have HS73 := Aside0.mk (Kd.R_below HS63.out hb); have HS74 := Aside0.mk (Kd.R_below HS64.out hb); have z0 := (blk_cell hbox 0).trans rfl; have zf0 := blk_frozen hbox 0; clear hb hbox hg4))
 have HP80 := Aside0.mk (show Kd.R Kd.string 9 (w7.setCell ⟨b4, 0, none⟩ (.slice Au u.length cu)) w.heap.size (fun _ => True) (.slice Av0 t1.length cv0) t1 from Kd.R_mono (Kd.R_far (p := ⟨b4, 0, none⟩) (Kd.R_types HS70.out BX4.out (by decide)) (fun _ hk => hk.2) _) (fun _ _ => trivial))
 have HP81 := Aside0.mk (show Kd.R k73 73 (w7.setCell ⟨b4, 0, none⟩ (.slice Au u.length cu)) w.heap.size (fun _ => True) (.slice Av1 t2.length cv1) t2 from Kd.R_mono (Kd.R_far (p := ⟨b4, 0, none⟩) (Kd.R_types HS71.out BX4.out (by decide)) (fun _ hk => hk.2) _) (fun _ _ => trivial))
 have HP82 := Aside0.mk (show Kd.R k55 55 (w7.setCell ⟨b4, 0, none⟩ (.slice Au u.length cu)) w.heap.size (fun _ => True) (.slice Av2 t3.length cv2) t3 from Kd.R_mono (Kd.R_far (p := ⟨b4, 0, none⟩) (Kd.R_types HS72.out BX4.out (by decide)) (fun _ hk => hk.2) _) (fun _ _ => trivial))
 have HP83 := Aside0.mk (show Kd.R k53 53 (w7.setCell ⟨b4, 0, none⟩ (.slice Au u.length cu)) w.heap.size (fun _ => True) (.slice Av3 t4.length cv3) t4 from Kd.R_mono (Kd.R_far (p := ⟨b4, 0, none⟩) (Kd.R_types HS73.out BX4.out (by decide)) (fun _ hk => hk.2) _) (fun _ _ => trivial))
 have HP84 := Aside0.mk (show Kd.R k50 50 (w7.setCell ⟨b4, 0, none⟩ (.slice Au u.length cu)) w.heap.size (fun _ => True) (.slice Av4 t5.length cv4) t5 from Kd.R_mono (Kd.R_far (p := ⟨b4, 0, none⟩) (Kd.R_types HS74.out BX4.out (by decide)) (fun _ hk => hk.2) _) (fun _ _ => trivial))
 have HU8 := Aside0.mk (show Kd.R Kd.string 9 (w7.setCell ⟨b4, 0, none⟩ (.slice Au u.length cu)) w.heap.size (fun _ => True) (.slice Au u.length cu) u from Kd.R_mono (Kd.R_far (p := ⟨b4, 0, none⟩) (Kd.R_types HU7.out BX4.out (by decide)) (fun _ hk => hk.2) _) (fun _ _ => trivial))
 have BX28 := Aside0.mk (blk_far (p := ⟨b4, 0, none⟩) BX27.out HG42.out (.slice Au u.length cu))
 have BX38 := Aside0.mk (blk_far (p := ⟨b4, 0, none⟩) BX37.out HG43.out (.slice Au u.length cu))
 have BX48 := Aside0.mk (show (w7.setCell ⟨b4, 0, none⟩ (.slice Au u.length cu)).heap[b4]? = some (.cells #[.slice Au u.length cu] 22 (0, 0)) from impl_Trim.setOne 0 _ BX4.out)
 have HB8 := Aside0.mk (below_set (j := 0) (v := .slice Au u.length cu) HB7.out HG4.out)
 clear BX27 BX37 BX4 HB7 HU7 HU6 HS60 HS61 HS62 HS63 HS64 HS70 HS71 HS72 HS73 HS74 HP0 HP1 HP2 HP3 HP4 BX15 BX25 BX35 BX26 BX36 HB5 HB6 z0 zf0 HE2
 generalize (w7.setCell ⟨b4, 0, none⟩ (.slice Au u.length cu)) = w8 at HP80 HP81 HP82 HP83 HP84 HU8 BX28 BX38 BX48 HB8 ⊢
 have x1 : w8.cell? ⟨b3, 1, none⟩ = some (.slice Av1 t2.length cv1) := (blk_cell BX38.out 1).trans rfl
 have hdel := impl_Trim.del 51 #[.pointer (some ⟨b4, 0, none⟩)] (enters_of Try.func51 (by kernel_rfl) rfl) (fun x => impl_Trim.hasB u x.f2) (fun q => some q = (Value.slice Av1 t2.length cv1).ownBlock) _ t2 w w8 HB8.out (Kd.R_tight rfl HP81.out) (fun W x hK => impl_Trim.clo b4 Au cu u hul hcu x W ((blk_cell (blk_kept BX48.out hK (impl_Trim.blk_ne BX48.out HP81.out (by decide))) 0).trans rfl) (Kd.C_kept_own (impl_Trim.row_ne rfl HU8.out HP81.out (by decide)) (fun _ h => h) W hK))
 rw [← HTF.out] at hdel
 have HDEL := Aside0.mk hdel
 clear hdel
 go_upto_region 4 with (first
  | (go_at_call 50; refine HDEL.out.mono ?_; rintro e w9 ⟨v1', rfl, o1, hb, hk⟩; obtain ⟨Aw1, cw1, rfl, hcw1, _⟩ := Kd.R_reads o1; have HP91 := Aside0.mk (Kd.R_mono (ok' := fun _ => True) o1 (fun _ _ => trivial)); have HP90 := Aside0.mk (Kd.R_mono (ok' := fun _ => True) (Kd.R_kept (impl_Trim.row_ne rfl HP80.out HP81.out (by decide)) hk (fun _ h => h)) (fun _ _ => trivial)); have HP92 := Aside0.mk (Kd.R_mono (ok' := fun _ => True) (Kd.R_kept (impl_Trim.row_ne rfl HP82.out HP81.out (by decide)) hk (fun _ h => h)) (fun _ _ => trivial)); have HP93 := Aside0.mk (Kd.R_mono (ok' := fun _ => True) (Kd.R_kept (impl_Trim.row_ne rfl HP83.out HP81.out (by decide)) hk (fun _ h => h)) (fun _ _ => trivial)); have HP94 := Aside0.mk (Kd.R_mono (ok' := fun _ => True) (Kd.R_kept (impl_Trim.row_ne rfl HP84.out HP81.out (by decide)) hk (fun _ h => h)) (fun _ _ => trivial)); have HB9 := Aside0.mk hb; have BX29 := Aside0.mk (blk_kept BX28.out hk (impl_Trim.blk_ne BX28.out HP81.out (by decide))); have BX39 := Aside0.mk (blk_kept BX38.out hk (impl_Trim.blk_ne BX38.out HP81.out (by decide))); have xf1 : w9.frozen? ⟨b3, 1, none⟩ = false := blk_frozen BX39.out 1; have xc1 := (blk_cell BX39.out 1).trans rfl; clear hb hk o1 x1))
 have HPX0 := Aside0.mk (show Kd.R Kd.string 9 (w9.setCell ⟨b3, 1, none⟩ (.slice Aw1 r2.length cw1)) w.heap.size (fun _ => True) (.slice Av0 t1.length cv0) t1 from Kd.R_mono (Kd.R_far (p := ⟨b3, 1, none⟩) (Kd.R_types HP90.out BX39.out (by decide)) (fun _ hk => hk.2) _) (fun _ _ => trivial))
 have HPX1 := Aside0.mk (show Kd.R k73 73 (w9.setCell ⟨b3, 1, none⟩ (.slice Aw1 r2.length cw1)) w.heap.size (fun _ => True) (.slice Aw1 r2.length cw1) r2 from Kd.R_mono (Kd.R_far (p := ⟨b3, 1, none⟩) (Kd.R_types HP91.out BX39.out (by decide)) (fun _ hk => hk.2) _) (fun _ _ => trivial))
 have HPX2 := Aside0.mk (show Kd.R k55 55 (w9.setCell ⟨b3, 1, none⟩ (.slice Aw1 r2.length cw1)) w.heap.size (fun _ => True) (.slice Av2 t3.length cv2) t3 from Kd.R_mono (Kd.R_far (p := ⟨b3, 1, none⟩) (Kd.R_types HP92.out BX39.out (by decide)) (fun _ hk => hk.2) _) (fun _ _ => trivial))
 have HPX3 := Aside0.mk (show Kd.R k53 53 (w9.setCell ⟨b3, 1, none⟩ (.slice Aw1 r2.length cw1)) w.heap.size (fun _ => True) (.slice Av3 t4.length cv3) t4 from Kd.R_mono (Kd.R_far (p := ⟨b3, 1, none⟩) (Kd.R_types HP93.out BX39.out (by decide)) (fun _ hk => hk.2) _) (fun _ _ => trivial))
 have HPX4 := Aside0.mk (show Kd.R k50 50 (w9.setCell ⟨b3, 1, none⟩ (.slice Aw1 r2.length cw1)) w.heap.size (fun _ => True) (.slice Av4 t5.length cv4) t5 from Kd.R_mono (Kd.R_far (p := ⟨b3, 1, none⟩) (Kd.R_types HP94.out BX39.out (by decide)) (fun _ hk => hk.2) _) (fun _ _ => trivial))
 have BX2X := Aside0.mk (blk_far (p := ⟨b3, 1, none⟩) BX29.out HG32.out (.slice Aw1 r2.length cw1))
 have BX3X := Aside0.mk (show (w9.setCell ⟨b3, 1, none⟩ (.slice Aw1 r2.length cw1)).heap[b3]? = some (.cells #[(.slice Av0 t1.length cv0), (.slice Aw1 r2.length cw1), (.slice Av2 t3.length cv2), (.slice Av3 t4.length cv3), (.slice Av4 t5.length cv4)] 36 (0, 0)) from impl_Trim.setOne 1 _ BX39.out)
 have HBX := Aside0.mk (below_set (j := 1) (v := .slice Aw1 r2.length cw1) HB9.out HG3.out)
 clear BX29 BX39 HB9 HP80 HP81 HP82 HP83 HP84 HU8 BX28 BX38 BX48 HB8 HP90 HP91 HP92 HP93 HP94 xf1 xc1 HDEL
 generalize (w9.setCell ⟨b3, 1, none⟩ (.slice Aw1 r2.length cw1)) = w10 at HPX0 HPX1 HPX2 HPX3 HPX4 BX2X BX3X HBX ⊢
 have y0 := (blk_cell BX3X.out 0).trans rfl
 have y1 := (blk_cell BX3X.out 1).trans rfl
 have y2 := (blk_cell BX3X.out 2).trans rfl
 have y3 := (blk_cell BX3X.out 3).trans rfl
 have y4 := (blk_cell BX3X.out 4).trans rfl
 have z0 := (blk_cell BX2X.out 0).trans rfl
 have zf0 := blk_frozen BX2X.out 0
 have z1 := (blk_cell BX2X.out 1).trans rfl
 have zf1 := blk_frozen BX2X.out 1
 have z2 := (blk_cell BX2X.out 2).trans rfl
 have zf2 := blk_frozen BX2X.out 2
 have z3 := (blk_cell BX2X.out 3).trans rfl
 have zf3 := blk_frozen BX2X.out 3
 have z4 := (blk_cell BX2X.out 4).trans rfl
 have zf4 := blk_frozen BX2X.out 4
 go_wp2
 have HF := impl_Trim.five (u := (.slice Av0 t1.length cv0)) (v := (.slice Aw1 r2.length cw1)) (z := (.slice Av2 t3.length cv2)) (y := (.slice Av3 t4.length cv3)) (x := (.slice Av4 t5.length cv4)) BX2X.out
 refine bodyPost_ret (results_cell_row rfl _ _ b2 36 #[(.slice Av0 t1.length cv0), (.slice Aw1 r2.length cw1), (.slice Av2 t3.length cv2), (.slice Av3 t4.length cv3), (.slice Av4 t5.length cv4)] (0, 0) _ rfl HF Try.underlying36 rfl (by kernel_rfl)) rfl ?_
 have GE2 : w.heap.size ≤ b2 := HGE2.out
 exact ⟨_, _, _, _, _, rfl, (Kd.R_mono (Kd.R_far (p := ⟨b2, 4, none⟩) (Kd.R_far (p := ⟨b2, 3, none⟩) (Kd.R_far (p := ⟨b2, 2, none⟩) (Kd.R_far (p := ⟨b2, 1, none⟩) (Kd.R_far (p := ⟨b2, 0, none⟩) (Kd.R_types HPX0.out BX2X.out (by decide)) (fun _ hk => hk.2) _) (fun _ hk => hk.2) _) (fun _ hk => hk.2) _) (fun _ hk => hk.2) _) (fun _ hk => hk.2) _) (fun _ _ => trivial)), (Kd.R_mono (Kd.R_far (p := ⟨b2, 4, none⟩) (Kd.R_far (p := ⟨b2, 3, none⟩) (Kd.R_far (p := ⟨b2, 2, none⟩) (Kd.R_far (p := ⟨b2, 1, none⟩) (Kd.R_far (p := ⟨b2, 0, none⟩) (Kd.R_types HPX1.out BX2X.out (by decide)) (fun _ hk => hk.2) _) (fun _ hk => hk.2) _) (fun _ hk => hk.2) _) (fun _ hk => hk.2) _) (fun _ hk => hk.2) _) (fun _ _ => trivial)), (Kd.R_mono (Kd.R_far (p := ⟨b2, 4, none⟩) (Kd.R_far (p := ⟨b2, 3, none⟩) (Kd.R_far (p := ⟨b2, 2, none⟩) (Kd.R_far (p := ⟨b2, 1, none⟩) (Kd.R_far (p := ⟨b2, 0, none⟩) (Kd.R_types HPX2.out BX2X.out (by decide)) (fun _ hk => hk.2) _) (fun _ hk => hk.2) _) (fun _ hk => hk.2) _) (fun _ hk => hk.2) _) (fun _ hk => hk.2) _) (fun _ _ => trivial)), (Kd.R_mono (Kd.R_far (p := ⟨b2, 4, none⟩) (Kd.R_far (p := ⟨b2, 3, none⟩) (Kd.R_far (p := ⟨b2, 2, none⟩) (Kd.R_far (p := ⟨b2, 1, none⟩) (Kd.R_far (p := ⟨b2, 0, none⟩) (Kd.R_types HPX3.out BX2X.out (by decide)) (fun _ hk => hk.2) _) (fun _ hk => hk.2) _) (fun _ hk => hk.2) _) (fun _ hk => hk.2) _) (fun _ hk => hk.2) _) (fun _ _ => trivial)), (Kd.R_mono (Kd.R_far (p := ⟨b2, 4, none⟩) (Kd.R_far (p := ⟨b2, 3, none⟩) (Kd.R_far (p := ⟨b2, 2, none⟩) (Kd.R_far (p := ⟨b2, 1, none⟩) (Kd.R_far (p := ⟨b2, 0, none⟩) (Kd.R_types HPX4.out BX2X.out (by decide)) (fun _ hk => hk.2) _) (fun _ hk => hk.2) _) (fun _ hk => hk.2) _) (fun _ hk => hk.2) _) (fun _ hk => hk.2) _) (fun _ _ => trivial)), (below_set (j := 4) (v := (.slice Av4 t5.length cv4)) (below_set (j := 3) (v := (.slice Av3 t4.length cv3)) (below_set (j := 2) (v := (.slice Av2 t3.length cv2)) (below_set (j := 1) (v := (.slice Aw1 r2.length cw1)) (below_set (j := 0) (v := (.slice Av0 t1.length cv0)) HBX.out GE2) GE2) GE2) GE2) GE2)⟩

end Go.Proofs.Ytopicidanlienaa.PFnExactTrim

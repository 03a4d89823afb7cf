-- Out of the kit's print, with contracts of mine among it (myprint.py).
import Derived.Test.YtnakdhpefkllmaaDoorPFnExactKnownx0
namespace Go.Proofs.YtnakdhpefkllmaaDoor.PFnExactKnown
open Go.RowKit Go.Proofs.YtnakdhpefkllmaaDoorW.PrintWords Go.Proofs.YtnakdhpefkllmaaDoorW.PrintLast Go.Proofs.YtnakdhpefkllmaaDoorW.PrintMore
attribute [local go_sem] max2_int min2_int max_two min_two max_three min_three max_four min_four   -- for this text's walks alone
set_option linter.unusedVariables false
set_option linter.unusedSimpArgs false

/-! ### laws_szStringS: function 9 -/
def laws_szStringS.l0 : Nat → List ByteArray → Int → Int → Option (Int)
 | 0, _, _, _ => none
 | k + 1, x0, x1, x5 => if x5 < (x0.length : Int) then (if 0 ≤ x5 then (if (wrap64 (x1 - ((rdOf ByteArray.empty x0 x5).size : Int))) < 0 then (some (-1)) else (laws_szStringS.l0 k x0 (wrap64 (x1 - ((rdOf ByteArray.empty x0 x5).size : Int))) (wrap64 (x5 + 1)))) else (none)) else (some x1)
def laws_szStringS.f (k : Nat) (l0 : List ByteArray) (a1 : Int) : Option (Int) := if (wrap64 (a1 - (l0.length : Int))) < 0 then (some (-1)) else (laws_szStringS.l0 k l0 (wrap64 (a1 - (l0.length : Int))) 0)
theorem laws_szStringS.mono_l : ∀ k, (∀ y0 y1 y2, LeO (laws_szStringS.l0 k y0 y1 y2) (laws_szStringS.l0 (k + 1) y0 y1 y2))
 | 0 => fun _ _ _ r h => by simp [laws_szStringS.l0] at h
 | k + 1 => by
  have ih0 := laws_szStringS.mono_l k
  ·intro y0 y1 y2
   unfold laws_szStringS.l0
   repeat' (first | (with_reducible first | exact ih0 _ _ _ | exact LeO.refl _ | exact LeO.none _ | refine LeO.ite ?_ ?_ | refine LeO.bind ?_ (fun _ => ?_)) | exact LeO.none _ | refine LeO.ite ?_ ?_ | refine LeO.bind ?_ (fun _ => ?_))
theorem laws_szStringS.mono : ∀ a0 a1 k, LeO (laws_szStringS.f k a0 a1) (laws_szStringS.f (k + 1) a0 a1) := by
 intro a0 a1 k
 have ih0 := laws_szStringS.mono_l k
 unfold laws_szStringS.f
 repeat' (first | (with_reducible first | exact ih0 _ _ _ | exact LeO.refl _ | exact LeO.none _ | refine LeO.ite ?_ ?_ | refine LeO.bind ?_ (fun _ => ?_)) | exact LeO.none _ | refine LeO.ite ?_ ?_ | refine LeO.bind ?_ (fun _ => ?_))
set_option maxHeartbeats 8000000 in
set_option maxRecDepth 100000 in
theorem laws_szStringS.calls (k : Nat) (A0 : Option Addr) (c0 : Nat) (l0 : List ByteArray) (a1 : Int) (r : Int) (w : World) (hr0 : Kd.C Kd.string w A0 l0.length l0) (hc0 : l0.length ≤ c0) (h : laws_szStringS.f k l0 a1 = some r) :
  Calls Tryd.prog 9 #[.slice A0 l0.length c0, .int .i64 a1] w fun e w' => e = .returned (.int .i64 r) ∧ Drawn0 w w' := by
 have HR0 := Aside0.mk hr0
 have HC0 := Aside0.mk hc0
 clear hr0 hc0
 try unfold laws_szStringS.f at h
 have H := h
 clear h
 by_cases c3 : (wrap64 (a1 - (l0.length : Int))) < 0
 ·rw [if_pos c3] at H
  have c3b0 := decide_eq_true c3
  clear c3
  obtain rfl := Option.some.inj H
  go_enter Tryd.func9, Tryd.ntmps9
  go_wp2
  go_ret
  exact ⟨zt10, zt37⟩
 ·rw [if_neg c3] at H
  have c3b0 := decide_eq_false c3
  clear c3
  have H' := Aside0.mk H
  clear H
  go_enter Tryd.func9, Tryd.ntmps9
  go_wp2
  go_loopg [1, 5] k (fun kq v1 v5 w' => ∃ (x1_1 : Int) (x5_1 : Int), v1 = .int .i64 x1_1 ∧ v5 = .int .i64 x5_1 ∧ Aside0 (laws_szStringS.l0 kq l0 x1_1 x5_1 = some r) ∧ Aside0 (kq ≤ k) ∧ Drawn0 w w')
  case atStart => exact ⟨(wrap64 (a1 - (l0.length : Int))), (0), zt10, zt10, H', ⟨Nat.le_refl _⟩, zt37⟩
  case round =>
   clear H'
   try clear p2
   try clear c3
   try clear c3b0
   obtain ⟨x1_1, x5_1, rfl, rfl, HA, HK1, ⟨m1, rfl⟩⟩ := hrel
   cases gk with
   | zero => exact absurd HA.out (by simp [laws_szStringS.l0])
   | succ k1 =>
    have H := HA.out
    clear HA
    simp only [laws_szStringS.l0] at H
    by_cases c4 : x5_1 < (l0.length : Int)
    rw [if_pos c4] at H
    have c4b0 := decide_eq_true c4
    clear c4
    replace H := it0 H
    obtain ⟨c5, H⟩ := H
    have c5b0 : decide (0 ≤ x5_1) = true := decide_eq_true c5
    clear c5
    by_cases c6 : (wrap64 (x1_1 - ((rdOf ByteArray.empty l0 x5_1).size : Int))) < 0
    rw [if_pos c6] at H
    have c6b0 := decide_eq_true c6
    clear c6
    obtain rfl := Option.some.inj H
    have p101 : 0 ≤ (x5_1 : Int) := of_decide_eq_true zt6
    have q101 : x5_1 < (l0.length : Int) := of_decide_eq_true zt6
    obtain ⟨ad101, e101, hx101_0⟩ := Kd.at_string HR0.out x5_1 p101 q101
    cases e101
    replace p101 := eq_true p101
    replace q101 := eq_true q101
    rotate_left
    rw [if_neg c6] at H
    have c6b0 := decide_eq_false c6
    clear c6
    have H' := Aside0.mk H
    clear H
    have p101 : 0 ≤ (x5_1 : Int) := of_decide_eq_true zt6
    have q101 : x5_1 < (l0.length : Int) := of_decide_eq_true zt6
    obtain ⟨ad101, e101, hx101_0⟩ := Kd.at_string HR0.out x5_1 p101 q101
    cases e101
    replace p101 := eq_true p101
    replace q101 := eq_true q101
    rotate_left
    rw [if_neg c4] at H
    have c4b0 := decide_eq_false c4
    clear c4
    obtain rfl := Option.some.inj H
    rotate_left
    all_goals
     repeat (go_wp2; first | go_quiet (fail) | (go_ret; exact ⟨zt10, zt37⟩) | (go_roundg k1; (case measure => have := HK1.out; omega); (case rel => exact ⟨(wrap64 (x1_1 - ((rdOf ByteArray.empty l0 x5_1).size : Int))), (wrap64 (x5_1 + 1)), zt10, zt10, H', ⟨by have := HK1.out; omega⟩, zt37⟩)))

/-! ### laws_szImp: function 29 -/
def laws_szImp.f (a0_0 : ByteArray) (a0_1 : ByteArray) (a0_2 : ByteArray) (a1 : Int) : Option (Int) := if (wrap64 (a1 - (a0_0.size : Int))) < 0 then (some (-1)) else (if (wrap64 ((wrap64 (a1 - (a0_0.size : Int))) - (a0_1.size : Int))) < 0 then (some (-1)) else (if (wrap64 ((wrap64 ((wrap64 (a1 - (a0_0.size : Int))) - (a0_1.size : Int))) - (a0_2.size : Int))) < 0 then (some (-1)) else (some (wrap64 ((wrap64 ((wrap64 (a1 - (a0_0.size : Int))) - (a0_1.size : Int))) - (a0_2.size : Int))))))
set_option maxHeartbeats 8000000 in
set_option maxRecDepth 100000 in
theorem laws_szImp.calls (a0_0 : ByteArray) (a0_1 : ByteArray) (a0_2 : ByteArray) (a1 : Int) (r : Int) (w : World) (h : laws_szImp.f a0_0 a0_1 a0_2 a1 = some r) :
  Calls Tryd.prog 29 #[.agg #[.string a0_0, .string a0_1, .string a0_2], .int .i64 a1] w fun e w' => e = .returned (.int .i64 r) ∧ Below w.heap.size w w' := by
 have hu65 := Tryd.underlying65
 have HB := Aside0.mk (Below.refl w.heap.size w)
 try unfold laws_szImp.f at h
 have H := h
 clear h
 by_cases c3 : (wrap64 (a1 - (a0_0.size : Int))) < 0
 rw [if_pos c3] at H
 have c3b0 := decide_eq_true c3
 clear c3
 obtain rfl := Option.some.inj H
 rotate_left
 rw [if_neg c3] at H
 have c3b0 := decide_eq_false c3
 clear c3
 by_cases c6 : (wrap64 ((wrap64 (a1 - (a0_0.size : Int))) - (a0_1.size : Int))) < 0
 rw [if_pos c6] at H
 have c6b0 := decide_eq_true c6
 clear c6
 obtain rfl := Option.some.inj H
 rotate_left
 rw [if_neg c6] at H
 have c6b0 := decide_eq_false c6
 clear c6
 by_cases c9 : (wrap64 ((wrap64 ((wrap64 (a1 - (a0_0.size : Int))) - (a0_1.size : Int))) - (a0_2.size : Int))) < 0
 rw [if_pos c9] at H
 have c9b0 := decide_eq_true c9
 clear c9
 obtain rfl := Option.some.inj H
 rotate_left
 rw [if_neg c9] at H
 have c9b0 := decide_eq_false c9
 clear c9
 obtain rfl := Option.some.inj H
 rotate_left
 all_goals
  go_enter Tryd.func29, Tryd.ntmps29
  repeat (go_wp2_with (first | ((with_reducible refine gate_dst (N := 2) rfl ?_); refine box_event ?hg (N := 2) ?hd (cs := #[.string a0_0, .string a0_1, .string a0_2]) (t := 65) ?hr ?_; (case hd => rfl); (case hg => rfl); (case hr => first | (go_simp; done) | (go_simp; rfl)); intro gb7000 hg w7001 hbox hb; have n0_ := Aside0.mk (below_step zt3 hb); have n1_ := Aside0.mk (hbox); have n2_ := Aside0.mk ((zt4 : w.heap.size ≤ gb7000)); have n3_ := Aside0.mk ((zt4 : w.heap.size ≤ gb7000)); clear HB; have HB := n0_; have BK7000 := n1_; have GW7000 := n2_; have GE7000 := n3_; clear n0_ n1_ n2_ n3_; clear hb hbox hg; have hcz7002_0 : w7001.cell? ⟨gb7000, 0, none⟩ = some (.string a0_0) := (blk_cell BK7000.out 0).trans rfl; have hcz7002_1 : w7001.cell? ⟨gb7000, 1, none⟩ = some (.string a0_1) := (blk_cell BK7000.out 1).trans rfl; have hcz7002_2 : w7001.cell? ⟨gb7000, 2, none⟩ = some (.string a0_2) := (blk_cell BK7000.out 2).trans rfl; have hfz7002_0 := blk_frozen BK7000.out 0; have hfz7002_1 := blk_frozen BK7000.out 1; have hfz7002_2 := blk_frozen BK7000.out 2)); first | go_quiet (fail) | (go_ret; exact ⟨zt8, zt7⟩))

/-! ### laws_szImpS: function 10 -/
def laws_szImpS.l0 : Nat → List (S65) → Int → Int → Option (Int)
 | 0, _, _, _ => none
 | k + 1, x0, x1, x5 => if x5 < (x0.length : Int) then (if 0 ≤ x5 then ((laws_szImp.f ((rd_T65 x0 x5).f0) ((rd_T65 x0 x5).f1) ((rd_T65 x0 x5).f2) x1).bind fun t104 => (if t104 < 0 then (some (-1)) else (laws_szImpS.l0 k x0 t104 (wrap64 (x5 + 1))))) else (none)) else (some x1)
def laws_szImpS.f (k : Nat) (l0 : List (S65)) (a1 : Int) : Option (Int) := if (wrap64 (a1 - (l0.length : Int))) < 0 then (some (-1)) else (laws_szImpS.l0 k l0 (wrap64 (a1 - (l0.length : Int))) 0)
theorem laws_szImpS.mono_l : ∀ k, (∀ y0 y1 y2, LeO (laws_szImpS.l0 k y0 y1 y2) (laws_szImpS.l0 (k + 1) y0 y1 y2))
 | 0 => fun _ _ _ r h => by simp [laws_szImpS.l0] at h
 | k + 1 => by
  have ih0 := laws_szImpS.mono_l k
  ·intro y0 y1 y2
   unfold laws_szImpS.l0
   repeat' (first | (with_reducible first | exact ih0 _ _ _ | exact LeO.refl _ | exact LeO.none _ | refine LeO.ite ?_ ?_ | refine LeO.bind ?_ (fun _ => ?_)) | exact LeO.none _ | refine LeO.ite ?_ ?_ | refine LeO.bind ?_ (fun _ => ?_))
theorem laws_szImpS.mono : ∀ a0 a1 k, LeO (laws_szImpS.f k a0 a1) (laws_szImpS.f (k + 1) a0 a1) := by
 intro a0 a1 k
 have ih0 := laws_szImpS.mono_l k
 unfold laws_szImpS.f
 repeat' (first | (with_reducible first | exact ih0 _ _ _ | exact LeO.refl _ | exact LeO.none _ | refine LeO.ite ?_ ?_ | refine LeO.bind ?_ (fun _ => ?_)) | exact LeO.none _ | refine LeO.ite ?_ ?_ | refine LeO.bind ?_ (fun _ => ?_))
set_option maxHeartbeats 8000000 in
set_option maxRecDepth 100000 in
theorem laws_szImpS.calls (k : Nat) (A0 : Option Addr) (c0 : Nat) (l0 : List (S65)) (a1 : Int) (r : Int) (w : World) (hr0 : Kd.C k65 w A0 l0.length l0) (hc0 : l0.length ≤ c0) (h : laws_szImpS.f k l0 a1 = some r) :
  Calls Tryd.prog 10 #[.slice A0 l0.length c0, .int .i64 a1] w fun e w' => e = .returned (.int .i64 r) ∧ Below w.heap.size w w' := by
 have hu65 := Tryd.underlying65
 have HR0 := Aside0.mk hr0
 have HC0 := Aside0.mk hc0
 clear hr0 hc0
 have HB := Aside0.mk (Below.refl w.heap.size w)
 try unfold laws_szImpS.f at h
 have H := h
 clear h
 by_cases c3 : (wrap64 (a1 - (l0.length : Int))) < 0
 ·rw [if_pos c3] at H
  have c3b0 := decide_eq_true c3
  clear c3
  obtain rfl := Option.some.inj H
  go_enter Tryd.func10, Tryd.ntmps10
  go_wp2
  go_ret
  exact ⟨zt8, zt3⟩
 ·rw [if_neg c3] at H
  have c3b0 := decide_eq_false c3
  clear c3
  have H' := Aside0.mk H
  clear H
  go_enter Tryd.func10, Tryd.ntmps10
  go_wp2
  go_loopg [1, 5] k (fun kq v1 v5 w' => ∃ (x1_1 : Int) (x5_1 : Int), v1 = .int .i64 x1_1 ∧ v5 = .int .i64 x5_1 ∧ Aside0 (laws_szImpS.l0 kq l0 x1_1 x5_1 = some r) ∧ Aside0 (kq ≤ k) ∧ Aside0 (Below w.heap.size w w'))
  case atStart => exact ⟨(wrap64 (a1 - (l0.length : Int))), (0), zt10, zt10, H', ⟨Nat.le_refl _⟩, ⟨zt3⟩⟩
  case round =>
   clear H'
   try clear c1
   try clear p2
   try clear c3
   try clear c3b0
   obtain ⟨x1_1, x5_1, rfl, rfl, HA, HK1, HB⟩ := hrel
   cases gk with
   | zero => exact absurd HA.out (by simp [laws_szImpS.l0])
   | succ k1 =>
    have H := HA.out
    clear HA
    simp only [laws_szImpS.l0] at H
    by_cases c4 : x5_1 < (l0.length : Int)
    rw [if_pos c4] at H
    have c4b0 := decide_eq_true c4
    clear c4
    replace H := it0 H
    obtain ⟨c5, H⟩ := H
    have c5b0 : decide (0 ≤ x5_1) = true := decide_eq_true c5
    clear c5
    replace H := bnd H
    obtain ⟨t104, A6, H⟩ := H
    try dsimp only at H
    by_cases c7 : t104 < 0
    rw [if_pos c7] at H
    have c7b0 : decide (t104 < 0) = true := decide_eq_true c7
    clear c7
    obtain rfl := Option.some.inj H
    have p103 : 0 ≤ (x5_1 : Int) := of_decide_eq_true zt6
    have q103 : x5_1 < (l0.length : Int) := of_decide_eq_true zt6
    obtain ⟨ad103, e103, hx103_0, hx103_1, hx103_2⟩ := at_T65 HR0.out x5_1 p103 q103
    cases e103
    replace hx103_0 := (HB.out.cell (World.block_lt_of_cell? w _ hx103_0)).trans hx103_0
    replace hx103_1 := (HB.out.cell (World.block_lt_of_cell? w _ hx103_1)).trans hx103_1
    replace hx103_2 := (HB.out.cell (World.block_lt_of_cell? w _ hx103_2)).trans hx103_2
    replace p103 := eq_true p103
    replace q103 := eq_true q103
    rotate_left
    rw [if_neg c7] at H
    have c7b0 : decide (t104 < 0) = false := decide_eq_false c7
    clear c7
    have H' := Aside0.mk H
    clear H
    have p103 : 0 ≤ (x5_1 : Int) := of_decide_eq_true zt6
    have q103 : x5_1 < (l0.length : Int) := of_decide_eq_true zt6
    obtain ⟨ad103, e103, hx103_0, hx103_1, hx103_2⟩ := at_T65 HR0.out x5_1 p103 q103
    cases e103
    replace hx103_0 := (HB.out.cell (World.block_lt_of_cell? w _ hx103_0)).trans hx103_0
    replace hx103_1 := (HB.out.cell (World.block_lt_of_cell? w _ hx103_1)).trans hx103_1
    replace hx103_2 := (HB.out.cell (World.block_lt_of_cell? w _ hx103_2)).trans hx103_2
    replace p103 := eq_true p103
    replace q103 := eq_true q103
    rotate_left
    rw [if_neg c4] at H
    have c4b0 := decide_eq_false c4
    clear c4
    obtain rfl := Option.some.inj H
    rotate_left
    all_goals
     repeat (go_wp2_with (first | ((with_reducible refine gate_callee (f := 29) rfl ?_); refine goesL_ (some 23) rfl rfl Tryd.func29 (by kernel_rfl) rfl #[.agg #[.string ((rd_T65 l0 x5_1).f0), .string ((rd_T65 l0 x5_1).f1), .string ((rd_T65 l0 x5_1).f2)], .int .i64 x1_1] rfl zt5 ?_; (with_reducible refine (laws_szImp.calls ((rd_T65 l0 x5_1).f0) ((rd_T65 l0 x5_1).f1) ((rd_T65 l0 x5_1).f2) x1_1 t104 _ A6.out).mono ?_); rintro e w7000 ⟨rfl, hb⟩; refine ⟨_, rfl, ?_⟩; have n0_ := Aside0.mk (below_step zt3 hb); clear HB; have HB := n0_; clear n0_; (try clear hb); (try clear hb2); (try clear hk); (try clear hi))); first | go_quiet (fail) | (go_ret; exact ⟨zt8, zt3⟩) | (go_roundg k1; (case measure => have := HK1.out; omega); (case rel => exact ⟨(t104), (wrap64 (x5_1 + 1)), zt10, zt10, H', ⟨by have := HK1.out; omega⟩, ⟨zt3⟩⟩)))

/-! ### laws_szExp: function 30 -/
def laws_szExp.f (a0_0 : Int) (a0_1 : ByteArray) (a0_2 : ByteArray) (a0_3 : ByteArray) (a1 : Int) : Option (Int) := if (wrap64 (a1 - (a0_1.size : Int))) < 0 then (some (-1)) else (if (wrap64 ((wrap64 (a1 - (a0_1.size : Int))) - (a0_2.size : Int))) < 0 then (some (-1)) else (if (wrap64 ((wrap64 ((wrap64 (a1 - (a0_1.size : Int))) - (a0_2.size : Int))) - (a0_3.size : Int))) < 0 then (some (-1)) else (some (wrap64 ((wrap64 ((wrap64 (a1 - (a0_1.size : Int))) - (a0_2.size : Int))) - (a0_3.size : Int))))))
set_option maxHeartbeats 8000000 in
set_option maxRecDepth 100000 in
theorem laws_szExp.calls (a0_0 : Int) (a0_1 : ByteArray) (a0_2 : ByteArray) (a0_3 : ByteArray) (a1 : Int) (r : Int) (w : World) (h : laws_szExp.f a0_0 a0_1 a0_2 a0_3 a1 = some r) :
  Calls Tryd.prog 30 #[.agg #[.int .i64 a0_0, .string a0_1, .string a0_2, .string a0_3], .int .i64 a1] w fun e w' => e = .returned (.int .i64 r) ∧ Below w.heap.size w w' := by
 have hu68 := Tryd.underlying68
 have HB := Aside0.mk (Below.refl w.heap.size w)
 try unfold laws_szExp.f at h
 have H := h
 clear h
 by_cases c3 : (wrap64 (a1 - (a0_1.size : Int))) < 0
 rw [if_pos c3] at H
 have c3b0 := decide_eq_true c3
 clear c3
 obtain rfl := Option.some.inj H
 rotate_left
 rw [if_neg c3] at H
 have c3b0 := decide_eq_false c3
 clear c3
 by_cases c6 : (wrap64 ((wrap64 (a1 - (a0_1.size : Int))) - (a0_2.size : Int))) < 0
 rw [if_pos c6] at H
 have c6b0 := decide_eq_true c6
 clear c6
 obtain rfl := Option.some.inj H
 rotate_left
 rw [if_neg c6] at H
 have c6b0 := decide_eq_false c6
 clear c6
 by_cases c9 : (wrap64 ((wrap64 ((wrap64 (a1 - (a0_1.size : Int))) - (a0_2.size : Int))) - (a0_3.size : Int))) < 0
 rw [if_pos c9] at H
 have c9b0 := decide_eq_true c9
 clear c9
 obtain rfl := Option.some.inj H
 rotate_left
 rw [if_neg c9] at H
 have c9b0 := decide_eq_false c9
 clear c9
 obtain rfl := Option.some.inj H
 rotate_left
 all_goals
  go_enter Tryd.func30, Tryd.ntmps30
  repeat (go_wp2_with (first | ((with_reducible refine gate_dst (N := 2) rfl ?_); refine box_event ?hg (N := 2) ?hd (cs := #[.int .i64 a0_0, .string a0_1, .string a0_2, .string a0_3]) (t := 68) ?hr ?_; (case hd => rfl); (case hg => rfl); (case hr => first | (go_simp; done) | (go_simp; rfl)); intro gb7000 hg w7001 hbox hb; have n0_ := Aside0.mk (below_step zt3 hb); have n1_ := Aside0.mk (hbox); have n2_ := Aside0.mk ((zt4 : w.heap.size ≤ gb7000)); have n3_ := Aside0.mk ((zt4 : w.heap.size ≤ gb7000)); clear HB; have HB := n0_; have BK7000 := n1_; have GW7000 := n2_; have GE7000 := n3_; clear n0_ n1_ n2_ n3_; clear hb hbox hg; have hcz7002_0 : w7001.cell? ⟨gb7000, 0, none⟩ = some (.int .i64 a0_0) := (blk_cell BK7000.out 0).trans rfl; have hcz7002_1 : w7001.cell? ⟨gb7000, 1, none⟩ = some (.string a0_1) := (blk_cell BK7000.out 1).trans rfl; have hcz7002_2 : w7001.cell? ⟨gb7000, 2, none⟩ = some (.string a0_2) := (blk_cell BK7000.out 2).trans rfl; have hcz7002_3 : w7001.cell? ⟨gb7000, 3, none⟩ = some (.string a0_3) := (blk_cell BK7000.out 3).trans rfl; have hfz7002_0 := blk_frozen BK7000.out 0; have hfz7002_1 := blk_frozen BK7000.out 1; have hfz7002_2 := blk_frozen BK7000.out 2; have hfz7002_3 := blk_frozen BK7000.out 3)); first | go_quiet (fail) | (go_ret; exact ⟨zt8, zt7⟩))

/-! ### laws_szExpS: function 11 -/
def laws_szExpS.l0 : Nat → List (S68) → Int → Int → Option (Int)
 | 0, _, _, _ => none
 | k + 1, x0, x1, x5 => if x5 < (x0.length : Int) then (if 0 ≤ x5 then ((laws_szExp.f ((rd_T68 x0 x5).f0) ((rd_T68 x0 x5).f1) ((rd_T68 x0 x5).f2) ((rd_T68 x0 x5).f3) x1).bind fun t107 => (if t107 < 0 then (some (-1)) else (laws_szExpS.l0 k x0 t107 (wrap64 (x5 + 1))))) else (none)) else (some x1)
def laws_szExpS.f (k : Nat) (l0 : List (S68)) (a1 : Int) : Option (Int) := if (wrap64 (a1 - (l0.length : Int))) < 0 then (some (-1)) else (laws_szExpS.l0 k l0 (wrap64 (a1 - (l0.length : Int))) 0)
theorem laws_szExpS.mono_l : ∀ k, (∀ y0 y1 y2, LeO (laws_szExpS.l0 k y0 y1 y2) (laws_szExpS.l0 (k + 1) y0 y1 y2))
 | 0 => fun _ _ _ r h => by simp [laws_szExpS.l0] at h
 | k + 1 => by
  have ih0 := laws_szExpS.mono_l k
  ·intro y0 y1 y2
   unfold laws_szExpS.l0
   repeat' (first | (with_reducible first | exact ih0 _ _ _ | exact LeO.refl _ | exact LeO.none _ | refine LeO.ite ?_ ?_ | refine LeO.bind ?_ (fun _ => ?_)) | exact LeO.none _ | refine LeO.ite ?_ ?_ | refine LeO.bind ?_ (fun _ => ?_))
theorem laws_szExpS.mono : ∀ a0 a1 k, LeO (laws_szExpS.f k a0 a1) (laws_szExpS.f (k + 1) a0 a1) := by
 intro a0 a1 k
 have ih0 := laws_szExpS.mono_l k
 unfold laws_szExpS.f
 repeat' (first | (with_reducible first | exact ih0 _ _ _ | exact LeO.refl _ | exact LeO.none _ | refine LeO.ite ?_ ?_ | refine LeO.bind ?_ (fun _ => ?_)) | exact LeO.none _ | refine LeO.ite ?_ ?_ | refine LeO.bind ?_ (fun _ => ?_))
set_option maxHeartbeats 8000000 in
set_option maxRecDepth 100000 in
theorem laws_szExpS.calls (k : Nat) (A0 : Option Addr) (c0 : Nat) (l0 : List (S68)) (a1 : Int) (r : Int) (w : World) (hr0 : Kd.C k68 w A0 l0.length l0) (hc0 : l0.length ≤ c0) (h : laws_szExpS.f k l0 a1 = some r) :
  Calls Tryd.prog 11 #[.slice A0 l0.length c0, .int .i64 a1] w fun e w' => e = .returned (.int .i64 r) ∧ Below w.heap.size w w' := by
 have hu68 := Tryd.underlying68
 have HR0 := Aside0.mk hr0
 have HC0 := Aside0.mk hc0
 clear hr0 hc0
 have HB := Aside0.mk (Below.refl w.heap.size w)
 try unfold laws_szExpS.f at h
 have H := h
 clear h
 by_cases c3 : (wrap64 (a1 - (l0.length : Int))) < 0
 ·rw [if_pos c3] at H
  have c3b0 := decide_eq_true c3
  clear c3
  obtain rfl := Option.some.inj H
  go_enter Tryd.func11, Tryd.ntmps11
  go_wp2
  go_ret
  exact ⟨zt8, zt3⟩
 ·rw [if_neg c3] at H
  have c3b0 := decide_eq_false c3
  clear c3
  have H' := Aside0.mk H
  clear H
  go_enter Tryd.func11, Tryd.ntmps11
  go_wp2
  go_loopg [1, 5] k (fun kq v1 v5 w' => ∃ (x1_1 : Int) (x5_1 : Int), v1 = .int .i64 x1_1 ∧ v5 = .int .i64 x5_1 ∧ Aside0 (laws_szExpS.l0 kq l0 x1_1 x5_1 = some r) ∧ Aside0 (kq ≤ k) ∧ Aside0 (Below w.heap.size w w'))
  case atStart => exact ⟨(wrap64 (a1 - (l0.length : Int))), (0), zt10, zt10, H', ⟨Nat.le_refl _⟩, ⟨zt3⟩⟩
  case round =>
   clear H'
   try clear c1
   try clear p2
   try clear c3
   try clear c3b0
   obtain ⟨x1_1, x5_1, rfl, rfl, HA, HK1, HB⟩ := hrel
   cases gk with
   | zero => exact absurd HA.out (by simp [laws_szExpS.l0])
   | succ k1 =>
    have H := HA.out
    clear HA
    simp only [laws_szExpS.l0] at H
    by_cases c4 : x5_1 < (l0.length : Int)
    rw [if_pos c4] at H
    have c4b0 := decide_eq_true c4
    clear c4
    replace H := it0 H
    obtain ⟨c5, H⟩ := H
    have c5b0 : decide (0 ≤ x5_1) = true := decide_eq_true c5
    clear c5
    replace H := bnd H
    obtain ⟨t107, A6, H⟩ := H
    try dsimp only at H
    by_cases c7 : t107 < 0
    rw [if_pos c7] at H
    have c7b0 : decide (t107 < 0) = true := decide_eq_true c7
    clear c7
    obtain rfl := Option.some.inj H
    have p106 : 0 ≤ (x5_1 : Int) := of_decide_eq_true zt6
    have q106 : x5_1 < (l0.length : Int) := of_decide_eq_true zt6
    obtain ⟨ad106, e106, hx106_0, hx106_1, hx106_2, hx106_3⟩ := at_T68 HR0.out x5_1 p106 q106
    cases e106
    replace hx106_0 := (HB.out.cell (World.block_lt_of_cell? w _ hx106_0)).trans hx106_0
    replace hx106_1 := (HB.out.cell (World.block_lt_of_cell? w _ hx106_1)).trans hx106_1
    replace hx106_2 := (HB.out.cell (World.block_lt_of_cell? w _ hx106_2)).trans hx106_2
    replace hx106_3 := (HB.out.cell (World.block_lt_of_cell? w _ hx106_3)).trans hx106_3
    replace p106 := eq_true p106
    replace q106 := eq_true q106
    rotate_left
    rw [if_neg c7] at H
    have c7b0 : decide (t107 < 0) = false := decide_eq_false c7
    clear c7
    have H' := Aside0.mk H
    clear H
    have p106 : 0 ≤ (x5_1 : Int) := of_decide_eq_true zt6
    have q106 : x5_1 < (l0.length : Int) := of_decide_eq_true zt6
    obtain ⟨ad106, e106, hx106_0, hx106_1, hx106_2, hx106_3⟩ := at_T68 HR0.out x5_1 p106 q106
    cases e106
    replace hx106_0 := (HB.out.cell (World.block_lt_of_cell? w _ hx106_0)).trans hx106_0
    replace hx106_1 := (HB.out.cell (World.block_lt_of_cell? w _ hx106_1)).trans hx106_1
    replace hx106_2 := (HB.out.cell (World.block_lt_of_cell? w _ hx106_2)).trans hx106_2
    replace hx106_3 := (HB.out.cell (World.block_lt_of_cell? w _ hx106_3)).trans hx106_3
    replace p106 := eq_true p106
    replace q106 := eq_true q106
    rotate_left
    rw [if_neg c4] at H
    have c4b0 := decide_eq_false c4
    clear c4
    obtain rfl := Option.some.inj H
    rotate_left
    all_goals
     repeat (go_wp2_with (first | ((with_reducible refine gate_callee (f := 30) rfl ?_); refine goesL_ (some 23) rfl rfl Tryd.func30 (by kernel_rfl) rfl #[.agg #[.int .i64 ((rd_T68 l0 x5_1).f0), .string ((rd_T68 l0 x5_1).f1), .string ((rd_T68 l0 x5_1).f2), .string ((rd_T68 l0 x5_1).f3)], .int .i64 x1_1] rfl zt5 ?_; (with_reducible refine (laws_szExp.calls ((rd_T68 l0 x5_1).f0) ((rd_T68 l0 x5_1).f1) ((rd_T68 l0 x5_1).f2) ((rd_T68 l0 x5_1).f3) x1_1 t107 _ A6.out).mono ?_); rintro e w7000 ⟨rfl, hb⟩; refine ⟨_, rfl, ?_⟩; have n0_ := Aside0.mk (below_step zt3 hb); clear HB; have HB := n0_; clear n0_; (try clear hb); (try clear hb2); (try clear hk); (try clear hi))); first | go_quiet (fail) | (go_ret; exact ⟨zt8, zt3⟩) | (go_roundg k1; (case measure => have := HK1.out; omega); (case rel => exact ⟨(t107), (wrap64 (x5_1 + 1)), zt10, zt10, H', ⟨by have := HK1.out; omega⟩, ⟨zt3⟩⟩)))

/-! ### laws_szStmt: function 31 -/
def laws_szStmt.f (a0_0 : Int) (a0_1 : ByteArray) (a0_2 : Int) (a1 : Int) : Option (Int) := if (wrap64 (a1 - (a0_1.size : Int))) < 0 then (some (-1)) else (some (wrap64 (a1 - (a0_1.size : Int))))
set_option maxHeartbeats 8000000 in
set_option maxRecDepth 100000 in
theorem laws_szStmt.calls (a0_0 : Int) (a0_1 : ByteArray) (a0_2 : Int) (a1 : Int) (r : Int) (w : World) (h : laws_szStmt.f a0_0 a0_1 a0_2 a1 = some r) :
  Calls Tryd.prog 31 #[.agg #[.int .i64 a0_0, .string a0_1, .int .i64 a0_2], .int .i64 a1] w fun e w' => e = .returned (.int .i64 r) ∧ Below w.heap.size w w' := by
 have hu71 := Tryd.underlying71
 have HB := Aside0.mk (Below.refl w.heap.size w)
 try unfold laws_szStmt.f at h
 have H := h
 clear h
 by_cases c3 : (wrap64 (a1 - (a0_1.size : Int))) < 0
 rw [if_pos c3] at H
 have c3b0 := decide_eq_true c3
 clear c3
 obtain rfl := Option.some.inj H
 rotate_left
 rw [if_neg c3] at H
 have c3b0 := decide_eq_false c3
 clear c3
 obtain rfl := Option.some.inj H
 rotate_left
 all_goals
  go_enter Tryd.func31, Tryd.ntmps31
  repeat (go_wp2_with (first | ((with_reducible refine gate_dst (N := 2) rfl ?_); refine box_event ?hg (N := 2) ?hd (cs := #[.int .i64 a0_0, .string a0_1, .int .i64 a0_2]) (t := 71) ?hr ?_; (case hd => rfl); (case hg => rfl); (case hr => first | (go_simp; done) | (go_simp; rfl)); intro gb7000 hg w7001 hbox hb; have n0_ := Aside0.mk (below_step zt3 hb); have n1_ := Aside0.mk (hbox); have n2_ := Aside0.mk ((zt4 : w.heap.size ≤ gb7000)); have n3_ := Aside0.mk ((zt4 : w.heap.size ≤ gb7000)); clear HB; have HB := n0_; have BK7000 := n1_; have GW7000 := n2_; have GE7000 := n3_; clear n0_ n1_ n2_ n3_; clear hb hbox hg; have hcz7002_0 : w7001.cell? ⟨gb7000, 0, none⟩ = some (.int .i64 a0_0) := (blk_cell BK7000.out 0).trans rfl; have hcz7002_1 : w7001.cell? ⟨gb7000, 1, none⟩ = some (.string a0_1) := (blk_cell BK7000.out 1).trans rfl; have hcz7002_2 : w7001.cell? ⟨gb7000, 2, none⟩ = some (.int .i64 a0_2) := (blk_cell BK7000.out 2).trans rfl; have hfz7002_0 := blk_frozen BK7000.out 0; have hfz7002_1 := blk_frozen BK7000.out 1; have hfz7002_2 := blk_frozen BK7000.out 2)); first | go_quiet (fail) | (go_ret; exact ⟨zt8, zt7⟩))

/-! ### laws_szStmtS: function 12 -/
def laws_szStmtS.l0 : Nat → List (S71) → Int → Int → Option (Int)
 | 0, _, _, _ => none
 | k + 1, x0, x1, x5 => if x5 < (x0.length : Int) then (if 0 ≤ x5 then ((laws_szStmt.f ((rd_T71 x0 x5).f0) ((rd_T71 x0 x5).f1) ((rd_T71 x0 x5).f2) x1).bind fun t110 => (if t110 < 0 then (some (-1)) else (laws_szStmtS.l0 k x0 t110 (wrap64 (x5 + 1))))) else (none)) else (some x1)
def laws_szStmtS.f (k : Nat) (l0 : List (S71)) (a1 : Int) : Option (Int) := if (wrap64 (a1 - (l0.length : Int))) < 0 then (some (-1)) else (laws_szStmtS.l0 k l0 (wrap64 (a1 - (l0.length : Int))) 0)
theorem laws_szStmtS.mono_l : ∀ k, (∀ y0 y1 y2, LeO (laws_szStmtS.l0 k y0 y1 y2) (laws_szStmtS.l0 (k + 1) y0 y1 y2))
 | 0 => fun _ _ _ r h => by simp [laws_szStmtS.l0] at h
 | k + 1 => by
  have ih0 := laws_szStmtS.mono_l k
  ·intro y0 y1 y2
   unfold laws_szStmtS.l0
   repeat' (first | (with_reducible first | exact ih0 _ _ _ | exact LeO.refl _ | exact LeO.none _ | refine LeO.ite ?_ ?_ | refine LeO.bind ?_ (fun _ => ?_)) | exact LeO.none _ | refine LeO.ite ?_ ?_ | refine LeO.bind ?_ (fun _ => ?_))
theorem laws_szStmtS.mono : ∀ a0 a1 k, LeO (laws_szStmtS.f k a0 a1) (laws_szStmtS.f (k + 1) a0 a1) := by
 intro a0 a1 k
 have ih0 := laws_szStmtS.mono_l k
 unfold laws_szStmtS.f
 repeat' (first | (with_reducible first | exact ih0 _ _ _ | exact LeO.refl _ | exact LeO.none _ | refine LeO.ite ?_ ?_ | refine LeO.bind ?_ (fun _ => ?_)) | exact LeO.none _ | refine LeO.ite ?_ ?_ | refine LeO.bind ?_ (fun _ => ?_))
set_option maxHeartbeats 8000000 in
set_option maxRecDepth 100000 in
theorem laws_szStmtS.calls (k : Nat) (A0 : Option Addr) (c0 : Nat) (l0 : List (S71)) (a1 : Int) (r : Int) (w : World) (hr0 : Kd.C k71 w A0 l0.length l0) (hc0 : l0.length ≤ c0) (h : laws_szStmtS.f k l0 a1 = some r) :
  Calls Tryd.prog 12 #[.slice A0 l0.length c0, .int .i64 a1] w fun e w' => e = .returned (.int .i64 r) ∧ Below w.heap.size w w' := by
 have hu71 := Tryd.underlying71
 have HR0 := Aside0.mk hr0
 have HC0 := Aside0.mk hc0
 clear hr0 hc0
 have HB := Aside0.mk (Below.refl w.heap.size w)
 try unfold laws_szStmtS.f at h
 have H := h
 clear h
 by_cases c3 : (wrap64 (a1 - (l0.length : Int))) < 0
 ·rw [if_pos c3] at H
  have c3b0 := decide_eq_true c3
  clear c3
  obtain rfl := Option.some.inj H
  go_enter Tryd.func12, Tryd.ntmps12
  go_wp2
  go_ret
  exact ⟨zt8, zt3⟩
 ·rw [if_neg c3] at H
  have c3b0 := decide_eq_false c3
  clear c3
  have H' := Aside0.mk H
  clear H
  go_enter Tryd.func12, Tryd.ntmps12
  go_wp2
  go_loopg [1, 5] k (fun kq v1 v5 w' => ∃ (x1_1 : Int) (x5_1 : Int), v1 = .int .i64 x1_1 ∧ v5 = .int .i64 x5_1 ∧ Aside0 (laws_szStmtS.l0 kq l0 x1_1 x5_1 = some r) ∧ Aside0 (kq ≤ k) ∧ Aside0 (Below w.heap.size w w'))
  case atStart => exact ⟨(wrap64 (a1 - (l0.length : Int))), (0), zt10, zt10, H', ⟨Nat.le_refl _⟩, ⟨zt3⟩⟩
  case round =>
   clear H'
   try clear c1
   try clear p2
   try clear c3
   try clear c3b0
   obtain ⟨x1_1, x5_1, rfl, rfl, HA, HK1, HB⟩ := hrel
   cases gk with
   | zero => exact absurd HA.out (by simp [laws_szStmtS.l0])
   | succ k1 =>
    have H := HA.out
    clear HA
    simp only [laws_szStmtS.l0] at H
    by_cases c4 : x5_1 < (l0.length : Int)
    rw [if_pos c4] at H
    have c4b0 := decide_eq_true c4
    clear c4
    replace H := it0 H
    obtain ⟨c5, H⟩ := H
    have c5b0 : decide (0 ≤ x5_1) = true := decide_eq_true c5
    clear c5
    replace H := bnd H
    obtain ⟨t110, A6, H⟩ := H
    try dsimp only at H
    by_cases c7 : t110 < 0
    rw [if_pos c7] at H
    have c7b0 : decide (t110 < 0) = true := decide_eq_true c7
    clear c7
    obtain rfl := Option.some.inj H
    have p109 : 0 ≤ (x5_1 : Int) := of_decide_eq_true zt6
    have q109 : x5_1 < (l0.length : Int) := of_decide_eq_true zt6
    obtain ⟨ad109, e109, hx109_0, hx109_1, hx109_2⟩ := at_T71 HR0.out x5_1 p109 q109
    cases e109
    replace hx109_0 := (HB.out.cell (World.block_lt_of_cell? w _ hx109_0)).trans hx109_0
    replace hx109_1 := (HB.out.cell (World.block_lt_of_cell? w _ hx109_1)).trans hx109_1
    replace hx109_2 := (HB.out.cell (World.block_lt_of_cell? w _ hx109_2)).trans hx109_2
    replace p109 := eq_true p109
    replace q109 := eq_true q109
    rotate_left
    rw [if_neg c7] at H
    have c7b0 : decide (t110 < 0) = false := decide_eq_false c7
    clear c7
    have H' := Aside0.mk H
    clear H
    have p109 : 0 ≤ (x5_1 : Int) := of_decide_eq_true zt6
    have q109 : x5_1 < (l0.length : Int) := of_decide_eq_true zt6
    obtain ⟨ad109, e109, hx109_0, hx109_1, hx109_2⟩ := at_T71 HR0.out x5_1 p109 q109
    cases e109
    replace hx109_0 := (HB.out.cell (World.block_lt_of_cell? w _ hx109_0)).trans hx109_0
    replace hx109_1 := (HB.out.cell (World.block_lt_of_cell? w _ hx109_1)).trans hx109_1
    replace hx109_2 := (HB.out.cell (World.block_lt_of_cell? w _ hx109_2)).trans hx109_2
    replace p109 := eq_true p109
    replace q109 := eq_true q109
    rotate_left
    rw [if_neg c4] at H
    have c4b0 := decide_eq_false c4
    clear c4
    obtain rfl := Option.some.inj H
    rotate_left
    all_goals
     repeat (go_wp2_with (first | ((with_reducible refine gate_callee (f := 31) rfl ?_); refine goesL_ (some 23) rfl rfl Tryd.func31 (by kernel_rfl) rfl #[.agg #[.int .i64 ((rd_T71 l0 x5_1).f0), .string ((rd_T71 l0 x5_1).f1), .int .i64 ((rd_T71 l0 x5_1).f2)], .int .i64 x1_1] rfl zt5 ?_; (with_reducible refine (laws_szStmt.calls ((rd_T71 l0 x5_1).f0) ((rd_T71 l0 x5_1).f1) ((rd_T71 l0 x5_1).f2) x1_1 t110 _ A6.out).mono ?_); rintro e w7000 ⟨rfl, hb⟩; refine ⟨_, rfl, ?_⟩; have n0_ := Aside0.mk (below_step zt3 hb); clear HB; have HB := n0_; clear n0_; (try clear hb); (try clear hb2); (try clear hk); (try clear hi))); first | go_quiet (fail) | (go_ret; exact ⟨zt8, zt3⟩) | (go_roundg k1; (case measure => have := HK1.out; omega); (case rel => exact ⟨(t110), (wrap64 (x5_1 + 1)), zt10, zt10, H', ⟨by have := HK1.out; omega⟩, ⟨zt3⟩⟩)))

/-! ### laws_szExpr: function 32 -/
def laws_szExpr.f (a0_0 : Int) (a0_1 : Int) (a0_2 : ByteArray) (a0_3 : ByteArray) (a0_4 : Int) (a0_5 : Int) (a1 : Int) : Option (Int) := if (wrap64 (a1 - (a0_2.size : Int))) < 0 then (some (-1)) else (if (wrap64 ((wrap64 (a1 - (a0_2.size : Int))) - (a0_3.size : Int))) < 0 then (some (-1)) else (some (wrap64 ((wrap64 (a1 - (a0_2.size : Int))) - (a0_3.size : Int)))))
set_option maxHeartbeats 8000000 in
set_option maxRecDepth 100000 in
theorem laws_szExpr.calls (a0_0 : Int) (a0_1 : Int) (a0_2 : ByteArray) (a0_3 : ByteArray) (a0_4 : Int) (a0_5 : Int) (a1 : Int) (r : Int) (w : World) (h : laws_szExpr.f a0_0 a0_1 a0_2 a0_3 a0_4 a0_5 a1 = some r) :
  Calls Tryd.prog 32 #[.agg #[.int .i64 a0_0, .int .i64 a0_1, .string a0_2, .string a0_3, .int .i64 a0_4, .int .i64 a0_5], .int .i64 a1] w fun e w' => e = .returned (.int .i64 r) ∧ Below w.heap.size w w' := by
 have hu74 := Tryd.underlying74
 have HB := Aside0.mk (Below.refl w.heap.size w)
 try unfold laws_szExpr.f at h
 have H := h
 clear h
 by_cases c3 : (wrap64 (a1 - (a0_2.size : Int))) < 0
 rw [if_pos c3] at H
 have c3b0 := decide_eq_true c3
 clear c3
 obtain rfl := Option.some.inj H
 rotate_left
 rw [if_neg c3] at H
 have c3b0 := decide_eq_false c3
 clear c3
 by_cases c6 : (wrap64 ((wrap64 (a1 - (a0_2.size : Int))) - (a0_3.size : Int))) < 0
 rw [if_pos c6] at H
 have c6b0 := decide_eq_true c6
 clear c6
 obtain rfl := Option.some.inj H
 rotate_left
 rw [if_neg c6] at H
 have c6b0 := decide_eq_false c6
 clear c6
 obtain rfl := Option.some.inj H
 rotate_left
 all_goals
  go_enter Tryd.func32, Tryd.ntmps32
  repeat (go_wp2_with (first | ((with_reducible refine gate_dst (N := 2) rfl ?_); refine box_event ?hg (N := 2) ?hd (cs := #[.int .i64 a0_0, .int .i64 a0_1, .string a0_2, .string a0_3, .int .i64 a0_4, .int .i64 a0_5]) (t := 74) ?hr ?_; (case hd => rfl); (case hg => rfl); (case hr => first | (go_simp; done) | (go_simp; rfl)); intro gb7000 hg w7001 hbox hb; have n0_ := Aside0.mk (below_step zt3 hb); have n1_ := Aside0.mk (hbox); have n2_ := Aside0.mk ((zt4 : w.heap.size ≤ gb7000)); have n3_ := Aside0.mk ((zt4 : w.heap.size ≤ gb7000)); clear HB; have HB := n0_; have BK7000 := n1_; have GW7000 := n2_; have GE7000 := n3_; clear n0_ n1_ n2_ n3_; clear hb hbox hg; have hcz7002_0 : w7001.cell? ⟨gb7000, 0, none⟩ = some (.int .i64 a0_0) := (blk_cell BK7000.out 0).trans rfl; have hcz7002_1 : w7001.cell? ⟨gb7000, 1, none⟩ = some (.int .i64 a0_1) := (blk_cell BK7000.out 1).trans rfl; have hcz7002_2 : w7001.cell? ⟨gb7000, 2, none⟩ = some (.string a0_2) := (blk_cell BK7000.out 2).trans rfl; have hcz7002_3 : w7001.cell? ⟨gb7000, 3, none⟩ = some (.string a0_3) := (blk_cell BK7000.out 3).trans rfl; have hcz7002_4 : w7001.cell? ⟨gb7000, 4, none⟩ = some (.int .i64 a0_4) := (blk_cell BK7000.out 4).trans rfl; have hcz7002_5 : w7001.cell? ⟨gb7000, 5, none⟩ = some (.int .i64 a0_5) := (blk_cell BK7000.out 5).trans rfl; have hfz7002_0 := blk_frozen BK7000.out 0; have hfz7002_1 := blk_frozen BK7000.out 1; have hfz7002_2 := blk_frozen BK7000.out 2; have hfz7002_3 := blk_frozen BK7000.out 3; have hfz7002_4 := blk_frozen BK7000.out 4; have hfz7002_5 := blk_frozen BK7000.out 5)); first | go_quiet (fail) | (go_ret; exact ⟨zt8, zt7⟩))

/-! ### laws_szExprS: function 13 -/
def laws_szExprS.l0 : Nat → List (S74) → Int → Int → Option (Int)
 | 0, _, _, _ => none
 | k + 1, x0, x1, x5 => if x5 < (x0.length : Int) then (if 0 ≤ x5 then ((laws_szExpr.f ((rd_T74 x0 x5).f0) ((rd_T74 x0 x5).f1) ((rd_T74 x0 x5).f2) ((rd_T74 x0 x5).f3) ((rd_T74 x0 x5).f4) ((rd_T74 x0 x5).f5) x1).bind fun t113 => (if t113 < 0 then (some (-1)) else (laws_szExprS.l0 k x0 t113 (wrap64 (x5 + 1))))) else (none)) else (some x1)
def laws_szExprS.f (k : Nat) (l0 : List (S74)) (a1 : Int) : Option (Int) := if (wrap64 (a1 - (l0.length : Int))) < 0 then (some (-1)) else (laws_szExprS.l0 k l0 (wrap64 (a1 - (l0.length : Int))) 0)
theorem laws_szExprS.mono_l : ∀ k, (∀ y0 y1 y2, LeO (laws_szExprS.l0 k y0 y1 y2) (laws_szExprS.l0 (k + 1) y0 y1 y2))
 | 0 => fun _ _ _ r h => by simp [laws_szExprS.l0] at h
 | k + 1 => by
  have ih0 := laws_szExprS.mono_l k
  ·intro y0 y1 y2
   unfold laws_szExprS.l0
   repeat' (first | (with_reducible first | exact ih0 _ _ _ | exact LeO.refl _ | exact LeO.none _ | refine LeO.ite ?_ ?_ | refine LeO.bind ?_ (fun _ => ?_)) | exact LeO.none _ | refine LeO.ite ?_ ?_ | refine LeO.bind ?_ (fun _ => ?_))
theorem laws_szExprS.mono : ∀ a0 a1 k, LeO (laws_szExprS.f k a0 a1) (laws_szExprS.f (k + 1) a0 a1) := by
 intro a0 a1 k
 have ih0 := laws_szExprS.mono_l k
 unfold laws_szExprS.f
 repeat' (first | (with_reducible first | exact ih0 _ _ _ | exact LeO.refl _ | exact LeO.none _ | refine LeO.ite ?_ ?_ | refine LeO.bind ?_ (fun _ => ?_)) | exact LeO.none _ | refine LeO.ite ?_ ?_ | refine LeO.bind ?_ (fun _ => ?_))
set_option maxHeartbeats 8000000 in
set_option maxRecDepth 100000 in
theorem laws_szExprS.calls (k : Nat) (A0 : Option Addr) (c0 : Nat) (l0 : List (S74)) (a1 : Int) (r : Int) (w : World) (hr0 : Kd.C k74 w A0 l0.length l0) (hc0 : l0.length ≤ c0) (h : laws_szExprS.f k l0 a1 = some r) :
  Calls Tryd.prog 13 #[.slice A0 l0.length c0, .int .i64 a1] w fun e w' => e = .returned (.int .i64 r) ∧ Below w.heap.size w w' := by
 have hu74 := Tryd.underlying74
 have HR0 := Aside0.mk hr0
 have HC0 := Aside0.mk hc0
 clear hr0 hc0
 have HB := Aside0.mk (Below.refl w.heap.size w)
 try unfold laws_szExprS.f at h
 have H := h
 clear h
 by_cases c3 : (wrap64 (a1 - (l0.length : Int))) < 0
 ·rw [if_pos c3] at H
  have c3b0 := decide_eq_true c3
  clear c3
  obtain rfl := Option.some.inj H
  go_enter Tryd.func13, Tryd.ntmps13
  go_wp2
  go_ret
  exact ⟨zt8, zt3⟩
 ·rw [if_neg c3] at H
  have c3b0 := decide_eq_false c3
  clear c3
  have H' := Aside0.mk H
  clear H
  go_enter Tryd.func13, Tryd.ntmps13
  go_wp2
  go_loopg [1, 5] k (fun kq v1 v5 w' => ∃ (x1_1 : Int) (x5_1 : Int), v1 = .int .i64 x1_1 ∧ v5 = .int .i64 x5_1 ∧ Aside0 (laws_szExprS.l0 kq l0 x1_1 x5_1 = some r) ∧ Aside0 (kq ≤ k) ∧ Aside0 (Below w.heap.size w w'))
  case atStart => exact ⟨(wrap64 (a1 - (l0.length : Int))), (0), zt10, zt10, H', ⟨Nat.le_refl _⟩, ⟨zt3⟩⟩
  case round =>
   clear H'
   try clear c1
   try clear p2
   try clear c3
   try clear c3b0
   obtain ⟨x1_1, x5_1, rfl, rfl, HA, HK1, HB⟩ := hrel
   cases gk with
   | zero => exact absurd HA.out (by simp [laws_szExprS.l0])
   | succ k1 =>
    have H := HA.out
    clear HA
    simp only [laws_szExprS.l0] at H
    by_cases c4 : x5_1 < (l0.length : Int)
    rw [if_pos c4] at H
    have c4b0 := decide_eq_true c4
    clear c4
    replace H := it0 H
    obtain ⟨c5, H⟩ := H
    have c5b0 : decide (0 ≤ x5_1) = true := decide_eq_true c5
    clear c5
    replace H := bnd H
    obtain ⟨t113, A6, H⟩ := H
    try dsimp only at H
    by_cases c7 : t113 < 0
    rw [if_pos c7] at H
    have c7b0 : decide (t113 < 0) = true := decide_eq_true c7
    clear c7
    obtain rfl := Option.some.inj H
    have p112 : 0 ≤ (x5_1 : Int) := of_decide_eq_true zt6
    have q112 : x5_1 < (l0.length : Int) := of_decide_eq_true zt6
    obtain ⟨ad112, e112, hx112_0, hx112_1, hx112_2, hx112_3, hx112_4, hx112_5⟩ := at_T74 HR0.out x5_1 p112 q112
    cases e112
    replace hx112_0 := (HB.out.cell (World.block_lt_of_cell? w _ hx112_0)).trans hx112_0
    replace hx112_1 := (HB.out.cell (World.block_lt_of_cell? w _ hx112_1)).trans hx112_1
    replace hx112_2 := (HB.out.cell (World.block_lt_of_cell? w _ hx112_2)).trans hx112_2
    replace hx112_3 := (HB.out.cell (World.block_lt_of_cell? w _ hx112_3)).trans hx112_3
    replace hx112_4 := (HB.out.cell (World.block_lt_of_cell? w _ hx112_4)).trans hx112_4
    replace hx112_5 := (HB.out.cell (World.block_lt_of_cell? w _ hx112_5)).trans hx112_5
    replace p112 := eq_true p112
    replace q112 := eq_true q112
    rotate_left
    rw [if_neg c7] at H
    have c7b0 : decide (t113 < 0) = false := decide_eq_false c7
    clear c7
    have H' := Aside0.mk H
    clear H
    have p112 : 0 ≤ (x5_1 : Int) := of_decide_eq_true zt6
    have q112 : x5_1 < (l0.length : Int) := of_decide_eq_true zt6
    obtain ⟨ad112, e112, hx112_0, hx112_1, hx112_2, hx112_3, hx112_4, hx112_5⟩ := at_T74 HR0.out x5_1 p112 q112
    cases e112
    replace hx112_0 := (HB.out.cell (World.block_lt_of_cell? w _ hx112_0)).trans hx112_0
    replace hx112_1 := (HB.out.cell (World.block_lt_of_cell? w _ hx112_1)).trans hx112_1
    replace hx112_2 := (HB.out.cell (World.block_lt_of_cell? w _ hx112_2)).trans hx112_2
    replace hx112_3 := (HB.out.cell (World.block_lt_of_cell? w _ hx112_3)).trans hx112_3
    replace hx112_4 := (HB.out.cell (World.block_lt_of_cell? w _ hx112_4)).trans hx112_4
    replace hx112_5 := (HB.out.cell (World.block_lt_of_cell? w _ hx112_5)).trans hx112_5
    replace p112 := eq_true p112
    replace q112 := eq_true q112
    rotate_left
    rw [if_neg c4] at H
    have c4b0 := decide_eq_false c4
    clear c4
    obtain rfl := Option.some.inj H
    rotate_left
    all_goals
     repeat (go_wp2_with (first | ((with_reducible refine gate_callee (f := 32) rfl ?_); refine goesL_ (some 23) rfl rfl Tryd.func32 (by kernel_rfl) rfl #[.agg #[.int .i64 ((rd_T74 l0 x5_1).f0), .int .i64 ((rd_T74 l0 x5_1).f1), .string ((rd_T74 l0 x5_1).f2), .string ((rd_T74 l0 x5_1).f3), .int .i64 ((rd_T74 l0 x5_1).f4), .int .i64 ((rd_T74 l0 x5_1).f5)], .int .i64 x1_1] rfl zt5 ?_; (with_reducible refine (laws_szExpr.calls ((rd_T74 l0 x5_1).f0) ((rd_T74 l0 x5_1).f1) ((rd_T74 l0 x5_1).f2) ((rd_T74 l0 x5_1).f3) ((rd_T74 l0 x5_1).f4) ((rd_T74 l0 x5_1).f5) x1_1 t113 _ A6.out).mono ?_); rintro e w7000 ⟨rfl, hb⟩; refine ⟨_, rfl, ?_⟩; have n0_ := Aside0.mk (below_step zt3 hb); clear HB; have HB := n0_; clear n0_; (try clear hb); (try clear hb2); (try clear hk); (try clear hi))); first | go_quiet (fail) | (go_ret; exact ⟨zt8, zt3⟩) | (go_roundg k1; (case measure => have := HK1.out; omega); (case rel => exact ⟨(t113), (wrap64 (x5_1 + 1)), zt10, zt10, H', ⟨by have := HK1.out; omega⟩, ⟨zt3⟩⟩)))

end Go.Proofs.YtnakdhpefkllmaaDoor.PFnExactKnown

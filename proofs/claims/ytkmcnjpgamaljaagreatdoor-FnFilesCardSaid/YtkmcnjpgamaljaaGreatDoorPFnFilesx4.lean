-- Out of the kit's print, with contracts of mine among it (myprint.py).
import Derived.Test.YtkmcnjpgamaljaaGreatDoorPFnFilesx0
import Derived.Test.YtkmcnjpgamaljaaGreatDoorPFnFilesx3
namespace Go.Proofs.YtkmcnjpgamaljaaGreatDoor.PFnFiles
open Go.RowKit Go.Proofs.YtkmcnjpgamaljaaGreatDoorW.PrintWords Go.Proofs.YtkmcnjpgamaljaaGreatDoorW.PrintLast Go.Proofs.YtkmcnjpgamaljaaGreatDoorW.PrintMore
attribute [local go_sem] max2_int min2_int max_two min_two max_three min_three max_four min_four   -- for this text's walks alone
set_option linter.unusedVariables false
set_option linter.unusedSimpArgs false

/-! ### impl_reader_piece: function 21 -/
def impl_reader_piece.f (k : Nat) (s0_0 : ByteArray) (s0_1 : Bool) : Option (ByteArray × ByteArray × Bool) := (impl_reader_number.f k s0_0 s0_1 (s0_0.size : Int)).bind fun bt200 => (if bt200.2.2 = true then (some ((⟨#[]⟩ : ByteArray), bt200.2.1, true)) else (if bt200.1 > (bt200.2.1.size : Int) then (some ((⟨#[]⟩ : ByteArray), bt200.2.1, true)) else (if 0 ≤ bt200.1 then (if bt200.1 ≤ (bt200.2.1.size : Int) then (some (bt200.2.1.extract 0 (bt200.1 : Int).toNat, bt200.2.1.extract (bt200.1 : Int).toNat bt200.2.1.size, bt200.2.2)) else (none)) else (none))))
theorem impl_reader_piece.mono : ∀ a0 a1 k, LeO (impl_reader_piece.f k a0 a1) (impl_reader_piece.f (k + 1) a0 a1) := by
 intro a0 a1 k
 unfold impl_reader_piece.f
 repeat' (first | (with_reducible first | exact impl_reader_number.mono _ _ _ _ | exact LeO.refl _ | exact LeO.none _ | refine LeO.ite ?_ ?_ | refine LeO.bind ?_ (fun _ => ?_)) | exact LeO.none _ | refine LeO.ite ?_ ?_ | refine LeO.bind ?_ (fun _ => ?_))
set_option maxHeartbeats 8000000 in
set_option maxRecDepth 100000 in
theorem impl_reader_piece.calls (k : Nat) (g : Nat) (s0_0 : ByteArray) (s0_1 : Bool) (r1 : ByteArray) (r2 : ByteArray) (r3 : Bool) (w0 w : World) (hI : IsS44 w0 w g s0_0 s0_1) (hB : Below w0.heap.size w0 w) (h : impl_reader_piece.f k s0_0 s0_1 = some (r1, r2, r3)) :
  Calls Tryz.prog 21 #[.pointer (some ⟨g, 0, none⟩)] w fun e w' => e = .returned (.string r1) ∧ IsS44 w0 w' g r2 r3 ∧ Below w0.heap.size w0 w' ∧ KeepBut w w' g none := by
 have HI0 := Aside0.mk hI
 have HK := Aside0.mk (KeepBut.refl w g none)
 have HL := Aside0.mk hB.size
 clear hI
 have HW0 := Aside0.mk hB.size
 have HB := Aside0.mk hB
 clear hB
 try unfold impl_reader_piece.f at h
 have H := h
 clear h
 replace H := bnd H
 obtain ⟨⟨t200, t201, t202⟩, A2, H⟩ := H
 try dsimp only at H
 by_cases c3 : t202 = true
 subst c3
 rw [if_pos rfl] at H
 simp only [Option.some.injEq, Prod.mk.injEq] at H
 obtain ⟨rfl, rfl, rfl⟩ := H
 obtain ⟨HGz4, hgz4⟩ := HI0.out
 have hcz4_0 := cellS44_0 HGz4
 have hcz4_1 := cellS44_1 HGz4
 have hfz4_0 := blk_frozen HGz4 0
 have hfz4_1 := blk_frozen HGz4 1
 clear HGz4 hgz4
 rotate_left
 replace c3 := Bool.eq_false_iff.mpr c3
 subst c3
 rw [if_neg (show ¬ (false = true) by decide)] at H
 by_cases c7 : t200 > (t201.size : Int)
 rw [if_pos c7] at H
 have c7b0 : decide ((t201.size : Int) < t200) = true := decide_eq_true c7
 clear c7
 simp only [Option.some.injEq, Prod.mk.injEq] at H
 obtain ⟨rfl, rfl, rfl⟩ := H
 obtain ⟨HGz8, hgz8⟩ := HI0.out
 have hcz8_0 := cellS44_0 HGz8
 have hcz8_1 := cellS44_1 HGz8
 have hfz8_0 := blk_frozen HGz8 0
 have hfz8_1 := blk_frozen HGz8 1
 clear HGz8 hgz8
 rotate_left
 rw [if_neg c7] at H
 have c7b0 : decide ((t201.size : Int) < t200) = false := decide_eq_false c7
 clear c7
 replace H := it0 H
 obtain ⟨c11, H⟩ := H
 have c11b0 := eq_true c11
 have c11b1 : decide (0 ≤ t200) = true := decide_eq_true c11
 clear c11
 replace H := it0 H
 obtain ⟨c12, H⟩ := H
 have c12b0 := eq_true c12
 have c12b1 := decide_eq_true c12
 clear c12
 have c13b0 := eq_true (of_decide_eq_true zt8 : 0 ≤ t200)
 have c14b0 := eq_true (of_decide_eq_true zt8 : t200 ≤ (t201.size : Int))
 simp only [Option.some.injEq, Prod.mk.injEq] at H
 obtain ⟨rfl, rfl, rfl⟩ := H
 obtain ⟨HGz15, hgz15⟩ := HI0.out
 have hcz15_0 := cellS44_0 HGz15
 have hcz15_1 := cellS44_1 HGz15
 have hfz15_0 := blk_frozen HGz15 0
 have hfz15_1 := blk_frozen HGz15 1
 clear HGz15 hgz15
 rotate_left
 all_goals
  go_enter Tryz.func21, Tryz.ntmps21
  repeat (go_wp2_with (first | ((with_reducible refine gate_callee (f := 20) rfl ?_); refine goesL_ (some 11) rfl rfl Tryz.func20 (by kernel_rfl) rfl #[.pointer (some ⟨g, 0, none⟩), .int .i64 (s0_0.size : Int)] rfl zt7 ?_; (with_reducible refine (impl_reader_number.calls k g s0_0 s0_1 (s0_0.size : Int) t200 t201 false w0 _ ?side1 ?side2 A2.out).mono ?_); (case side1 => exact zt32); (case side2 => exact zt31); rintro e w7000 ⟨rfl, hi, hb, hk⟩; refine ⟨_, rfl, ?_⟩; have n0_ := Aside0.mk (KeepBut.trans zt5 hk (.inl rfl)); have n1_ := Aside0.mk (hb); have n2_ := Aside0.mk (hi); clear HK; clear HB; clear HI0; have HK := n0_; have HB := n1_; have HI0 := n2_; clear n0_ n1_ n2_; (try clear hb); (try clear hb2); (try clear hk); (try clear hi); obtain ⟨HGz7001, hgz7001⟩ := HI0.out; have hcz7001_0 := cellS44_0 HGz7001; have hcz7001_1 := cellS44_1 HGz7001; have hfz7001_0 := blk_frozen HGz7001 0; have hfz7001_1 := blk_frozen HGz7001 1; clear HGz7001 hgz7001) | ((with_reducible refine gate_callee (f := 20) rfl ?_); refine goesL_ (some 11) rfl rfl Tryz.func20 (by kernel_rfl) rfl #[.pointer (some ⟨g, 0, none⟩), .int .i64 (s0_0.size : Int)] rfl zt7 ?_; (with_reducible refine (impl_reader_number.calls k g s0_0 s0_1 (s0_0.size : Int) t200 t201 true w0 _ ?side1 ?side2 A2.out).mono ?_); (case side1 => exact zt32); (case side2 => exact zt31); rintro e w7000 ⟨rfl, hi, hb, hk⟩; refine ⟨_, rfl, ?_⟩; have n0_ := Aside0.mk (KeepBut.trans zt5 hk (.inl rfl)); have n1_ := Aside0.mk (hb); have n2_ := Aside0.mk (hi); clear HK; clear HB; clear HI0; have HK := n0_; have HB := n1_; have HI0 := n2_; clear n0_ n1_ n2_; (try clear hb); (try clear hb2); (try clear hk); (try clear hi); obtain ⟨HGz7001, hgz7001⟩ := HI0.out; have hcz7001_0 := cellS44_0 HGz7001; have hcz7001_1 := cellS44_1 HGz7001; have hfz7001_0 := blk_frozen HGz7001 0; have hfz7001_1 := blk_frozen HGz7001 1; clear HGz7001 hgz7001)); first | go_quiet (fail) | (go_ret; exact ⟨zt10, zt32, zt31, zt5⟩))

/-! ### impl_reader_done: function 22 -/
def impl_reader_done.f (s0_0 : ByteArray) (s0_1 : Bool) : Option (Bool × ByteArray × Bool) := if s0_1 = true then (some (false, s0_0, s0_1)) else (some ((s0_0.toList == ([] : List UInt8)), s0_0, s0_1))
set_option maxHeartbeats 8000000 in
set_option maxRecDepth 100000 in
theorem impl_reader_done.calls (g : Nat) (s0_0 : ByteArray) (s0_1 : Bool) (r1 : Bool) (r2 : ByteArray) (r3 : Bool) (w0 w : World) (hI : IsS44 w0 w g s0_0 s0_1) (hB : Below w0.heap.size w0 w) (h : impl_reader_done.f s0_0 s0_1 = some (r1, r2, r3)) :
  Calls Tryz.prog 22 #[.pointer (some ⟨g, 0, none⟩)] w fun e w' => e = .returned (.bool r1) ∧ IsS44 w0 w' g r2 r3 ∧ Below w0.heap.size w0 w' ∧ KeepBut w w' g none := by
 have HI0 := Aside0.mk hI
 have HK := Aside0.mk (KeepBut.refl w g none)
 have HL := Aside0.mk hB.size
 clear hI
 have HW0 := Aside0.mk hB.size
 have HB := Aside0.mk hB
 clear hB
 try unfold impl_reader_done.f at h
 have H := h
 clear h
 by_cases c2 : s0_1 = true
 subst c2
 rw [if_pos rfl] at H
 simp only [Option.some.injEq, Prod.mk.injEq] at H
 obtain ⟨rfl, rfl, rfl⟩ := H
 obtain ⟨HGz3, hgz3⟩ := HI0.out
 have hcz3_0 := cellS44_0 HGz3
 have hcz3_1 := cellS44_1 HGz3
 have hfz3_0 := blk_frozen HGz3 0
 have hfz3_1 := blk_frozen HGz3 1
 clear HGz3 hgz3
 rotate_left
 replace c2 := Bool.eq_false_iff.mpr c2
 subst c2
 rw [if_neg (show ¬ (false = true) by decide)] at H
 simp only [Option.some.injEq, Prod.mk.injEq] at H
 obtain ⟨rfl, rfl, rfl⟩ := H
 obtain ⟨HGz4, hgz4⟩ := HI0.out
 have hcz4_0 := cellS44_0 HGz4
 have hcz4_1 := cellS44_1 HGz4
 have hfz4_0 := blk_frozen HGz4 0
 have hfz4_1 := blk_frozen HGz4 1
 clear HGz4 hgz4
 rotate_left
 all_goals
  go_enter Tryz.func22, Tryz.ntmps22
  repeat (go_wp2; first | go_quiet (fail) | (go_ret; exact ⟨zt10, zt32, zt31, zt5⟩))

/-! ### impl_in: function 44 -/
def impl_in.f (a0 : Int) (a1 : Int) (a2 : Int) : Option (Bool) := if a0 ≥ a1 then (some (decide (a0 ≤ a2))) else (some false)
set_option maxHeartbeats 8000000 in
set_option maxRecDepth 100000 in
theorem impl_in.calls (a0 : Int) (a1 : Int) (a2 : Int) (r : Bool) (w : World) (h : impl_in.f a0 a1 a2 = some r) :
  Calls Tryz.prog 44 #[.int .i64 a0, .int .i64 a1, .int .i64 a2] w fun e w' => e = .returned (.bool r) ∧ Drawn0 w w' := by
 try unfold impl_in.f at h
 have H := h
 clear h
 by_cases c4 : a0 ≥ a1
 rw [if_pos c4] at H
 have c4b0 : decide (a1 ≤ a0) = true := decide_eq_true c4
 clear c4
 obtain rfl := Option.some.inj H
 rotate_left
 rw [if_neg c4] at H
 have c4b0 : decide (a1 ≤ a0) = false := decide_eq_false c4
 clear c4
 obtain rfl := Option.some.inj H
 rotate_left
 all_goals
  go_enter Tryz.func44, Tryz.ntmps44
  repeat (go_wp2; first | go_quiet (fail) | (go_ret; exact ⟨zt12, zt29⟩))

/-! ### impl_isPath: function 61 -/
def impl_isPath.l0 : Nat → ByteArray → Int → Int → Option (Bool)
 | 0, _, _, _ => none
 | k + 1, x0, x6, x7 => if x7 < x6 then (if 0 ≤ x7 then (if x7 < (x0.size : Int) then (if (bt x0 x7) < 97 then (if (bt x0 x7) < 48 then (if (bt x0 x7) = 46 then (impl_isPath.l0 k x0 x6 (wrap64 (x7 + 1))) else (if (bt x0 x7) = 95 then (impl_isPath.l0 k x0 x6 (wrap64 (x7 + 1))) else (if (bt x0 x7) = 45 then (impl_isPath.l0 k x0 x6 (wrap64 (x7 + 1))) else (if (bt x0 x7) = 47 then (impl_isPath.l0 k x0 x6 (wrap64 (x7 + 1))) else (some false))))) else (if (bt x0 x7) > 57 then (if (bt x0 x7) = 46 then (impl_isPath.l0 k x0 x6 (wrap64 (x7 + 1))) else (if (bt x0 x7) = 95 then (impl_isPath.l0 k x0 x6 (wrap64 (x7 + 1))) else (if (bt x0 x7) = 45 then (impl_isPath.l0 k x0 x6 (wrap64 (x7 + 1))) else (if (bt x0 x7) = 47 then (impl_isPath.l0 k x0 x6 (wrap64 (x7 + 1))) else (some false))))) else (impl_isPath.l0 k x0 x6 (wrap64 (x7 + 1))))) else (if (bt x0 x7) > 122 then (if (bt x0 x7) < 48 then (if (bt x0 x7) = 46 then (impl_isPath.l0 k x0 x6 (wrap64 (x7 + 1))) else (if (bt x0 x7) = 95 then (impl_isPath.l0 k x0 x6 (wrap64 (x7 + 1))) else (if (bt x0 x7) = 45 then (impl_isPath.l0 k x0 x6 (wrap64 (x7 + 1))) else (if (bt x0 x7) = 47 then (impl_isPath.l0 k x0 x6 (wrap64 (x7 + 1))) else (some false))))) else (if (bt x0 x7) > 57 then (if (bt x0 x7) = 46 then (impl_isPath.l0 k x0 x6 (wrap64 (x7 + 1))) else (if (bt x0 x7) = 95 then (impl_isPath.l0 k x0 x6 (wrap64 (x7 + 1))) else (if (bt x0 x7) = 45 then (impl_isPath.l0 k x0 x6 (wrap64 (x7 + 1))) else (if (bt x0 x7) = 47 then (impl_isPath.l0 k x0 x6 (wrap64 (x7 + 1))) else (some false))))) else (impl_isPath.l0 k x0 x6 (wrap64 (x7 + 1))))) else (impl_isPath.l0 k x0 x6 (wrap64 (x7 + 1))))) else (none)) else (none)) else ((impl_in.f (x0.size : Int) 1 40).bind fun t203 => (if t203 = true then (if 0 < (x0.size : Int) then (some ((bt x0 0) == 47)) else (none)) else (some false)))
def impl_isPath.f (k : Nat) (a0 : ByteArray) : Option (Bool) := impl_isPath.l0 k a0 (a0.size : Int) 0
theorem impl_isPath.mono_l : ∀ k, (∀ y0 y1 y2, LeO (impl_isPath.l0 k y0 y1 y2) (impl_isPath.l0 (k + 1) y0 y1 y2))
 | 0 => fun _ _ _ r h => by simp [impl_isPath.l0] at h
 | k + 1 => by
  have ih0 := impl_isPath.mono_l k
  ·intro y0 y1 y2
   unfold impl_isPath.l0
   repeat' (first | (with_reducible first | exact ih0 _ _ _ | exact LeO.refl _ | exact LeO.none _ | refine LeO.ite ?_ ?_ | refine LeO.bind ?_ (fun _ => ?_)) | exact LeO.none _ | refine LeO.ite ?_ ?_ | refine LeO.bind ?_ (fun _ => ?_))
theorem impl_isPath.mono : ∀ a0 k, LeO (impl_isPath.f k a0) (impl_isPath.f (k + 1) a0) := by
 intro a0 k
 have ih0 := impl_isPath.mono_l k
 unfold impl_isPath.f
 repeat' (first | (with_reducible first | exact ih0 _ _ _ | exact LeO.refl _ | exact LeO.none _ | refine LeO.ite ?_ ?_ | refine LeO.bind ?_ (fun _ => ?_)) | exact LeO.none _ | refine LeO.ite ?_ ?_ | refine LeO.bind ?_ (fun _ => ?_))
set_option maxHeartbeats 8000000 in
set_option maxRecDepth 100000 in
theorem impl_isPath.calls (k : Nat) (a0 : ByteArray) (r : Bool) (w : World) (h : impl_isPath.f k a0 = some r) :
  Calls Tryz.prog 61 #[.string a0] w fun e w' => e = .returned (.bool r) ∧ Drawn0 w w' := by
 try unfold impl_isPath.f at h
 have H := h
 clear h
 have H' := Aside0.mk H
 clear H
 go_enter Tryz.func61, Tryz.ntmps61
 go_wp2
 go_loopg [7] k (fun kq v7 w' => ∃ (x7_1 : Int), v7 = .int .i64 x7_1 ∧ Aside0 (impl_isPath.l0 kq a0 (a0.size : Int) x7_1 = some r) ∧ Aside0 (kq ≤ k) ∧ Drawn0 w w')
 case atStart => exact ⟨(0), zt12, H', ⟨Nat.le_refl _⟩, zt29⟩
 case round =>
  clear H'
  obtain ⟨x7_1, rfl, HA, HK1, ⟨m1, rfl⟩⟩ := hrel
  cases gk with
  | zero => exact absurd HA.out (by simp [impl_isPath.l0])
  | succ k1 =>
   have H := HA.out
   clear HA
   simp only [impl_isPath.l0] at H
   by_cases c2 : x7_1 < (a0.size : Int)
   rw [if_pos c2] at H
   have c2b0 := decide_eq_true c2
   clear c2
   replace H := it0 H
   obtain ⟨c3, H⟩ := H
   have c3b0 : decide (0 ≤ x7_1) = true := decide_eq_true c3
   clear c3
   replace H := it0 H
   obtain ⟨c4, H⟩ := H
   have c4b0 := decide_eq_true c4
   clear c4
   by_cases c6 : (bt a0 x7_1) < 97
   rw [if_pos c6] at H
   have c6b0 := decide_eq_true c6
   clear c6
   by_cases c7 : (bt a0 x7_1) < 48
   rw [if_pos c7] at H
   have c7b0 := decide_eq_true c7
   clear c7
   by_cases c8 : (bt a0 x7_1) = 46
   rw [if_pos c8] at H
   have c8b0 := beq_iff_eq.mpr c8
   have c8b1 := bne_eq_false_iff_eq.mpr c8
   clear c8
   have H' := Aside0.mk H
   clear H
   have p5 : 0 ≤ (x7_1 : Int) := of_decide_eq_true zt8
   have q5 : x7_1 < (a0.size : Int) := of_decide_eq_true zt8
   have hx5 := bt_at a0 x7_1
   replace p5 := eq_true p5
   replace q5 := eq_true q5
   rotate_left
   rw [if_neg c8] at H
   have c8b0 := beq_eq_false_iff_ne.mpr c8
   have c8b1 := bne_iff_ne.mpr c8
   by_cases c9 : (bt a0 x7_1) = 95
   rw [if_pos c9] at H
   have c9b0 := beq_iff_eq.mpr c9
   have c9b1 := bne_eq_false_iff_eq.mpr c9
   clear c9
   have H' := Aside0.mk H
   clear H
   have p5 : 0 ≤ (x7_1 : Int) := of_decide_eq_true zt8
   have q5 : x7_1 < (a0.size : Int) := of_decide_eq_true zt8
   have hx5 := bt_at a0 x7_1
   replace p5 := eq_true p5
   replace q5 := eq_true q5
   rotate_left
   rw [if_neg c9] at H
   have c9b0 := beq_eq_false_iff_ne.mpr c9
   have c9b1 := bne_iff_ne.mpr c9
   by_cases c10 : (bt a0 x7_1) = 45
   rw [if_pos c10] at H
   have c10b0 := beq_iff_eq.mpr c10
   have c10b1 := bne_eq_false_iff_eq.mpr c10
   clear c10
   have H' := Aside0.mk H
   clear H
   have p5 : 0 ≤ (x7_1 : Int) := of_decide_eq_true zt8
   have q5 : x7_1 < (a0.size : Int) := of_decide_eq_true zt8
   have hx5 := bt_at a0 x7_1
   replace p5 := eq_true p5
   replace q5 := eq_true q5
   rotate_left
   rw [if_neg c10] at H
   have c10b0 := beq_eq_false_iff_ne.mpr c10
   have c10b1 := bne_iff_ne.mpr c10
   by_cases c11 : (bt a0 x7_1) = 47
   rw [if_pos c11] at H
   have c11b0 := beq_iff_eq.mpr c11
   have c11b1 := bne_eq_false_iff_eq.mpr c11
   clear c11
   have H' := Aside0.mk H
   clear H
   have p5 : 0 ≤ (x7_1 : Int) := of_decide_eq_true zt8
   have q5 : x7_1 < (a0.size : Int) := of_decide_eq_true zt8
   have hx5 := bt_at a0 x7_1
   replace p5 := eq_true p5
   replace q5 := eq_true q5
   rotate_left
   rw [if_neg c11] at H
   have c11b0 := beq_eq_false_iff_ne.mpr c11
   have c11b1 := bne_iff_ne.mpr c11
   obtain rfl := Option.some.inj H
   have p5 : 0 ≤ (x7_1 : Int) := of_decide_eq_true zt8
   have q5 : x7_1 < (a0.size : Int) := of_decide_eq_true zt8
   have hx5 := bt_at a0 x7_1
   replace p5 := eq_true p5
   replace q5 := eq_true q5
   rotate_left
   rw [if_neg c7] at H
   have c7b0 := decide_eq_false c7
   clear c7
   by_cases c12 : (bt a0 x7_1) > 57
   rw [if_pos c12] at H
   have c12b0 : decide (57 < (bt a0 x7_1)) = true := decide_eq_true c12
   clear c12
   by_cases c13 : (bt a0 x7_1) = 46
   rw [if_pos c13] at H
   have c13b0 := beq_iff_eq.mpr c13
   have c13b1 := bne_eq_false_iff_eq.mpr c13
   clear c13
   have H' := Aside0.mk H
   clear H
   have p5 : 0 ≤ (x7_1 : Int) := of_decide_eq_true zt8
   have q5 : x7_1 < (a0.size : Int) := of_decide_eq_true zt8
   have hx5 := bt_at a0 x7_1
   replace p5 := eq_true p5
   replace q5 := eq_true q5
   rotate_left
   rw [if_neg c13] at H
   have c13b0 := beq_eq_false_iff_ne.mpr c13
   have c13b1 := bne_iff_ne.mpr c13
   by_cases c14 : (bt a0 x7_1) = 95
   rw [if_pos c14] at H
   have c14b0 := beq_iff_eq.mpr c14
   have c14b1 := bne_eq_false_iff_eq.mpr c14
   clear c14
   have H' := Aside0.mk H
   clear H
   have p5 : 0 ≤ (x7_1 : Int) := of_decide_eq_true zt8
   have q5 : x7_1 < (a0.size : Int) := of_decide_eq_true zt8
   have hx5 := bt_at a0 x7_1
   replace p5 := eq_true p5
   replace q5 := eq_true q5
   rotate_left
   rw [if_neg c14] at H
   have c14b0 := beq_eq_false_iff_ne.mpr c14
   have c14b1 := bne_iff_ne.mpr c14
   by_cases c15 : (bt a0 x7_1) = 45
   rw [if_pos c15] at H
   have c15b0 := beq_iff_eq.mpr c15
   have c15b1 := bne_eq_false_iff_eq.mpr c15
   clear c15
   have H' := Aside0.mk H
   clear H
   have p5 : 0 ≤ (x7_1 : Int) := of_decide_eq_true zt8
   have q5 : x7_1 < (a0.size : Int) := of_decide_eq_true zt8
   have hx5 := bt_at a0 x7_1
   replace p5 := eq_true p5
   replace q5 := eq_true q5
   rotate_left
   rw [if_neg c15] at H
   have c15b0 := beq_eq_false_iff_ne.mpr c15
   have c15b1 := bne_iff_ne.mpr c15
   by_cases c16 : (bt a0 x7_1) = 47
   rw [if_pos c16] at H
   have c16b0 := beq_iff_eq.mpr c16
   have c16b1 := bne_eq_false_iff_eq.mpr c16
   clear c16
   have H' := Aside0.mk H
   clear H
   have p5 : 0 ≤ (x7_1 : Int) := of_decide_eq_true zt8
   have q5 : x7_1 < (a0.size : Int) := of_decide_eq_true zt8
   have hx5 := bt_at a0 x7_1
   replace p5 := eq_true p5
   replace q5 := eq_true q5
   rotate_left
   rw [if_neg c16] at H
   have c16b0 := beq_eq_false_iff_ne.mpr c16
   have c16b1 := bne_iff_ne.mpr c16
   obtain rfl := Option.some.inj H
   have p5 : 0 ≤ (x7_1 : Int) := of_decide_eq_true zt8
   have q5 : x7_1 < (a0.size : Int) := of_decide_eq_true zt8
   have hx5 := bt_at a0 x7_1
   replace p5 := eq_true p5
   replace q5 := eq_true q5
   rotate_left
   rw [if_neg c12] at H
   have c12b0 : decide (57 < (bt a0 x7_1)) = false := decide_eq_false c12
   clear c12
   have H' := Aside0.mk H
   clear H
   have p5 : 0 ≤ (x7_1 : Int) := of_decide_eq_true zt8
   have q5 : x7_1 < (a0.size : Int) := of_decide_eq_true zt8
   have hx5 := bt_at a0 x7_1
   replace p5 := eq_true p5
   replace q5 := eq_true q5
   rotate_left
   rw [if_neg c6] at H
   have c6b0 := decide_eq_false c6
   clear c6
   by_cases c17 : (bt a0 x7_1) > 122
   rw [if_pos c17] at H
   have c17b0 : decide (122 < (bt a0 x7_1)) = true := decide_eq_true c17
   clear c17
   by_cases c18 : (bt a0 x7_1) < 48
   rw [if_pos c18] at H
   have c18b0 := decide_eq_true c18
   clear c18
   by_cases c19 : (bt a0 x7_1) = 46
   rw [if_pos c19] at H
   have c19b0 := beq_iff_eq.mpr c19
   have c19b1 := bne_eq_false_iff_eq.mpr c19
   clear c19
   have H' := Aside0.mk H
   clear H
   have p5 : 0 ≤ (x7_1 : Int) := of_decide_eq_true zt8
   have q5 : x7_1 < (a0.size : Int) := of_decide_eq_true zt8
   have hx5 := bt_at a0 x7_1
   replace p5 := eq_true p5
   replace q5 := eq_true q5
   rotate_left
   rw [if_neg c19] at H
   have c19b0 := beq_eq_false_iff_ne.mpr c19
   have c19b1 := bne_iff_ne.mpr c19
   by_cases c20 : (bt a0 x7_1) = 95
   rw [if_pos c20] at H
   have c20b0 := beq_iff_eq.mpr c20
   have c20b1 := bne_eq_false_iff_eq.mpr c20
   clear c20
   have H' := Aside0.mk H
   clear H
   have p5 : 0 ≤ (x7_1 : Int) := of_decide_eq_true zt8
   have q5 : x7_1 < (a0.size : Int) := of_decide_eq_true zt8
   have hx5 := bt_at a0 x7_1
   replace p5 := eq_true p5
   replace q5 := eq_true q5
   rotate_left
   rw [if_neg c20] at H
   have c20b0 := beq_eq_false_iff_ne.mpr c20
   have c20b1 := bne_iff_ne.mpr c20
   by_cases c21 : (bt a0 x7_1) = 45
   rw [if_pos c21] at H
   have c21b0 := beq_iff_eq.mpr c21
   have c21b1 := bne_eq_false_iff_eq.mpr c21
   clear c21
   have H' := Aside0.mk H
   clear H
   have p5 : 0 ≤ (x7_1 : Int) := of_decide_eq_true zt8
   have q5 : x7_1 < (a0.size : Int) := of_decide_eq_true zt8
   have hx5 := bt_at a0 x7_1
   replace p5 := eq_true p5
   replace q5 := eq_true q5
   rotate_left
   rw [if_neg c21] at H
   have c21b0 := beq_eq_false_iff_ne.mpr c21
   have c21b1 := bne_iff_ne.mpr c21
   by_cases c22 : (bt a0 x7_1) = 47
   rw [if_pos c22] at H
   have c22b0 := beq_iff_eq.mpr c22
   have c22b1 := bne_eq_false_iff_eq.mpr c22
   clear c22
   have H' := Aside0.mk H
   clear H
   have p5 : 0 ≤ (x7_1 : Int) := of_decide_eq_true zt8
   have q5 : x7_1 < (a0.size : Int) := of_decide_eq_true zt8
   have hx5 := bt_at a0 x7_1
   replace p5 := eq_true p5
   replace q5 := eq_true q5
   rotate_left
   rw [if_neg c22] at H
   have c22b0 := beq_eq_false_iff_ne.mpr c22
   have c22b1 := bne_iff_ne.mpr c22
   obtain rfl := Option.some.inj H
   have p5 : 0 ≤ (x7_1 : Int) := of_decide_eq_true zt8
   have q5 : x7_1 < (a0.size : Int) := of_decide_eq_true zt8
   have hx5 := bt_at a0 x7_1
   replace p5 := eq_true p5
   replace q5 := eq_true q5
   rotate_left
   rw [if_neg c18] at H
   have c18b0 := decide_eq_false c18
   clear c18
   by_cases c23 : (bt a0 x7_1) > 57
   rw [if_pos c23] at H
   have c23b0 : decide (57 < (bt a0 x7_1)) = true := decide_eq_true c23
   clear c23
   by_cases c24 : (bt a0 x7_1) = 46
   rw [if_pos c24] at H
   have c24b0 := beq_iff_eq.mpr c24
   have c24b1 := bne_eq_false_iff_eq.mpr c24
   clear c24
   have H' := Aside0.mk H
   clear H
   have p5 : 0 ≤ (x7_1 : Int) := of_decide_eq_true zt8
   have q5 : x7_1 < (a0.size : Int) := of_decide_eq_true zt8
   have hx5 := bt_at a0 x7_1
   replace p5 := eq_true p5
   replace q5 := eq_true q5
   rotate_left
   rw [if_neg c24] at H
   have c24b0 := beq_eq_false_iff_ne.mpr c24
   have c24b1 := bne_iff_ne.mpr c24
   by_cases c25 : (bt a0 x7_1) = 95
   rw [if_pos c25] at H
   have c25b0 := beq_iff_eq.mpr c25
   have c25b1 := bne_eq_false_iff_eq.mpr c25
   clear c25
   have H' := Aside0.mk H
   clear H
   have p5 : 0 ≤ (x7_1 : Int) := of_decide_eq_true zt8
   have q5 : x7_1 < (a0.size : Int) := of_decide_eq_true zt8
   have hx5 := bt_at a0 x7_1
   replace p5 := eq_true p5
   replace q5 := eq_true q5
   rotate_left
   rw [if_neg c25] at H
   have c25b0 := beq_eq_false_iff_ne.mpr c25
   have c25b1 := bne_iff_ne.mpr c25
   by_cases c26 : (bt a0 x7_1) = 45
   rw [if_pos c26] at H
   have c26b0 := beq_iff_eq.mpr c26
   have c26b1 := bne_eq_false_iff_eq.mpr c26
   clear c26
   have H' := Aside0.mk H
   clear H
   have p5 : 0 ≤ (x7_1 : Int) := of_decide_eq_true zt8
   have q5 : x7_1 < (a0.size : Int) := of_decide_eq_true zt8
   have hx5 := bt_at a0 x7_1
   replace p5 := eq_true p5
   replace q5 := eq_true q5
   rotate_left
   rw [if_neg c26] at H
   have c26b0 := beq_eq_false_iff_ne.mpr c26
   have c26b1 := bne_iff_ne.mpr c26
   by_cases c27 : (bt a0 x7_1) = 47
   rw [if_pos c27] at H
   have c27b0 := beq_iff_eq.mpr c27
   have c27b1 := bne_eq_false_iff_eq.mpr c27
   clear c27
   have H' := Aside0.mk H
   clear H
   have p5 : 0 ≤ (x7_1 : Int) := of_decide_eq_true zt8
   have q5 : x7_1 < (a0.size : Int) := of_decide_eq_true zt8
   have hx5 := bt_at a0 x7_1
   replace p5 := eq_true p5
   replace q5 := eq_true q5
   rotate_left
   rw [if_neg c27] at H
   have c27b0 := beq_eq_false_iff_ne.mpr c27
   have c27b1 := bne_iff_ne.mpr c27
   obtain rfl := Option.some.inj H
   have p5 : 0 ≤ (x7_1 : Int) := of_decide_eq_true zt8
   have q5 : x7_1 < (a0.size : Int) := of_decide_eq_true zt8
   have hx5 := bt_at a0 x7_1
   replace p5 := eq_true p5
   replace q5 := eq_true q5
   rotate_left
   rw [if_neg c23] at H
   have c23b0 : decide (57 < (bt a0 x7_1)) = false := decide_eq_false c23
   clear c23
   have H' := Aside0.mk H
   clear H
   have p5 : 0 ≤ (x7_1 : Int) := of_decide_eq_true zt8
   have q5 : x7_1 < (a0.size : Int) := of_decide_eq_true zt8
   have hx5 := bt_at a0 x7_1
   replace p5 := eq_true p5
   replace q5 := eq_true q5
   rotate_left
   rw [if_neg c17] at H
   have c17b0 : decide (122 < (bt a0 x7_1)) = false := decide_eq_false c17
   clear c17
   have H' := Aside0.mk H
   clear H
   have p5 : 0 ≤ (x7_1 : Int) := of_decide_eq_true zt8
   have q5 : x7_1 < (a0.size : Int) := of_decide_eq_true zt8
   have hx5 := bt_at a0 x7_1
   replace p5 := eq_true p5
   replace q5 := eq_true q5
   rotate_left
   rw [if_neg c2] at H
   have c2b0 := decide_eq_false c2
   clear c2
   replace H := bnd H
   obtain ⟨t203, A28, H⟩ := H
   try dsimp only at H
   by_cases c29 : t203 = true
   subst c29
   rw [if_pos rfl] at H
   replace H := it0 H
   obtain ⟨c30, H⟩ := H
   have c30b0 := decide_eq_true c30
   have c30b1 : decide (0 < a0.size) = true := decide_eq_true (by omega)
   clear c30
   obtain rfl := Option.some.inj H
   rotate_left
   replace c29 := Bool.eq_false_iff.mpr c29
   subst c29
   rw [if_neg (show ¬ (false = true) by decide)] at H
   obtain rfl := Option.some.inj H
   rotate_left
   all_goals
    repeat (go_wp2_with (first | ((with_reducible refine gate_callee (f := 44) rfl ?_); refine goesL_ (some 46) rfl rfl Tryz.func44 (by kernel_rfl) rfl #[.int .i64 (a0.size : Int), .int .i64 1, .int .i64 40] rfl zt7 ?_; (with_reducible refine (impl_in.calls (a0.size : Int) 1 40 true _ A28.out).mono ?_); rintro e w' ⟨rfl, ⟨nd, rfl⟩⟩; refine ⟨_, rfl, ?_⟩; have p7000 : 0 ≤ (0 : Int) := (by omega); have q7000 : 0 < a0.size := (by have : (0 : Int) < (a0.size : Int) := of_decide_eq_true zt8; omega); have hx7000 : ∀ h : 0 < a0.size, ((a0[0]'h).toNat : Int) = bt a0 0 := bt_at a0 0; clear p7000; have qi7000 : (0 < (a0.size : Int)) = True := eq_true (of_decide_eq_true zt8); replace q7000 := eq_true q7000) | ((with_reducible refine gate_callee (f := 44) rfl ?_); refine goesL_ (some 46) rfl rfl Tryz.func44 (by kernel_rfl) rfl #[.int .i64 (a0.size : Int), .int .i64 1, .int .i64 40] rfl zt7 ?_; (with_reducible refine (impl_in.calls (a0.size : Int) 1 40 false _ A28.out).mono ?_); rintro e w' ⟨rfl, ⟨nd, rfl⟩⟩; refine ⟨_, rfl, ?_⟩)); first | go_quiet (fail) | (go_roundg k1; (case measure => have := HK1.out; omega); (case rel => exact ⟨(wrap64 (x7_1 + 1)), zt12, H', ⟨by have := HK1.out; omega⟩, zt29⟩)) | (go_ret; exact ⟨zt12, zt29⟩))

/-! ### strings_Split: function 62 (a contract of mine) -/
def strings_Split.f (a0 a1 : ByteArray) : Option (List ByteArray) := if a0.size < 4294967281 ∧ 1 ≤ a1.size then some (Lib.splitB a1 0 (Lib.countB a0 a1) a0) else none
theorem strings_Split.reps (xs : List ByteArray) : Reps (fun (x : ByteArray) (cs : List Value) => cs = [Value.string x]) 1 xs (xs.map Value.string) := by
 refine ⟨by rw [List.length_map, Nat.mul_one], fun j p h => ?_⟩
 have e : (xs.map Value.string)[j]? = some (Value.string p) := by rw [List.getElem?_map, h]; rfl
 obtain ⟨hj, e⟩ := List.getElem?_eq_some_iff.1 e
 rw [Nat.mul_one, List.drop_eq_getElem_cons hj, List.take_succ_cons, List.take_zero, e]
theorem strings_Split.calls (a0 a1 : ByteArray) (r : List ByteArray) (w : World) (HT : TabsL w) (h : strings_Split.f a0 a1 = some r) :
  Calls Tryz.prog 62 #[.string a0, .string a1] w fun e w' => ∃ v0_ : Value, e = .returned (v0_) ∧ Kd.R Kd.string 9 w' w.heap.size (fun _ => True) v0_ r ∧ Below w.heap.size w w' := by
 unfold strings_Split.f at h
 by_cases c : a0.size < 4294967281 ∧ 1 ≤ a1.size
 ·rw [if_pos c] at h
  obtain rfl := Option.some.inj h
  obtain ⟨m, hm⟩ := HT.len
  refine (Tryz.strings_Split a0 a1 m w c.1 hm c.2).mono ?_
  rintro e w' ⟨rfl, rfl⟩
  have hl := Lib.splitB_all a1 c.2 0 (Lib.countB a0 a1) a0 rfl
  have hb : Lib.countB a0 a1 ≤ a0.size := Lib.countB_le a1 c.2 a0.size a0 (Nat.le_refl _)
  have ho := OwnRow.lit (e := 9) w w.heap.size (strings_Split.reps (Lib.splitB a1 0 (Lib.countB a0 a1) a0)) (Nat.le_refl _) (by rw [hl]; omega)
  rw [hl] at ho
  exact ⟨_, rfl, ⟨fun _ _ => trivial, ho⟩, (Below.refl _ _).alloc (Nat.le_refl _) _⟩
 ·rw [if_neg c] at h
  cases h

/-! ### strings_Join: function 63 (a contract of mine) -/
def strings_Join.f (l0 : List ByteArray) (a1 : ByteArray) : Option ByteArray := if l0.length ≤ 140737488355328 ∧ (Lib.join (l0.map (·.data.toList)) a1.data.toList).length ≤ 140737488355328 then some ⟨(Lib.join (l0.map (·.data.toList)) a1.data.toList).toArray⟩ else none
theorem strings_Join.calls (A0 : Option Addr) (c0 : Nat) (l0 : List ByteArray) (a1 : ByteArray) (r : ByteArray) (w : World) (hr0 : Kd.C Kd.string w A0 l0.length l0) (hc0 : l0.length ≤ c0) (h : strings_Join.f l0 a1 = some r) :
  Calls Tryz.prog 63 #[.slice A0 l0.length c0, .string a1] w fun e w' => e = .returned (.string r) ∧ Below w.heap.size w w' := by
 unfold strings_Join.f at h
 by_cases c : l0.length ≤ 140737488355328 ∧ (Lib.join (l0.map (·.data.toList)) a1.data.toList).length ≤ 140737488355328
 ·rw [if_pos c] at h
  obtain rfl := Option.some.inj h
  by_cases hn : l0 = []
  ·subst hn
   refine (Tryz.strings_Join_none A0 c0 a1 w).mono ?_
   rintro e w' ⟨rfl, rfl⟩
   exact ⟨rfl, Below.refl _ _⟩
  ·obtain ⟨ad, rfl, hx⟩ := hr0.2.2 (List.length_pos_iff.2 hn)
   obtain ⟨b, o, s⟩ := ad
   have cell : ∀ (j : Nat) x, l0[j]? = some x → w.cell? (Addr.add ⟨b, o, s⟩ j) = some (.string x) := by
    intro j x hj
    obtain ⟨cs, _, hK, hu⟩ := hx j x hj
    have hcs : cs = [Value.string x] := hK
    subst hcs
    have z := hu 0 (Value.string x) rfl
    have e : j * Kd.string.sz + 0 = j := Nat.mul_one j
    rw [e] at z
    exact z
   have h0 := cell 0 (l0[0]'(List.length_pos_iff.2 hn)) (List.getElem?_eq_getElem _)
   have hs : s = none := by
    cases s with
    | none => rfl
    | some q =>
     exfalso
     simp only [Addr.add, if_true, World.cell?] at h0
     split at h0 <;> simp at h0
   subst hs
   have cells : ∀ (j : Nat) x, l0[j]? = some x → w.cell? ⟨b, o + j, none⟩ = some (.string x) := by
    intro j x hj
    have z := cell j x hj
    by_cases hj0 : j = 0
    ·subst hj0; simpa only [Addr.add, if_true, Nat.add_zero] using z
    ·simpa only [Addr.add, if_neg hj0] using z
   exact Tryz.strings_Join b o c0 l0 a1 w cells (World.block_lt_of_cell? w _ (cells 0 _ (List.getElem?_eq_getElem (List.length_pos_iff.2 hn)))) c.1 hc0 c.2
 ·rw [if_neg c] at h
  cases h

end Go.Proofs.YtkmcnjpgamaljaaGreatDoor.PFnFiles
namespace Go.Proofs.YtkmcnjpgamaljaaGreatDoor.PFnFiles
open Go.RowKit Go.Proofs.YtkmcnjpgamaljaaGreatDoorW.PrintWords Go.Proofs.YtkmcnjpgamaljaaGreatDoorW.PrintLast Go.Proofs.YtkmcnjpgamaljaaGreatDoorW.PrintMore
attribute [local go_sem] max2_int min2_int max_two min_two max_three min_three max_four min_four   -- for this text's walks alone
set_option linter.unusedVariables false
set_option linter.unusedSimpArgs false

/-! ### impl_Clean: function 43 -/
mutual
def impl_Clean.l0 : Nat → List ByteArray → List ByteArray → Int → Int → Option (ByteArray)
 | 0, _, _, _, _ => none
 | k + 1, x3, x11, x12, x13 => if x13 < x12 then (if 0 ≤ x13 then (if x13 < (x11.length : Int) then (if (rdOf ByteArray.empty x11 x13).toList = ([] : List UInt8) then (impl_Clean.j1 k x3 (rdOf ByteArray.empty x11 x13) x11 x12 x13 (rdOf ByteArray.empty x11 x13) ((rdOf ByteArray.empty x11 x13).toList == ([] : List UInt8))) else (impl_Clean.j1 k x3 (rdOf ByteArray.empty x11 x13) x11 x12 x13 (rdOf ByteArray.empty x11 x13) ((rdOf ByteArray.empty x11 x13).toList == ([46] : List UInt8)))) else (none)) else (none)) else ((strings_Join.f x3 (⟨#[47]⟩ : ByteArray)).bind fun t211 => (if 1 + t211.size ≤ 9223372036854775807 then (some ((⟨#[47]⟩ : ByteArray) ++ t211)) else (none)))
def impl_Clean.j1 : Nat → List ByteArray → ByteArray → List ByteArray → Int → Int → ByteArray → Bool → Option (ByteArray)
 | 0, _, _, _, _, _, _, _ => none
 | k + 1, x3, x5, x11, x12, x13, x17, x22 => if x22 = true then (impl_Clean.l0 k x3 x11 x12 (wrap64 (x13 + 1))) else (if x17.toList = ([46, 46] : List UInt8) then (if 0 ≤ (mx 0 (wrap64 ((x3.length : Int) - 1))) then (if (mx 0 (wrap64 ((x3.length : Int) - 1))) ≤ (x3.length : Int) then (impl_Clean.l0 k (x3.take ((mx 0 (wrap64 ((x3.length : Int) - 1))) : Int).toNat) x11 x12 (wrap64 (x13 + 1))) else (none)) else (none)) else (if x3.length < 8796093022208 then (impl_Clean.l0 k (x3 ++ [x5]) x11 x12 (wrap64 (x13 + 1))) else (none)))
end
def impl_Clean.f (k : Nat) (a0 : ByteArray) : Option (ByteArray) := (impl_isPath.f k a0).bind fun t204 => (if t204 = true then ((strings_Split.f a0 (⟨#[47]⟩ : ByteArray)).bind fun t208 => (impl_Clean.l0 k (([] : List ByteArray)) t208 (t208.length : Int) 0)) else (some (⟨#[]⟩ : ByteArray)))
theorem impl_Clean.mono_l : ∀ k, (∀ y0 y1 y2 y3, LeO (impl_Clean.l0 k y0 y1 y2 y3) (impl_Clean.l0 (k + 1) y0 y1 y2 y3)) ∧ (∀ y0 y1 y2 y3 y4 y5 y6, LeO (impl_Clean.j1 k y0 y1 y2 y3 y4 y5 y6) (impl_Clean.j1 (k + 1) y0 y1 y2 y3 y4 y5 y6))
 | 0 => ⟨fun _ _ _ _ r h => by simp [impl_Clean.l0] at h, fun _ _ _ _ _ _ _ r h => by simp [impl_Clean.j1] at h⟩
 | k + 1 => by
  obtain ⟨ih0, ih1⟩ := impl_Clean.mono_l k
  refine ⟨?_, ?_⟩
  ·intro y0 y1 y2 y3
   unfold impl_Clean.l0
   repeat' (first | (with_reducible first | exact ih0 _ _ _ _ | exact ih1 _ _ _ _ _ _ _ | exact impl_isPath.mono _ _ | exact LeO.refl _ | exact LeO.none _ | refine LeO.ite ?_ ?_ | refine LeO.bind ?_ (fun _ => ?_)) | exact LeO.none _ | refine LeO.ite ?_ ?_ | refine LeO.bind ?_ (fun _ => ?_))
  ·intro y0 y1 y2 y3 y4 y5 y6
   unfold impl_Clean.j1
   repeat' (first | (with_reducible first | exact ih0 _ _ _ _ | exact ih1 _ _ _ _ _ _ _ | exact impl_isPath.mono _ _ | exact LeO.refl _ | exact LeO.none _ | refine LeO.ite ?_ ?_ | refine LeO.bind ?_ (fun _ => ?_)) | exact LeO.none _ | refine LeO.ite ?_ ?_ | refine LeO.bind ?_ (fun _ => ?_))
theorem impl_Clean.mono : ∀ a0 k, LeO (impl_Clean.f k a0) (impl_Clean.f (k + 1) a0) := by
 intro a0 k
 obtain ⟨ih0, ih1⟩ := impl_Clean.mono_l k
 unfold impl_Clean.f
 repeat' (first | (with_reducible first | exact ih0 _ _ _ _ | exact ih1 _ _ _ _ _ _ _ | exact impl_isPath.mono _ _ | exact LeO.refl _ | exact LeO.none _ | refine LeO.ite ?_ ?_ | refine LeO.bind ?_ (fun _ => ?_)) | exact LeO.none _ | refine LeO.ite ?_ ?_ | refine LeO.bind ?_ (fun _ => ?_))
set_option maxHeartbeats 8000000 in
set_option maxRecDepth 100000 in
theorem impl_Clean.calls (k : Nat) (a0 : ByteArray) (r : ByteArray) (w : World) (HT : TabsL w) (h : impl_Clean.f k a0 = some r) :
  Calls Tryz.prog 43 #[.string a0] w fun e w' => e = .returned (.string r) ∧ Below w.heap.size w w' := by
 have HTA := Aside0.mk HT
 clear HT
 have HB := Aside0.mk (Below.refl w.heap.size w)
 try unfold impl_Clean.f at h
 have H := h
 clear h
 replace H := bnd H
 obtain ⟨t204, A2, H⟩ := H
 try dsimp only at H
 by_cases c3 : t204 = true
 ·subst c3
  rw [if_pos rfl] at H
  obtain ⟨y205, hy205⟩ : ∃ y_ : List ByteArray, y_ = (([] : List ByteArray)) := ⟨_, rfl⟩
  replace H : ((strings_Split.f a0 (⟨#[47]⟩ : ByteArray)).bind fun t208 => (impl_Clean.l0 k y205 t208 (t208.length : Int) 0)) = some r := by first | (rw [hy205]; with_reducible exact H) | (have H2_ := (Option.bind_some _ _).symm.trans H; rw [hy205]; with_reducible exact H2_) | (have H2_ := (Option.bind_some _ _).symm.trans H; with_reducible exact H2_) | with_reducible exact H | (rw [hy205]; exact H) | exact H
  have Ny205 := Aside0.mk hy205
  clear hy205
  replace H := bnd H
  obtain ⟨t208, A4, H⟩ := H
  try dsimp only at H
  have H' := Aside0.mk H
  clear H
  go_enter Tryz.func43, Tryz.ntmps43
  go_wp2_with (first | ((with_reducible refine gate_callee (f := 61) rfl ?_); refine goesL_ (some 7) rfl rfl Tryz.func61 (by kernel_rfl) rfl #[.string a0] rfl zt7 ?_; (with_reducible refine (impl_isPath.calls k a0 true _ A2.out).mono ?_); rintro e w' ⟨rfl, ⟨nd, rfl⟩⟩; refine ⟨_, rfl, ?_⟩) | ((with_reducible refine gate_dst (N := 9) rfl ?_); refine Kd.R_lit Kd.string _ 9 ?hg (N := 9) ?hd (xs := ([] : List ByteArray)) (inner := []) (ok := fun _ => True) (okp := fun _ => True) ?hr ?hp (fun _ hk => hk) trivial (Below.refl _ _) (Nat.le_refl _) (by simp) ?_; (case hd => rfl); (case hg => rfl); (case hr => first | (go_simp; done) | (go_simp; rfl)); (case hp => exact (Reps.none _ _)); intro v206 w5 ho6 hb hg_ hnew_; clear hg_ hnew_; (first | rw [← Ny205.out] at ho6 | (simp only [Int.reduceToNat] at ho6; rw [← Ny205.out] at ho6)); have n0_ := Aside0.mk (Kd.R_lower ho6 (below_size zt3)); have n1_ := Aside0.mk (below_step zt3 hb); clear HB; have HO207 := n0_; have HB := n1_; clear n0_ n1_; clear hb ho6) | ((with_reducible refine gate_callee (f := 62) rfl ?_); refine goesL_ (some 11) rfl rfl Tryz.func62 (by kernel_rfl) rfl #[.string a0, .string (⟨#[47]⟩ : ByteArray)] rfl zt7 ?_; (with_reducible refine (strings_Split.calls a0 (⟨#[47]⟩ : ByteArray) t208 _ (TabsL.below HTA.out zt3) A4.out).mono ?_); rintro e w7 ⟨v209, rfl, ho0, hb⟩; refine ⟨_, rfl, ?_⟩; have n0_ := Aside0.mk (Kd.R_elder' (rz HO207.out) (Kd.R_base ho0) hb); have n1_ := Aside0.mk (Kd.R_lower (Kd.R_new' ho0 (Kd.R_lt (rz HO207.out))) (below_size zt3)); have n2_ := Aside0.mk (below_step zt3 hb); clear HO207; clear HB; have HO207 := n0_; have HO210 := n1_; have HB := n2_; clear n0_ n1_ n2_; (try clear hb); (try clear hb2); (try clear hk); (try clear hi); (try clear ho0); obtain ⟨Ao8, co8, eo8⟩ := Kd.R_slice HO210.out; subst eo8))
  go_loopg [3, 13] k (fun kq v3 v13 w' => ∃ (x3_1 : List ByteArray) (x13_1 : Int), v13 = .int .i64 x13_1 ∧ Aside0 (impl_Clean.l0 kq x3_1 t208 (t208.length : Int) x13_1 = some r) ∧ Aside0 (kq ≤ k) ∧ Aside0 (Kd.R Kd.string 9 w' w.heap.size (fun k_ => some k_ ≠ ((.slice Ao8 t208.length co8) : Value).ownBlock) v3 x3_1) ∧ Aside0 (Kd.R Kd.string 9 w' w.heap.size (fun k_ => some k_ ≠ (v3 : Value).ownBlock) (.slice Ao8 t208.length co8) t208) ∧ Aside0 (Below w.heap.size w w'))
  case atStart => exact ⟨(y205), (0), zt12, H', ⟨Nat.le_refl _⟩, ⟨by (with_reducible repeat (first | apply Kd.R_alloc | apply Kd.R_drewN | apply Kd.R_drew)); exact Kd.R_mono HO207.out (fun _ hk => hk.2)⟩, ⟨by (with_reducible repeat (first | apply Kd.R_alloc | apply Kd.R_drewN | apply Kd.R_drew)); exact Kd.R_mono HO210.out (fun _ hk => hk.2)⟩, ⟨zt3⟩⟩
  case round =>
   clear H'
   try clear p2
   try clear c3
   try clear c4
   try clear c6
   obtain ⟨x3_1, x13_1, rfl, HA, HK1, HO_3, HO_11, HB⟩ := hrel
   cases gk with
   | zero => exact absurd HA.out (by simp [impl_Clean.l0])
   | succ k1 =>
    have H := HA.out
    clear HA
    simp only [impl_Clean.l0] at H
    by_cases c9 : x13_1 < (t208.length : Int)
    ·rw [if_pos c9] at H
     have c9b0 := decide_eq_true c9
     clear c9
     replace H := it0 H
     obtain ⟨c10, H⟩ := H
     have c10b0 : decide (0 ≤ x13_1) = true := decide_eq_true c10
     clear c10
     replace H := it0 H
     obtain ⟨c11, H⟩ := H
     have c11b0 := decide_eq_true c11
     clear c11
     have HC12 := Aside0.mk H
     clear H
     have p212 : 0 ≤ (x13_1 : Int) := of_decide_eq_true zt8
     have q212 : x13_1 < (t208.length : Int) := of_decide_eq_true zt8
     obtain ⟨ad212, e212, hx212_0⟩ := Kd.at_string (Kd.R_reads' HO_11.out).2.2 x13_1 p212 q212
     cases e212
     replace p212 := eq_true p212
     replace q212 := eq_true q212
     go_upto_if 22 with (fail)
     go_cut [22] (fun v22 wc => ∃ (kq : Nat) (x22_11 : Bool), v22 = .bool x22_11 ∧ Aside0 (impl_Clean.j1 kq x3_1 (rdOf ByteArray.empty t208 x13_1) t208 (t208.length : Int) x13_1 (rdOf ByteArray.empty t208 x13_1) x22_11 = some r) ∧ Aside0 (kq ≤ k1) ∧ Aside0 (Kd.R Kd.string 9 wc w.heap.size (fun k_ => some k_ ≠ ((.slice (some ad212) t208.length co8) : Value).ownBlock) u3 x3_1) ∧ Aside0 (Kd.R Kd.string 9 wc w.heap.size (fun k_ => some k_ ≠ (u3 : Value).ownBlock) (.slice (some ad212) t208.length co8) t208) ∧ Aside0 (Below w.heap.size w wc))
     case first =>
      have H := HC12.out
      clear HC12
      by_cases c13 : (rdOf ByteArray.empty t208 x13_1).toList = ([] : List UInt8)
      rw [if_pos c13] at H
      have c13b0 := beq_iff_eq.mpr c13
      have c13b1 := bne_eq_false_iff_eq.mpr c13
      have c13b2 : (rdOf ByteArray.empty t208 x13_1).toList.isEmpty = true := by have h_ := c13b0; simpa using h_
      (first | rw [c13b2] | skip)
      clear c13
      (first | rw [c13b0] | (simp only [i64_w, i32_w]; rw [c13b0]) | skip)
      have H' := Aside0.mk H
      clear H
      rotate_left
      rw [if_neg c13] at H
      have c13b0 := beq_eq_false_iff_ne.mpr c13
      have c13b1 := bne_iff_ne.mpr c13
      have c13b2 : (rdOf ByteArray.empty t208 x13_1).toList.isEmpty = false := by have h_ := c13b0; simpa using h_
      (first | rw [c13b2] | skip)
      (first | rw [c13b0] | (simp only [i64_w, i32_w]; rw [c13b0]) | skip)
      have H' := Aside0.mk H
      clear H
      rotate_left
      all_goals
       repeat (go_wp2; first | go_quiet (fail) | (go_meet; (case rel => exact ⟨_, (((rdOf ByteArray.empty t208 x13_1).toList == ([] : List UInt8))), zt12, H', ⟨zt34⟩, ⟨zt15⟩, ⟨zt25⟩, ⟨zt3⟩⟩)) | (go_meet; (case rel => exact ⟨_, (((rdOf ByteArray.empty t208 x13_1).toList == ([46] : List UInt8))), zt12, H', ⟨zt34⟩, ⟨zt15⟩, ⟨zt25⟩, ⟨zt3⟩⟩)))
     case rest =>
      clear HC12
      try clear c1
      try clear p2
      try clear q2
      try clear hx2
      try clear c3
      try clear c4
      try clear c6
      try clear c9
      try clear c9b0
      try clear c10
      try clear c10b0
      try clear c11
      try clear c11b0
      try clear c13
      try clear c13b0
      try clear c13b1
      try clear hx212_0
      try clear p2
      try clear p212
      try clear q212
      obtain ⟨kq, x22_11, rfl, HA, HJ11, HO_3, HO_11, HB⟩ := hcut
      cases kq with
      | zero => exact absurd HA.out (by simp [impl_Clean.j1])
      | succ kj11 =>
       have H := HA.out
       clear HA
       simp only [impl_Clean.j1] at H
       by_cases c14 : x22_11 = true
       subst c14
       rw [if_pos rfl] at H
       have H' := Aside0.mk H
       clear H
       rotate_left
       replace c14 := Bool.eq_false_iff.mpr c14
       subst c14
       rw [if_neg (show ¬ (false = true) by decide)] at H
       by_cases c15 : (rdOf ByteArray.empty t208 x13_1).toList = ([46, 46] : List UInt8)
       rw [if_pos c15] at H
       have c15b0 := beq_iff_eq.mpr c15
       have c15b1 := bne_eq_false_iff_eq.mpr c15
       clear c15
       obtain ⟨ji16, hji16⟩ : ∃ j_ : Int, (mx 0 (wrap64 ((x3_1.length : Int) - 1))) = j_ := ⟨_, rfl⟩
       replace H : (if 0 ≤ (ji16) then (if (ji16) ≤ (x3_1.length : Int) then (impl_Clean.l0 kj11 (x3_1.take ((ji16) : Int).toNat) t208 (t208.length : Int) (wrap64 (x13_1 + 1))) else (none)) else (none)) = some r := by first | (rw [hji16] at H; exact H) | (simp only [hji16] at H ⊢; exact H)
       have hji16_ : (if 0 < (wrap64 ((x3_1.length : Int) - 1)) then (wrap64 ((x3_1.length : Int) - 1)) else 0) = ji16 := hji16
       replace H := it0 H
       obtain ⟨c17, H⟩ := H
       have c17b0 := eq_true c17
       have c17b1 := decide_eq_true c17
       clear c17
       replace H := it0 H
       obtain ⟨c18, H⟩ := H
       have c18b0 := eq_true c18
       have c18b1 := decide_eq_true c18
       clear c18
       obtain ⟨y213, hy213⟩ : ∃ y_ : List ByteArray, y_ = (x3_1.take ((ji16) : Int).toNat) := ⟨_, rfl⟩
       replace H : (impl_Clean.l0 kj11 y213 t208 (t208.length : Int) (wrap64 (x13_1 + 1))) = some r := by first | (rw [hy213]; with_reducible exact H) | (have H2_ := (Option.bind_some _ _).symm.trans H; rw [hy213]; with_reducible exact H2_) | (have H2_ := (Option.bind_some _ _).symm.trans H; with_reducible exact H2_) | with_reducible exact H | (rw [hy213]; exact H) | exact H
       have Ny213 := Aside0.mk hy213
       clear hy213
       have H' := Aside0.mk H
       clear H
       obtain ⟨Ao19, co19, eo19⟩ := Kd.R_slice HO_3.out
       subst eo19
       have q20 : ((ji16) : Int) ≤ ((x3_1.length : Int) : Int) := of_decide_eq_true zt8
       obtain ⟨i020, hi020, _, hsz20, _⟩ := info_parts info9
       have hcut20 := cut_to (P := Tryz.prog) 40 9 .i64 Tryz.underlying40 hi020 Ao19 x3_1.length co19 (ji16) (of_decide_eq_true zt8) q20 (Kd.R_reads' HO_3.out).2.1
       have hr20 := Kd.R_take (m := ((ji16) : Int).toNat) HO_3.out (by omega)
       have hy20 : y213.length = ((ji16) : Int).toNat := (by rw [Ny213.out, List.length_take]; omega)
       rw [← Ny213.out] at hr20
       rw [← hy20] at hr20 hcut20
       clear hy20 hi020 hsz20 HO_3
       have HO215 := Aside0.mk hr20
       clear hr20
       replace q20 := eq_true q20
       rotate_left
       rw [if_neg c15] at H
       have c15b0 := beq_eq_false_iff_ne.mpr c15
       have c15b1 := bne_iff_ne.mpr c15
       replace H := it0 H
       obtain ⟨c21, H⟩ := H
       have LMc21 := Aside0.mk c21
       clear c21
       obtain ⟨y216, hy216⟩ : ∃ y_ : List ByteArray, y_ = (x3_1 ++ [(rdOf ByteArray.empty t208 x13_1)]) := ⟨_, rfl⟩
       replace H : (impl_Clean.l0 kj11 y216 t208 (t208.length : Int) (wrap64 (x13_1 + 1))) = some r := by first | (rw [hy216]; with_reducible exact H) | (have H2_ := (Option.bind_some _ _).symm.trans H; rw [hy216]; with_reducible exact H2_) | (have H2_ := (Option.bind_some _ _).symm.trans H; with_reducible exact H2_) | with_reducible exact H | (rw [hy216]; exact H) | exact H
       have Ny216 := Aside0.mk hy216
       clear hy216
       have H' := Aside0.mk H
       clear H
       rotate_left
       all_goals
        repeat (go_wp2_with (first | ((with_reducible refine gate_builtin (b := .append) (xs := #[.tmp 18, .tmp 20]) rfl ?_); at_builtin; refine Kd.R_append Kd.string (w0 := w) w.heap.size rfl (.tmp 18) (.tmp 20) 40 9 (.string ⟨#[]⟩) 16 rfl Tryz.underlying40 info9 rfl (by decide) (by omega) u3 x3_1 (rdOf ByteArray.empty t208 x13_1) [.string (rdOf ByteArray.empty t208 x13_1)] (fun k_ => some k_ ≠ (.slice (some ad212) t208.length co8 : Value).ownBlock) (fun _ => False) rfl rfl ?aP (fun _ hk => hk.elim) ?aF ?aO ?aB ?aS ?aL ?_; (case aP => exact rfl); (case aB => exact zt3); (case aF => exact (fun k_ hk => Kd.fresh' (Kd.R_lt (rz HO_11.out)) k_ hk)); (case aO => exact (rz HO_3.out)); (case aS => exact (below_size zt3)); (case aL => have := LMc21.out; omega); intro v7000 w7001 ho hb hg hat; rw [← Ny216.out] at ho; have n0_ := Aside0.mk (Kd.R_after (ok := (fun _ => True)) (by (with_reducible repeat (first | apply Kd.R_alloc | apply Kd.R_drewN | apply Kd.R_drew)); exact Kd.R_mono HO_11.out (fun _ hk => ⟨trivial, hk⟩)) hg hat); have n1_ := Aside0.mk (hb); have n2_ := Aside0.mk (ho); clear HO_11; clear HB; clear HO_3; have HO_11 := n0_; have HB := n1_; have HO7002 := n2_; clear n0_ n1_ n2_; clear ho hb hg hat)); first | go_quiet (fail) | (go_roundg kj11; (case measure => have := HK1.out; have := HJ11.out; omega); (case rel => exact ⟨(x3_1), (wrap64 (x13_1 + 1)), zt12, H', ⟨by have := HK1.out; have := HJ11.out; omega⟩, ⟨zt15⟩, ⟨zt25⟩, ⟨zt3⟩⟩)) | (go_roundg kj11; (case measure => have := HK1.out; have := HJ11.out; omega); (case rel => exact ⟨(y213), (wrap64 (x13_1 + 1)), zt12, H', ⟨by have := HK1.out; have := HJ11.out; omega⟩, ⟨by (with_reducible repeat (first | apply Kd.R_alloc | apply Kd.R_drewN | apply Kd.R_drew)); (first | exact HO215.out | exact Kd.R_mono HO215.out (fun k_ h_ => by first | exact h_ | (simpa [Value.ownBlock] using h_) | (have e_ : ∀ (A : Option Addr) (n m c : Nat), (Value.slice A n c).ownBlock = (Value.slice A m c).ownBlock := (fun A n m c => by cases A <;> rfl); rw [e_ _ _ 0 _] at h_ ⊢; exact h_)))⟩, ⟨zt25⟩, ⟨zt3⟩⟩)) | (go_roundg kj11; (case measure => have := HK1.out; have := HJ11.out; omega); (case rel => exact ⟨(y216), (wrap64 (x13_1 + 1)), zt12, H', ⟨by have := HK1.out; have := HJ11.out; omega⟩, ⟨zt23⟩, ⟨by (with_reducible repeat (first | apply Kd.R_alloc | apply Kd.R_drewN | apply Kd.R_drew)); exact Kd.R_mono HO_11.out (fun _ hk => hk.2)⟩, ⟨zt3⟩⟩)))
    ·rw [if_neg c9] at H
     have c9b0 := decide_eq_false c9
     clear c9
     replace H := bnd H
     obtain ⟨t211, A23, H⟩ := H
     try dsimp only at H
     replace H := it0 H
     obtain ⟨c24, H⟩ := H
     obtain ⟨c24b0, c24b1, c24b2⟩ := szf c24
     obtain rfl := Option.some.inj H
     obtain ⟨Ao25, co25, eo25⟩ := Kd.R_slice HO_3.out
     subst eo25
     go_wp2_with (first | ((with_reducible refine gate_callee (f := 63) rfl ?_); refine goesL_ (some 35) rfl rfl Tryz.func63 (by kernel_rfl) rfl #[.slice Ao25 x3_1.length co25, .string (⟨#[47]⟩ : ByteArray)] rfl zt7 ?_; (with_reducible refine (strings_Join.calls _ _ x3_1 (⟨#[47]⟩ : ByteArray) t211 _ ?side1 ?side2 A23.out).mono ?_); (case side1 => exact cz (Kd.R_reads' HO_3.out).2.2); (case side2 => exact (Kd.R_reads' HO_3.out).2.1); rintro e w26 ⟨rfl, hb⟩; refine ⟨_, rfl, ?_⟩; have n0_ := Aside0.mk (Kd.R_below (rz HO_3.out) hb); have n1_ := Aside0.mk (Kd.R_below (rz HO_11.out) hb); have n2_ := Aside0.mk (below_step zt3 hb); clear HO_3; clear HO_11; clear HB; have HO_3 := n0_; have HO_11 := n1_; have HB := n2_; clear n0_ n1_ n2_; (try clear hb); (try clear hb2); (try clear hk); (try clear hi)))
     go_ret
     exact ⟨zt10, zt3⟩
 ·replace c3 := Bool.eq_false_iff.mpr c3
  subst c3
  rw [if_neg (show ¬ (false = true) by decide)] at H
  obtain rfl := Option.some.inj H
  go_enter Tryz.func43, Tryz.ntmps43
  go_wp2_with (first | ((with_reducible refine gate_callee (f := 61) rfl ?_); refine goesL_ (some 7) rfl rfl Tryz.func61 (by kernel_rfl) rfl #[.string a0] rfl zt7 ?_; (with_reducible refine (impl_isPath.calls k a0 false _ A2.out).mono ?_); rintro e w' ⟨rfl, ⟨nd, rfl⟩⟩; refine ⟨_, rfl, ?_⟩))
  go_ret
  exact ⟨zt10, zt3⟩

end Go.Proofs.YtkmcnjpgamaljaaGreatDoor.PFnFiles

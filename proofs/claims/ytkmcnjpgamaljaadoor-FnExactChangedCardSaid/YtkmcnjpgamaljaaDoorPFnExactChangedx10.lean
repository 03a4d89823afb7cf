-- Out of the kit's print, with contracts of mine among it (myprint.py).
import Derived.Test.YtkmcnjpgamaljaaDoorPFnExactChangedx0
import Derived.Test.YtkmcnjpgamaljaaDoorPFnExactChangedx1
import Derived.Test.YtkmcnjpgamaljaaDoorPFnExactChangedx2
import Derived.Test.YtkmcnjpgamaljaaDoorPFnExactChangedx9
namespace Go.Proofs.YtkmcnjpgamaljaaDoor.PFnExactChanged
open Go.RowKit Go.Proofs.YtkmcnjpgamaljaaDoorW.PrintWords Go.Proofs.YtkmcnjpgamaljaaDoorW.PrintLast Go.Proofs.YtkmcnjpgamaljaaDoorW.PrintMore
attribute [local go_sem] max2_int min2_int max_two min_two max_three min_three max_four min_four   -- for this text's walks alone
set_option linter.unusedVariables false
set_option linter.unusedSimpArgs false

attribute [local go_sem high] eqA35
/-! ### impl_File_41: function 41 -/
def impl_File_41.l0 : Nat → List (S35) → Int → Int → ByteArray → ByteArray → Option (Int)
  | 0, _, _, _, _, _ => none
  | k + 1, x0, x7, x8, x219000, x219001 => if x8 < x7 then (if 0 ≤ x8 then (if x8 < (x0.length : Int) then (if (x219000.toList == (((rd_T35 x0 x8).f0).toList) && (x219001.toList == (((rd_T35 x0 x8).f1).toList))) = true then (some x8) else (impl_File_41.l0 k x0 x7 (wrap64 (x8 + 1)) x219000 x219001)) else (none)) else (none)) else (some (-1))
def impl_File_41.f (k : Nat) (l0 : List (S35)) (a1_0 : ByteArray) (a1_1 : ByteArray) : Option (Int) := impl_File_41.l0 k l0 (l0.length : Int) 0 a1_0 a1_1
theorem impl_File_41.mono_l : ∀ k, (∀ y0 y1 y2 y3 y4, LeO (impl_File_41.l0 k y0 y1 y2 y3 y4) (impl_File_41.l0 (k + 1) y0 y1 y2 y3 y4))
  | 0 => fun _ _ _ _ _ r h => by simp [impl_File_41.l0] at h
  | k + 1 => by
    have ih0 := impl_File_41.mono_l k
    · intro y0 y1 y2 y3 y4
      unfold impl_File_41.l0
      repeat' first
      | (with_reducible exact ih0 _ _ _ _ _)
      | (with_reducible exact LeO.refl _)
      | (with_reducible exact LeO.none _)
      | (with_reducible refine LeO.ite ?_ ?_)
      | (with_reducible refine LeO.bind ?_ (fun _ => ?_))
      | exact ih0 _ _ _ _ _
      | exact LeO.none _
      | refine LeO.ite ?_ ?_
      | refine LeO.bind ?_ (fun _ => ?_)
theorem impl_File_41.mono : ∀ a0 a1 a2 k, LeO (impl_File_41.f k a0 a1 a2) (impl_File_41.f (k + 1) a0 a1 a2) := by
  intro a0 a1 a2 k
  have ih0 := impl_File_41.mono_l k
  unfold impl_File_41.f
  repeat' first
      | (with_reducible exact ih0 _ _ _ _ _)
      | (with_reducible exact LeO.refl _)
      | (with_reducible exact LeO.none _)
      | (with_reducible refine LeO.ite ?_ ?_)
      | (with_reducible refine LeO.bind ?_ (fun _ => ?_))
      | exact ih0 _ _ _ _ _
      | exact LeO.none _
      | refine LeO.ite ?_ ?_
      | refine LeO.bind ?_ (fun _ => ?_)
set_option maxHeartbeats 8000000 in
set_option maxRecDepth 100000 in
theorem impl_File_41.calls (k : Nat) (A0 : Option Addr) (c0 : Nat) (l0 : List (S35)) (a1_0 : ByteArray) (a1_1 : ByteArray) (r : Int) (w : World) (hr0 : Kd.C k35 w A0 l0.length l0) (hc0 : l0.length ≤ c0) (h : impl_File_41.f k l0 a1_0 a1_1 = some r) :
    Calls Tryd.prog 41 #[.slice A0 l0.length c0, .agg #[.string a1_0, .string a1_1]] w fun e w' => e = .returned (.int .i64 r) ∧ Below w.heap.size w w' := by
  have hu35 := Tryd.underlying35
  have HR0 := Aside0.mk hr0
  have HC0 := Aside0.mk hc0
  clear hr0 hc0
  have HB := Aside0.mk (Below.refl w.heap.size w)
  have H : (impl_File_41.l0 k l0 (l0.length : Int) 0 a1_0 a1_1) = some r := h
  clear h
  have H' := Aside0.mk H
  clear H
  go_enter Tryd.func41, Tryd.ntmps41
  go_wp2_with (first | ((with_reducible refine gate_dst (N := 3) rfl ?_); refine box_event ?hg (N := 3) ?hd (cs := #[.string a1_0, .string a1_1]) (t := 35) ?hr ?_; (case hd => rfl); (case hg => rfl); (case hr => first | (go_simp; done) | (go_simp; rfl)); intro gb218 hg w3 hbox hb; have n0_ := Aside0.mk (below_step (by repeat (first | (with_reducible first | exact HB.out | apply below_alloc | apply pw_below_drewN | apply below_drew1) | exact HB.out)) hb); have n1_ := Aside0.mk (hbox); have n2_ := Aside0.mk ((by rw [hg]; exact (below_size (by repeat (first | (with_reducible first | exact HB.out | apply below_alloc | apply pw_below_drewN | apply below_drew1) | exact HB.out))) : w.heap.size ≤ gb218)); have n3_ := Aside0.mk ((by rw [hg]; exact (below_size (by repeat (first | (with_reducible first | exact HB.out | apply below_alloc | apply pw_below_drewN | apply below_drew1) | exact HB.out))) : w.heap.size ≤ gb218)); clear HB; have HB := n0_; have BK218 := n1_; have GW218 := n2_; have GE218 := n3_; clear n0_ n1_ n2_ n3_; clear hb hbox hg))
  repeat (go_quiet (first | ((with_reducible refine gate_dst (N := 3) rfl ?_); refine box_event ?hg (N := 3) ?hd (cs := #[.string a1_0, .string a1_1]) (t := 35) ?hr ?_; (case hd => rfl); (case hg => rfl); (case hr => first | (go_simp; done) | (go_simp; rfl)); intro gb218 hg w3 hbox hb; have n0_ := Aside0.mk (below_step (by repeat (first | (with_reducible first | exact HB.out | apply below_alloc | apply pw_below_drewN | apply below_drew1) | exact HB.out)) hb); have n1_ := Aside0.mk (hbox); have n2_ := Aside0.mk ((by rw [hg]; exact (below_size (by repeat (first | (with_reducible first | exact HB.out | apply below_alloc | apply pw_below_drewN | apply below_drew1) | exact HB.out))) : w.heap.size ≤ gb218)); have n3_ := Aside0.mk ((by rw [hg]; exact (below_size (by repeat (first | (with_reducible first | exact HB.out | apply below_alloc | apply pw_below_drewN | apply below_drew1) | exact HB.out))) : w.heap.size ≤ gb218)); clear HB; have HB := n0_; have BK218 := n1_; have GW218 := n2_; have GE218 := n3_; clear n0_ n1_ n2_ n3_; clear hb hbox hg)); try go_wp2_with (first | ((with_reducible refine gate_dst (N := 3) rfl ?_); refine box_event ?hg (N := 3) ?hd (cs := #[.string a1_0, .string a1_1]) (t := 35) ?hr ?_; (case hd => rfl); (case hg => rfl); (case hr => first | (go_simp; done) | (go_simp; rfl)); intro gb218 hg w3 hbox hb; have n0_ := Aside0.mk (below_step (by repeat (first | (with_reducible first | exact HB.out | apply below_alloc | apply pw_below_drewN | apply below_drew1) | exact HB.out)) hb); have n1_ := Aside0.mk (hbox); have n2_ := Aside0.mk ((by rw [hg]; exact (below_size (by repeat (first | (with_reducible first | exact HB.out | apply below_alloc | apply pw_below_drewN | apply below_drew1) | exact HB.out))) : w.heap.size ≤ gb218)); have n3_ := Aside0.mk ((by rw [hg]; exact (below_size (by repeat (first | (with_reducible first | exact HB.out | apply below_alloc | apply pw_below_drewN | apply below_drew1) | exact HB.out))) : w.heap.size ≤ gb218)); clear HB; have HB := n0_; have BK218 := n1_; have GW218 := n2_; have GE218 := n3_; clear n0_ n1_ n2_ n3_; clear hb hbox hg)))
  go_loopg [8] k (fun kq v8 w' => ∃ (x8_1 : Int), v8 = .int .i64 x8_1 ∧ Aside0 (impl_File_41.l0 kq l0 (l0.length : Int) x8_1 a1_0 a1_1 = some r) ∧ Aside0 (kq ≤ k) ∧ Aside0 (w'.heap[gb218]? = some (.cells #[.string a1_0, .string a1_1] 35 (0, 0))) ∧ Aside0 (Below w.heap.size w w'))
  case atStart => exact ⟨(0), (by first | rfl | (simp; done) | (simp [*]; done)), H', ⟨Nat.le_refl _⟩, ⟨by (with_reducible repeat (first | refine blk_drewN ?_ _ | refine blk_drew ?_ | refine blk_alloc ?_ _)); exact BK218.out⟩, ⟨by repeat (first | (with_reducible first | exact HB.out | apply below_alloc | apply pw_below_drewN | apply below_drew1 | refine below_set ?_ GE218.out) | exact HB.out)⟩⟩
  case round =>
    clear H'
    try clear p2
    obtain ⟨x8_1, rfl, HA, HK1, BK218, HB⟩ := hrel
    cases gk with
    | zero => exact absurd HA.out (by simp [impl_File_41.l0])
    | succ k1 =>
      have H := HA.out
      clear HA
      simp only [impl_File_41.l0] at H
      by_cases c4 : x8_1 < (l0.length : Int)
      · rw [if_pos c4] at H
        have c4b0 : decide (x8_1 < (l0.length : Int)) = true := decide_eq_true c4
        clear c4
        by_cases c5 : 0 ≤ x8_1
        · rw [if_pos c5] at H
          have c5b0 : decide (0 ≤ x8_1) = true := decide_eq_true c5
          clear c5
          by_cases c6 : x8_1 < (l0.length : Int)
          · rw [if_pos c6] at H
            have c6b0 : decide (x8_1 < (l0.length : Int)) = true := decide_eq_true c6
            clear c6
            by_cases c7 : (a1_0.toList == (((rd_T35 l0 x8_1).f0).toList) && (a1_1.toList == (((rd_T35 l0 x8_1).f1).toList))) = true
            · rw [if_pos c7] at H
              have c7b0 : (a1_0.toList == (((rd_T35 l0 x8_1).f0).toList) && (a1_1.toList == (((rd_T35 l0 x8_1).f1).toList))) = true := c7
              (try (have c7b1 : decide (a1_0.toList = (((rd_T35 l0 x8_1).f0).toList) && (a1_1.toList == (((rd_T35 l0 x8_1).f1).toList))) = true := by simpa using c7))
              (try (have c7b2 : (a1_0.toList == (((rd_T35 l0 x8_1).f0).toList) && (a1_1.toList == (((rd_T35 l0 x8_1).f1).toList))) = true := by simpa using c7))
              clear c7
              obtain rfl := Option.some.inj H
              have hcz8_0 : wr.cell? ⟨gb218, 0, none⟩ = some (.string a1_0) := (blk_cell BK218.out 0).trans rfl
              have hcz8_1 : wr.cell? ⟨gb218, 1, none⟩ = some (.string a1_1) := (blk_cell BK218.out 1).trans rfl
              have hfz8_0 := blk_frozen BK218.out 0
              have hfz8_1 := blk_frozen BK218.out 1
              have p219 : 0 ≤ (x8_1 : Int) := of_decide_eq_true (by first | (with_reducible assumption) | assumption)
              have q219 : x8_1 < (l0.length : Int) := of_decide_eq_true (by first | (with_reducible assumption) | assumption)
              obtain ⟨ad219, e219, hx219_0, hx219_1⟩ := at_T35 HR0.out x8_1 p219 q219
              cases e219
              replace hx219_0 := (HB.out.cell (World.block_lt_of_cell? w _ hx219_0)).trans hx219_0
              replace hx219_1 := (HB.out.cell (World.block_lt_of_cell? w _ hx219_1)).trans hx219_1
              replace p219 := eq_true p219
              replace q219 := eq_true q219
              go_wp2
              repeat (go_quiet (fail); try go_wp2)
              go_ret
              exact ⟨by first | rfl | (simp [errW_none, errW_some] <;> rfl) | (simp [*, errW_none, errW_some] <;> rfl), by repeat (first | (with_reducible first | exact HB.out | apply below_alloc | apply pw_below_drewN | apply below_drew1 | refine below_set ?_ GE218.out) | exact HB.out)⟩
            · rw [if_neg c7] at H
              have c7b0 : (a1_0.toList == (((rd_T35 l0 x8_1).f0).toList) && (a1_1.toList == (((rd_T35 l0 x8_1).f1).toList))) = false := by simpa using c7
              (try (have c7b1 : decide (a1_0.toList = (((rd_T35 l0 x8_1).f0).toList) && (a1_1.toList == (((rd_T35 l0 x8_1).f1).toList))) = false := by simpa using c7))
              (try (have c7b2 : (a1_0.toList == (((rd_T35 l0 x8_1).f0).toList) && (a1_1.toList == (((rd_T35 l0 x8_1).f1).toList))) = false := by simpa using c7))
              (try (have c7b3 : ¬ (a1_0.toList = (((rd_T35 l0 x8_1).f0).toList) && (a1_1.toList == (((rd_T35 l0 x8_1).f1).toList))) := by simpa using c7))
              clear c7
              have H' := Aside0.mk H
              clear H
              have hcz9_0 : wr.cell? ⟨gb218, 0, none⟩ = some (.string a1_0) := (blk_cell BK218.out 0).trans rfl
              have hcz9_1 : wr.cell? ⟨gb218, 1, none⟩ = some (.string a1_1) := (blk_cell BK218.out 1).trans rfl
              have hfz9_0 := blk_frozen BK218.out 0
              have hfz9_1 := blk_frozen BK218.out 1
              have p219 : 0 ≤ (x8_1 : Int) := of_decide_eq_true (by first | (with_reducible assumption) | assumption)
              have q219 : x8_1 < (l0.length : Int) := of_decide_eq_true (by first | (with_reducible assumption) | assumption)
              obtain ⟨ad219, e219, hx219_0, hx219_1⟩ := at_T35 HR0.out x8_1 p219 q219
              cases e219
              replace hx219_0 := (HB.out.cell (World.block_lt_of_cell? w _ hx219_0)).trans hx219_0
              replace hx219_1 := (HB.out.cell (World.block_lt_of_cell? w _ hx219_1)).trans hx219_1
              replace p219 := eq_true p219
              replace q219 := eq_true q219
              go_wp2
              repeat (go_quiet (fail); try go_wp2)
              go_roundg k1
              case measure => have := HK1.out; omega
              case rel => exact ⟨(wrap64 (x8_1 + 1)), (by first | rfl | (simp; done) | (simp [*]; done)), H', ⟨by have := HK1.out; omega⟩, ⟨by (with_reducible repeat (first | refine blk_drewN ?_ _ | refine blk_drew ?_ | refine blk_alloc ?_ _)); exact BK218.out⟩, ⟨by repeat (first | (with_reducible first | exact HB.out | apply below_alloc | apply pw_below_drewN | apply below_drew1 | refine below_set ?_ GE218.out) | exact HB.out)⟩⟩
          · rw [if_neg c6] at H
            exact absurd H (by simp)
        · rw [if_neg c5] at H
          exact absurd H (by simp)
      · rw [if_neg c4] at H
        have c4b0 : decide (x8_1 < (l0.length : Int)) = false := decide_eq_false c4
        clear c4
        obtain rfl := Option.some.inj H
        go_wp2
        repeat (go_quiet (fail); try go_wp2)
        go_ret
        exact ⟨by first | rfl | (simp [errW_none, errW_some] <;> rfl) | (simp [*, errW_none, errW_some] <;> rfl), by repeat (first | (with_reducible first | exact HB.out | apply below_alloc | apply pw_below_drewN | apply below_drew1 | refine below_set ?_ GE218.out) | exact HB.out)⟩

/-! ### impl_File_32: function 32 -/
def impl_File_32.f (k : Nat) (l0 : List (S35)) (a1_0 : ByteArray) (a1_1 : ByteArray) : Option (Bool) := (impl_File_41.f k l0 a1_0 a1_1).bind fun t221 => (some (decide (t221 ≥ 0)))
theorem impl_File_32.mono : ∀ a0 a1 a2 k, LeO (impl_File_32.f k a0 a1 a2) (impl_File_32.f (k + 1) a0 a1 a2) := by
  intro a0 a1 a2 k
  unfold impl_File_32.f
  repeat' first
      | (with_reducible exact impl_File_41.mono _ _ _ _)
      | (with_reducible exact LeO.refl _)
      | (with_reducible exact LeO.none _)
      | (with_reducible refine LeO.ite ?_ ?_)
      | (with_reducible refine LeO.bind ?_ (fun _ => ?_))
      | exact impl_File_41.mono _ _ _ _
      | exact LeO.none _
      | refine LeO.ite ?_ ?_
      | refine LeO.bind ?_ (fun _ => ?_)
set_option maxHeartbeats 8000000 in
set_option maxRecDepth 100000 in
theorem impl_File_32.calls (k : Nat) (A0 : Option Addr) (c0 : Nat) (l0 : List (S35)) (a1_0 : ByteArray) (a1_1 : ByteArray) (r : Bool) (w : World) (hr0 : Kd.C k35 w A0 l0.length l0) (hc0 : l0.length ≤ c0) (h : impl_File_32.f k l0 a1_0 a1_1 = some r) :
    Calls Tryd.prog 32 #[.slice A0 l0.length c0, .agg #[.string a1_0, .string a1_1]] w fun e w' => e = .returned (.bool r) ∧ Below w.heap.size w w' := by
  have hu35 := Tryd.underlying35
  have HR0 := Aside0.mk hr0
  have HC0 := Aside0.mk hc0
  clear hr0 hc0
  have HB := Aside0.mk (Below.refl w.heap.size w)
  have H : ((impl_File_41.f k l0 a1_0 a1_1).bind fun t221 => (some (decide (t221 ≥ 0)))) = some r := h
  clear h
  replace H := Option.bind_eq_some_iff.mp H
  obtain ⟨t221, A30, H⟩ := H
  replace H : (some (decide (t221 ≥ 0))) = some r := H
  have A3 := Aside0.mk A30
  clear A30
  obtain rfl := Option.some.inj H
  go_enter Tryd.func32, Tryd.ntmps32
  go_wp2_with (first | ((with_reducible refine gate_dst (N := 3) rfl ?_); refine box_event ?hg (N := 3) ?hd (cs := #[.string a1_0, .string a1_1]) (t := 35) ?hr ?_; (case hd => rfl); (case hg => rfl); (case hr => first | (go_simp; done) | (go_simp; rfl)); intro gb220 hg w4 hbox hb; have n0_ := Aside0.mk (below_step (by repeat (first | (with_reducible first | exact HB.out | apply below_alloc | apply pw_below_drewN | apply below_drew1) | exact HB.out)) hb); have n1_ := Aside0.mk (hbox); have n2_ := Aside0.mk ((by rw [hg]; exact (below_size (by repeat (first | (with_reducible first | exact HB.out | apply below_alloc | apply pw_below_drewN | apply below_drew1) | exact HB.out))) : w.heap.size ≤ gb220)); have n3_ := Aside0.mk ((by rw [hg]; exact (below_size (by repeat (first | (with_reducible first | exact HB.out | apply below_alloc | apply pw_below_drewN | apply below_drew1) | exact HB.out))) : w.heap.size ≤ gb220)); clear HB; have HB := n0_; have BK220 := n1_; have GW220 := n2_; have GE220 := n3_; clear n0_ n1_ n2_ n3_; clear hb hbox hg; have hcz5_0 : w4.cell? ⟨gb220, 0, none⟩ = some (.string a1_0) := (blk_cell BK220.out 0).trans rfl; have hcz5_1 : w4.cell? ⟨gb220, 1, none⟩ = some (.string a1_1) := (blk_cell BK220.out 1).trans rfl; have hfz5_0 := blk_frozen BK220.out 0; have hfz5_1 := blk_frozen BK220.out 1) | ((with_reducible refine gate_callee (f := 41) rfl ?_); refine goesL_ (some 7) rfl rfl Tryd.func41 (by kernel_rfl) rfl #[.slice A0 l0.length c0, .agg #[.string a1_0, .string a1_1]] rfl (by (try simp only [List.map_toArray, List.map_cons, List.map_nil]); first | done | rfl | (simp only [List.length_drop, List.length_take]; rfl)) ?_; (with_reducible refine (impl_File_41.calls k _ _ l0 a1_0 a1_1 t221 _ ?side1 ?side2 A3.out).mono ?_); (case side1 => repeat (first | exact (Kd.C_below HR0.out HB.out) | (with_reducible refine Kd.C_alloc ?_ _) | (with_reducible refine Kd.C_drewN ?_ _) | (with_reducible refine Kd.C_drew ?_))); (case side2 => exact HC0.out); rintro e w6 ⟨rfl, hb⟩; refine ⟨_, rfl, ?_⟩; have n0_ := Aside0.mk (blk_below (g := gb220) (o := .cells #[.string a1_0, .string a1_1] 35 (0, 0)) (by (with_reducible repeat (first | refine blk_drewN ?_ _ | refine blk_drew ?_ | refine blk_alloc ?_ _)); exact BK220.out) hb); have n1_ := Aside0.mk (below_step (by repeat (first | (with_reducible first | exact HB.out | apply below_alloc | apply pw_below_drewN | apply below_drew1 | refine below_set ?_ GE220.out) | exact HB.out)) hb); clear BK220; clear HB; have BK220 := n0_; have HB := n1_; clear n0_ n1_; (try clear hb); (try clear hb2); (try clear hk); (try clear hi)))
  go_ret
  exact ⟨by first | rfl | (simp [errW_none, errW_some] <;> rfl) | (simp [*, errW_none, errW_some] <;> rfl), by repeat (first | (with_reducible first | exact HB.out | apply below_alloc | apply pw_below_drewN | apply below_drew1 | refine below_set ?_ GE220.out) | exact HB.out)⟩

/-! ### impl_rising: function 33 (a contract of mine) -/
def impl_rising.f (l0 : List ByteArray) : Option (List ByteArray) := YtkmcnjpgamaljaaDoor.RisingL.rising.f l0
theorem impl_rising.calls (P0_ : Nat → Prop) (u9000_ : Value) (l0 : List ByteArray) (r : List ByteArray) (w0 w : World) (hB : Below w0.heap.size w0 w) (ho0 : Kd.R Kd.string 9 w w0.heap.size P0_ u9000_ l0) (h : impl_rising.f l0 = some r) :
    Calls Tryd.prog 33 #[u9000_] w fun e w' => ∃ v0_ : Value, e = .returned (v0_) ∧ Kd.R Kd.string 9 w' w0.heap.size (fun k_ => (P0_ k_ ∨ w.heap.size ≤ k_)) v0_ r ∧ Below w0.heap.size w0 w' ∧ Kept w w' (fun k_ => P0_ k_) :=
  YtkmcnjpgamaljaaDoor.RisingL.rising.calls P0_ u9000_ l0 r w0 w hB ho0 h

/-! ### impl_Changed: function 18 (a contract of mine) -/
def impl_Changed.inF (b : List S35) (x : S35) : Bool := b.any fun y => (x.f0.toList == y.f0.toList && (x.f1.toList == y.f1.toList))
def impl_Changed.dif (a b : List S35) : List ByteArray := (a.filter fun x => !impl_Changed.inF b x).map (·.f0)
def impl_Changed.f (k : Nat) (l0 : List S35) (l1 : List S35) : Option (List ByteArray) :=
  (impl_FilesOk.f k l0).bind fun t => if t = true then (impl_FilesOk.f k l1).bind fun u => if u = true then (if l0.length ≤ 1048576 ∧ l1.length ≤ 1048576 then impl_rising.f (impl_Changed.dif l0 l1 ++ impl_Changed.dif l1 l0) else none) else some [] else some []
theorem impl_Changed.mono : ∀ a0 a1 k, LeO (impl_Changed.f k a0 a1) (impl_Changed.f (k + 1) a0 a1) := by
  intro a0 a1 k
  unfold impl_Changed.f
  exact LeO.bind (impl_FilesOk.mono _ _) (fun _ => LeO.ite (LeO.bind (impl_FilesOk.mono _ _) (fun _ => LeO.refl _)) (LeO.refl _))
theorem impl_Changed.has_loop (b : List S35) (hl : b.length ≤ 1048576) (x : S35) (d : Nat) : ∀ i : Nat, i + d = b.length → ∃ k j, impl_File_41.l0 k b (b.length : Int) i x.f0 x.f1 = some j ∧ decide (j ≥ 0) = impl_Changed.inF (b.drop i) x := by
  induction d with
  | zero =>
    intro i hi
    rw [List.drop_eq_nil_of_le (by omega)]
    refine ⟨1, -1, ?_, rfl⟩
    have c : ¬ (i : Int) < (b.length : Int) := by omega
    simp only [impl_File_41.l0, if_neg c]
  | succ d ih =>
    intro i hi
    have hn : wrap64 ((i : Int) + 1) = ((i + 1 : Nat) : Int) := by unfold wrap64; omega
    have c0 : (i : Int) < (b.length : Int) := by omega
    have c1 : 0 ≤ (i : Int) := by omega
    have e0 : b.drop i = rd_T35 b (i : Int) :: b.drop (i + 1) := by
      rw [List.drop_eq_getElem_cons (by omega)]
      congr 1
      show _ = b.getD _ _
      rw [Int.toNat_natCast, List.getD_eq_getElem?_getD, List.getElem?_eq_getElem (by omega)]; rfl
    rw [e0, show ∀ (y : S35) (r : List S35), impl_Changed.inF (y :: r) x = ((x.f0.toList == y.f0.toList && (x.f1.toList == y.f1.toList)) || impl_Changed.inF r x) from fun _ _ => rfl]
    by_cases h : (x.f0.toList == (rd_T35 b (i : Int)).f0.toList && (x.f1.toList == (rd_T35 b (i : Int)).f1.toList)) = true
    · refine ⟨1, i, ?_, ?_⟩
      · simp only [impl_File_41.l0, if_pos c0, if_pos c1, if_pos h]
      · rw [h, Bool.true_or]; exact decide_eq_true c1
    · obtain ⟨k, j, e, hj⟩ := ih (i + 1) (by omega)
      refine ⟨k + 1, j, ?_, ?_⟩
      · simp only [impl_File_41.l0, if_pos c0, if_pos c1, if_neg h, hn]; exact e
      · rw [hj, Bool.eq_false_iff.2 h, Bool.false_or]
theorem impl_Changed.has (b : List S35) (hl : b.length ≤ 1048576) (x : S35) : ∃ k, impl_File_32.f k b x.f0 x.f1 = some (impl_Changed.inF b x) := by
  obtain ⟨k, j, e, hj⟩ := impl_Changed.has_loop b hl x b.length 0 (by omega)
  rw [List.drop_zero] at hj
  refine ⟨k, ?_⟩
  unfold impl_File_32.f impl_File_41.f
  have e2 : impl_File_41.l0 k b (b.length : Int) 0 x.f0 x.f1 = some j := e
  rw [e2, Option.bind_some, hj]
theorem impl_Changed.two {W : World} {gb T : Nat} {a b u v : Value} (h : W.heap[gb]? = some (.cells #[a, b] T (0, 0))) : ((W.setCell ⟨gb, 0, none⟩ u).setCell ⟨gb, 1, none⟩ v).heap[gb]? = some (.cells #[u, v] T (0, 0)) := by
  simp [World.setCell, Array.getElem?_modify, h]
theorem impl_Changed.dif_step (a b : List S35) (i : Nat) (h : i < a.length) : impl_Changed.dif (a.take (i + 1)) b = impl_Changed.dif (a.take i) b ++ (if impl_Changed.inF b (rd_T35 a (i : Int)) = true then [] else [(rd_T35 a (i : Int)).f0]) := by
  have e0 : rd_T35 a (i : Int) = a[i] := by
    show a.getD _ _ = _
    rw [Int.toNat_natCast, List.getD_eq_getElem?_getD, List.getElem?_eq_getElem h]; rfl
  unfold impl_Changed.dif
  rw [List.take_succ_eq_append_getElem h, List.filter_append, List.map_append, e0]
  congr 1
  cases hq : impl_Changed.inF b a[i] <;> simp [hq]
def impl_Changed.out (a b : List S35) : Nat → List ByteArray
  | 0 => []
  | 1 => impl_Changed.dif a b
  | _ => impl_Changed.dif a b ++ impl_Changed.dif b a
theorem impl_Changed.dif_len (a b : List S35) : (impl_Changed.dif a b).length ≤ a.length := by unfold impl_Changed.dif; rw [List.length_map]; exact List.length_filter_le _ _
theorem impl_Changed.out_len (a b : List S35) (q : Nat) : (impl_Changed.out a b q).length ≤ a.length + b.length := by
  have := impl_Changed.dif_len a b; have := impl_Changed.dif_len b a
  match q with
  | 0 => exact Nat.zero_le _
  | 1 => show (impl_Changed.dif a b).length ≤ _; omega
  | q + 2 => show (impl_Changed.dif a b ++ impl_Changed.dif b a).length ≤ _; rw [List.length_append]; omega
set_option maxHeartbeats 8000000 in
set_option maxRecDepth 100000 in
theorem impl_Changed.no (k : Nat) (A0 : Option Addr) (c0 : Nat) (l0 : List S35) (A1 : Option Addr) (c1 : Nat) (l1 : List S35) (w : World) (hr0 : Kd.C k35 w A0 l0.length l0) (hc0 : l0.length ≤ c0) (hr1 : Kd.C k35 w A1 l1.length l1) (hc1 : l1.length ≤ c1) (HT : TabsL w) (t u : Bool) (e1 : impl_FilesOk.f k l0 = some t) (e2 : t = true → impl_FilesOk.f k l1 = some u) (hn : t = false ∨ u = false) :
    Calls Tryd.prog 18 #[.slice A0 l0.length c0, .slice A1 l1.length c1] w fun e w' => ∃ v0_ : Value, e = .returned (v0_) ∧ Kd.R Kd.string 9 w' w.heap.size (fun _ => True) v0_ [] ∧ Below w.heap.size w w' := by
  have HR0 := Aside0.mk hr0
  have HC0 := Aside0.mk hc0
  have HR1 := Aside0.mk hr1
  have HC1 := Aside0.mk hc1
  have HTA := Aside0.mk HT
  have HE1 := Aside0.mk e1
  clear hr0 hc0 hr1 hc1 HT e1
  cases t with
  | false =>
    go_enter Tryd.func18, Tryd.ntmps18
    go_wp2_with (first | (go_at_call 23; (with_reducible refine (impl_FilesOk.calls k A0 c0 l0 false _ HR0.out HC0.out HTA.out HE1.out).mono ?_); rintro e w1 ⟨rfl, hb⟩; have HB1 := Aside0.mk hb; clear hb))
    go_ret
    exact ⟨_, rfl, Kd.R_nil _ _ _ _ _, HB1.out⟩
  | true =>
    obtain rfl : u = false := by rcases hn with h | h; (cases h); exact h
    have HE2 := Aside0.mk (e2 rfl)
    clear e2
    go_enter Tryd.func18, Tryd.ntmps18
    go_wp2_with (first | (go_at_call 23; (with_reducible refine (impl_FilesOk.calls k A0 c0 l0 true _ HR0.out HC0.out HTA.out HE1.out).mono ?_); rintro e w1 ⟨rfl, hb⟩; have HB1 := Aside0.mk hb; clear hb) | (go_at_call 23; (with_reducible refine (impl_FilesOk.calls k A1 c1 l1 false _ (Kd.C_below HR1.out HB1.out) HC1.out (TabsL.below HTA.out HB1.out) HE2.out).mono ?_); rintro e w2 ⟨rfl, hb⟩; have HB2 := Aside0.mk (below_step HB1.out hb); clear hb))
    go_ret
    exact ⟨_, rfl, Kd.R_nil _ _ _ _ _, HB2.out⟩
set_option maxHeartbeats 8000000 in
set_option maxRecDepth 100000 in
theorem impl_Changed.yes (k : Nat) (A0 : Option Addr) (c0 : Nat) (l0 : List S35) (A1 : Option Addr) (c1 : Nat) (l1 : List S35) (r : List ByteArray) (w : World) (hr0 : Kd.C k35 w A0 l0.length l0) (hc0 : l0.length ≤ c0) (hr1 : Kd.C k35 w A1 l1.length l1) (hc1 : l1.length ≤ c1) (HT : TabsL w) (e1 : impl_FilesOk.f k l0 = some true) (e2 : impl_FilesOk.f k l1 = some true) (hl0 : l0.length ≤ 1048576) (hl1 : l1.length ≤ 1048576) (h : impl_rising.f (impl_Changed.dif l0 l1 ++ impl_Changed.dif l1 l0) = some r) :
    Calls Tryd.prog 18 #[.slice A0 l0.length c0, .slice A1 l1.length c1] w fun e w' => ∃ v0_ : Value, e = .returned (v0_) ∧ Kd.R Kd.string 9 w' w.heap.size (fun _ => True) v0_ r ∧ Below w.heap.size w w' := by
  have HR0 := Aside0.mk hr0
  have HC0 := Aside0.mk hc0
  have HR1 := Aside0.mk hr1
  have HC1 := Aside0.mk hc1
  have HTA := Aside0.mk HT
  have HE1 := Aside0.mk e1
  have HE2 := Aside0.mk e2
  have HH := Aside0.mk h
  clear hr0 hc0 hr1 hc1 HT e1 e2 h
  go_enter Tryd.func18, Tryd.ntmps18
  go_wp2_with (first | (go_at_call 23; (with_reducible refine (impl_FilesOk.calls k A0 c0 l0 true _ HR0.out HC0.out HTA.out HE1.out).mono ?_); rintro e w1 ⟨rfl, hb⟩; have HB1 := Aside0.mk hb; clear hb) | (go_at_call 23; (with_reducible refine (impl_FilesOk.calls k A1 c1 l1 true _ (Kd.C_below HR1.out HB1.out) HC1.out (TabsL.below HTA.out HB1.out) HE2.out).mono ?_); rintro e w2 ⟨rfl, hb⟩; have HB2 := Aside0.mk (below_step HB1.out hb); clear hb) | ((with_reducible refine gate_dst (N := 18) rfl ?_); refine Kd.R_lit Kd.string _ 9 ?hg (N := 18) ?hd (xs := ([] : List ByteArray)) (inner := []) (ok := fun _ => True) (okp := fun _ => True) ?hr ?hp (fun _ hk => hk) trivial (Below.refl _ _) (Nat.le_refl _) (by simp) ?_; (case hd => rfl); (case hg => rfl); (case hr => first | (go_simp; done) | (go_simp; rfl)); (case hp => exact (Reps.none _ _)); intro v18 w3 ho hb hg_ hnew_; clear hg_ hnew_; have HO3 := Aside0.mk (Kd.R_lower (show Kd.R Kd.string 9 w3 _ (fun _ => True) v18 ([] : List ByteArray) from ho) (below_size HB2.out)); have HB3 := Aside0.mk (below_step HB2.out hb); clear ho hb))
  go_loopg [5, 27] 2 (fun kq v5 v27 w' => ∃ (q : Nat), v27 = .int .i64 (q : Int) ∧ Aside0 (q ≤ 2 ∧ kq + q = 2) ∧ Aside0 (Kd.R Kd.string 9 w' w.heap.size (fun _ => True) v5 (impl_Changed.out l0 l1 q)) ∧ Aside0 (w'.heap[w3.heap.size]? = some (.cells #[.slice A0 l0.length c0, .slice A1 l1.length c1, .slice A1 l1.length c1, .slice A0 l0.length c0] 53 (0, 0))) ∧ Aside0 (Below w.heap.size w w'))
  case atStart => exact ⟨0, rfl, ⟨by omega, by omega⟩, ⟨Kd.R_alloc HO3.out _⟩, ⟨blk_new w3 _⟩, ⟨below_alloc HB3.out _⟩⟩
  case round =>
    obtain ⟨q, rfl, HI, HO, BK, HB⟩ := hrel
    by_cases hq2 : q < 2
    · have HQ : ∃ A c a B d b, Aside0 (wr.cell? ⟨w3.heap.size, q * 2, none⟩ = some (.slice A (List.length a) c) ∧ wr.cell? ⟨w3.heap.size, q * 2 + 1, none⟩ = some (.slice B (List.length b) d)) ∧ Aside0 (Kd.C k35 w A (List.length a) a ∧ List.length a ≤ c ∧ List.length a ≤ 1048576) ∧ Aside0 (Kd.C k35 w B (List.length b) b ∧ List.length b ≤ d ∧ List.length b ≤ 1048576) ∧ Aside0 (impl_Changed.out l0 l1 (q + 1) = impl_Changed.out l0 l1 q ++ impl_Changed.dif a b) := by
        rcases (show q = 0 ∨ q = 1 by omega) with rfl | rfl
        · exact ⟨A0, c0, l0, A1, c1, l1, ⟨(blk_cell BK.out 0).trans rfl, (blk_cell BK.out 1).trans rfl⟩, ⟨HR0.out, HC0.out, hl0⟩, ⟨HR1.out, HC1.out, hl1⟩, ⟨rfl⟩⟩
        · exact ⟨A1, c1, l1, A0, c0, l0, ⟨(blk_cell BK.out 2).trans rfl, (blk_cell BK.out 3).trans rfl⟩, ⟨HR1.out, HC1.out, hl1⟩, ⟨HR0.out, HC0.out, hl0⟩, ⟨rfl⟩⟩
      obtain ⟨A, c, a, B, d, b, HZ, HA, HBb, HOUT⟩ := HQ
      obtain ⟨z0, z1⟩ := HZ.out
      have p0 : (0 : Int) ≤ (q : Int) := by omega
      have p1 : (q : Int) < 2 := by omega
      have hol := impl_Changed.out_len l0 l1 q
      go_upto_region 7 with (first | ((with_reducible refine gate_dst (N := 7) rfl ?_); refine box_event ?hg (N := 7) ?hd (cs := #[.slice none 0 0, .slice none 0 0]) (t := 53) ?hr ?_; (case hd => rfl); (case hg => rfl); (case hr => first | (go_simp; done) | (go_simp; rfl)); intro gb hg wb hbox hb; have HGN := Aside0.mk (show w3.heap.size ≠ gb by rw [hg]; exact Nat.ne_of_lt (blk_lt BK.out)); have HGE := Aside0.mk (show w.heap.size ≤ gb by rw [hg]; exact below_size HB.out); have HO1 := Aside0.mk (Kd.R_below HO.out hb); have BK1 := Aside0.mk (blk_below BK.out hb); have HB1 := Aside0.mk (below_step HB.out hb); have BG1 := Aside0.mk hbox; have hz0b := (blk_cell hbox 0).trans rfl; have hz1b := (blk_cell hbox 1).trans rfl; have hf0b := blk_frozen hbox 0; have hf1b := blk_frozen hbox 1; clear hb hbox hg))
      have HOX := Aside0.mk (show Kd.R Kd.string 9 ((wb.setCell ⟨gb, 0, none⟩ (.slice A a.length c)).setCell ⟨gb, 1, none⟩ (.slice B b.length d)) w.heap.size (fun _ => True) u5 (impl_Changed.out l0 l1 q) from Kd.R_mono (Kd.R_far (p := ⟨gb, 1, none⟩) (Kd.R_far (p := ⟨gb, 0, none⟩) (Kd.R_types HO1.out BG1.out (by decide)) (fun _ hk => hk.2) _) (fun _ hk => hk.2) _) (fun _ _ => trivial))
      have BKX := Aside0.mk (blk_far (p := ⟨gb, 1, none⟩) (blk_far (p := ⟨gb, 0, none⟩) BK1.out HGN.out (.slice A a.length c)) HGN.out (.slice B b.length d))
      have BGX := Aside0.mk (impl_Changed.two (u := .slice A a.length c) (v := .slice B b.length d) BG1.out)
      have HBX := Aside0.mk (below_set (j := 1) (v := .slice B b.length d) (below_set (j := 0) (v := .slice A a.length c) HB1.out HGE.out) HGE.out)
      clear HO1 BK1 BG1 HB1 hz0b hz1b hf0b hf1b z0 z1 HZ HO BK HB
      generalize ((wb.setCell ⟨gb, 0, none⟩ (.slice A a.length c)).setCell ⟨gb, 1, none⟩ (.slice B b.length d)) = wx at HOX BKX BGX HBX ⊢
      have y0 : wx.cell? ⟨gb, 0, none⟩ = some (.slice A a.length c) := (blk_cell BGX.out 0).trans rfl
      go_wp2
      go_loopg [5, 34] (List.length a) (fun kq v5 v34 w' => ∃ (i : Nat), v34 = .int .i64 (i : Int) ∧ Aside0 (i ≤ List.length a ∧ kq + i = List.length a) ∧ Aside0 (Kd.R Kd.string 9 w' w.heap.size (fun _ => True) v5 (impl_Changed.out l0 l1 q ++ impl_Changed.dif (a.take i) b)) ∧ Aside0 (w'.heap[w3.heap.size]? = some (.cells #[.slice A0 l0.length c0, .slice A1 l1.length c1, .slice A1 l1.length c1, .slice A0 l0.length c0] 53 (0, 0))) ∧ Aside0 (w'.heap[gb]? = some (.cells #[.slice A a.length c, .slice B b.length d] 53 (0, 0))) ∧ Aside0 (Below w.heap.size w w'))
      case atStart => exact ⟨0, rfl, ⟨Nat.zero_le _, rfl⟩, ⟨by rw [show impl_Changed.out l0 l1 q ++ impl_Changed.dif (a.take 0) b = impl_Changed.out l0 l1 q from by simp [impl_Changed.dif]]; exact HOX.out⟩, BKX, BGX, HBX⟩
      case round =>
        clear HOX BKX BGX HBX y0
        obtain ⟨i, rfl, HI2, HO, BK, BG, HB⟩ := hrel
        by_cases hia : i < List.length a
        · have p2 : (0 : Int) ≤ (i : Int) := by omega
          have p3 : (i : Int) < (List.length a : Int) := by omega
          obtain ⟨ad, ead, x0, x1⟩ := at_T35 HA.out.1 (i : Int) p2 p3
          cases ead
          rw [Int.toNat_natCast] at x0 x1
          replace x0 := (HB.out.cell (World.block_lt_of_cell? w _ x0)).trans x0
          replace x1 := (HB.out.cell (World.block_lt_of_cell? w _ x1)).trans x1
          go_upto_region 10 with (first | ((with_reducible refine gate_dst (N := 9) rfl ?_); refine box_event ?hg (N := 9) ?hd (cs := #[.string (⟨#[]⟩ : ByteArray), .string (⟨#[]⟩ : ByteArray)]) (t := 35) ?hr ?_; (case hd => rfl); (case hg => rfl); (case hr => first | (go_simp; done) | (go_simp; rfl)); intro gc hg wc hbox hb; have HCN := Aside0.mk (show w3.heap.size ≠ gc by rw [hg]; exact Nat.ne_of_lt (blk_lt BK.out)); have HCG := Aside0.mk (show gb ≠ gc by rw [hg]; exact Nat.ne_of_lt (blk_lt BG.out)); have HCE := Aside0.mk (show w.heap.size ≤ gc by rw [hg]; exact below_size HB.out); have HO1 := Aside0.mk (Kd.R_below HO.out hb); have BK1 := Aside0.mk (blk_below BK.out hb); have BG1 := Aside0.mk (blk_below BG.out hb); have HB1 := Aside0.mk (below_step HB.out hb); have BC1 := Aside0.mk hbox; have hz0b := (blk_cell hbox 0).trans rfl; have hz1b := (blk_cell hbox 1).trans rfl; have hf0b := blk_frozen hbox 0; have hf1b := blk_frozen hbox 1; clear hb hbox hg))
          have HOX := Aside0.mk (show Kd.R Kd.string 9 ((wc.setCell ⟨gc, 0, none⟩ (.string (rd_T35 a (i : Int)).f0)).setCell ⟨gc, 1, none⟩ (.string (rd_T35 a (i : Int)).f1)) w.heap.size (fun _ => True) u5 _ from Kd.R_mono (Kd.R_far (p := ⟨gc, 1, none⟩) (Kd.R_far (p := ⟨gc, 0, none⟩) (Kd.R_types HO1.out BC1.out (by decide)) (fun _ hk => hk.2) _) (fun _ hk => hk.2) _) (fun _ _ => trivial))
          have BKX := Aside0.mk (blk_far (p := ⟨gc, 1, none⟩) (blk_far (p := ⟨gc, 0, none⟩) BK1.out HCN.out (.string (rd_T35 a (i : Int)).f0)) HCN.out (.string (rd_T35 a (i : Int)).f1))
          have BGX := Aside0.mk (blk_far (p := ⟨gc, 1, none⟩) (blk_far (p := ⟨gc, 0, none⟩) BG1.out HCG.out (.string (rd_T35 a (i : Int)).f0)) HCG.out (.string (rd_T35 a (i : Int)).f1))
          have BCX := Aside0.mk (impl_Changed.two (u := .string (rd_T35 a (i : Int)).f0) (v := .string (rd_T35 a (i : Int)).f1) BC1.out)
          have HBX := Aside0.mk (below_set (j := 1) (v := .string (rd_T35 a (i : Int)).f1) (below_set (j := 0) (v := .string (rd_T35 a (i : Int)).f0) HB1.out HCE.out) HCE.out)
          clear HO1 BK1 BG1 BC1 HB1 hz0b hz1b hf0b hf1b x0 x1 HO BK BG HB
          generalize ((wc.setCell ⟨gc, 0, none⟩ (.string (rd_T35 a (i : Int)).f0)).setCell ⟨gc, 1, none⟩ (.string (rd_T35 a (i : Int)).f1)) = wx2 at HOX BKX BGX BCX HBX ⊢
          have hst := impl_Changed.dif_step a b i hia
          have hdl := impl_Changed.dif_len (a.take i) b
          rw [List.length_take] at hdl
          generalize rd_T35 a (i : Int) = x at BCX hst ⊢
          have y1 : wx2.cell? ⟨gb, 1, none⟩ = some (.slice B b.length d) := (blk_cell BGX.out 1).trans rfl
          have y2 : wx2.cell? ⟨gc, 0, none⟩ = some (.string x.f0) := (blk_cell BCX.out 0).trans rfl
          have y3 : wx2.cell? ⟨gc, 1, none⟩ = some (.string x.f1) := (blk_cell BCX.out 1).trans rfl
          obtain ⟨kk, hkk⟩ := impl_Changed.has b HBb.out.2.2 x
          have HKK := Aside0.mk hkk
          have HST := Aside0.mk hst
          clear hkk hst
          by_cases hin : impl_Changed.inF b x = true
          · rw [hin] at HKK
            rw [if_pos hin, List.append_nil] at HST
            clear hin
            go_wp2_with (first | (go_at_call 32; (with_reducible refine (impl_File_32.calls kk B d b x.f0 x.f1 true _ (Kd.C_below HBb.out.1 HBX.out) HBb.out.2.1 HKK.out).mono ?_); rintro e wq ⟨rfl, hb⟩; have HOQ := Aside0.mk (Kd.R_below HOX.out hb); have BKQ := Aside0.mk (blk_below BKX.out hb); have BGQ := Aside0.mk (blk_below BGX.out hb); have BCQ := Aside0.mk (blk_below BCX.out hb); have HBQ := Aside0.mk (below_step HBX.out hb); have y4 : wq.cell? ⟨gc, 0, none⟩ = some (.string x.f0) := (blk_cell BCQ.out 0).trans rfl; clear hb HOX BKX BGX BCX HBX))
            go_roundg (List.length a - (i + 1))
            case measure => have := HI2.out; omega
            case rel => exact ⟨i + 1, (by have := HA.out.2.2; congr 1; unfold wrap64; omega), ⟨by omega, by have := HI2.out; omega⟩, ⟨by rw [HST.out]; (first | exact HOQ.out | exact Kd.R_mono HOQ.out (fun k_ h_ => by first | exact h_ | (simpa [Value.ownBlock] using h_) | (have e_ : ∀ (A : Option Addr) (n m c : Nat), (Value.slice A n c).ownBlock = (Value.slice A m c).ownBlock := (fun A n m c => by cases A <;> rfl); rw [e_ _ _ 0 _] at h_ ⊢; exact h_)))⟩, BKQ, BGQ, HBQ⟩
          · have hin' : impl_Changed.inF b x = false := by simpa using hin
            rw [hin'] at HKK
            rw [if_neg hin] at HST
            clear hin hin'
            go_wp2_with (first | (go_at_call 32; (with_reducible refine (impl_File_32.calls kk B d b x.f0 x.f1 false _ (Kd.C_below HBb.out.1 HBX.out) HBb.out.2.1 HKK.out).mono ?_); rintro e wq ⟨rfl, hb⟩; have HOQ := Aside0.mk (Kd.R_below HOX.out hb); have BKQ := Aside0.mk (blk_below BKX.out hb); have BGQ := Aside0.mk (blk_below BGX.out hb); have BCQ := Aside0.mk (blk_below BCX.out hb); have HBQ := Aside0.mk (below_step HBX.out hb); have y4 : wq.cell? ⟨gc, 0, none⟩ = some (.string x.f0) := (blk_cell BCQ.out 0).trans rfl; clear hb HOX BKX BGX BCX HBX) | ((with_reducible refine gate_builtin (b := .append) (xs := #[.tmp 43, .tmp 46]) rfl ?_); at_builtin; refine Kd.R_append Kd.string (w0 := w) w.heap.size rfl (.tmp 43) (.tmp 46) 38 9 (.string ⟨#[]⟩) 16 rfl Tryd.underlying38 info9 rfl (by decide) (by omega) u5 (impl_Changed.out l0 l1 q ++ impl_Changed.dif (a.take i) b) x.f0 [.string x.f0] (fun _ => True) (fun _ => False) rfl (by first | (go_simp; done) | (go_simp; rfl)) ?aP (fun _ hk => hk.elim) ?aF ?aO ?aB ?aS ?aL ?_; (case aP => exact rfl); (case aF => exact (fun _ _ => trivial)); (case aO => (with_reducible repeat (first | apply Kd.R_alloc | apply Kd.R_drewN | apply Kd.R_drew)); exact HOQ.out); (case aB => repeat (first | (with_reducible first | exact HBQ.out | apply below_alloc | apply pw_below_drewN | apply below_drew1) | exact HBQ.out)); (case aS => exact below_size (by repeat (first | (with_reducible first | exact HBQ.out | apply below_alloc | apply pw_below_drewN | apply below_drew1) | exact HBQ.out))); (case aL => have := HA.out.2.2; rw [List.length_append]; omega); intro v47 wz ho hb hg hat; have HOZ := Aside0.mk ho; have HBZ := Aside0.mk hb; have BKZ := Aside0.mk (blk_grown (g := w3.heap.size) (by (with_reducible repeat (first | refine blk_drewN ?_ _ | refine blk_drew ?_ | refine blk_alloc ?_ _)); exact BKQ.out) hg (Kd.R_ne HOQ.out BKQ.out (by decide))); have BGZ := Aside0.mk (blk_grown (g := gb) (by (with_reducible repeat (first | refine blk_drewN ?_ _ | refine blk_drew ?_ | refine blk_alloc ?_ _)); exact BGQ.out) hg (Kd.R_ne HOQ.out BGQ.out (by decide))); clear ho hb hg hat))
            go_roundg (List.length a - (i + 1))
            case measure => have := HI2.out; omega
            case rel => exact ⟨i + 1, (by have := HA.out.2.2; congr 1; unfold wrap64; omega), ⟨by omega, by have := HI2.out; omega⟩, ⟨by rw [HST.out, ← List.append_assoc]; (first | exact HOZ.out | exact Kd.R_mono HOZ.out (fun k_ h_ => by first | exact h_ | (simpa [Value.ownBlock] using h_) | (have e_ : ∀ (A : Option Addr) (n m c : Nat), (Value.slice A n c).ownBlock = (Value.slice A m c).ownBlock := (fun A n m c => by cases A <;> rfl); rw [e_ _ _ 0 _] at h_ ⊢; exact h_)))⟩, BKZ, BGZ, HBZ⟩
        · have e1 : a.take i = a := List.take_of_length_le (by omega)
          rw [e1, ← HOUT.out] at HO
          have p4 : ¬ ((i : Int) < (List.length a : Int)) := by omega
          clear HI2 hia e1
          go_wp2
          go_roundg (2 - (q + 1))
          case measure => have := HI.out; omega
          case rel => exact ⟨q + 1, (by first | (congr 1; done) | (congr 1; unfold wrap64; omega)), ⟨by omega, by have := HI.out; omega⟩, HO, BK, HB⟩
    · have hqe : q = 2 := by have := HI.out; omega
      subst hqe
      clear HI hq2
      go_wp2_with (first | (go_at_call 33; refine (impl_rising.calls (fun _ => True) u5 _ r w _ HB.out HO.out HH.out).mono ?_; rintro e wf ⟨vf, rfl, hR, hB, hK⟩; have HRF := Aside0.mk (Kd.R_mono (ok' := fun _ => True) hR (fun _ _ => trivial)); have HBF := Aside0.mk hB; clear hR hB hK))
      go_ret
      exact ⟨_, rfl, HRF.out, HBF.out⟩
set_option maxHeartbeats 1000000 in
theorem impl_Changed.calls (k : Nat) (A0 : Option Addr) (c0 : Nat) (l0 : List S35) (A1 : Option Addr) (c1 : Nat) (l1 : List S35) (r : List ByteArray) (w : World) (hr0 : Kd.C k35 w A0 l0.length l0) (hc0 : l0.length ≤ c0) (hr1 : Kd.C k35 w A1 l1.length l1) (hc1 : l1.length ≤ c1) (HT : TabsL w) (h : impl_Changed.f k l0 l1 = some r) :
    Calls Tryd.prog 18 #[.slice A0 l0.length c0, .slice A1 l1.length c1] w fun e w' => ∃ v0_ : Value, e = .returned (v0_) ∧ Kd.R Kd.string 9 w' w.heap.size (fun _ => True) v0_ r ∧ Below w.heap.size w w' := by
  unfold impl_Changed.f at h
  obtain ⟨t, e1, h⟩ := Option.bind_eq_some_iff.mp h
  cases t with
  | false =>
    rw [if_neg (by decide)] at h
    obtain rfl := Option.some.inj h
    exact impl_Changed.no k A0 c0 l0 A1 c1 l1 w hr0 hc0 hr1 hc1 HT false false e1 (fun h => by cases h) (.inl rfl)
  | true =>
    rw [if_pos rfl] at h
    obtain ⟨u, e2, h⟩ := Option.bind_eq_some_iff.mp h
    cases u with
    | false =>
      rw [if_neg (by decide)] at h
      obtain rfl := Option.some.inj h
      exact impl_Changed.no k A0 c0 l0 A1 c1 l1 w hr0 hc0 hr1 hc1 HT true false e1 (fun _ => e2) (.inr rfl)
    | true =>
      rw [if_pos rfl] at h
      by_cases c : l0.length ≤ 1048576 ∧ l1.length ≤ 1048576
      · rw [if_pos c] at h
        exact impl_Changed.yes k A0 c0 l0 A1 c1 l1 r w hr0 hc0 hr1 hc1 HT e1 e2 c.1 c.2 h
      · rw [if_neg c] at h; cases h

/-! ### laws_eqStringS: function 19 -/
def laws_eqStringS.l0 : Nat → List ByteArray → List ByteArray → Int → Option (Bool)
  | 0, _, _, _ => none
  | k + 1, x0, x1, x5 => if x5 < (x0.length : Int) then (if 0 ≤ x5 then (if x5 < (x1.length : Int) then (if (rdOf ByteArray.empty x0 x5).toList = (rdOf ByteArray.empty x1 x5).toList then (laws_eqStringS.l0 k x0 x1 (wrap64 (x5 + 1))) else (some false)) else (none)) else (none)) else (some true)
def laws_eqStringS.f (k : Nat) (l0 : List ByteArray) (l1 : List ByteArray) : Option (Bool) := if (l0.length : Int) = (l1.length : Int) then (laws_eqStringS.l0 k l0 l1 0) else (some false)
theorem laws_eqStringS.mono_l : ∀ k, (∀ y0 y1 y2, LeO (laws_eqStringS.l0 k y0 y1 y2) (laws_eqStringS.l0 (k + 1) y0 y1 y2))
  | 0 => fun _ _ _ r h => by simp [laws_eqStringS.l0] at h
  | k + 1 => by
    have ih0 := laws_eqStringS.mono_l k
    · intro y0 y1 y2
      unfold laws_eqStringS.l0
      repeat' first
      | (with_reducible exact ih0 _ _ _)
      | (with_reducible exact LeO.refl _)
      | (with_reducible exact LeO.none _)
      | (with_reducible refine LeO.ite ?_ ?_)
      | (with_reducible refine LeO.bind ?_ (fun _ => ?_))
      | exact ih0 _ _ _
      | exact LeO.none _
      | refine LeO.ite ?_ ?_
      | refine LeO.bind ?_ (fun _ => ?_)
theorem laws_eqStringS.mono : ∀ a0 a1 k, LeO (laws_eqStringS.f k a0 a1) (laws_eqStringS.f (k + 1) a0 a1) := by
  intro a0 a1 k
  have ih0 := laws_eqStringS.mono_l k
  unfold laws_eqStringS.f
  repeat' first
      | (with_reducible exact ih0 _ _ _)
      | (with_reducible exact LeO.refl _)
      | (with_reducible exact LeO.none _)
      | (with_reducible refine LeO.ite ?_ ?_)
      | (with_reducible refine LeO.bind ?_ (fun _ => ?_))
      | exact ih0 _ _ _
      | exact LeO.none _
      | refine LeO.ite ?_ ?_
      | refine LeO.bind ?_ (fun _ => ?_)
set_option maxHeartbeats 8000000 in
set_option maxRecDepth 100000 in
theorem laws_eqStringS.calls (k : Nat) (A0 : Option Addr) (c0 : Nat) (l0 : List ByteArray) (A1 : Option Addr) (c1 : Nat) (l1 : List ByteArray) (r : Bool) (w : World) (hr0 : Kd.C Kd.string w A0 l0.length l0) (hc0 : l0.length ≤ c0) (hr1 : Kd.C Kd.string w A1 l1.length l1) (hc1 : l1.length ≤ c1) (h : laws_eqStringS.f k l0 l1 = some r) :
    Calls Tryd.prog 19 #[.slice A0 l0.length c0, .slice A1 l1.length c1] w fun e w' => e = .returned (.bool r) ∧ Drawn0 w w' := by
  have HR0 := Aside0.mk hr0
  have HC0 := Aside0.mk hc0
  clear hr0 hc0
  have HR1 := Aside0.mk hr1
  have HC1 := Aside0.mk hc1
  clear hr1 hc1
  have H : (if (l0.length : Int) = (l1.length : Int) then (laws_eqStringS.l0 k l0 l1 0) else (some false)) = some r := h
  clear h
  by_cases c3 : (l0.length : Int) = (l1.length : Int)
  · rw [if_pos c3] at H
    have c3b0 : ((l0.length : Int) == (l1.length : Int)) = true := beq_iff_eq.mpr c3
    have c3b1 : ((l0.length : Int) != (l1.length : Int)) = false := bne_eq_false_iff_eq.mpr c3
    have c3b2 : (l0.length == l1.length) = true := by first | simpa using c3 | (simp at c3 ⊢; omega)
    clear c3
    have H' := Aside0.mk H
    clear H
    go_enter Tryd.func19, Tryd.ntmps19
    go_wp2
    repeat (go_quiet (fail); try go_wp2)
    go_loopg [5] k (fun kq v5 w' => ∃ (x5_1 : Int), v5 = .int .i64 x5_1 ∧ Aside0 (laws_eqStringS.l0 kq l0 l1 x5_1 = some r) ∧ Aside0 (kq ≤ k) ∧ Drawn0 w w')
    case atStart => exact ⟨(0), (by first | rfl | (simp; done) | (simp [*]; done)), H', ⟨Nat.le_refl _⟩, by repeat (first | exact Drawn0.refl _ | apply Drawn0.step)⟩
    case round =>
      clear H'
      try clear c1
      try clear p2
      try clear c3
      try clear c3b0
      try clear c3b1
      try clear c3b2
      obtain ⟨x5_1, rfl, HA, HK1, ⟨m1, rfl⟩⟩ := hrel
      cases gk with
      | zero => exact absurd HA.out (by simp [laws_eqStringS.l0])
      | succ k1 =>
        have H := HA.out
        clear HA
        simp only [laws_eqStringS.l0] at H
        by_cases c4 : x5_1 < (l0.length : Int)
        · rw [if_pos c4] at H
          have c4b0 : decide (x5_1 < (l0.length : Int)) = true := decide_eq_true c4
          clear c4
          by_cases c5 : 0 ≤ x5_1
          · rw [if_pos c5] at H
            have c5b0 : decide (0 ≤ x5_1) = true := decide_eq_true c5
            clear c5
            by_cases c6 : x5_1 < (l1.length : Int)
            · rw [if_pos c6] at H
              have c6b0 : decide (x5_1 < (l1.length : Int)) = true := decide_eq_true c6
              clear c6
              by_cases c7 : (rdOf ByteArray.empty l0 x5_1).toList = (rdOf ByteArray.empty l1 x5_1).toList
              · rw [if_pos c7] at H
                have c7b0 : ((rdOf ByteArray.empty l0 x5_1).toList == (rdOf ByteArray.empty l1 x5_1).toList) = true := beq_iff_eq.mpr c7
                have c7b1 : ((rdOf ByteArray.empty l0 x5_1).toList != (rdOf ByteArray.empty l1 x5_1).toList) = false := bne_eq_false_iff_eq.mpr c7
                clear c7
                have H' := Aside0.mk H
                clear H
                have p222 : 0 ≤ (x5_1 : Int) := of_decide_eq_true (by first | (with_reducible assumption) | assumption)
                have q222 : x5_1 < (l0.length : Int) := of_decide_eq_true (by first | (with_reducible assumption) | assumption)
                obtain ⟨ad222, e222, hx222_0⟩ := Kd.at_string HR0.out x5_1 p222 q222
                cases e222
                replace p222 := eq_true p222
                replace q222 := eq_true q222
                have p223 : 0 ≤ (x5_1 : Int) := of_decide_eq_true (by first | (with_reducible assumption) | assumption)
                have q223 : x5_1 < (l1.length : Int) := of_decide_eq_true (by first | (with_reducible assumption) | assumption)
                obtain ⟨ad223, e223, hx223_0⟩ := Kd.at_string HR1.out x5_1 p223 q223
                cases e223
                replace p223 := eq_true p223
                replace q223 := eq_true q223
                go_wp2
                repeat (go_quiet (fail); try go_wp2)
                go_roundg k1
                case measure => have := HK1.out; omega
                case rel => exact ⟨(wrap64 (x5_1 + 1)), (by first | rfl | (simp; done) | (simp [*]; done)), H', ⟨by have := HK1.out; omega⟩, by repeat (first | exact Drawn0.refl _ | apply Drawn0.step)⟩
              · rw [if_neg c7] at H
                have c7b0 : ((rdOf ByteArray.empty l0 x5_1).toList == (rdOf ByteArray.empty l1 x5_1).toList) = false := beq_eq_false_iff_ne.mpr c7
                have c7b1 : ((rdOf ByteArray.empty l0 x5_1).toList != (rdOf ByteArray.empty l1 x5_1).toList) = true := bne_iff_ne.mpr c7
                obtain rfl := Option.some.inj H
                have p222 : 0 ≤ (x5_1 : Int) := of_decide_eq_true (by first | (with_reducible assumption) | assumption)
                have q222 : x5_1 < (l0.length : Int) := of_decide_eq_true (by first | (with_reducible assumption) | assumption)
                obtain ⟨ad222, e222, hx222_0⟩ := Kd.at_string HR0.out x5_1 p222 q222
                cases e222
                replace p222 := eq_true p222
                replace q222 := eq_true q222
                have p223 : 0 ≤ (x5_1 : Int) := of_decide_eq_true (by first | (with_reducible assumption) | assumption)
                have q223 : x5_1 < (l1.length : Int) := of_decide_eq_true (by first | (with_reducible assumption) | assumption)
                obtain ⟨ad223, e223, hx223_0⟩ := Kd.at_string HR1.out x5_1 p223 q223
                cases e223
                replace p223 := eq_true p223
                replace q223 := eq_true q223
                go_wp2
                repeat (go_quiet (fail); try go_wp2)
                go_ret
                exact ⟨by first | rfl | (simp; done) | (simp [*]; done), by repeat (first | exact Drawn0.refl _ | apply Drawn0.step)⟩
            · rw [if_neg c6] at H
              exact absurd H (by simp)
          · rw [if_neg c5] at H
            exact absurd H (by simp)
        · rw [if_neg c4] at H
          have c4b0 : decide (x5_1 < (l0.length : Int)) = false := decide_eq_false c4
          clear c4
          obtain rfl := Option.some.inj H
          go_wp2
          repeat (go_quiet (fail); try go_wp2)
          go_ret
          exact ⟨by first | rfl | (simp; done) | (simp [*]; done), by repeat (first | exact Drawn0.refl _ | apply Drawn0.step)⟩
  · rw [if_neg c3] at H
    have c3b0 : ((l0.length : Int) == (l1.length : Int)) = false := beq_eq_false_iff_ne.mpr c3
    have c3b1 : ((l0.length : Int) != (l1.length : Int)) = true := bne_iff_ne.mpr c3
    have c3b2 : (l0.length == l1.length) = false := by first | simpa using c3 | (simp at c3 ⊢; omega)
    obtain rfl := Option.some.inj H
    go_enter Tryd.func19, Tryd.ntmps19
    go_wp2
    repeat (go_quiet (fail); try go_wp2)
    go_ret
    exact ⟨by first | rfl | (simp; done) | (simp [*]; done), by repeat (first | exact Drawn0.refl _ | apply Drawn0.step)⟩

/-! ### laws_markStringS: function 20 -/
def laws_markStringS.l0 : Nat → List ByteArray → Int → Int → Option (Int × List ByteArray)
  | 0, _, _, _ => none
  | k + 1, x0, x1, x5 => if x5 < (x0.length : Int) then ((laws_markText.f k x1).bind fun t224 => (if 0 ≤ x5 then (laws_markStringS.l0 k (x0.set (x5 : Int).toNat t224) (wrap64 (x1 + 1)) (wrap64 (x5 + 1))) else (none))) else (some (x1, x0))
def laws_markStringS.f (k : Nat) (l0 : List ByteArray) (a1 : Int) : Option (Int × List ByteArray) := laws_markStringS.l0 k l0 a1 0
theorem laws_markStringS.mono_l : ∀ k, (∀ y0 y1 y2, LeO (laws_markStringS.l0 k y0 y1 y2) (laws_markStringS.l0 (k + 1) y0 y1 y2))
  | 0 => fun _ _ _ r h => by simp [laws_markStringS.l0] at h
  | k + 1 => by
    have ih0 := laws_markStringS.mono_l k
    · intro y0 y1 y2
      unfold laws_markStringS.l0
      repeat' first
      | (with_reducible exact ih0 _ _ _)
      | (with_reducible exact laws_markText.mono _ _)
      | (with_reducible exact LeO.refl _)
      | (with_reducible exact LeO.none _)
      | (with_reducible refine LeO.ite ?_ ?_)
      | (with_reducible refine LeO.bind ?_ (fun _ => ?_))
      | exact ih0 _ _ _
      | exact laws_markText.mono _ _
      | exact LeO.none _
      | refine LeO.ite ?_ ?_
      | refine LeO.bind ?_ (fun _ => ?_)
theorem laws_markStringS.mono : ∀ a0 a1 k, LeO (laws_markStringS.f k a0 a1) (laws_markStringS.f (k + 1) a0 a1) := by
  intro a0 a1 k
  have ih0 := laws_markStringS.mono_l k
  unfold laws_markStringS.f
  repeat' first
      | (with_reducible exact ih0 _ _ _)
      | (with_reducible exact laws_markText.mono _ _)
      | (with_reducible exact LeO.refl _)
      | (with_reducible exact LeO.none _)
      | (with_reducible refine LeO.ite ?_ ?_)
      | (with_reducible refine LeO.bind ?_ (fun _ => ?_))
      | exact ih0 _ _ _
      | exact laws_markText.mono _ _
      | exact LeO.none _
      | refine LeO.ite ?_ ?_
      | refine LeO.bind ?_ (fun _ => ?_)
set_option maxHeartbeats 8000000 in
set_option maxRecDepth 100000 in
theorem laws_markStringS.calls (k : Nat) (P0_ : Nat → Prop) (u9000_ : Value) (l0 : List ByteArray) (a1 : Int) (r1 : Int) (r2 : List ByteArray) (w0 w : World) (hB : Below w0.heap.size w0 w) (ho0 : Kd.R Kd.string 9 w w0.heap.size P0_ u9000_ l0) (h : laws_markStringS.f k l0 a1 = some (r1, r2)) :
    Calls Tryd.prog 20 #[u9000_, .int .i64 a1] w fun e w' => e = .returned (.int .i64 r1) ∧ Kd.R Kd.string 9 w' w0.heap.size (fun k_ => (P0_ k_ ∨ w.heap.size ≤ k_)) u9000_ r2 ∧ Below w0.heap.size w0 w' ∧ Kept w w' (fun k_ => P0_ k_) := by
  have HO0 := Aside0.mk (show Kd.R Kd.string 9 w w0.heap.size (fun k_ => (P0_ k_ ∨ w.heap.size ≤ k_)) u9000_ l0 from Kd.R_mono ho0 (fun k_ hk => (.inl hk)))
  have HK := Aside0.mk (Kept.refl w (fun k_ => P0_ k_))
  have HW0 := Aside0.mk hB.size
  have HB := Aside0.mk hB
  clear hB
  have H : (laws_markStringS.l0 k l0 a1 0) = some (r1, r2) := h
  clear h
  have H' := Aside0.mk H
  clear H
  go_enter Tryd.func20, Tryd.ntmps20
  go_wp2
  go_loopg [1, 5] k (fun kq v1 v5 w' => ∃ (x0_1 : List ByteArray) (x1_1 : Int) (x5_1 : Int), v1 = .int .i64 x1_1 ∧ v5 = .int .i64 x5_1 ∧ Aside0 (laws_markStringS.l0 kq x0_1 x1_1 x5_1 = some (r1, r2)) ∧ Aside0 (kq ≤ k) ∧ Aside0 (Kd.R Kd.string 9 w' w0.heap.size (fun k_ => (P0_ k_ ∨ w.heap.size ≤ k_)) u9000_ x0_1) ∧ Aside0 (Kept w w' (fun k_ => P0_ k_)) ∧ Aside0 (Below w0.heap.size w0 w'))
  case atStart => exact ⟨(l0), (a1), (0), (by first | rfl | (simp; done) | (simp [*]; done)), (by first | rfl | (simp; done) | (simp [*]; done)), H', ⟨Nat.le_refl _⟩, ⟨by (with_reducible repeat (first | apply Kd.R_alloc | apply Kd.R_drewN | apply Kd.R_drew)); exact HO0.out⟩, ⟨by repeat (first | (with_reducible first | exact HK.out | apply Kept.alloc | apply Kept.drewN | apply Kept.drew) | exact HK.out)⟩, ⟨by repeat (first | (with_reducible first | exact HB.out | apply below_alloc | apply pw_below_drewN | apply below_drew1) | exact HB.out)⟩⟩
  case round =>
    clear H'
    try clear c2
    try clear p2
    obtain ⟨x0_1, x1_1, x5_1, rfl, rfl, HA, HK1, HO_0, HK, HB⟩ := hrel
    cases gk with
    | zero => exact absurd HA.out (by simp [laws_markStringS.l0])
    | succ k1 =>
      have H := HA.out
      clear HA
      simp only [laws_markStringS.l0] at H
      by_cases c3 : x5_1 < (x0_1.length : Int)
      · rw [if_pos c3] at H
        have c3b0 : decide (x5_1 < (x0_1.length : Int)) = true := decide_eq_true c3
        clear c3
        replace H := Option.bind_eq_some_iff.mp H
        obtain ⟨t224, A40, H⟩ := H
        replace H : (if 0 ≤ x5_1 then (laws_markStringS.l0 k1 (x0_1.set (x5_1 : Int).toNat t224) (wrap64 (x1_1 + 1)) (wrap64 (x5_1 + 1))) else (none)) = some (r1, r2) := H
        have A4 := Aside0.mk A40
        clear A40
        by_cases c5 : 0 ≤ x5_1
        · rw [if_pos c5] at H
          have c5b0 : decide (0 ≤ x5_1) = true := decide_eq_true c5
          clear c5
          obtain ⟨y225, hy225⟩ : ∃ y_ : List ByteArray, y_ = (x0_1.set (x5_1 : Int).toNat t224) := ⟨_, rfl⟩
          replace H : (laws_markStringS.l0 k1 y225 (wrap64 (x1_1 + 1)) (wrap64 (x5_1 + 1))) = some (r1, r2) := by first | (rw [hy225]; with_reducible exact H) | (have H2_ := (Option.bind_some _ _).symm.trans H; rw [hy225]; with_reducible exact H2_) | (have H2_ := (Option.bind_some _ _).symm.trans H; with_reducible exact H2_) | with_reducible exact H | (rw [hy225]; exact H) | exact H
          have Ny225 := Aside0.mk hy225
          clear hy225
          have H' := Aside0.mk H
          clear H
          obtain ⟨Ao7, co7, eo7⟩ := Kd.R_slice HO_0.out
          subst eo7
          go_wp2_with (first | ((with_reducible refine gate_callee (f := 28) rfl ?_); refine goesL_ (some 15) rfl rfl Tryd.func28 (by kernel_rfl) rfl #[.int .i64 x1_1] rfl (by (try simp only [List.map_toArray, List.map_cons, List.map_nil]); first | done | rfl | (simp only [List.length_drop, List.length_take]; rfl)) ?_; (with_reducible refine (laws_markText.calls k1 x1_1 t224 _ A4.out).mono ?_); rintro e w8 ⟨rfl, hb⟩; refine ⟨_, rfl, ?_⟩; have n0_ := Aside0.mk (Kd.R_below (by (with_reducible repeat (first | apply Kd.R_alloc | apply Kd.R_drewN | apply Kd.R_drew)); exact HO_0.out) hb); have n1_ := Aside0.mk (Kept.below (S := (fun k_ => P0_ k_)) (by repeat (first | (with_reducible first | exact HK.out | apply Kept.alloc | apply Kept.drewN | apply Kept.drew) | exact HK.out)) hb); have n2_ := Aside0.mk (below_step (by repeat (first | (with_reducible first | exact HB.out | apply below_alloc | apply pw_below_drewN | apply below_drew1) | exact HB.out)) hb); clear HO_0; clear HK; clear HB; have HO_0 := n0_; have HK := n1_; have HB := n2_; clear n0_ n1_ n2_; (try clear hb); (try clear hb2); (try clear hk); (try clear hi); have p6 : 0 ≤ (x5_1 : Int) := of_decide_eq_true (by first | (with_reducible assumption) | assumption); have q6 : (x5_1 : Int) < ((x0_1.length : Int) : Int) := of_decide_eq_true (by first | (with_reducible assumption) | assumption); obtain ⟨go6, co6, eo6, gb6, gl6, cl6, HG6⟩ := Kd.R_form HO_0.out (by omega); (first | cases eo6 | (injection eo6 with ea_ en_ ec_; (first | subst ea_ | (injection ea_ with ea_; subst ea_)); subst ec_; clear en_)); have GB6 := Aside0.mk gb6; have GG6 := Aside0.mk HG6; clear gb6 gl6 HG6; have HMgo6 := Aside0.mk (show (P0_ go6 ∨ w.heap.size ≤ go6) from (HO_0.out.1 _ rfl)); obtain ⟨hx6_0, hf6_0⟩ := Kd.R_celln (⟨#[]⟩ : ByteArray) HO_0.out (x5_1 : Int) p6 q6; replace p6 := eq_true p6; replace q6 := eq_true q6; obtain ⟨hy9_, hz9_⟩ := Kd.R_celln (⟨#[]⟩ : ByteArray) HO_0.out (x5_1 : Int) (of_decide_eq_true (by first | (with_reducible assumption) | assumption)) (of_decide_eq_true (by first | (with_reducible assumption) | assumption)); have HP9 := Kd.R_putg HO_0.out (x5_1 : Int) t224) | ((with_reducible refine gate_store (t := 9) (p := 16) rfl ?_); refine store_event (t := 9) (p := 16) (v := ?vo_w10) (w1 := (w8.setCell ⟨go6, (x5_1 : Int).toNat, none⟩ (.string t224))) ?hg ?ho ?hn ?hr ?_; (case ho => rfl); (case hg => rfl); (case hn => rfl); (case hr => first | (go_simp; done) | (go_simp; rfl)); intro w10 hw; have hg : w8.grownBy w10 (some go6) := (by rw [hw]; exact HP9.2); have hp_ : Kd.R Kd.string 9 w10 w0.heap.size (fun k_ => (P0_ k_ ∨ w.heap.size ≤ k_)) (.slice (some ⟨go6, 0, none⟩) x0_1.length co7) y225 := (by rw [hw, Ny225.out]; exact HP9.1); clear HP9; have n0_ := Aside0.mk (hp_); have n1_ := Aside0.mk ((by rw [hw]; exact below_set (HB.out) GB6.out : Below w0.heap.size w0 w10)); have n2_ := Aside0.mk (Kept.of_grown (S := (fun k_ => P0_ k_)) hg (by repeat (first | (with_reducible first | exact HK.out | apply Kept.alloc | apply Kept.drewN | apply Kept.drew) | exact HK.out)) (fun k_ e_ => (HO_0.out.1 k_ e_))); clear HO_0; clear HB; clear HK; have HO_0 := n0_; have HB := n1_; have HK := n2_; clear n0_ n1_ n2_; clear hg hw hp_))
          go_roundg k1
          case measure => have := HK1.out; omega
          case rel => exact ⟨(y225), (wrap64 (x1_1 + 1)), (wrap64 (x5_1 + 1)), (by first | rfl | (simp; done) | (simp [*]; done)), (by first | rfl | (simp; done) | (simp [*]; done)), H', ⟨by have := HK1.out; omega⟩, ⟨by (with_reducible repeat (first | apply Kd.R_alloc | apply Kd.R_drewN | apply Kd.R_drew)); (first | exact HO_0.out | exact Kd.R_mono HO_0.out (fun k_ h_ => by first | exact h_ | (simpa [Value.ownBlock] using h_) | (have e_ : ∀ (A : Option Addr) (n m c : Nat), (Value.slice A n c).ownBlock = (Value.slice A m c).ownBlock := (fun A n m c => by cases A <;> rfl); rw [e_ _ _ 0 _] at h_ ⊢; exact h_)))⟩, ⟨by repeat (first | (with_reducible first | exact HK.out | apply Kept.alloc | apply Kept.drewN | apply Kept.drew) | exact HK.out)⟩, ⟨by repeat (first | (with_reducible first | exact HB.out | apply below_alloc | apply pw_below_drewN | apply below_drew1) | exact HB.out)⟩⟩
        · rw [if_neg c5] at H
          exact absurd H (by simp)
      · rw [if_neg c3] at H
        have c3b0 : decide (x5_1 < (x0_1.length : Int)) = false := decide_eq_false c3
        clear c3
        simp only [Option.some.injEq, Prod.mk.injEq] at H
        obtain ⟨rfl, rfl⟩ := H
        obtain ⟨Ao11, co11, eo11⟩ := Kd.R_slice HO_0.out
        subst eo11
        go_wp2
        go_ret
        exact ⟨by first | rfl | (simp [errW_none, errW_some] <;> rfl) | (simp [*, errW_none, errW_some] <;> rfl), by (with_reducible repeat (first | apply Kd.R_alloc | apply Kd.R_drewN | apply Kd.R_drew)); exact HO_0.out, by repeat (first | (with_reducible first | exact HB.out | apply below_alloc | apply pw_below_drewN | apply below_drew1) | exact HB.out), by repeat (first | (with_reducible first | exact HK.out | apply Kept.alloc | apply Kept.drewN | apply Kept.drew) | exact HK.out)⟩

end Go.Proofs.YtkmcnjpgamaljaaDoor.PFnExactChanged

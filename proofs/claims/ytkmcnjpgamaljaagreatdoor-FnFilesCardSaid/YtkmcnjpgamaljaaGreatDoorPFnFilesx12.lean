-- Out of the kit's print, with contracts of mine among it (myprint.py).
import Derived.Test.YtkmcnjpgamaljaaGreatDoorPFnFilesx0
import Derived.Test.YtkmcnjpgamaljaaGreatDoorPFnFilesx2
import Derived.Test.YtkmcnjpgamaljaaGreatDoorPFnFilesx11
namespace Go.Proofs.YtkmcnjpgamaljaaGreatDoor.PFnFiles
open Go.RowKit Go.Proofs.YtkmcnjpgamaljaaGreatDoorW.PrintWords Go.Proofs.YtkmcnjpgamaljaaGreatDoorW.PrintLast Go.Proofs.YtkmcnjpgamaljaaGreatDoorW.PrintMore
attribute [local go_sem] max2_int min2_int max_two min_two max_three min_three max_four min_four   -- for this text's walks alone
set_option linter.unusedVariables false
set_option linter.unusedSimpArgs false

/-! ### spec_l4Expr: function 73 -/
mutual
def spec_l4Expr.j2 : Nat → Bool → ByteArray → List Int → Int → Int → Option (ByteArray × Int × Int)
 | 0, _, _, _, _, _ => none
 | k + 1, x2, x7, x1000, x1001, x1002 => if x2 = true then ((spec_l1Once.f x1000 x1001 x1002 8).bind fun bt314 => (if bt314.1 = true then ((spec_l1Pick.f x1000 bt314.2.1 bt314.2.2 (([(⟨#[117, 110, 100, 101, 102]⟩ : ByteArray), (⟨#[117, 110, 100, 101, 102, 32, 40, 32, 41]⟩ : ByteArray), (⟨#[97, 36, 49]⟩ : ByteArray), (⟨#[120, 36]⟩ : ByteArray)] : List ByteArray))).bind fun bt320 => (some (bt320.1, bt320.2.1, bt320.2.2))) else (some (x7, bt314.2.1, bt314.2.2)))) else (some (x7, x1001, x1002))
def spec_l4Expr.j0 : Nat → Int → Bool → ByteArray → Int → Bool → List Int → Int → Int → Option (ByteArray × Int × Int)
 | 0, _, _, _, _, _, _, _, _ => none
 | k + 1, x1, x2, x7, x12, x13, x1000, x1001, x1002 => if x13 = true then ((spec_l1Below.f x1000 x1001 x1002 9).bind fun bt295 => ((spec_Dec.f k bt295.1).bind fun t298 => (some (t298, bt295.2.1, bt295.2.2)))) else (if x12 = 2 then (if x7.size + 4 ≤ 9223372036854775807 then (some (x7 ++ (⟨#[32, 40, 32, 41]⟩ : ByteArray), x1001, x1002)) else (none)) else (if x12 = 3 then (if 4 + x7.size ≤ 9223372036854775807 then (some ((⟨#[110, 32, 46, 32]⟩ : ByteArray) ++ x7, x1001, x1002)) else (none)) else (if x12 = 4 then (some ((⟨#[110, 32, 46, 32, 102, 32, 40, 32, 41]⟩ : ByteArray), x1001, x1002)) else (if x12 = 5 then (spec_l4Expr.j1 k x1 x2 x7 x12 (x12 == 5) x1000 x1001 x1002) else (spec_l4Expr.j1 k x1 x2 x7 x12 (x12 == 6) x1000 x1001 x1002)))))
def spec_l4Expr.j1 : Nat → Int → Bool → ByteArray → Int → Bool → List Int → Int → Int → Option (ByteArray × Int × Int)
 | 0, _, _, _, _, _, _, _, _ => none
 | k + 1, x1, x2, x7, x12, x29, x1000, x1001, x1002 => if x29 = true then (if x1 > 0 then ((spec_l4Expr.f k x1000 x1001 x1002 (wrap64 (x1 - 1)) x2).bind fun bt299 => (if bt299.1.size + 1 ≤ 9223372036854775807 then ((spec_l1Pick.f x1000 bt299.2.1 bt299.2.2 (([(⟨#[43]⟩ : ByteArray), (⟨#[45]⟩ : ByteArray), (⟨#[42]⟩ : ByteArray)] : List ByteArray))).bind fun bt305 => (if (bt299.1 ++ (⟨#[32]⟩ : ByteArray)).size + bt305.1.size ≤ 9223372036854775807 then (if ((bt299.1 ++ (⟨#[32]⟩ : ByteArray)) ++ bt305.1).size + 1 ≤ 9223372036854775807 then ((spec_l4Expr.f k x1000 bt305.2.1 bt305.2.2 (wrap64 (x1 - 1)) x2).bind fun bt308 => (if (((bt299.1 ++ (⟨#[32]⟩ : ByteArray)) ++ bt305.1) ++ (⟨#[32]⟩ : ByteArray)).size + bt308.1.size ≤ 9223372036854775807 then (some ((((bt299.1 ++ (⟨#[32]⟩ : ByteArray)) ++ bt305.1) ++ (⟨#[32]⟩ : ByteArray)) ++ bt308.1, bt308.2.1, bt308.2.2)) else (none))) else (none)) else (none))) else (none))) else (spec_l4Expr.j2 k x2 x7 x1000 x1001 x1002)) else (if x12 = 7 then (if x1 > 0 then ((spec_l4Expr.f k x1000 x1001 x1002 (wrap64 (x1 - 1)) x2).bind fun bt311 => (if 2 + bt311.1.size ≤ 9223372036854775807 then (if ((⟨#[40, 32]⟩ : ByteArray) ++ bt311.1).size + 2 ≤ 9223372036854775807 then (some (((⟨#[40, 32]⟩ : ByteArray) ++ bt311.1) ++ (⟨#[32, 41]⟩ : ByteArray), bt311.2.1, bt311.2.2)) else (none)) else (none))) else (spec_l4Expr.j2 k x2 x7 x1000 x1001 x1002)) else (spec_l4Expr.j2 k x2 x7 x1000 x1001 x1002))
def spec_l4Expr.f : Nat → List Int → Int → Int → Int → Bool → Option (ByteArray × Int × Int)
 | 0, _, _, _, _, _ => none
 | k + 1, s0_0, s0_1, s0_2, a1, a2 => (spec_l1Pick.f s0_0 s0_1 s0_2 (([(⟨#[97]⟩ : ByteArray), (⟨#[98]⟩ : ByteArray), (⟨#[120]⟩ : ByteArray), (⟨#[102]⟩ : ByteArray), (⟨#[103]⟩ : ByteArray), (⟨#[110]⟩ : ByteArray), (⟨#[100]⟩ : ByteArray)] : List ByteArray))).bind fun bt289 => ((spec_l1Below.f s0_0 bt289.2.1 bt289.2.2 9).bind fun bt292 => (if bt292.1 = 0 then (spec_l4Expr.j0 k a1 a2 bt289.1 bt292.1 (bt292.1 == 0) s0_0 bt292.2.1 bt292.2.2) else (spec_l4Expr.j0 k a1 a2 bt289.1 bt292.1 (bt292.1 == 1) s0_0 bt292.2.1 bt292.2.2)))
end
theorem spec_l4Expr.mono_l : ∀ k, (∀ y0 y1 y2 y3 y4, LeO (spec_l4Expr.f k y0 y1 y2 y3 y4) (spec_l4Expr.f (k + 1) y0 y1 y2 y3 y4)) ∧ (∀ y0 y1 y2 y3 y4, LeO (spec_l4Expr.j2 k y0 y1 y2 y3 y4) (spec_l4Expr.j2 (k + 1) y0 y1 y2 y3 y4)) ∧ (∀ y0 y1 y2 y3 y4 y5 y6 y7, LeO (spec_l4Expr.j0 k y0 y1 y2 y3 y4 y5 y6 y7) (spec_l4Expr.j0 (k + 1) y0 y1 y2 y3 y4 y5 y6 y7)) ∧ (∀ y0 y1 y2 y3 y4 y5 y6 y7, LeO (spec_l4Expr.j1 k y0 y1 y2 y3 y4 y5 y6 y7) (spec_l4Expr.j1 (k + 1) y0 y1 y2 y3 y4 y5 y6 y7))
 | 0 => ⟨fun _ _ _ _ _ r h => by simp [spec_l4Expr.f] at h, fun _ _ _ _ _ r h => by simp [spec_l4Expr.j2] at h, fun _ _ _ _ _ _ _ _ r h => by simp [spec_l4Expr.j0] at h, fun _ _ _ _ _ _ _ _ r h => by simp [spec_l4Expr.j1] at h⟩
 | k + 1 => by
  obtain ⟨ih0, ih1, ih2, ih3⟩ := spec_l4Expr.mono_l k
  refine ⟨?_, ?_, ?_, ?_⟩
  ·intro y0 y1 y2 y3 y4
   unfold spec_l4Expr.f
   repeat' (first | (with_reducible first | exact ih0 _ _ _ _ _ | exact ih1 _ _ _ _ _ | exact ih2 _ _ _ _ _ _ _ _ | exact ih3 _ _ _ _ _ _ _ _ | exact spec_Dec.mono _ _ | exact LeO.refl _ | exact LeO.none _ | refine LeO.ite ?_ ?_ | refine LeO.bind ?_ (fun _ => ?_)) | exact LeO.none _ | refine LeO.ite ?_ ?_ | refine LeO.bind ?_ (fun _ => ?_))
  ·intro y0 y1 y2 y3 y4
   unfold spec_l4Expr.j2
   repeat' (first | (with_reducible first | exact ih0 _ _ _ _ _ | exact ih1 _ _ _ _ _ | exact ih2 _ _ _ _ _ _ _ _ | exact ih3 _ _ _ _ _ _ _ _ | exact spec_Dec.mono _ _ | exact LeO.refl _ | exact LeO.none _ | refine LeO.ite ?_ ?_ | refine LeO.bind ?_ (fun _ => ?_)) | exact LeO.none _ | refine LeO.ite ?_ ?_ | refine LeO.bind ?_ (fun _ => ?_))
  ·intro y0 y1 y2 y3 y4 y5 y6 y7
   unfold spec_l4Expr.j0
   repeat' (first | (with_reducible first | exact ih0 _ _ _ _ _ | exact ih1 _ _ _ _ _ | exact ih2 _ _ _ _ _ _ _ _ | exact ih3 _ _ _ _ _ _ _ _ | exact spec_Dec.mono _ _ | exact LeO.refl _ | exact LeO.none _ | refine LeO.ite ?_ ?_ | refine LeO.bind ?_ (fun _ => ?_)) | exact LeO.none _ | refine LeO.ite ?_ ?_ | refine LeO.bind ?_ (fun _ => ?_))
  ·intro y0 y1 y2 y3 y4 y5 y6 y7
   unfold spec_l4Expr.j1
   repeat' (first | (with_reducible first | exact ih0 _ _ _ _ _ | exact ih1 _ _ _ _ _ | exact ih2 _ _ _ _ _ _ _ _ | exact ih3 _ _ _ _ _ _ _ _ | exact spec_Dec.mono _ _ | exact LeO.refl _ | exact LeO.none _ | refine LeO.ite ?_ ?_ | refine LeO.bind ?_ (fun _ => ?_)) | exact LeO.none _ | refine LeO.ite ?_ ?_ | refine LeO.bind ?_ (fun _ => ?_))
theorem spec_l4Expr.mono : ∀ a0 a1 a2 a3 a4 k, LeO (spec_l4Expr.f k a0 a1 a2 a3 a4) (spec_l4Expr.f (k + 1) a0 a1 a2 a3 a4) := by
 intro a0 a1 a2 a3 a4 k
 obtain ⟨ih0, ih1, ih2, ih3⟩ := spec_l4Expr.mono_l k
 exact ih0 a0 a1 a2 a3 a4
set_option maxHeartbeats 8000000 in
set_option maxRecDepth 100000 in
theorem spec_l4Expr.calls (k : Nat) : ∀ (g : Nat) (s0_0 : List Int) (s0_1 : Int) (s0_2 : Int) (a1 : Int) (a2 : Bool) (r1 : ByteArray) (r2 : Int) (r3 : Int) (w0 w : World) (hI : IsS77 w0 w g s0_0 s0_1 s0_2) (hB : Below w0.heap.size w0 w) (h : spec_l4Expr.f k s0_0 s0_1 s0_2 a1 a2 = some (r1, r2, r3)),
  Calls Tryz.prog 73 #[.pointer (some ⟨g, 0, none⟩), .int .i64 a1, .bool a2] w fun e w' => e = .returned (.string r1) ∧ IsS77 w0 w' g s0_0 r2 r3 ∧ Below w0.heap.size w0 w' ∧ KeepBut w w' g none := by
 induction k using Nat.strongRecOn with
 | _ k ih =>
 intro g s0_0 s0_1 s0_2 a1 a2 r1 r2 r3 w0 w hI hB h
 cases k with
 | zero => exact absurd h (by simp [spec_l4Expr.f])
 | succ k =>
 simp only [spec_l4Expr.f] at h
 have HI0 := Aside0.mk hI
 have HK := Aside0.mk (KeepBut.refl w g none)
 have HL := Aside0.mk hB.size
 clear hI
 have HW0 := Aside0.mk hB.size
 have HB := Aside0.mk hB
 clear hB
 try unfold spec_l4Expr.f at h
 have H := h
 clear h
 obtain ⟨y286, hy286⟩ : ∃ y_ : List ByteArray, y_ = (([(⟨#[97]⟩ : ByteArray), (⟨#[98]⟩ : ByteArray), (⟨#[120]⟩ : ByteArray), (⟨#[102]⟩ : ByteArray), (⟨#[103]⟩ : ByteArray), (⟨#[110]⟩ : ByteArray), (⟨#[100]⟩ : ByteArray)] : List ByteArray)) := ⟨_, rfl⟩
 rw [← hy286] at H
 have Ny286 := Aside0.mk hy286
 clear hy286
 replace H := bnd H
 obtain ⟨⟨t289, t290, t291⟩, A4, H⟩ := H
 try dsimp only at H
 replace H := bnd H
 obtain ⟨⟨t292, t293, t294⟩, A5, H⟩ := H
 try dsimp only at H
 have HC6 := Aside0.mk H
 clear H
 try simp only [ByteArray.size_append, lsz, List.length_cons, List.length_nil, Nat.reduceAdd] at *
 go_enter Tryz.func73, Tryz.ntmps73
 go_upto_block 0 with (first | ((with_reducible refine gate_dst (N := 9) rfl ?_); refine Kd.R_lit Kd.string _ 9 ?hg (N := 9) ?hd (xs := ([(⟨#[97]⟩ : ByteArray), (⟨#[98]⟩ : ByteArray), (⟨#[120]⟩ : ByteArray), (⟨#[102]⟩ : ByteArray), (⟨#[103]⟩ : ByteArray), (⟨#[110]⟩ : ByteArray), (⟨#[100]⟩ : ByteArray)] : List ByteArray)) (inner := [.string (⟨#[97]⟩ : ByteArray), .string (⟨#[98]⟩ : ByteArray), .string (⟨#[120]⟩ : ByteArray), .string (⟨#[102]⟩ : ByteArray), .string (⟨#[103]⟩ : ByteArray), .string (⟨#[110]⟩ : ByteArray), .string (⟨#[100]⟩ : ByteArray)]) (ok := fun _ => True) (okp := fun _ => True) ?hr ?hp (fun _ hk => hk) trivial (Below.refl _ _) (Nat.le_refl _) (by simp) ?_; (case hd => rfl); (case hg => rfl); (case hr => first | (go_simp; done) | (go_simp; rfl)); (case hp => exact (Reps.one (show Kd.M Kd.string _ _ _ (⟨#[97]⟩ : ByteArray) [.string (⟨#[97]⟩ : ByteArray)] from rfl) (Reps.one (show Kd.M Kd.string _ _ _ (⟨#[98]⟩ : ByteArray) [.string (⟨#[98]⟩ : ByteArray)] from rfl) (Reps.one (show Kd.M Kd.string _ _ _ (⟨#[120]⟩ : ByteArray) [.string (⟨#[120]⟩ : ByteArray)] from rfl) (Reps.one (show Kd.M Kd.string _ _ _ (⟨#[102]⟩ : ByteArray) [.string (⟨#[102]⟩ : ByteArray)] from rfl) (Reps.one (show Kd.M Kd.string _ _ _ (⟨#[103]⟩ : ByteArray) [.string (⟨#[103]⟩ : ByteArray)] from rfl) (Reps.one (show Kd.M Kd.string _ _ _ (⟨#[110]⟩ : ByteArray) [.string (⟨#[110]⟩ : ByteArray)] from rfl) (Reps.one (show Kd.M Kd.string _ _ _ (⟨#[100]⟩ : ByteArray) [.string (⟨#[100]⟩ : ByteArray)] from rfl) (Reps.none _ _))))))))); intro v287 w7 ho8 hb hg_ hnew_; clear hg_ hnew_; (first | rw [← Ny286.out] at ho8 | (simp only [Int.reduceToNat] at ho8; rw [← Ny286.out] at ho8)); have n0_ := Aside0.mk (Kd.R_lower ho8 (keep_size (w := w) (g := g) (row := none) zt5)); have n1_ := Aside0.mk (IsS77.below zt4 hb); have n2_ := Aside0.mk (KeepBut.trans zt5 (KeepBut.of_below hb g none) (.inl rfl)); have n3_ := Aside0.mk (below_step zt6 hb); clear HI0; clear HK; clear HB; have HO288 := n0_; have HI0 := n1_; have HK := n2_; have HB := n3_; clear n0_ n1_ n2_ n3_; clear hb ho8; obtain ⟨Ao9, co9, eo9⟩ := Kd.R_slice HO288.out; subst eo9) | ((with_reducible refine gate_callee (f := 53) rfl ?_); refine goesL_ (some 10) rfl rfl Tryz.func53 (by kernel_rfl) rfl #[.pointer (some ⟨g, 0, none⟩), .slice Ao9 y286.length co9] rfl zt7 ?_; (with_reducible refine (spec_l1Pick.calls g s0_0 s0_1 s0_2 _ _ y286 t289 t290 t291 w0 _ ?side1 ?side2 ?side3 ?side4 ?side5 A4.out).mono ?_); (case side1 => exact zt4); (case side2 => exact zt6); (case side3 => exact cz (Kd.R_reads' HO288.out).2.2); (case side4 => exact (Kd.R_reads' HO288.out).2.1); (case side5 => exact far_slice (IsS77.own_ne HI0.out HO288.out (by decide))); rintro e w10 ⟨rfl, hi, hb, hk⟩; refine ⟨_, rfl, ?_⟩; have n0_ := Aside0.mk (Kd.R_mono (Kd.R_keep (IsS77.apart (show IsS77 w0 _ g s0_0 s0_1 s0_2 from zt4) (rz HO288.out) (by decide)) hk (fun _ h => h.2)) (fun _ h => h.1)); have n1_ := Aside0.mk (KeepBut.trans zt5 hk (.inl rfl)); have n2_ := Aside0.mk (hb); have n3_ := Aside0.mk (hi); clear HO288; clear HK; clear HB; clear HI0; have HO288 := n0_; have HK := n1_; have HB := n2_; have HI0 := n3_; clear n0_ n1_ n2_ n3_; (try clear hb); (try clear hb2); (try clear hk); (try clear hi)) | ((with_reducible refine gate_callee (f := 48) rfl ?_); refine goesL_ (some 12) rfl rfl Tryz.func48 (by kernel_rfl) rfl #[.pointer (some ⟨g, 0, none⟩), .int .i64 9] rfl zt7 ?_; (with_reducible refine (spec_l1Below.calls g s0_0 t290 t291 9 t292 t293 t294 w0 _ ?side1 ?side2 A5.out).mono ?_); (case side1 => exact zt4); (case side2 => exact zt6); rintro e w11 ⟨rfl, hi, hb, hk⟩; refine ⟨_, rfl, ?_⟩; have n0_ := Aside0.mk (Kd.R_mono (Kd.R_keep (IsS77.apart (show IsS77 w0 _ g s0_0 t290 t291 from zt4) (rz HO288.out) (by decide)) hk (fun _ h => h.2)) (fun _ h => h.1)); have n1_ := Aside0.mk (KeepBut.trans zt5 hk (.inl rfl)); have n2_ := Aside0.mk (hb); have n3_ := Aside0.mk (hi); clear HO288; clear HK; clear HB; clear HI0; have HO288 := n0_; have HK := n1_; have HB := n2_; have HI0 := n3_; clear n0_ n1_ n2_ n3_; (try clear hb); (try clear hb2); (try clear hk); (try clear hi)))
 (try simp only [Act.put, List.setIfInBounds_toArray, List.set_cons_zero, List.set_cons_succ])
 go_cut [] (fun wc => ∃ (kq : Nat) (x1001_5 : Int) (x1002_5 : Int), Aside0 (spec_l4Expr.j2 kq a2 t289 s0_0 x1001_5 x1002_5 = some (r1, r2, r3)) ∧ Aside0 (kq ≤ k) ∧ Aside0 (IsS77 w0 wc g s0_0 x1001_5 x1002_5) ∧ Aside0 (KeepBut w wc g none) ∧ Aside0 (Below w0.heap.size w0 wc))
 case first =>
  have H := HC6.out
  clear HC6
  have HC12 := Aside0.mk H
  clear H
  go_upto_if 13 with (fail)
  go_cut [13] (fun v13 wc => ∃ (kq : Nat) (x13_11 : Bool), v13 = .bool x13_11 ∧ Aside0 (spec_l4Expr.j0 kq a1 a2 t289 t292 x13_11 s0_0 t293 t294 = some (r1, r2, r3)) ∧ Aside0 (kq ≤ k) ∧ Aside0 (IsS77 w0 wc g s0_0 t293 t294) ∧ Aside0 (KeepBut w wc g none) ∧ Aside0 (Below w0.heap.size w0 wc))
  case first =>
   have H := HC12.out
   clear HC12
   by_cases c13 : t292 = 0
   rw [if_pos c13] at H
   have c13b0 : (t292 == 0) = true := beq_iff_eq.mpr c13
   have c13b1 : (t292 != 0) = false := bne_eq_false_iff_eq.mpr c13
   clear c13
   (first | rw [c13b0] | (simp only [i64_w, i32_w]; rw [c13b0]) | skip)
   have H' := Aside0.mk H
   clear H
   rotate_left
   rw [if_neg c13] at H
   have c13b0 : (t292 == 0) = false := beq_eq_false_iff_ne.mpr c13
   have c13b1 : (t292 != 0) = true := bne_iff_ne.mpr c13
   (first | rw [c13b0] | (simp only [i64_w, i32_w]; rw [c13b0]) | skip)
   have H' := Aside0.mk H
   clear H
   rotate_left
   all_goals
    try simp only [ByteArray.size_append, lsz, List.length_cons, List.length_nil, Nat.reduceAdd] at *
    repeat (go_wp2; first | go_quiet (fail) | (go_meet; (case rel => exact ⟨_, ((t292 == 0)), zt12, H', ⟨by first | omega | exact Nat.le_refl _⟩, ⟨zt4⟩, ⟨zt5⟩, ⟨zt6⟩⟩)) | (go_meet; (case rel => exact ⟨_, ((t292 == 1)), zt12, H', ⟨by first | omega | exact Nat.le_refl _⟩, ⟨zt4⟩, ⟨zt5⟩, ⟨zt6⟩⟩)))
  case rest =>
   clear HC12
   try clear c1
   try clear p2
   try clear c4
   try clear c5
   try clear c7
   try clear c13
   try clear c13b0
   try clear c13b1
   obtain ⟨kq, x13_11, rfl, HA, HJ11, HI0, HK, HB⟩ := hcut
   cases kq with
   | zero => exact absurd HA.out (by simp [spec_l4Expr.j0])
   | succ kj11 =>
    have H := HA.out
    clear HA
    simp only [spec_l4Expr.j0] at H
    by_cases c14 : x13_11 = true
    subst c14
    rw [if_pos rfl] at H
    replace H := bnd H
    obtain ⟨⟨t295, t296, t297⟩, A15, H⟩ := H
    try dsimp only at H
    replace H := bnd H
    obtain ⟨t298, A16, H⟩ := H
    try dsimp only at H
    simp only [Option.some.injEq, Prod.mk.injEq] at H
    obtain ⟨rfl, rfl, rfl⟩ := H
    rotate_left
    replace c14 := Bool.eq_false_iff.mpr c14
    subst c14
    rw [if_neg (show ¬ (false = true) by decide)] at H
    by_cases c19 : t292 = 2
    rw [if_pos c19] at H
    have c19b0 : (t292 == 2) = true := beq_iff_eq.mpr c19
    have c19b1 : (t292 != 2) = false := bne_eq_false_iff_eq.mpr c19
    clear c19
    replace H := it0 H
    obtain ⟨c20, H⟩ := H
    obtain ⟨c20b0, c20b1, c20b2⟩ := szf c20
    simp only [Option.some.injEq, Prod.mk.injEq] at H
    obtain ⟨rfl, rfl, rfl⟩ := H
    rotate_left
    rw [if_neg c19] at H
    have c19b0 : (t292 == 2) = false := beq_eq_false_iff_ne.mpr c19
    have c19b1 : (t292 != 2) = true := bne_iff_ne.mpr c19
    by_cases c21 : t292 = 3
    rw [if_pos c21] at H
    have c21b0 : (t292 == 3) = true := beq_iff_eq.mpr c21
    have c21b1 : (t292 != 3) = false := bne_eq_false_iff_eq.mpr c21
    clear c21
    replace H := it0 H
    obtain ⟨c22, H⟩ := H
    obtain ⟨c22b0, c22b1, c22b2⟩ := szf c22
    simp only [Option.some.injEq, Prod.mk.injEq] at H
    obtain ⟨rfl, rfl, rfl⟩ := H
    rotate_left
    rw [if_neg c21] at H
    have c21b0 : (t292 == 3) = false := beq_eq_false_iff_ne.mpr c21
    have c21b1 : (t292 != 3) = true := bne_iff_ne.mpr c21
    by_cases c23 : t292 = 4
    rw [if_pos c23] at H
    have c23b0 : (t292 == 4) = true := beq_iff_eq.mpr c23
    have c23b1 : (t292 != 4) = false := bne_eq_false_iff_eq.mpr c23
    clear c23
    simp only [Option.some.injEq, Prod.mk.injEq] at H
    obtain ⟨rfl, rfl, rfl⟩ := H
    rotate_left
    ·rw [if_neg c23] at H
     have c23b0 : (t292 == 4) = false := beq_eq_false_iff_ne.mpr c23
     have c23b1 : (t292 != 4) = true := bne_iff_ne.mpr c23
     have HC24 := Aside0.mk H
     clear H
     go_upto_if 29 with (fail)
     go_cut [29] (fun v29 wc => ∃ (kq : Nat) (x29_23 : Bool), v29 = .bool x29_23 ∧ Aside0 (spec_l4Expr.j1 kq a1 a2 t289 t292 x29_23 s0_0 t293 t294 = some (r1, r2, r3)) ∧ Aside0 (kq ≤ kj11) ∧ Aside0 (IsS77 w0 wc g s0_0 t293 t294) ∧ Aside0 (KeepBut w wc g none) ∧ Aside0 (Below w0.heap.size w0 wc))
     case first =>
      have H := HC24.out
      clear HC24
      by_cases c25 : t292 = 5
      rw [if_pos c25] at H
      have c25b0 : (t292 == 5) = true := beq_iff_eq.mpr c25
      have c25b1 : (t292 != 5) = false := bne_eq_false_iff_eq.mpr c25
      clear c25
      (first | rw [c25b0] | (simp only [i64_w, i32_w]; rw [c25b0]) | skip)
      have H' := Aside0.mk H
      clear H
      rotate_left
      rw [if_neg c25] at H
      have c25b0 : (t292 == 5) = false := beq_eq_false_iff_ne.mpr c25
      have c25b1 : (t292 != 5) = true := bne_iff_ne.mpr c25
      (first | rw [c25b0] | (simp only [i64_w, i32_w]; rw [c25b0]) | skip)
      have H' := Aside0.mk H
      clear H
      rotate_left
      all_goals
       try simp only [ByteArray.size_append, lsz, List.length_cons, List.length_nil, Nat.reduceAdd] at *
       repeat (go_wp2; first | go_quiet (fail) | (go_meet; (case rel => exact ⟨_, ((t292 == 5)), zt12, H', ⟨by have := HJ11.out; first | omega | exact Nat.le_refl _⟩, ⟨zt4⟩, ⟨zt5⟩, ⟨zt6⟩⟩)) | (go_meet; (case rel => exact ⟨_, ((t292 == 6)), zt12, H', ⟨by have := HJ11.out; first | omega | exact Nat.le_refl _⟩, ⟨zt4⟩, ⟨zt5⟩, ⟨zt6⟩⟩)))
     case rest =>
      clear HC24
      try clear c1
      try clear c2
      try clear p2
      try clear c4
      try clear c5
      try clear c7
      try clear c13
      try clear c13b0
      try clear c13b1
      try clear c14
      try clear c19
      try clear c19b0
      try clear c19b1
      try clear c20
      try clear c20b0
      try clear c20b1
      try clear c20b2
      try clear c21
      try clear c21b0
      try clear c21b1
      try clear c22
      try clear c22b0
      try clear c22b1
      try clear c22b2
      try clear c23
      try clear c23b0
      try clear c23b1
      try clear c25
      try clear c25b0
      try clear c25b1
      try clear p2
      obtain ⟨kq, x29_23, rfl, HA, HJ23, HI0, HK, HB⟩ := hcut
      cases kq with
      | zero => exact absurd HA.out (by simp [spec_l4Expr.j1])
      | succ kj23 =>
       have H := HA.out
       clear HA
       simp only [spec_l4Expr.j1] at H
       by_cases c26 : x29_23 = true
       subst c26
       rw [if_pos rfl] at H
       by_cases c27 : a1 > 0
       rw [if_pos c27] at H
       have c27b0 : decide (0 < a1) = true := decide_eq_true c27
       clear c27
       replace H := bnd H
       obtain ⟨⟨t299, t300, t301⟩, A28, H⟩ := H
       try dsimp only at H
       replace H := it0 H
       obtain ⟨c29, H⟩ := H
       obtain ⟨c29b0, c29b1, c29b2⟩ := szf c29
       obtain ⟨y302, hy302⟩ : ∃ y_ : List ByteArray, y_ = (([(⟨#[43]⟩ : ByteArray), (⟨#[45]⟩ : ByteArray), (⟨#[42]⟩ : ByteArray)] : List ByteArray)) := ⟨_, rfl⟩
       rw [← hy302] at H
       have Ny302 := Aside0.mk hy302
       clear hy302
       replace H := bnd H
       obtain ⟨⟨t305, t306, t307⟩, A30, H⟩ := H
       try dsimp only at H
       replace H := it0 H
       obtain ⟨c31, H⟩ := H
       obtain ⟨c31b0, c31b1, c31b2⟩ := szf c31
       replace H := it0 H
       obtain ⟨c32, H⟩ := H
       obtain ⟨c32b0, c32b1, c32b2⟩ := szf c32
       replace H := bnd H
       obtain ⟨⟨t308, t309, t310⟩, A33, H⟩ := H
       try dsimp only at H
       replace H := it0 H
       obtain ⟨c34, H⟩ := H
       obtain ⟨c34b0, c34b1, c34b2⟩ := szf c34
       simp only [Option.some.injEq, Prod.mk.injEq] at H
       obtain ⟨rfl, rfl, rfl⟩ := H
       rotate_left
       rw [if_neg c27] at H
       have c27b0 : decide (0 < a1) = false := decide_eq_false c27
       clear c27
       have H' := Aside0.mk H
       clear H
       rotate_left
       replace c26 := Bool.eq_false_iff.mpr c26
       subst c26
       rw [if_neg (show ¬ (false = true) by decide)] at H
       by_cases c41 : t292 = 7
       rw [if_pos c41] at H
       have c41b0 : (t292 == 7) = true := beq_iff_eq.mpr c41
       have c41b1 : (t292 != 7) = false := bne_eq_false_iff_eq.mpr c41
       clear c41
       by_cases c42 : a1 > 0
       rw [if_pos c42] at H
       have c42b0 : decide (0 < a1) = true := decide_eq_true c42
       clear c42
       replace H := bnd H
       obtain ⟨⟨t311, t312, t313⟩, A43, H⟩ := H
       try dsimp only at H
       replace H := it0 H
       obtain ⟨c44, H⟩ := H
       obtain ⟨c44b0, c44b1, c44b2⟩ := szf c44
       replace H := it0 H
       obtain ⟨c45, H⟩ := H
       obtain ⟨c45b0, c45b1, c45b2⟩ := szf c45
       simp only [Option.some.injEq, Prod.mk.injEq] at H
       obtain ⟨rfl, rfl, rfl⟩ := H
       rotate_left
       rw [if_neg c42] at H
       have c42b0 : decide (0 < a1) = false := decide_eq_false c42
       clear c42
       have H' := Aside0.mk H
       clear H
       rotate_left
       rw [if_neg c41] at H
       have c41b0 : (t292 == 7) = false := beq_eq_false_iff_ne.mpr c41
       have c41b1 : (t292 != 7) = true := bne_iff_ne.mpr c41
       have H' := Aside0.mk H
       clear H
       rotate_left
       all_goals
        try simp only [ByteArray.size_append, lsz, List.length_cons, List.length_nil, Nat.reduceAdd] at *
        repeat (go_wp2_with (first | ((with_reducible refine gate_dst (N := 41) rfl ?_); refine Kd.R_lit Kd.string _ 9 ?hg (N := 41) ?hd (xs := ([(⟨#[43]⟩ : ByteArray), (⟨#[45]⟩ : ByteArray), (⟨#[42]⟩ : ByteArray)] : List ByteArray)) (inner := [.string (⟨#[43]⟩ : ByteArray), .string (⟨#[45]⟩ : ByteArray), .string (⟨#[42]⟩ : ByteArray)]) (ok := fun _ => True) (okp := fun _ => True) ?hr ?hp (fun _ hk => hk) trivial (Below.refl _ _) (Nat.le_refl _) (by simp) ?_; (case hd => rfl); (case hg => rfl); (case hr => first | (go_simp; done) | (go_simp; rfl)); (case hp => exact (Reps.one (show Kd.M Kd.string _ _ _ (⟨#[43]⟩ : ByteArray) [.string (⟨#[43]⟩ : ByteArray)] from rfl) (Reps.one (show Kd.M Kd.string _ _ _ (⟨#[45]⟩ : ByteArray) [.string (⟨#[45]⟩ : ByteArray)] from rfl) (Reps.one (show Kd.M Kd.string _ _ _ (⟨#[42]⟩ : ByteArray) [.string (⟨#[42]⟩ : ByteArray)] from rfl) (Reps.none _ _))))); intro v7001 w7002 ho7003 hb hg_ hnew_; clear hg_ hnew_; (first | rw [← Ny302.out] at ho7003 | (simp only [Int.reduceToNat] at ho7003; rw [← Ny302.out] at ho7003)); have n0_ := Aside0.mk (Kd.R_lower ho7003 (keep_size (w := w) (g := g) (row := none) zt5)); have n1_ := Aside0.mk (IsS77.below zt4 hb); have n2_ := Aside0.mk (KeepBut.trans zt5 (KeepBut.of_below hb g none) (.inl rfl)); have n3_ := Aside0.mk (below_step zt6 hb); clear HI0; clear HK; clear HB; have HO7004 := n0_; have HI0 := n1_; have HK := n2_; have HB := n3_; clear n0_ n1_ n2_ n3_; clear hb ho7003; obtain ⟨Ao7005, co7005, eo7005⟩ := Kd.R_slice HO7004.out; subst eo7005) | ((with_reducible refine gate_callee (f := 53) rfl ?_); refine goesL_ (some 42) rfl rfl Tryz.func53 (by kernel_rfl) rfl #[.pointer (some ⟨g, 0, none⟩), .slice Ao7005 y302.length co7005] rfl zt7 ?_; (with_reducible refine (spec_l1Pick.calls g s0_0 t300 t301 _ _ y302 t305 t306 t307 w0 _ ?side1 ?side2 ?side3 ?side4 ?side5 A30.out).mono ?_); (case side1 => exact zt4); (case side2 => exact zt6); (case side3 => exact cz (Kd.R_reads' HO7004.out).2.2); (case side4 => exact (Kd.R_reads' HO7004.out).2.1); (case side5 => exact far_slice (IsS77.own_ne HI0.out HO7004.out (by decide))); rintro e w7006 ⟨rfl, hi, hb, hk⟩; refine ⟨_, rfl, ?_⟩; have n0_ := Aside0.mk (Kd.R_mono (Kd.R_keep (IsS77.apart (show IsS77 w0 _ g s0_0 t300 t301 from zt4) (rz HO7004.out) (by decide)) hk (fun _ h => h.2)) (fun _ h => h.1)); have n1_ := Aside0.mk (KeepBut.trans zt5 hk (.inl rfl)); have n2_ := Aside0.mk (hb); have n3_ := Aside0.mk (hi); clear HO7004; clear HK; clear HB; clear HI0; have HO7004 := n0_; have HK := n1_; have HB := n2_; have HI0 := n3_; clear n0_ n1_ n2_ n3_; (try clear hb); (try clear hb2); (try clear hk); (try clear hi)) | ((with_reducible refine gate_callee (f := 73) rfl ?_); refine goesL_ (some 49) rfl rfl Tryz.func73 (by kernel_rfl) rfl #[.pointer (some ⟨g, 0, none⟩), .int .i64 (wrap64 (a1 - 1)), .bool a2] rfl zt7 ?_; (with_reducible refine (ih kj23 (by have := HJ11.out; have := HJ23.out; omega) g s0_0 t306 t307 (wrap64 (a1 - 1)) a2 t308 t309 t310 w0 _ ?side1 ?side2 A33.out).mono ?_); (case side1 => exact zt4); (case side2 => exact zt6); rintro e w7007 ⟨rfl, hi, hb, hk⟩; refine ⟨_, rfl, ?_⟩; have n0_ := Aside0.mk (Kd.R_mono (Kd.R_keep (IsS77.apart (show IsS77 w0 _ g s0_0 t306 t307 from zt4) (rz HO7004.out) (by decide)) hk (fun _ h => h.2)) (fun _ h => h.1)); have n1_ := Aside0.mk (KeepBut.trans zt5 hk (.inl rfl)); have n2_ := Aside0.mk (hb); have n3_ := Aside0.mk (hi); clear HO7004; clear HK; clear HB; clear HI0; have HO7004 := n0_; have HK := n1_; have HB := n2_; have HI0 := n3_; clear n0_ n1_ n2_ n3_; (try clear hb); (try clear hb2); (try clear hk); (try clear hi)) | ((with_reducible refine gate_callee (f := 73) rfl ?_); refine goesL_ (some 38) rfl rfl Tryz.func73 (by kernel_rfl) rfl #[.pointer (some ⟨g, 0, none⟩), .int .i64 (wrap64 (a1 - 1)), .bool a2] rfl zt7 ?_; (with_reducible refine (ih kj23 (by have := HJ11.out; have := HJ23.out; omega) g s0_0 t293 t294 (wrap64 (a1 - 1)) a2 t299 t300 t301 w0 _ ?side1 ?side2 A28.out).mono ?_); (case side1 => exact zt4); (case side2 => exact zt6); rintro e w7000 ⟨rfl, hi, hb, hk⟩; refine ⟨_, rfl, ?_⟩; have n0_ := Aside0.mk (KeepBut.trans zt5 hk (.inl rfl)); have n1_ := Aside0.mk (hb); have n2_ := Aside0.mk (hi); clear HK; clear HB; clear HI0; have HK := n0_; have HB := n1_; have HI0 := n2_; clear n0_ n1_ n2_; (try clear hb); (try clear hb2); (try clear hk); (try clear hi)) | ((with_reducible refine gate_callee (f := 73) rfl ?_); refine goesL_ (some 59) rfl rfl Tryz.func73 (by kernel_rfl) rfl #[.pointer (some ⟨g, 0, none⟩), .int .i64 (wrap64 (a1 - 1)), .bool a2] rfl zt7 ?_; (with_reducible refine (ih kj23 (by have := HJ11.out; have := HJ23.out; omega) g s0_0 t293 t294 (wrap64 (a1 - 1)) a2 t311 t312 t313 w0 _ ?side1 ?side2 A43.out).mono ?_); (case side1 => exact zt4); (case side2 => exact zt6); rintro e w7000 ⟨rfl, hi, hb, hk⟩; refine ⟨_, rfl, ?_⟩; have n0_ := Aside0.mk (KeepBut.trans zt5 hk (.inl rfl)); have n1_ := Aside0.mk (hb); have n2_ := Aside0.mk (hi); clear HK; clear HB; clear HI0; have HK := n0_; have HB := n1_; have HI0 := n2_; clear n0_ n1_ n2_; (try clear hb); (try clear hb2); (try clear hk); (try clear hi))); first | go_quiet (fail) | (go_ret; exact ⟨zt10, zt4, zt6, zt5⟩) | (go_meet; (case rel => exact ⟨_, (t293), (t294), H', ⟨by have := HJ11.out; have := HJ23.out; first | omega | exact Nat.le_refl _⟩, ⟨zt4⟩, ⟨zt5⟩, ⟨zt6⟩⟩)))
    all_goals
     try simp only [ByteArray.size_append, lsz, List.length_cons, List.length_nil, Nat.reduceAdd] at *
     repeat (go_wp2_with (first | ((with_reducible refine gate_callee (f := 48) rfl ?_); refine goesL_ (some 17) rfl rfl Tryz.func48 (by kernel_rfl) rfl #[.pointer (some ⟨g, 0, none⟩), .int .i64 9] rfl zt7 ?_; (with_reducible refine (spec_l1Below.calls g s0_0 t293 t294 9 t295 t296 t297 w0 _ ?side1 ?side2 A15.out).mono ?_); (case side1 => exact zt4); (case side2 => exact zt6); rintro e w7000 ⟨rfl, hi, hb, hk⟩; refine ⟨_, rfl, ?_⟩; have n0_ := Aside0.mk (KeepBut.trans zt5 hk (.inl rfl)); have n1_ := Aside0.mk (hb); have n2_ := Aside0.mk (hi); clear HK; clear HB; clear HI0; have HK := n0_; have HB := n1_; have HI0 := n2_; clear n0_ n1_ n2_; (try clear hb); (try clear hb2); (try clear hk); (try clear hi)) | ((with_reducible refine gate_callee (f := 50) rfl ?_); refine goesL_ (some 18) rfl rfl Tryz.func50 (by kernel_rfl) rfl #[.int .i64 t295] rfl zt7 ?_; (with_reducible refine (spec_Dec.calls kj11 t295 t298 _ A16.out).mono ?_); rintro e w7001 ⟨rfl, hb⟩; refine ⟨_, rfl, ?_⟩; have n0_ := Aside0.mk (IsS77.below zt4 hb); have n1_ := Aside0.mk (KeepBut.trans zt5 (KeepBut.of_below hb g none) (.inl rfl)); have n2_ := Aside0.mk (below_step zt6 hb); clear HI0; clear HK; clear HB; have HI0 := n0_; have HK := n1_; have HB := n2_; clear n0_ n1_ n2_; (try clear hb); (try clear hb2); (try clear hk); (try clear hi))); first | go_quiet (fail) | (go_ret; exact ⟨zt10, zt4, zt6, zt5⟩))
 case rest =>
  clear HC6
  try clear c1
  try clear c2
  try clear p2
  try clear c3
  try clear c4
  try clear c5
  try clear p6
  try clear c7
  try clear c13
  try clear c13b0
  try clear c13b1
  try clear c14
  try clear c19
  try clear c19b0
  try clear c19b1
  try clear c20
  try clear c20b0
  try clear c20b1
  try clear c20b2
  try clear c21
  try clear c21b0
  try clear c21b1
  try clear c22
  try clear c22b0
  try clear c22b1
  try clear c22b2
  try clear c23
  try clear c23b0
  try clear c23b1
  try clear c25
  try clear c25b0
  try clear c25b1
  try clear c26
  try clear c27
  try clear c27b0
  try clear c29
  try clear c29b0
  try clear c29b1
  try clear c29b2
  try clear c31
  try clear c31b0
  try clear c31b1
  try clear c31b2
  try clear c32
  try clear c32b0
  try clear c32b1
  try clear c32b2
  try clear c34
  try clear c34b0
  try clear c34b1
  try clear c34b2
  try clear c41
  try clear c41b0
  try clear c41b1
  try clear c42
  try clear c42b0
  try clear c44
  try clear c44b0
  try clear c44b1
  try clear c44b2
  try clear c45
  try clear c45b0
  try clear c45b1
  try clear c45b2
  try clear p2
  obtain ⟨kq, x1001_5, x1002_5, HA, HJ5, HI0, HK, HB⟩ := hcut
  cases kq with
  | zero => exact absurd HA.out (by simp [spec_l4Expr.j2])
  | succ kj5 =>
   have H := HA.out
   clear HA
   simp only [spec_l4Expr.j2] at H
   by_cases c47 : a2 = true
   subst c47
   rw [if_pos rfl] at H
   replace H := bnd H
   obtain ⟨⟨t314, t315, t316⟩, A48, H⟩ := H
   try dsimp only at H
   by_cases c49 : t314 = true
   subst c49
   rw [if_pos rfl] at H
   obtain ⟨y317, hy317⟩ : ∃ y_ : List ByteArray, y_ = (([(⟨#[117, 110, 100, 101, 102]⟩ : ByteArray), (⟨#[117, 110, 100, 101, 102, 32, 40, 32, 41]⟩ : ByteArray), (⟨#[97, 36, 49]⟩ : ByteArray), (⟨#[120, 36]⟩ : ByteArray)] : List ByteArray)) := ⟨_, rfl⟩
   replace H : ((spec_l1Pick.f s0_0 t315 t316 y317).bind fun bt320 => (some (bt320.1, bt320.2.1, bt320.2.2))) = some (r1, r2, r3) := by first | (rw [hy317]; with_reducible exact H) | (have H2_ := (Option.bind_some _ _).symm.trans H; rw [hy317]; with_reducible exact H2_) | (have H2_ := (Option.bind_some _ _).symm.trans H; with_reducible exact H2_) | with_reducible exact H | (rw [hy317]; exact H) | exact H
   have Ny317 := Aside0.mk hy317
   clear hy317
   replace H := bnd H
   obtain ⟨⟨t320, t321, t322⟩, A50, H⟩ := H
   try dsimp only at H
   simp only [Option.some.injEq, Prod.mk.injEq] at H
   obtain ⟨rfl, rfl, rfl⟩ := H
   rotate_left
   replace c49 := Bool.eq_false_iff.mpr c49
   subst c49
   rw [if_neg (show ¬ (false = true) by decide)] at H
   simp only [Option.some.injEq, Prod.mk.injEq] at H
   obtain ⟨rfl, rfl, rfl⟩ := H
   rotate_left
   replace c47 := Bool.eq_false_iff.mpr c47
   subst c47
   rw [if_neg (show ¬ (false = true) by decide)] at H
   simp only [Option.some.injEq, Prod.mk.injEq] at H
   obtain ⟨rfl, rfl, rfl⟩ := H
   rotate_left
   all_goals
    try simp only [ByteArray.size_append, lsz, List.length_cons, List.length_nil, Nat.reduceAdd] at *
    repeat (go_wp2_with (first | ((with_reducible refine gate_dst (N := 68) rfl ?_); refine Kd.R_lit Kd.string _ 9 ?hg (N := 68) ?hd (xs := ([(⟨#[117, 110, 100, 101, 102]⟩ : ByteArray), (⟨#[117, 110, 100, 101, 102, 32, 40, 32, 41]⟩ : ByteArray), (⟨#[97, 36, 49]⟩ : ByteArray), (⟨#[120, 36]⟩ : ByteArray)] : List ByteArray)) (inner := [.string (⟨#[117, 110, 100, 101, 102]⟩ : ByteArray), .string (⟨#[117, 110, 100, 101, 102, 32, 40, 32, 41]⟩ : ByteArray), .string (⟨#[97, 36, 49]⟩ : ByteArray), .string (⟨#[120, 36]⟩ : ByteArray)]) (ok := fun _ => True) (okp := fun _ => True) ?hr ?hp (fun _ hk => hk) trivial (Below.refl _ _) (Nat.le_refl _) (by simp) ?_; (case hd => rfl); (case hg => rfl); (case hr => first | (go_simp; done) | (go_simp; rfl)); (case hp => exact (Reps.one (show Kd.M Kd.string _ _ _ (⟨#[117, 110, 100, 101, 102]⟩ : ByteArray) [.string (⟨#[117, 110, 100, 101, 102]⟩ : ByteArray)] from rfl) (Reps.one (show Kd.M Kd.string _ _ _ (⟨#[117, 110, 100, 101, 102, 32, 40, 32, 41]⟩ : ByteArray) [.string (⟨#[117, 110, 100, 101, 102, 32, 40, 32, 41]⟩ : ByteArray)] from rfl) (Reps.one (show Kd.M Kd.string _ _ _ (⟨#[97, 36, 49]⟩ : ByteArray) [.string (⟨#[97, 36, 49]⟩ : ByteArray)] from rfl) (Reps.one (show Kd.M Kd.string _ _ _ (⟨#[120, 36]⟩ : ByteArray) [.string (⟨#[120, 36]⟩ : ByteArray)] from rfl) (Reps.none _ _)))))); intro v7001 w7002 ho7003 hb hg_ hnew_; clear hg_ hnew_; (first | rw [← Ny317.out] at ho7003 | (simp only [Int.reduceToNat] at ho7003; rw [← Ny317.out] at ho7003)); have n0_ := Aside0.mk (Kd.R_lower ho7003 (keep_size (w := w) (g := g) (row := none) zt5)); have n1_ := Aside0.mk (IsS77.below zt4 hb); have n2_ := Aside0.mk (KeepBut.trans zt5 (KeepBut.of_below hb g none) (.inl rfl)); have n3_ := Aside0.mk (below_step zt6 hb); clear HI0; clear HK; clear HB; have HO7004 := n0_; have HI0 := n1_; have HK := n2_; have HB := n3_; clear n0_ n1_ n2_ n3_; clear hb ho7003; obtain ⟨Ao7005, co7005, eo7005⟩ := Kd.R_slice HO7004.out; subst eo7005) | ((with_reducible refine gate_callee (f := 53) rfl ?_); refine goesL_ (some 69) rfl rfl Tryz.func53 (by kernel_rfl) rfl #[.pointer (some ⟨g, 0, none⟩), .slice Ao7005 y317.length co7005] rfl zt7 ?_; (with_reducible refine (spec_l1Pick.calls g s0_0 t315 t316 _ _ y317 t320 t321 t322 w0 _ ?side1 ?side2 ?side3 ?side4 ?side5 A50.out).mono ?_); (case side1 => exact zt4); (case side2 => exact zt6); (case side3 => exact cz (Kd.R_reads' HO7004.out).2.2); (case side4 => exact (Kd.R_reads' HO7004.out).2.1); (case side5 => exact far_slice (IsS77.own_ne HI0.out HO7004.out (by decide))); rintro e w7006 ⟨rfl, hi, hb, hk⟩; refine ⟨_, rfl, ?_⟩; have n0_ := Aside0.mk (Kd.R_mono (Kd.R_keep (IsS77.apart (show IsS77 w0 _ g s0_0 t315 t316 from zt4) (rz HO7004.out) (by decide)) hk (fun _ h => h.2)) (fun _ h => h.1)); have n1_ := Aside0.mk (KeepBut.trans zt5 hk (.inl rfl)); have n2_ := Aside0.mk (hb); have n3_ := Aside0.mk (hi); clear HO7004; clear HK; clear HB; clear HI0; have HO7004 := n0_; have HK := n1_; have HB := n2_; have HI0 := n3_; clear n0_ n1_ n2_ n3_; (try clear hb); (try clear hb2); (try clear hk); (try clear hi)) | (go_at_call 30; (with_reducible refine (spec_l1Once.calls g s0_0 x1001_5 x1002_5 8 false t315 t316 w0 _ ?side1 ?side2 A48.out).mono ?_); (case side1 => exact zt4); (case side2 => exact zt6); rintro e w7000 ⟨rfl, hi, hb, hk⟩; have n0_ := Aside0.mk (KeepBut.trans zt5 hk (.inl rfl)); have n1_ := Aside0.mk (hb); have n2_ := Aside0.mk (hi); clear HK; clear HB; clear HI0; have HK := n0_; have HB := n1_; have HI0 := n2_; clear n0_ n1_ n2_; (try clear hb); (try clear hb2); (try clear hk); (try clear hi)) | (go_at_call 30; (with_reducible refine (spec_l1Once.calls g s0_0 x1001_5 x1002_5 8 true t315 t316 w0 _ ?side1 ?side2 A48.out).mono ?_); (case side1 => exact zt4); (case side2 => exact zt6); rintro e w7000 ⟨rfl, hi, hb, hk⟩; have n0_ := Aside0.mk (KeepBut.trans zt5 hk (.inl rfl)); have n1_ := Aside0.mk (hb); have n2_ := Aside0.mk (hi); clear HK; clear HB; clear HI0; have HK := n0_; have HB := n1_; have HI0 := n2_; clear n0_ n1_ n2_; (try clear hb); (try clear hb2); (try clear hk); (try clear hi))); first | go_quiet (fail) | (go_ret; exact ⟨zt10, zt4, zt6, zt5⟩))

end Go.Proofs.YtkmcnjpgamaljaaGreatDoor.PFnFiles

-- Out of the kit's print, with contracts of mine among it (myprint.py).
import Derived.Test.YtopicidanlienaaPFnExactTrimx0
import Derived.Test.YtopicidanlienaaPFnExactTrimx5
namespace Go.Proofs.Ytopicidanlienaa.PFnExactTrim
open Go.RowKit Go.Proofs.YtopicidanlienaaW.PrintWords Go.Proofs.YtopicidanlienaaW.PrintLast Go.Proofs.YtopicidanlienaaW.PrintMore
attribute [local go_sem] max2_int min2_int max_two min_two max_three min_three max_four min_four   -- for this text's walks alone
set_option linter.unusedVariables false
set_option linter.unusedSimpArgs false

/-! ### laws_markImpS: function 41 -/
def laws_markImpS.l0 : Nat → List (S73) → Int → Int → Option (Int × (List (S73)))
 | 0, _, _, _ => none
 | k + 1, x0, x1, x5 => if x5 < (x0.length : Int) then ((laws_markText.f k x1).bind fun t225 => (if 0 ≤ x5 then ((some (x0.set (x5 : Int).toNat (⟨t225, (rd_T73 x0 x5).f1, (rd_T73 x0 x5).f2⟩ : S73) : List (S73))).bind fun y226 => ((laws_markText.f k (wrap64 (x1 + 1))).bind fun t227 => ((some (y226.set (x5 : Int).toNat (⟨(rd_T73 y226 x5).f0, t227, (rd_T73 y226 x5).f2⟩ : S73) : List (S73))).bind fun y228 => ((laws_markText.f k (wrap64 ((wrap64 (x1 + 1)) + 1))).bind fun t229 => (laws_markImpS.l0 k (y228.set (x5 : Int).toNat (⟨(rd_T73 y228 x5).f0, (rd_T73 y228 x5).f1, t229⟩ : S73)) (wrap64 ((wrap64 ((wrap64 (x1 + 1)) + 1)) + 1)) (wrap64 (x5 + 1))))))) else (none))) else (some (x1, x0))
def laws_markImpS.f (k : Nat) (l0 : List (S73)) (a1 : Int) : Option (Int × (List (S73))) := laws_markImpS.l0 k l0 a1 0
theorem laws_markImpS.mono_l : ∀ k, (∀ y0 y1 y2, LeO (laws_markImpS.l0 k y0 y1 y2) (laws_markImpS.l0 (k + 1) y0 y1 y2))
 | 0 => fun _ _ _ r h => by simp [laws_markImpS.l0] at h
 | k + 1 => by
  have ih0 := laws_markImpS.mono_l k
  ·intro y0 y1 y2
   unfold laws_markImpS.l0
   repeat' first
   | (with_reducible exact ih0 _ _ _)
   | (with_reducible exact laws_markText.mono _ _)
   | (with_reducible exact LeO.refl _)
   | (with_reducible exact LeO.none _)
   | (with_reducible refine LeO.ite ?_ ?_)
   | (with_reducible refine LeO.bind ?_ (fun _ => ?_))
   | exact ih0 _ _ _
   | exact laws_markText.mono _ _
   | exact LeO.none _
   | refine LeO.ite ?_ ?_
   | refine LeO.bind ?_ (fun _ => ?_)
theorem laws_markImpS.mono : ∀ a0 a1 k, LeO (laws_markImpS.f k a0 a1) (laws_markImpS.f (k + 1) a0 a1) := by
 intro a0 a1 k
 have ih0 := laws_markImpS.mono_l k
 unfold laws_markImpS.f
 repeat' first
   | (with_reducible exact ih0 _ _ _)
   | (with_reducible exact laws_markText.mono _ _)
   | (with_reducible exact LeO.refl _)
   | (with_reducible exact LeO.none _)
   | (with_reducible refine LeO.ite ?_ ?_)
   | (with_reducible refine LeO.bind ?_ (fun _ => ?_))
   | exact ih0 _ _ _
   | exact laws_markText.mono _ _
   | exact LeO.none _
   | refine LeO.ite ?_ ?_
   | refine LeO.bind ?_ (fun _ => ?_)
set_option maxHeartbeats 8000000 in
set_option maxRecDepth 100000 in
theorem laws_markImpS.calls (k : Nat) (P0_ : Nat → Prop) (u9000_ : Value) (l0 : List (S73)) (a1 : Int) (r1 : Int) (r2 : List (S73)) (w0 w : World) (hB : Below w0.heap.size w0 w) (ho0 : Kd.R k73 73 w w0.heap.size P0_ u9000_ l0) (h : laws_markImpS.f k l0 a1 = some (r1, r2)) :
  Calls Try.prog 41 #[u9000_, .int .i64 a1] w fun e w' => e = .returned (.int .i64 r1) ∧ Kd.R k73 73 w' w0.heap.size (fun k_ => (P0_ k_ ∨ w.heap.size ≤ k_)) u9000_ r2 ∧ Below w0.heap.size w0 w' ∧ Kept w w' (fun k_ => P0_ k_) := by
 have HO0 := Aside0.mk (show Kd.R k73 73 w w0.heap.size (fun k_ => (P0_ k_ ∨ w.heap.size ≤ k_)) u9000_ l0 from Kd.R_mono ho0 (fun k_ hk => (.inl hk)))
 have HK := Aside0.mk (Kept.refl w (fun k_ => P0_ k_))
 have HW0 := Aside0.mk hB.size
 have HB := Aside0.mk hB
 clear hB
 have H : (laws_markImpS.l0 k l0 a1 0) = some (r1, r2) := h
 clear h
 have H' := Aside0.mk H
 clear H
 go_enter Try.func41, Try.ntmps41
 go_wp2
 go_loopg [1, 5] k (fun kq v1 v5 w' => ∃ (x0_1 : List (S73)) (x1_1 : Int) (x5_1 : Int), v1 = .int .i64 x1_1 ∧ v5 = .int .i64 x5_1 ∧ Aside0 (laws_markImpS.l0 kq x0_1 x1_1 x5_1 = some (r1, r2)) ∧ Aside0 (kq ≤ k) ∧ Aside0 (Kd.R k73 73 w' w0.heap.size (fun k_ => (P0_ k_ ∨ w.heap.size ≤ k_)) u9000_ x0_1) ∧ Aside0 (Kept w w' (fun k_ => P0_ k_)) ∧ Aside0 (Below w0.heap.size w0 w'))
 case atStart => exact ⟨(l0), (a1), (0), zt9, zt9, H', ⟨Nat.le_refl _⟩, ⟨zt39⟩, ⟨zt7⟩, ⟨zt3⟩⟩
 case round =>
  clear H'
  try clear p2
  obtain ⟨x0_1, x1_1, x5_1, rfl, rfl, HA, HK1, HO_0, HK, HB⟩ := hrel
  cases gk with
  | zero => exact absurd HA.out (by simp [laws_markImpS.l0])
  | succ k1 =>
   have H := HA.out
   clear HA
   simp only [laws_markImpS.l0] at H
   by_cases c3 : x5_1 < (x0_1.length : Int)
   rw [if_pos c3] at H
   have c3b0 : decide (x5_1 < (x0_1.length : Int)) = true := decide_eq_true c3
   clear c3
   replace H := Option.bind_eq_some_iff.mp H
   obtain ⟨t225, A40, H⟩ := H
   replace H : (if 0 ≤ x5_1 then ((some (x0_1.set (x5_1 : Int).toNat (⟨t225, (rd_T73 x0_1 x5_1).f1, (rd_T73 x0_1 x5_1).f2⟩ : S73) : List (S73))).bind fun y226 => ((laws_markText.f k1 (wrap64 (x1_1 + 1))).bind fun t227 => ((some (y226.set (x5_1 : Int).toNat (⟨(rd_T73 y226 x5_1).f0, t227, (rd_T73 y226 x5_1).f2⟩ : S73) : List (S73))).bind fun y228 => ((laws_markText.f k1 (wrap64 ((wrap64 (x1_1 + 1)) + 1))).bind fun t229 => (laws_markImpS.l0 k1 (y228.set (x5_1 : Int).toNat (⟨(rd_T73 y228 x5_1).f0, (rd_T73 y228 x5_1).f1, t229⟩ : S73)) (wrap64 ((wrap64 ((wrap64 (x1_1 + 1)) + 1)) + 1)) (wrap64 (x5_1 + 1))))))) else (none)) = some (r1, r2) := H
   have A4 := Aside0.mk A40
   clear A40
   by_cases c5 : 0 ≤ x5_1
   rw [if_pos c5] at H
   have c5b0 : decide (0 ≤ x5_1) = true := decide_eq_true c5
   clear c5
   obtain ⟨y226, hy226⟩ : ∃ y_ : List (S73), y_ = (x0_1.set (x5_1 : Int).toNat (⟨t225, (rd_T73 x0_1 x5_1).f1, (rd_T73 x0_1 x5_1).f2⟩ : S73)) := ⟨_, rfl⟩
   replace H : ((laws_markText.f k1 (wrap64 (x1_1 + 1))).bind fun t227 => ((some (y226.set (x5_1 : Int).toNat (⟨(rd_T73 y226 x5_1).f0, t227, (rd_T73 y226 x5_1).f2⟩ : S73) : List (S73))).bind fun y228 => ((laws_markText.f k1 (wrap64 ((wrap64 (x1_1 + 1)) + 1))).bind fun t229 => (laws_markImpS.l0 k1 (y228.set (x5_1 : Int).toNat (⟨(rd_T73 y228 x5_1).f0, (rd_T73 y228 x5_1).f1, t229⟩ : S73)) (wrap64 ((wrap64 ((wrap64 (x1_1 + 1)) + 1)) + 1)) (wrap64 (x5_1 + 1)))))) = some (r1, r2) := by first | (rw [hy226]; with_reducible exact H) | (have H2_ := (Option.bind_some _ _).symm.trans H; rw [hy226]; with_reducible exact H2_) | (have H2_ := (Option.bind_some _ _).symm.trans H; with_reducible exact H2_) | with_reducible exact H | (rw [hy226]; exact H) | exact H
   have Ny226 := Aside0.mk hy226
   clear hy226
   replace H := Option.bind_eq_some_iff.mp H
   obtain ⟨t227, A70, H⟩ := H
   replace H : ((some (y226.set (x5_1 : Int).toNat (⟨(rd_T73 y226 x5_1).f0, t227, (rd_T73 y226 x5_1).f2⟩ : S73) : List (S73))).bind fun y228 => ((laws_markText.f k1 (wrap64 ((wrap64 (x1_1 + 1)) + 1))).bind fun t229 => (laws_markImpS.l0 k1 (y228.set (x5_1 : Int).toNat (⟨(rd_T73 y228 x5_1).f0, (rd_T73 y228 x5_1).f1, t229⟩ : S73)) (wrap64 ((wrap64 ((wrap64 (x1_1 + 1)) + 1)) + 1)) (wrap64 (x5_1 + 1))))) = some (r1, r2) := H
   have A7 := Aside0.mk A70
   clear A70
   obtain ⟨y228, hy228⟩ : ∃ y_ : List (S73), y_ = (y226.set (x5_1 : Int).toNat (⟨(rd_T73 y226 x5_1).f0, t227, (rd_T73 y226 x5_1).f2⟩ : S73)) := ⟨_, rfl⟩
   replace H : ((laws_markText.f k1 (wrap64 ((wrap64 (x1_1 + 1)) + 1))).bind fun t229 => (laws_markImpS.l0 k1 (y228.set (x5_1 : Int).toNat (⟨(rd_T73 y228 x5_1).f0, (rd_T73 y228 x5_1).f1, t229⟩ : S73)) (wrap64 ((wrap64 ((wrap64 (x1_1 + 1)) + 1)) + 1)) (wrap64 (x5_1 + 1)))) = some (r1, r2) := by first | (rw [hy228]; with_reducible exact H) | (have H2_ := (Option.bind_some _ _).symm.trans H; rw [hy228]; with_reducible exact H2_) | (have H2_ := (Option.bind_some _ _).symm.trans H; with_reducible exact H2_) | with_reducible exact H | (rw [hy228]; exact H) | exact H
   have Ny228 := Aside0.mk hy228
   clear hy228
   replace H := Option.bind_eq_some_iff.mp H
   obtain ⟨t229, A90, H⟩ := H
   replace H : (laws_markImpS.l0 k1 (y228.set (x5_1 : Int).toNat (⟨(rd_T73 y228 x5_1).f0, (rd_T73 y228 x5_1).f1, t229⟩ : S73)) (wrap64 ((wrap64 ((wrap64 (x1_1 + 1)) + 1)) + 1)) (wrap64 (x5_1 + 1))) = some (r1, r2) := H
   have A9 := Aside0.mk A90
   clear A90
   obtain ⟨y230, hy230⟩ : ∃ y_ : List (S73), y_ = (y228.set (x5_1 : Int).toNat (⟨(rd_T73 y228 x5_1).f0, (rd_T73 y228 x5_1).f1, t229⟩ : S73)) := ⟨_, rfl⟩
   replace H : (laws_markImpS.l0 k1 y230 (wrap64 ((wrap64 ((wrap64 (x1_1 + 1)) + 1)) + 1)) (wrap64 (x5_1 + 1))) = some (r1, r2) := by first | (rw [hy230]; with_reducible exact H) | (have H2_ := (Option.bind_some _ _).symm.trans H; rw [hy230]; with_reducible exact H2_) | (have H2_ := (Option.bind_some _ _).symm.trans H; with_reducible exact H2_) | with_reducible exact H | (rw [hy230]; exact H) | exact H
   have Ny230 := Aside0.mk hy230
   clear hy230
   have H' := Aside0.mk H
   clear H
   obtain ⟨Ao11, co11, eo11⟩ := Kd.R_slice HO_0.out
   subst eo11
   rotate_left
   rw [if_neg c5] at H
   exact absurd H (by simp)
   rw [if_neg c3] at H
   have c3b0 : decide (x5_1 < (x0_1.length : Int)) = false := decide_eq_false c3
   clear c3
   simp only [Option.some.injEq, Prod.mk.injEq] at H
   obtain ⟨rfl, rfl⟩ := H
   obtain ⟨Ao21, co21, eo21⟩ := Kd.R_slice HO_0.out
   subst eo21
   rotate_left
   all_goals
    repeat (go_wp2_with (first | ((with_reducible refine gate_callee (f := 45) rfl ?_); refine goesL_ (some 15) rfl rfl Try.func45 (by kernel_rfl) rfl #[.int .i64 x1_1] rfl zt5 ?_; (with_reducible refine (laws_markText.calls k1 x1_1 t225 _ A4.out).mono ?_); rintro e w7000 ⟨rfl, hb⟩; refine ⟨_, rfl, ?_⟩; have n0_ := Aside0.mk (Kd.R_below (rz HO_0.out) hb); have n1_ := Aside0.mk (Kept.below (S := (fun k_ => P0_ k_)) zt7 hb); have n2_ := Aside0.mk (below_step zt3 hb); clear HO_0; clear HK; clear HB; have HO_0 := n0_; have HK := n1_; have HB := n2_; clear n0_ n1_ n2_; (try clear hb); (try clear hb2); (try clear hk); (try clear hi); have p7001 : 0 ≤ (x5_1 : Int) := of_decide_eq_true zt4; have q7001 : (x5_1 : Int) < ((x0_1.length : Int) : Int) := of_decide_eq_true zt4; obtain ⟨go7001, co7001, eo7001, gb7001, gl7001, cl7001, HG7001⟩ := Kd.R_form HO_0.out (by omega); (first | cases eo7001 | (injection eo7001 with ea_ en_ ec_; (first | subst ea_ | (injection ea_ with ea_; subst ea_)); subst ec_; clear en_)); have GB7001 := Aside0.mk gb7001; have GG7001 := Aside0.mk HG7001; clear gb7001 gl7001 HG7001; have HMgo7001 := Aside0.mk (show (P0_ go7001 ∨ w.heap.size ≤ go7001) from (HO_0.out.1 _ rfl)); obtain ⟨ce7001, hcl7001, hM7001, hcc7001, hfr7001⟩ := Kd.R_elem HO_0.out z73 (x5_1 : Int) p7001 q7001; obtain rfl := k73_openM hM7001; have hx7001_0 : w7000.cell? ⟨go7001, (x5_1 : Int).toNat * 3, none⟩ = some (.string ((rd_T73 x0_1 x5_1).f0)) := hcc7001 0 _ rfl; have hx7001_1 : w7000.cell? ⟨go7001, (x5_1 : Int).toNat * 3 + 1, none⟩ = some (.string ((rd_T73 x0_1 x5_1).f1)) := hcc7001 1 _ rfl; have hx7001_2 : w7000.cell? ⟨go7001, (x5_1 : Int).toNat * 3 + 2, none⟩ = some (.string ((rd_T73 x0_1 x5_1).f2)) := hcc7001 2 _ rfl; have hf7001_0 : w7000.frozen? ⟨go7001, (x5_1 : Int).toNat * 3, none⟩ = false := hfr7001 0; have hf7001_1 : w7000.frozen? ⟨go7001, (x5_1 : Int).toNat * 3 + 1, none⟩ = false := hfr7001 1; have hf7001_2 : w7000.frozen? ⟨go7001, (x5_1 : Int).toNat * 3 + 2, none⟩ = false := hfr7001 2; clear hcl7001 hcc7001 hfr7001 hM7001; replace p7001 := eq_true p7001; replace q7001 := eq_true q7001; have HX7002 := Aside0.mk (show Kd.R k73 73 w7000 w0.heap.size (fun k_ => (P0_ k_ ∨ w.heap.size ≤ k_)) (.slice (some ⟨go7001, 0, none⟩) x0_1.length co11) x0_1 from (rz HO_0.out)); obtain ⟨ce7002, hcl7002, hM7002, hcc7002, hfr7002⟩ := Kd.R_elem HX7002.out z73 (x5_1 : Int) (of_decide_eq_true zt4) (by have h_ : (x5_1 : Int) < ((x0_1.length : Int) : Int) := of_decide_eq_true zt4; first | exact h_ | (have e_ := (Kd.R_reads' HO_0.out).1; omega) | simpa using h_); obtain rfl := k73_openM hM7002; have HP7002 := Kd.R_seg HX7002.out (x5_1 : Int) (of_decide_eq_true zt4) (by have h_ : (x5_1 : Int) < ((x0_1.length : Int) : Int) := of_decide_eq_true zt4; first | exact h_ | (have e_ := (Kd.R_reads' HO_0.out).1; omega) | simpa using h_) (seg := [.string t225]) (j := 0) hcl7002 hcc7002 (show 1 ≤ 3 from by decide) (x' := (⟨t225, (rd_T73 x0_1 x5_1).f1, (rd_T73 x0_1 x5_1).f2⟩ : S73)) (k73_mkM _ _ _ (⟨t225, (rd_T73 x0_1 x5_1).f1, (rd_T73 x0_1 x5_1).f2⟩ : S73) ) (fun _ hk => hk); have hx7002_0 := hcc7002 0 _ rfl; (try simp only [show (k73).sz = 3 from rfl, Nat.mul_one, Nat.add_zero] at hx7002_0); have hf7002_0 := hfr7002 0; (try simp only [show (k73).sz = 3 from rfl, Nat.mul_one, Nat.add_zero] at hf7002_0); clear hcl7002 hcc7002 hfr7002 hM7002) | ((with_reducible refine gate_callee (f := 45) rfl ?_); refine goesL_ (some 31) rfl rfl Try.func45 (by kernel_rfl) rfl #[.int .i64 (wrap64 ((wrap64 (x1_1 + 1)) + 1))] rfl zt5 ?_; (with_reducible refine (laws_markText.calls k1 (wrap64 ((wrap64 (x1_1 + 1)) + 1)) t229 _ A9.out).mono ?_); rintro e w7008 ⟨rfl, hb⟩; refine ⟨_, rfl, ?_⟩; have n0_ := Aside0.mk (Kd.R_below (rz HO_0.out) hb); have n1_ := Aside0.mk (Kept.below (S := (fun k_ => P0_ k_)) zt7 hb); have n2_ := Aside0.mk (below_step zt3 hb); clear HO_0; clear HK; clear HB; have HO_0 := n0_; have HK := n1_; have HB := n2_; clear n0_ n1_ n2_; (try clear hb); (try clear hb2); (try clear hk); (try clear hi); have p7009 : 0 ≤ (x5_1 : Int) := of_decide_eq_true zt4; have q7009 : (x5_1 : Int) < ((x0_1.length : Int) : Int) := of_decide_eq_true zt4; obtain ⟨ce7009, hcl7009, hM7009, hcc7009, hfr7009⟩ := Kd.R_elem HO_0.out z73 (x5_1 : Int) p7009 q7009; obtain rfl := k73_openM hM7009; have hx7009_0 : w7008.cell? ⟨go7001, (x5_1 : Int).toNat * 3, none⟩ = some (.string ((rd_T73 y228 x5_1).f0)) := hcc7009 0 _ rfl; have hx7009_1 : w7008.cell? ⟨go7001, (x5_1 : Int).toNat * 3 + 1, none⟩ = some (.string ((rd_T73 y228 x5_1).f1)) := hcc7009 1 _ rfl; have hx7009_2 : w7008.cell? ⟨go7001, (x5_1 : Int).toNat * 3 + 2, none⟩ = some (.string ((rd_T73 y228 x5_1).f2)) := hcc7009 2 _ rfl; have hf7009_0 : w7008.frozen? ⟨go7001, (x5_1 : Int).toNat * 3, none⟩ = false := hfr7009 0; have hf7009_1 : w7008.frozen? ⟨go7001, (x5_1 : Int).toNat * 3 + 1, none⟩ = false := hfr7009 1; have hf7009_2 : w7008.frozen? ⟨go7001, (x5_1 : Int).toNat * 3 + 2, none⟩ = false := hfr7009 2; clear hcl7009 hcc7009 hfr7009 hM7009; replace p7009 := eq_true p7009; replace q7009 := eq_true q7009; have HX7010 := Aside0.mk (show Kd.R k73 73 w7008 w0.heap.size (fun k_ => (P0_ k_ ∨ w.heap.size ≤ k_)) (.slice (some ⟨go7001, 0, none⟩) x0_1.length co11) y228 from (rz HO_0.out)); obtain ⟨ce7010, hcl7010, hM7010, hcc7010, hfr7010⟩ := Kd.R_elem HX7010.out z73 (x5_1 : Int) (of_decide_eq_true zt4) (by have h_ : (x5_1 : Int) < ((x0_1.length : Int) : Int) := of_decide_eq_true zt4; first | exact h_ | (have e_ := (Kd.R_reads' HO_0.out).1; omega) | simpa using h_); obtain rfl := k73_openM hM7010; have HP7010 := Kd.R_seg HX7010.out (x5_1 : Int) (of_decide_eq_true zt4) (by have h_ : (x5_1 : Int) < ((x0_1.length : Int) : Int) := of_decide_eq_true zt4; first | exact h_ | (have e_ := (Kd.R_reads' HO_0.out).1; omega) | simpa using h_) (seg := [.string t229]) (j := 2) hcl7010 hcc7010 (show 3 ≤ 3 from by decide) (x' := (⟨(rd_T73 y228 x5_1).f0, (rd_T73 y228 x5_1).f1, t229⟩ : S73)) (k73_mkM _ _ _ (⟨(rd_T73 y228 x5_1).f0, (rd_T73 y228 x5_1).f1, t229⟩ : S73) ) (fun _ hk => hk); have hx7010_2 := hcc7010 2 _ rfl; (try simp only [show (k73).sz = 3 from rfl, Nat.mul_one, Nat.add_zero] at hx7010_2); have hf7010_2 := hfr7010 2; (try simp only [show (k73).sz = 3 from rfl, Nat.mul_one, Nat.add_zero] at hf7010_2); clear hcl7010 hcc7010 hfr7010 hM7010) | ((with_reducible refine gate_callee (f := 45) rfl ?_); refine goesL_ (some 23) rfl rfl Try.func45 (by kernel_rfl) rfl #[.int .i64 (wrap64 (x1_1 + 1))] rfl zt5 ?_; (with_reducible refine (laws_markText.calls k1 (wrap64 (x1_1 + 1)) t227 _ A7.out).mono ?_); rintro e w7004 ⟨rfl, hb⟩; refine ⟨_, rfl, ?_⟩; have n0_ := Aside0.mk (Kd.R_below (rz HO_0.out) hb); have n1_ := Aside0.mk (Kept.below (S := (fun k_ => P0_ k_)) zt7 hb); have n2_ := Aside0.mk (below_step zt3 hb); clear HO_0; clear HK; clear HB; have HO_0 := n0_; have HK := n1_; have HB := n2_; clear n0_ n1_ n2_; (try clear hb); (try clear hb2); (try clear hk); (try clear hi); have p7005 : 0 ≤ (x5_1 : Int) := of_decide_eq_true zt4; have q7005 : (x5_1 : Int) < ((x0_1.length : Int) : Int) := of_decide_eq_true zt4; obtain ⟨ce7005, hcl7005, hM7005, hcc7005, hfr7005⟩ := Kd.R_elem HO_0.out z73 (x5_1 : Int) p7005 q7005; obtain rfl := k73_openM hM7005; have hx7005_0 : w7004.cell? ⟨go7001, (x5_1 : Int).toNat * 3, none⟩ = some (.string ((rd_T73 y226 x5_1).f0)) := hcc7005 0 _ rfl; have hx7005_1 : w7004.cell? ⟨go7001, (x5_1 : Int).toNat * 3 + 1, none⟩ = some (.string ((rd_T73 y226 x5_1).f1)) := hcc7005 1 _ rfl; have hx7005_2 : w7004.cell? ⟨go7001, (x5_1 : Int).toNat * 3 + 2, none⟩ = some (.string ((rd_T73 y226 x5_1).f2)) := hcc7005 2 _ rfl; have hf7005_0 : w7004.frozen? ⟨go7001, (x5_1 : Int).toNat * 3, none⟩ = false := hfr7005 0; have hf7005_1 : w7004.frozen? ⟨go7001, (x5_1 : Int).toNat * 3 + 1, none⟩ = false := hfr7005 1; have hf7005_2 : w7004.frozen? ⟨go7001, (x5_1 : Int).toNat * 3 + 2, none⟩ = false := hfr7005 2; clear hcl7005 hcc7005 hfr7005 hM7005; replace p7005 := eq_true p7005; replace q7005 := eq_true q7005; have HX7006 := Aside0.mk (show Kd.R k73 73 w7004 w0.heap.size (fun k_ => (P0_ k_ ∨ w.heap.size ≤ k_)) (.slice (some ⟨go7001, 0, none⟩) x0_1.length co11) y226 from (rz HO_0.out)); obtain ⟨ce7006, hcl7006, hM7006, hcc7006, hfr7006⟩ := Kd.R_elem HX7006.out z73 (x5_1 : Int) (of_decide_eq_true zt4) (by have h_ : (x5_1 : Int) < ((x0_1.length : Int) : Int) := of_decide_eq_true zt4; first | exact h_ | (have e_ := (Kd.R_reads' HO_0.out).1; omega) | simpa using h_); obtain rfl := k73_openM hM7006; have HP7006 := Kd.R_seg HX7006.out (x5_1 : Int) (of_decide_eq_true zt4) (by have h_ : (x5_1 : Int) < ((x0_1.length : Int) : Int) := of_decide_eq_true zt4; first | exact h_ | (have e_ := (Kd.R_reads' HO_0.out).1; omega) | simpa using h_) (seg := [.string t227]) (j := 1) hcl7006 hcc7006 (show 2 ≤ 3 from by decide) (x' := (⟨(rd_T73 y226 x5_1).f0, t227, (rd_T73 y226 x5_1).f2⟩ : S73)) (k73_mkM _ _ _ (⟨(rd_T73 y226 x5_1).f0, t227, (rd_T73 y226 x5_1).f2⟩ : S73) ) (fun _ hk => hk); have hx7006_1 := hcc7006 1 _ rfl; (try simp only [show (k73).sz = 3 from rfl, Nat.mul_one, Nat.add_zero] at hx7006_1); have hf7006_1 := hfr7006 1; (try simp only [show (k73).sz = 3 from rfl, Nat.mul_one, Nat.add_zero] at hf7006_1); clear hcl7006 hcc7006 hfr7006 hM7006) | ((with_reducible refine gate_store (t := 9) (p := 25) rfl ?_); refine store_event (t := 9) (p := 25) (v := ?vo_w7007) (w1 := (w7004.setCell ⟨go7001, (x5_1 : Int).toNat * 3 + 1, none⟩ (.string t227))) ?hg ?ho ?hn ?hr ?_; (case ho => rfl); (case hg => rfl); (case hn => rfl); (case hr => first | (go_simp; done) | (go_simp; rfl)); intro w7007 hw; have hg : w7004.grownBy w7007 (some go7001) := (by rw [hw]; exact HP7006.2); have hp_ : Kd.R k73 73 w7007 w0.heap.size (fun k_ => (P0_ k_ ∨ w.heap.size ≤ k_)) (.slice (some ⟨go7001, 0, none⟩) x0_1.length co11) y228 := (by rw [hw, Ny228.out]; exact HP7006.1); clear HP7006; have n0_ := Aside0.mk (hp_); have n1_ := Aside0.mk ((zt44 : Below w0.heap.size w0 w7007)); have n2_ := Aside0.mk (Kept.of_grown (S := (fun k_ => P0_ k_)) hg zt7 (fun k_ e_ => (HO_0.out.1 k_ e_))); clear HO_0; clear HB; clear HK; have HO_0 := n0_; have HB := n1_; have HK := n2_; clear n0_ n1_ n2_; clear hg hw hp_) | ((with_reducible refine gate_store (t := 9) (p := 33) rfl ?_); refine store_event (t := 9) (p := 33) (v := ?vo_w7011) (w1 := (w7008.setCell ⟨go7001, (x5_1 : Int).toNat * 3 + 2, none⟩ (.string t229))) ?hg ?ho ?hn ?hr ?_; (case ho => rfl); (case hg => rfl); (case hn => rfl); (case hr => first | (go_simp; done) | (go_simp; rfl)); intro w7011 hw; have hg : w7008.grownBy w7011 (some go7001) := (by rw [hw]; exact HP7010.2); have hp_ : Kd.R k73 73 w7011 w0.heap.size (fun k_ => (P0_ k_ ∨ w.heap.size ≤ k_)) (.slice (some ⟨go7001, 0, none⟩) x0_1.length co11) y230 := (by rw [hw, Ny230.out]; exact HP7010.1); clear HP7010; have n0_ := Aside0.mk (hp_); have n1_ := Aside0.mk ((zt44 : Below w0.heap.size w0 w7011)); have n2_ := Aside0.mk (Kept.of_grown (S := (fun k_ => P0_ k_)) hg zt7 (fun k_ e_ => (HO_0.out.1 k_ e_))); clear HO_0; clear HB; clear HK; have HO_0 := n0_; have HB := n1_; have HK := n2_; clear n0_ n1_ n2_; clear hg hw hp_) | ((with_reducible refine gate_store (t := 9) (p := 17) rfl ?_); refine store_event (t := 9) (p := 17) (v := ?vo_w7003) (w1 := (w7000.setCell ⟨go7001, (x5_1 : Int).toNat * 3, none⟩ (.string t225))) ?hg ?ho ?hn ?hr ?_; (case ho => rfl); (case hg => rfl); (case hn => rfl); (case hr => first | (go_simp; done) | (go_simp; rfl)); intro w7003 hw; have hg : w7000.grownBy w7003 (some go7001) := (by rw [hw]; exact HP7002.2); have hp_ : Kd.R k73 73 w7003 w0.heap.size (fun k_ => (P0_ k_ ∨ w.heap.size ≤ k_)) (.slice (some ⟨go7001, 0, none⟩) x0_1.length co11) y226 := (by rw [hw, Ny226.out]; exact HP7002.1); clear HP7002; have n0_ := Aside0.mk (hp_); have n1_ := Aside0.mk ((zt44 : Below w0.heap.size w0 w7003)); have n2_ := Aside0.mk (Kept.of_grown (S := (fun k_ => P0_ k_)) hg zt7 (fun k_ e_ => (HO_0.out.1 k_ e_))); clear HO_0; clear HB; clear HK; have HO_0 := n0_; have HB := n1_; have HK := n2_; clear n0_ n1_ n2_; clear hg hw hp_)); first | go_quiet (fail) | (go_roundg k1; (case measure => have := HK1.out; omega); (case rel => exact ⟨(y230), (wrap64 ((wrap64 ((wrap64 (x1_1 + 1)) + 1)) + 1)), (wrap64 (x5_1 + 1)), zt9, zt9, H', ⟨by have := HK1.out; omega⟩, ⟨zt14⟩, ⟨zt7⟩, ⟨zt3⟩⟩)) | (go_ret; exact ⟨zt8, zt42, zt3, zt7⟩))

/-! ### laws_markExpS: function 42 -/
def laws_markExpS.l0 : Nat → List (S55) → Int → Int → Option (Int × (List (S55)))
 | 0, _, _, _ => none
 | k + 1, x0, x1, x5 => if x5 < (x0.length : Int) then (if 0 ≤ x5 then ((some (x0.set (x5 : Int).toNat (⟨x1, (rd_T55 x0 x5).f1, (rd_T55 x0 x5).f2, (rd_T55 x0 x5).f3⟩ : S55) : List (S55))).bind fun y231 => ((laws_markText.f k (wrap64 (x1 + 1))).bind fun t232 => ((some (y231.set (x5 : Int).toNat (⟨(rd_T55 y231 x5).f0, t232, (rd_T55 y231 x5).f2, (rd_T55 y231 x5).f3⟩ : S55) : List (S55))).bind fun y233 => ((laws_markText.f k (wrap64 ((wrap64 (x1 + 1)) + 1))).bind fun t234 => ((some (y233.set (x5 : Int).toNat (⟨(rd_T55 y233 x5).f0, (rd_T55 y233 x5).f1, t234, (rd_T55 y233 x5).f3⟩ : S55) : List (S55))).bind fun y235 => ((laws_markText.f k (wrap64 ((wrap64 ((wrap64 (x1 + 1)) + 1)) + 1))).bind fun t236 => (laws_markExpS.l0 k (y235.set (x5 : Int).toNat (⟨(rd_T55 y235 x5).f0, (rd_T55 y235 x5).f1, (rd_T55 y235 x5).f2, t236⟩ : S55)) (wrap64 ((wrap64 ((wrap64 ((wrap64 (x1 + 1)) + 1)) + 1)) + 1)) (wrap64 (x5 + 1))))))))) else (none)) else (some (x1, x0))
def laws_markExpS.f (k : Nat) (l0 : List (S55)) (a1 : Int) : Option (Int × (List (S55))) := laws_markExpS.l0 k l0 a1 0
theorem laws_markExpS.mono_l : ∀ k, (∀ y0 y1 y2, LeO (laws_markExpS.l0 k y0 y1 y2) (laws_markExpS.l0 (k + 1) y0 y1 y2))
 | 0 => fun _ _ _ r h => by simp [laws_markExpS.l0] at h
 | k + 1 => by
  have ih0 := laws_markExpS.mono_l k
  ·intro y0 y1 y2
   unfold laws_markExpS.l0
   repeat' first
   | (with_reducible exact ih0 _ _ _)
   | (with_reducible exact laws_markText.mono _ _)
   | (with_reducible exact LeO.refl _)
   | (with_reducible exact LeO.none _)
   | (with_reducible refine LeO.ite ?_ ?_)
   | (with_reducible refine LeO.bind ?_ (fun _ => ?_))
   | exact ih0 _ _ _
   | exact laws_markText.mono _ _
   | exact LeO.none _
   | refine LeO.ite ?_ ?_
   | refine LeO.bind ?_ (fun _ => ?_)
theorem laws_markExpS.mono : ∀ a0 a1 k, LeO (laws_markExpS.f k a0 a1) (laws_markExpS.f (k + 1) a0 a1) := by
 intro a0 a1 k
 have ih0 := laws_markExpS.mono_l k
 unfold laws_markExpS.f
 repeat' first
   | (with_reducible exact ih0 _ _ _)
   | (with_reducible exact laws_markText.mono _ _)
   | (with_reducible exact LeO.refl _)
   | (with_reducible exact LeO.none _)
   | (with_reducible refine LeO.ite ?_ ?_)
   | (with_reducible refine LeO.bind ?_ (fun _ => ?_))
   | exact ih0 _ _ _
   | exact laws_markText.mono _ _
   | exact LeO.none _
   | refine LeO.ite ?_ ?_
   | refine LeO.bind ?_ (fun _ => ?_)
set_option maxHeartbeats 8000000 in
set_option maxRecDepth 100000 in
theorem laws_markExpS.calls (k : Nat) (P0_ : Nat → Prop) (u9000_ : Value) (l0 : List (S55)) (a1 : Int) (r1 : Int) (r2 : List (S55)) (w0 w : World) (hB : Below w0.heap.size w0 w) (ho0 : Kd.R k55 55 w w0.heap.size P0_ u9000_ l0) (h : laws_markExpS.f k l0 a1 = some (r1, r2)) :
  Calls Try.prog 42 #[u9000_, .int .i64 a1] w fun e w' => e = .returned (.int .i64 r1) ∧ Kd.R k55 55 w' w0.heap.size (fun k_ => (P0_ k_ ∨ w.heap.size ≤ k_)) u9000_ r2 ∧ Below w0.heap.size w0 w' ∧ Kept w w' (fun k_ => P0_ k_) := by
 have HO0 := Aside0.mk (show Kd.R k55 55 w w0.heap.size (fun k_ => (P0_ k_ ∨ w.heap.size ≤ k_)) u9000_ l0 from Kd.R_mono ho0 (fun k_ hk => (.inl hk)))
 have HK := Aside0.mk (Kept.refl w (fun k_ => P0_ k_))
 have HW0 := Aside0.mk hB.size
 have HB := Aside0.mk hB
 clear hB
 have H : (laws_markExpS.l0 k l0 a1 0) = some (r1, r2) := h
 clear h
 have H' := Aside0.mk H
 clear H
 go_enter Try.func42, Try.ntmps42
 go_wp2
 go_loopg [1, 5] k (fun kq v1 v5 w' => ∃ (x0_1 : List (S55)) (x1_1 : Int) (x5_1 : Int), v1 = .int .i64 x1_1 ∧ v5 = .int .i64 x5_1 ∧ Aside0 (laws_markExpS.l0 kq x0_1 x1_1 x5_1 = some (r1, r2)) ∧ Aside0 (kq ≤ k) ∧ Aside0 (Kd.R k55 55 w' w0.heap.size (fun k_ => (P0_ k_ ∨ w.heap.size ≤ k_)) u9000_ x0_1) ∧ Aside0 (Kept w w' (fun k_ => P0_ k_)) ∧ Aside0 (Below w0.heap.size w0 w'))
 case atStart => exact ⟨(l0), (a1), (0), zt9, zt9, H', ⟨Nat.le_refl _⟩, ⟨zt39⟩, ⟨zt7⟩, ⟨zt3⟩⟩
 case round =>
  clear H'
  try clear p2
  obtain ⟨x0_1, x1_1, x5_1, rfl, rfl, HA, HK1, HO_0, HK, HB⟩ := hrel
  cases gk with
  | zero => exact absurd HA.out (by simp [laws_markExpS.l0])
  | succ k1 =>
   have H := HA.out
   clear HA
   simp only [laws_markExpS.l0] at H
   by_cases c3 : x5_1 < (x0_1.length : Int)
   rw [if_pos c3] at H
   have c3b0 : decide (x5_1 < (x0_1.length : Int)) = true := decide_eq_true c3
   clear c3
   by_cases c4 : 0 ≤ x5_1
   rw [if_pos c4] at H
   have c4b0 : decide (0 ≤ x5_1) = true := decide_eq_true c4
   clear c4
   obtain ⟨y231, hy231⟩ : ∃ y_ : List (S55), y_ = (x0_1.set (x5_1 : Int).toNat (⟨x1_1, (rd_T55 x0_1 x5_1).f1, (rd_T55 x0_1 x5_1).f2, (rd_T55 x0_1 x5_1).f3⟩ : S55)) := ⟨_, rfl⟩
   replace H : ((laws_markText.f k1 (wrap64 (x1_1 + 1))).bind fun t232 => ((some (y231.set (x5_1 : Int).toNat (⟨(rd_T55 y231 x5_1).f0, t232, (rd_T55 y231 x5_1).f2, (rd_T55 y231 x5_1).f3⟩ : S55) : List (S55))).bind fun y233 => ((laws_markText.f k1 (wrap64 ((wrap64 (x1_1 + 1)) + 1))).bind fun t234 => ((some (y233.set (x5_1 : Int).toNat (⟨(rd_T55 y233 x5_1).f0, (rd_T55 y233 x5_1).f1, t234, (rd_T55 y233 x5_1).f3⟩ : S55) : List (S55))).bind fun y235 => ((laws_markText.f k1 (wrap64 ((wrap64 ((wrap64 (x1_1 + 1)) + 1)) + 1))).bind fun t236 => (laws_markExpS.l0 k1 (y235.set (x5_1 : Int).toNat (⟨(rd_T55 y235 x5_1).f0, (rd_T55 y235 x5_1).f1, (rd_T55 y235 x5_1).f2, t236⟩ : S55)) (wrap64 ((wrap64 ((wrap64 ((wrap64 (x1_1 + 1)) + 1)) + 1)) + 1)) (wrap64 (x5_1 + 1)))))))) = some (r1, r2) := by first | (rw [hy231]; with_reducible exact H) | (have H2_ := (Option.bind_some _ _).symm.trans H; rw [hy231]; with_reducible exact H2_) | (have H2_ := (Option.bind_some _ _).symm.trans H; with_reducible exact H2_) | with_reducible exact H | (rw [hy231]; exact H) | exact H
   have Ny231 := Aside0.mk hy231
   clear hy231
   replace H := Option.bind_eq_some_iff.mp H
   obtain ⟨t232, A60, H⟩ := H
   replace H : ((some (y231.set (x5_1 : Int).toNat (⟨(rd_T55 y231 x5_1).f0, t232, (rd_T55 y231 x5_1).f2, (rd_T55 y231 x5_1).f3⟩ : S55) : List (S55))).bind fun y233 => ((laws_markText.f k1 (wrap64 ((wrap64 (x1_1 + 1)) + 1))).bind fun t234 => ((some (y233.set (x5_1 : Int).toNat (⟨(rd_T55 y233 x5_1).f0, (rd_T55 y233 x5_1).f1, t234, (rd_T55 y233 x5_1).f3⟩ : S55) : List (S55))).bind fun y235 => ((laws_markText.f k1 (wrap64 ((wrap64 ((wrap64 (x1_1 + 1)) + 1)) + 1))).bind fun t236 => (laws_markExpS.l0 k1 (y235.set (x5_1 : Int).toNat (⟨(rd_T55 y235 x5_1).f0, (rd_T55 y235 x5_1).f1, (rd_T55 y235 x5_1).f2, t236⟩ : S55)) (wrap64 ((wrap64 ((wrap64 ((wrap64 (x1_1 + 1)) + 1)) + 1)) + 1)) (wrap64 (x5_1 + 1))))))) = some (r1, r2) := H
   have A6 := Aside0.mk A60
   clear A60
   obtain ⟨y233, hy233⟩ : ∃ y_ : List (S55), y_ = (y231.set (x5_1 : Int).toNat (⟨(rd_T55 y231 x5_1).f0, t232, (rd_T55 y231 x5_1).f2, (rd_T55 y231 x5_1).f3⟩ : S55)) := ⟨_, rfl⟩
   replace H : ((laws_markText.f k1 (wrap64 ((wrap64 (x1_1 + 1)) + 1))).bind fun t234 => ((some (y233.set (x5_1 : Int).toNat (⟨(rd_T55 y233 x5_1).f0, (rd_T55 y233 x5_1).f1, t234, (rd_T55 y233 x5_1).f3⟩ : S55) : List (S55))).bind fun y235 => ((laws_markText.f k1 (wrap64 ((wrap64 ((wrap64 (x1_1 + 1)) + 1)) + 1))).bind fun t236 => (laws_markExpS.l0 k1 (y235.set (x5_1 : Int).toNat (⟨(rd_T55 y235 x5_1).f0, (rd_T55 y235 x5_1).f1, (rd_T55 y235 x5_1).f2, t236⟩ : S55)) (wrap64 ((wrap64 ((wrap64 ((wrap64 (x1_1 + 1)) + 1)) + 1)) + 1)) (wrap64 (x5_1 + 1)))))) = some (r1, r2) := by first | (rw [hy233]; with_reducible exact H) | (have H2_ := (Option.bind_some _ _).symm.trans H; rw [hy233]; with_reducible exact H2_) | (have H2_ := (Option.bind_some _ _).symm.trans H; with_reducible exact H2_) | with_reducible exact H | (rw [hy233]; exact H) | exact H
   have Ny233 := Aside0.mk hy233
   clear hy233
   replace H := Option.bind_eq_some_iff.mp H
   obtain ⟨t234, A80, H⟩ := H
   replace H : ((some (y233.set (x5_1 : Int).toNat (⟨(rd_T55 y233 x5_1).f0, (rd_T55 y233 x5_1).f1, t234, (rd_T55 y233 x5_1).f3⟩ : S55) : List (S55))).bind fun y235 => ((laws_markText.f k1 (wrap64 ((wrap64 ((wrap64 (x1_1 + 1)) + 1)) + 1))).bind fun t236 => (laws_markExpS.l0 k1 (y235.set (x5_1 : Int).toNat (⟨(rd_T55 y235 x5_1).f0, (rd_T55 y235 x5_1).f1, (rd_T55 y235 x5_1).f2, t236⟩ : S55)) (wrap64 ((wrap64 ((wrap64 ((wrap64 (x1_1 + 1)) + 1)) + 1)) + 1)) (wrap64 (x5_1 + 1))))) = some (r1, r2) := H
   have A8 := Aside0.mk A80
   clear A80
   obtain ⟨y235, hy235⟩ : ∃ y_ : List (S55), y_ = (y233.set (x5_1 : Int).toNat (⟨(rd_T55 y233 x5_1).f0, (rd_T55 y233 x5_1).f1, t234, (rd_T55 y233 x5_1).f3⟩ : S55)) := ⟨_, rfl⟩
   replace H : ((laws_markText.f k1 (wrap64 ((wrap64 ((wrap64 (x1_1 + 1)) + 1)) + 1))).bind fun t236 => (laws_markExpS.l0 k1 (y235.set (x5_1 : Int).toNat (⟨(rd_T55 y235 x5_1).f0, (rd_T55 y235 x5_1).f1, (rd_T55 y235 x5_1).f2, t236⟩ : S55)) (wrap64 ((wrap64 ((wrap64 ((wrap64 (x1_1 + 1)) + 1)) + 1)) + 1)) (wrap64 (x5_1 + 1)))) = some (r1, r2) := by first | (rw [hy235]; with_reducible exact H) | (have H2_ := (Option.bind_some _ _).symm.trans H; rw [hy235]; with_reducible exact H2_) | (have H2_ := (Option.bind_some _ _).symm.trans H; with_reducible exact H2_) | with_reducible exact H | (rw [hy235]; exact H) | exact H
   have Ny235 := Aside0.mk hy235
   clear hy235
   replace H := Option.bind_eq_some_iff.mp H
   obtain ⟨t236, A100, H⟩ := H
   replace H : (laws_markExpS.l0 k1 (y235.set (x5_1 : Int).toNat (⟨(rd_T55 y235 x5_1).f0, (rd_T55 y235 x5_1).f1, (rd_T55 y235 x5_1).f2, t236⟩ : S55)) (wrap64 ((wrap64 ((wrap64 ((wrap64 (x1_1 + 1)) + 1)) + 1)) + 1)) (wrap64 (x5_1 + 1))) = some (r1, r2) := H
   have A10 := Aside0.mk A100
   clear A100
   obtain ⟨y237, hy237⟩ : ∃ y_ : List (S55), y_ = (y235.set (x5_1 : Int).toNat (⟨(rd_T55 y235 x5_1).f0, (rd_T55 y235 x5_1).f1, (rd_T55 y235 x5_1).f2, t236⟩ : S55)) := ⟨_, rfl⟩
   replace H : (laws_markExpS.l0 k1 y237 (wrap64 ((wrap64 ((wrap64 ((wrap64 (x1_1 + 1)) + 1)) + 1)) + 1)) (wrap64 (x5_1 + 1))) = some (r1, r2) := by first | (rw [hy237]; with_reducible exact H) | (have H2_ := (Option.bind_some _ _).symm.trans H; rw [hy237]; with_reducible exact H2_) | (have H2_ := (Option.bind_some _ _).symm.trans H; with_reducible exact H2_) | with_reducible exact H | (rw [hy237]; exact H) | exact H
   have Ny237 := Aside0.mk hy237
   clear hy237
   have H' := Aside0.mk H
   clear H
   obtain ⟨Ao12, co12, eo12⟩ := Kd.R_slice HO_0.out
   subst eo12
   have p5 : 0 ≤ (x5_1 : Int) := of_decide_eq_true zt4
   have q5 : (x5_1 : Int) < ((x0_1.length : Int) : Int) := of_decide_eq_true zt4
   obtain ⟨go5, co5, eo5, gb5, gl5, cl5, HG5⟩ := Kd.R_form HO_0.out (by omega)
   (first | cases eo5 | (injection eo5 with ea_ en_ ec_; (first | subst ea_ | (injection ea_ with ea_; subst ea_)); subst ec_; clear en_))
   have GB5 := Aside0.mk gb5
   have GG5 := Aside0.mk HG5
   clear gb5 gl5 HG5
   have HMgo5 := Aside0.mk (show (P0_ go5 ∨ w.heap.size ≤ go5) from (HO_0.out.1 _ rfl))
   obtain ⟨ce5, hcl5, hM5, hcc5, hfr5⟩ := Kd.R_elem HO_0.out z55 (x5_1 : Int) p5 q5
   obtain rfl := k55_openM hM5
   have hx5_0 : wr.cell? ⟨go5, (x5_1 : Int).toNat * 4, none⟩ = some (.int .i64 ((rd_T55 x0_1 x5_1).f0)) := hcc5 0 _ rfl
   have hx5_1 : wr.cell? ⟨go5, (x5_1 : Int).toNat * 4 + 1, none⟩ = some (.string ((rd_T55 x0_1 x5_1).f1)) := hcc5 1 _ rfl
   have hx5_2 : wr.cell? ⟨go5, (x5_1 : Int).toNat * 4 + 2, none⟩ = some (.string ((rd_T55 x0_1 x5_1).f2)) := hcc5 2 _ rfl
   have hx5_3 : wr.cell? ⟨go5, (x5_1 : Int).toNat * 4 + 3, none⟩ = some (.string ((rd_T55 x0_1 x5_1).f3)) := hcc5 3 _ rfl
   have hf5_0 : wr.frozen? ⟨go5, (x5_1 : Int).toNat * 4, none⟩ = false := hfr5 0
   have hf5_1 : wr.frozen? ⟨go5, (x5_1 : Int).toNat * 4 + 1, none⟩ = false := hfr5 1
   have hf5_2 : wr.frozen? ⟨go5, (x5_1 : Int).toNat * 4 + 2, none⟩ = false := hfr5 2
   have hf5_3 : wr.frozen? ⟨go5, (x5_1 : Int).toNat * 4 + 3, none⟩ = false := hfr5 3
   clear hcl5 hcc5 hfr5 hM5
   replace p5 := eq_true p5
   replace q5 := eq_true q5
   have HX13 := Aside0.mk (show Kd.R k55 55 wr w0.heap.size (fun k_ => (P0_ k_ ∨ w.heap.size ≤ k_)) (.slice (some ⟨go5, 0, none⟩) x0_1.length co12) x0_1 from (rz HO_0.out))
   obtain ⟨ce13, hcl13, hM13, hcc13, hfr13⟩ := Kd.R_elem HX13.out z55 (x5_1 : Int) (of_decide_eq_true zt4) (by have h_ : (x5_1 : Int) < ((x0_1.length : Int) : Int) := of_decide_eq_true zt4; first | exact h_ | (have e_ := (Kd.R_reads' HO_0.out).1; omega) | simpa using h_)
   obtain rfl := k55_openM hM13
   have HP13 := Kd.R_seg HX13.out (x5_1 : Int) (of_decide_eq_true zt4) (by have h_ : (x5_1 : Int) < ((x0_1.length : Int) : Int) := of_decide_eq_true zt4; first | exact h_ | (have e_ := (Kd.R_reads' HO_0.out).1; omega) | simpa using h_) (seg := [.int .i64 x1_1]) (j := 0) hcl13 hcc13 (show 1 ≤ 4 from by decide) (x' := (⟨x1_1, (rd_T55 x0_1 x5_1).f1, (rd_T55 x0_1 x5_1).f2, (rd_T55 x0_1 x5_1).f3⟩ : S55)) (k55_mkM _ _ _ (⟨x1_1, (rd_T55 x0_1 x5_1).f1, (rd_T55 x0_1 x5_1).f2, (rd_T55 x0_1 x5_1).f3⟩ : S55) ) (fun _ hk => hk)
   have hx13_0 := hcc13 0 _ rfl
   (try simp only [show (k55).sz = 4 from rfl, Nat.mul_one, Nat.add_zero] at hx13_0)
   have hf13_0 := hfr13 0
   (try simp only [show (k55).sz = 4 from rfl, Nat.mul_one, Nat.add_zero] at hf13_0)
   clear hcl13 hcc13 hfr13 hM13
   rotate_left
   rw [if_neg c4] at H
   exact absurd H (by simp)
   rw [if_neg c3] at H
   have c3b0 : decide (x5_1 < (x0_1.length : Int)) = false := decide_eq_false c3
   clear c3
   simp only [Option.some.injEq, Prod.mk.injEq] at H
   obtain ⟨rfl, rfl⟩ := H
   obtain ⟨Ao24, co24, eo24⟩ := Kd.R_slice HO_0.out
   subst eo24
   rotate_left
   all_goals
    repeat (go_wp2_with (first | ((with_reducible refine gate_callee (f := 45) rfl ?_); refine goesL_ (some 38) rfl rfl Try.func45 (by kernel_rfl) rfl #[.int .i64 (wrap64 ((wrap64 ((wrap64 (x1_1 + 1)) + 1)) + 1))] rfl zt5 ?_; (with_reducible refine (laws_markText.calls k1 (wrap64 ((wrap64 ((wrap64 (x1_1 + 1)) + 1)) + 1)) t236 _ A10.out).mono ?_); rintro e w7009 ⟨rfl, hb⟩; refine ⟨_, rfl, ?_⟩; have n0_ := Aside0.mk (Kd.R_below (rz HO_0.out) hb); have n1_ := Aside0.mk (Kept.below (S := (fun k_ => P0_ k_)) zt7 hb); have n2_ := Aside0.mk (below_step zt3 hb); clear HO_0; clear HK; clear HB; have HO_0 := n0_; have HK := n1_; have HB := n2_; clear n0_ n1_ n2_; (try clear hb); (try clear hb2); (try clear hk); (try clear hi); have p7010 : 0 ≤ (x5_1 : Int) := of_decide_eq_true zt4; have q7010 : (x5_1 : Int) < ((x0_1.length : Int) : Int) := of_decide_eq_true zt4; obtain ⟨ce7010, hcl7010, hM7010, hcc7010, hfr7010⟩ := Kd.R_elem HO_0.out z55 (x5_1 : Int) p7010 q7010; obtain rfl := k55_openM hM7010; have hx7010_0 : w7009.cell? ⟨go5, (x5_1 : Int).toNat * 4, none⟩ = some (.int .i64 ((rd_T55 y235 x5_1).f0)) := hcc7010 0 _ rfl; have hx7010_1 : w7009.cell? ⟨go5, (x5_1 : Int).toNat * 4 + 1, none⟩ = some (.string ((rd_T55 y235 x5_1).f1)) := hcc7010 1 _ rfl; have hx7010_2 : w7009.cell? ⟨go5, (x5_1 : Int).toNat * 4 + 2, none⟩ = some (.string ((rd_T55 y235 x5_1).f2)) := hcc7010 2 _ rfl; have hx7010_3 : w7009.cell? ⟨go5, (x5_1 : Int).toNat * 4 + 3, none⟩ = some (.string ((rd_T55 y235 x5_1).f3)) := hcc7010 3 _ rfl; have hf7010_0 : w7009.frozen? ⟨go5, (x5_1 : Int).toNat * 4, none⟩ = false := hfr7010 0; have hf7010_1 : w7009.frozen? ⟨go5, (x5_1 : Int).toNat * 4 + 1, none⟩ = false := hfr7010 1; have hf7010_2 : w7009.frozen? ⟨go5, (x5_1 : Int).toNat * 4 + 2, none⟩ = false := hfr7010 2; have hf7010_3 : w7009.frozen? ⟨go5, (x5_1 : Int).toNat * 4 + 3, none⟩ = false := hfr7010 3; clear hcl7010 hcc7010 hfr7010 hM7010; replace p7010 := eq_true p7010; replace q7010 := eq_true q7010; have HX7011 := Aside0.mk (show Kd.R k55 55 w7009 w0.heap.size (fun k_ => (P0_ k_ ∨ w.heap.size ≤ k_)) (.slice (some ⟨go5, 0, none⟩) x0_1.length co12) y235 from (rz HO_0.out)); obtain ⟨ce7011, hcl7011, hM7011, hcc7011, hfr7011⟩ := Kd.R_elem HX7011.out z55 (x5_1 : Int) (of_decide_eq_true zt4) (by have h_ : (x5_1 : Int) < ((x0_1.length : Int) : Int) := of_decide_eq_true zt4; first | exact h_ | (have e_ := (Kd.R_reads' HO_0.out).1; omega) | simpa using h_); obtain rfl := k55_openM hM7011; have HP7011 := Kd.R_seg HX7011.out (x5_1 : Int) (of_decide_eq_true zt4) (by have h_ : (x5_1 : Int) < ((x0_1.length : Int) : Int) := of_decide_eq_true zt4; first | exact h_ | (have e_ := (Kd.R_reads' HO_0.out).1; omega) | simpa using h_) (seg := [.string t236]) (j := 3) hcl7011 hcc7011 (show 4 ≤ 4 from by decide) (x' := (⟨(rd_T55 y235 x5_1).f0, (rd_T55 y235 x5_1).f1, (rd_T55 y235 x5_1).f2, t236⟩ : S55)) (k55_mkM _ _ _ (⟨(rd_T55 y235 x5_1).f0, (rd_T55 y235 x5_1).f1, (rd_T55 y235 x5_1).f2, t236⟩ : S55) ) (fun _ hk => hk); have hx7011_3 := hcc7011 3 _ rfl; (try simp only [show (k55).sz = 4 from rfl, Nat.mul_one, Nat.add_zero] at hx7011_3); have hf7011_3 := hfr7011 3; (try simp only [show (k55).sz = 4 from rfl, Nat.mul_one, Nat.add_zero] at hf7011_3); clear hcl7011 hcc7011 hfr7011 hM7011) | ((with_reducible refine gate_callee (f := 45) rfl ?_); refine goesL_ (some 30) rfl rfl Try.func45 (by kernel_rfl) rfl #[.int .i64 (wrap64 ((wrap64 (x1_1 + 1)) + 1))] rfl zt5 ?_; (with_reducible refine (laws_markText.calls k1 (wrap64 ((wrap64 (x1_1 + 1)) + 1)) t234 _ A8.out).mono ?_); rintro e w7005 ⟨rfl, hb⟩; refine ⟨_, rfl, ?_⟩; have n0_ := Aside0.mk (Kd.R_below (rz HO_0.out) hb); have n1_ := Aside0.mk (Kept.below (S := (fun k_ => P0_ k_)) zt7 hb); have n2_ := Aside0.mk (below_step zt3 hb); clear HO_0; clear HK; clear HB; have HO_0 := n0_; have HK := n1_; have HB := n2_; clear n0_ n1_ n2_; (try clear hb); (try clear hb2); (try clear hk); (try clear hi); have p7006 : 0 ≤ (x5_1 : Int) := of_decide_eq_true zt4; have q7006 : (x5_1 : Int) < ((x0_1.length : Int) : Int) := of_decide_eq_true zt4; obtain ⟨ce7006, hcl7006, hM7006, hcc7006, hfr7006⟩ := Kd.R_elem HO_0.out z55 (x5_1 : Int) p7006 q7006; obtain rfl := k55_openM hM7006; have hx7006_0 : w7005.cell? ⟨go5, (x5_1 : Int).toNat * 4, none⟩ = some (.int .i64 ((rd_T55 y233 x5_1).f0)) := hcc7006 0 _ rfl; have hx7006_1 : w7005.cell? ⟨go5, (x5_1 : Int).toNat * 4 + 1, none⟩ = some (.string ((rd_T55 y233 x5_1).f1)) := hcc7006 1 _ rfl; have hx7006_2 : w7005.cell? ⟨go5, (x5_1 : Int).toNat * 4 + 2, none⟩ = some (.string ((rd_T55 y233 x5_1).f2)) := hcc7006 2 _ rfl; have hx7006_3 : w7005.cell? ⟨go5, (x5_1 : Int).toNat * 4 + 3, none⟩ = some (.string ((rd_T55 y233 x5_1).f3)) := hcc7006 3 _ rfl; have hf7006_0 : w7005.frozen? ⟨go5, (x5_1 : Int).toNat * 4, none⟩ = false := hfr7006 0; have hf7006_1 : w7005.frozen? ⟨go5, (x5_1 : Int).toNat * 4 + 1, none⟩ = false := hfr7006 1; have hf7006_2 : w7005.frozen? ⟨go5, (x5_1 : Int).toNat * 4 + 2, none⟩ = false := hfr7006 2; have hf7006_3 : w7005.frozen? ⟨go5, (x5_1 : Int).toNat * 4 + 3, none⟩ = false := hfr7006 3; clear hcl7006 hcc7006 hfr7006 hM7006; replace p7006 := eq_true p7006; replace q7006 := eq_true q7006; have HX7007 := Aside0.mk (show Kd.R k55 55 w7005 w0.heap.size (fun k_ => (P0_ k_ ∨ w.heap.size ≤ k_)) (.slice (some ⟨go5, 0, none⟩) x0_1.length co12) y233 from (rz HO_0.out)); obtain ⟨ce7007, hcl7007, hM7007, hcc7007, hfr7007⟩ := Kd.R_elem HX7007.out z55 (x5_1 : Int) (of_decide_eq_true zt4) (by have h_ : (x5_1 : Int) < ((x0_1.length : Int) : Int) := of_decide_eq_true zt4; first | exact h_ | (have e_ := (Kd.R_reads' HO_0.out).1; omega) | simpa using h_); obtain rfl := k55_openM hM7007; have HP7007 := Kd.R_seg HX7007.out (x5_1 : Int) (of_decide_eq_true zt4) (by have h_ : (x5_1 : Int) < ((x0_1.length : Int) : Int) := of_decide_eq_true zt4; first | exact h_ | (have e_ := (Kd.R_reads' HO_0.out).1; omega) | simpa using h_) (seg := [.string t234]) (j := 2) hcl7007 hcc7007 (show 3 ≤ 4 from by decide) (x' := (⟨(rd_T55 y233 x5_1).f0, (rd_T55 y233 x5_1).f1, t234, (rd_T55 y233 x5_1).f3⟩ : S55)) (k55_mkM _ _ _ (⟨(rd_T55 y233 x5_1).f0, (rd_T55 y233 x5_1).f1, t234, (rd_T55 y233 x5_1).f3⟩ : S55) ) (fun _ hk => hk); have hx7007_2 := hcc7007 2 _ rfl; (try simp only [show (k55).sz = 4 from rfl, Nat.mul_one, Nat.add_zero] at hx7007_2); have hf7007_2 := hfr7007 2; (try simp only [show (k55).sz = 4 from rfl, Nat.mul_one, Nat.add_zero] at hf7007_2); clear hcl7007 hcc7007 hfr7007 hM7007) | ((with_reducible refine gate_callee (f := 45) rfl ?_); refine goesL_ (some 22) rfl rfl Try.func45 (by kernel_rfl) rfl #[.int .i64 (wrap64 (x1_1 + 1))] rfl zt5 ?_; (with_reducible refine (laws_markText.calls k1 (wrap64 (x1_1 + 1)) t232 _ A6.out).mono ?_); rintro e w7001 ⟨rfl, hb⟩; refine ⟨_, rfl, ?_⟩; have n0_ := Aside0.mk (Kd.R_below (rz HO_0.out) hb); have n1_ := Aside0.mk (Kept.below (S := (fun k_ => P0_ k_)) zt7 hb); have n2_ := Aside0.mk (below_step zt3 hb); clear HO_0; clear HK; clear HB; have HO_0 := n0_; have HK := n1_; have HB := n2_; clear n0_ n1_ n2_; (try clear hb); (try clear hb2); (try clear hk); (try clear hi); have p7002 : 0 ≤ (x5_1 : Int) := of_decide_eq_true zt4; have q7002 : (x5_1 : Int) < ((x0_1.length : Int) : Int) := of_decide_eq_true zt4; obtain ⟨ce7002, hcl7002, hM7002, hcc7002, hfr7002⟩ := Kd.R_elem HO_0.out z55 (x5_1 : Int) p7002 q7002; obtain rfl := k55_openM hM7002; have hx7002_0 : w7001.cell? ⟨go5, (x5_1 : Int).toNat * 4, none⟩ = some (.int .i64 ((rd_T55 y231 x5_1).f0)) := hcc7002 0 _ rfl; have hx7002_1 : w7001.cell? ⟨go5, (x5_1 : Int).toNat * 4 + 1, none⟩ = some (.string ((rd_T55 y231 x5_1).f1)) := hcc7002 1 _ rfl; have hx7002_2 : w7001.cell? ⟨go5, (x5_1 : Int).toNat * 4 + 2, none⟩ = some (.string ((rd_T55 y231 x5_1).f2)) := hcc7002 2 _ rfl; have hx7002_3 : w7001.cell? ⟨go5, (x5_1 : Int).toNat * 4 + 3, none⟩ = some (.string ((rd_T55 y231 x5_1).f3)) := hcc7002 3 _ rfl; have hf7002_0 : w7001.frozen? ⟨go5, (x5_1 : Int).toNat * 4, none⟩ = false := hfr7002 0; have hf7002_1 : w7001.frozen? ⟨go5, (x5_1 : Int).toNat * 4 + 1, none⟩ = false := hfr7002 1; have hf7002_2 : w7001.frozen? ⟨go5, (x5_1 : Int).toNat * 4 + 2, none⟩ = false := hfr7002 2; have hf7002_3 : w7001.frozen? ⟨go5, (x5_1 : Int).toNat * 4 + 3, none⟩ = false := hfr7002 3; clear hcl7002 hcc7002 hfr7002 hM7002; replace p7002 := eq_true p7002; replace q7002 := eq_true q7002; have HX7003 := Aside0.mk (show Kd.R k55 55 w7001 w0.heap.size (fun k_ => (P0_ k_ ∨ w.heap.size ≤ k_)) (.slice (some ⟨go5, 0, none⟩) x0_1.length co12) y231 from (rz HO_0.out)); obtain ⟨ce7003, hcl7003, hM7003, hcc7003, hfr7003⟩ := Kd.R_elem HX7003.out z55 (x5_1 : Int) (of_decide_eq_true zt4) (by have h_ : (x5_1 : Int) < ((x0_1.length : Int) : Int) := of_decide_eq_true zt4; first | exact h_ | (have e_ := (Kd.R_reads' HO_0.out).1; omega) | simpa using h_); obtain rfl := k55_openM hM7003; have HP7003 := Kd.R_seg HX7003.out (x5_1 : Int) (of_decide_eq_true zt4) (by have h_ : (x5_1 : Int) < ((x0_1.length : Int) : Int) := of_decide_eq_true zt4; first | exact h_ | (have e_ := (Kd.R_reads' HO_0.out).1; omega) | simpa using h_) (seg := [.string t232]) (j := 1) hcl7003 hcc7003 (show 2 ≤ 4 from by decide) (x' := (⟨(rd_T55 y231 x5_1).f0, t232, (rd_T55 y231 x5_1).f2, (rd_T55 y231 x5_1).f3⟩ : S55)) (k55_mkM _ _ _ (⟨(rd_T55 y231 x5_1).f0, t232, (rd_T55 y231 x5_1).f2, (rd_T55 y231 x5_1).f3⟩ : S55) ) (fun _ hk => hk); have hx7003_1 := hcc7003 1 _ rfl; (try simp only [show (k55).sz = 4 from rfl, Nat.mul_one, Nat.add_zero] at hx7003_1); have hf7003_1 := hfr7003 1; (try simp only [show (k55).sz = 4 from rfl, Nat.mul_one, Nat.add_zero] at hf7003_1); clear hcl7003 hcc7003 hfr7003 hM7003) | ((with_reducible refine gate_store (t := 9) (p := 24) rfl ?_); refine store_event (t := 9) (p := 24) (v := ?vo_w7004) (w1 := (w7001.setCell ⟨go5, (x5_1 : Int).toNat * 4 + 1, none⟩ (.string t232))) ?hg ?ho ?hn ?hr ?_; (case ho => rfl); (case hg => rfl); (case hn => rfl); (case hr => first | (go_simp; done) | (go_simp; rfl)); intro w7004 hw; have hg : w7001.grownBy w7004 (some go5) := (by rw [hw]; exact HP7003.2); have hp_ : Kd.R k55 55 w7004 w0.heap.size (fun k_ => (P0_ k_ ∨ w.heap.size ≤ k_)) (.slice (some ⟨go5, 0, none⟩) x0_1.length co12) y233 := (by rw [hw, Ny233.out]; exact HP7003.1); clear HP7003; have n0_ := Aside0.mk (hp_); have n1_ := Aside0.mk ((zt41 : Below w0.heap.size w0 w7004)); have n2_ := Aside0.mk (Kept.of_grown (S := (fun k_ => P0_ k_)) hg zt7 (fun k_ e_ => (HO_0.out.1 k_ e_))); clear HO_0; clear HB; clear HK; have HO_0 := n0_; have HB := n1_; have HK := n2_; clear n0_ n1_ n2_; clear hg hw hp_) | ((with_reducible refine gate_store (t := 9) (p := 32) rfl ?_); refine store_event (t := 9) (p := 32) (v := ?vo_w7008) (w1 := (w7005.setCell ⟨go5, (x5_1 : Int).toNat * 4 + 2, none⟩ (.string t234))) ?hg ?ho ?hn ?hr ?_; (case ho => rfl); (case hg => rfl); (case hn => rfl); (case hr => first | (go_simp; done) | (go_simp; rfl)); intro w7008 hw; have hg : w7005.grownBy w7008 (some go5) := (by rw [hw]; exact HP7007.2); have hp_ : Kd.R k55 55 w7008 w0.heap.size (fun k_ => (P0_ k_ ∨ w.heap.size ≤ k_)) (.slice (some ⟨go5, 0, none⟩) x0_1.length co12) y235 := (by rw [hw, Ny235.out]; exact HP7007.1); clear HP7007; have n0_ := Aside0.mk (hp_); have n1_ := Aside0.mk ((zt41 : Below w0.heap.size w0 w7008)); have n2_ := Aside0.mk (Kept.of_grown (S := (fun k_ => P0_ k_)) hg zt7 (fun k_ e_ => (HO_0.out.1 k_ e_))); clear HO_0; clear HB; clear HK; have HO_0 := n0_; have HB := n1_; have HK := n2_; clear n0_ n1_ n2_; clear hg hw hp_) | ((with_reducible refine gate_store (t := 9) (p := 40) rfl ?_); refine store_event (t := 9) (p := 40) (v := ?vo_w7012) (w1 := (w7009.setCell ⟨go5, (x5_1 : Int).toNat * 4 + 3, none⟩ (.string t236))) ?hg ?ho ?hn ?hr ?_; (case ho => rfl); (case hg => rfl); (case hn => rfl); (case hr => first | (go_simp; done) | (go_simp; rfl)); intro w7012 hw; have hg : w7009.grownBy w7012 (some go5) := (by rw [hw]; exact HP7011.2); have hp_ : Kd.R k55 55 w7012 w0.heap.size (fun k_ => (P0_ k_ ∨ w.heap.size ≤ k_)) (.slice (some ⟨go5, 0, none⟩) x0_1.length co12) y237 := (by rw [hw, Ny237.out]; exact HP7011.1); clear HP7011; have n0_ := Aside0.mk (hp_); have n1_ := Aside0.mk ((zt41 : Below w0.heap.size w0 w7012)); have n2_ := Aside0.mk (Kept.of_grown (S := (fun k_ => P0_ k_)) hg zt7 (fun k_ e_ => (HO_0.out.1 k_ e_))); clear HO_0; clear HB; clear HK; have HO_0 := n0_; have HB := n1_; have HK := n2_; clear n0_ n1_ n2_; clear hg hw hp_) | ((with_reducible refine gate_store (t := 3) (p := 16) rfl ?_); refine store_event (t := 3) (p := 16) (v := ?vo_w7000) (w1 := (wr.setCell ⟨go5, (x5_1 : Int).toNat * 4, none⟩ (.int .i64 x1_1))) ?hg ?ho ?hn ?hr ?_; (case ho => rfl); (case hg => rfl); (case hn => rfl); (case hr => first | (go_simp; done) | (go_simp; rfl)); intro w7000 hw; have hg : wr.grownBy w7000 (some go5) := (by rw [hw]; exact HP13.2); have hp_ : Kd.R k55 55 w7000 w0.heap.size (fun k_ => (P0_ k_ ∨ w.heap.size ≤ k_)) (.slice (some ⟨go5, 0, none⟩) x0_1.length co12) y231 := (by rw [hw, Ny231.out]; exact HP13.1); clear HP13; have n0_ := Aside0.mk (hp_); have n1_ := Aside0.mk ((zt41 : Below w0.heap.size w0 w7000)); have n2_ := Aside0.mk (Kept.of_grown (S := (fun k_ => P0_ k_)) hg zt7 (fun k_ e_ => (HO_0.out.1 k_ e_))); clear HO_0; clear HB; clear HK; have HO_0 := n0_; have HB := n1_; have HK := n2_; clear n0_ n1_ n2_; clear hg hw hp_)); first | go_quiet (fail) | (go_roundg k1; (case measure => have := HK1.out; omega); (case rel => exact ⟨(y237), (wrap64 ((wrap64 ((wrap64 ((wrap64 (x1_1 + 1)) + 1)) + 1)) + 1)), (wrap64 (x5_1 + 1)), zt9, zt9, H', ⟨by have := HK1.out; omega⟩, ⟨zt14⟩, ⟨zt7⟩, ⟨zt3⟩⟩)) | (go_ret; exact ⟨zt8, zt42, zt3, zt7⟩))

/-! ### laws_markStmtS: function 43 -/
def laws_markStmtS.l0 : Nat → List (S53) → Int → Int → Option (Int × (List (S53)))
 | 0, _, _, _ => none
 | k + 1, x0, x1, x5 => if x5 < (x0.length : Int) then (if 0 ≤ x5 then ((some (x0.set (x5 : Int).toNat (⟨x1, (rd_T53 x0 x5).f1, (rd_T53 x0 x5).f2⟩ : S53) : List (S53))).bind fun y238 => ((laws_markText.f k (wrap64 (x1 + 1))).bind fun t239 => ((some (y238.set (x5 : Int).toNat (⟨(rd_T53 y238 x5).f0, t239, (rd_T53 y238 x5).f2⟩ : S53) : List (S53))).bind fun y240 => (laws_markStmtS.l0 k (y240.set (x5 : Int).toNat (⟨(rd_T53 y240 x5).f0, (rd_T53 y240 x5).f1, wrap64 ((wrap64 (x1 + 1)) + 1)⟩ : S53)) (wrap64 ((wrap64 ((wrap64 (x1 + 1)) + 1)) + 1)) (wrap64 (x5 + 1)))))) else (none)) else (some (x1, x0))
def laws_markStmtS.f (k : Nat) (l0 : List (S53)) (a1 : Int) : Option (Int × (List (S53))) := laws_markStmtS.l0 k l0 a1 0
theorem laws_markStmtS.mono_l : ∀ k, (∀ y0 y1 y2, LeO (laws_markStmtS.l0 k y0 y1 y2) (laws_markStmtS.l0 (k + 1) y0 y1 y2))
 | 0 => fun _ _ _ r h => by simp [laws_markStmtS.l0] at h
 | k + 1 => by
  have ih0 := laws_markStmtS.mono_l k
  ·intro y0 y1 y2
   unfold laws_markStmtS.l0
   repeat' first
   | (with_reducible exact ih0 _ _ _)
   | (with_reducible exact laws_markText.mono _ _)
   | (with_reducible exact LeO.refl _)
   | (with_reducible exact LeO.none _)
   | (with_reducible refine LeO.ite ?_ ?_)
   | (with_reducible refine LeO.bind ?_ (fun _ => ?_))
   | exact ih0 _ _ _
   | exact laws_markText.mono _ _
   | exact LeO.none _
   | refine LeO.ite ?_ ?_
   | refine LeO.bind ?_ (fun _ => ?_)
theorem laws_markStmtS.mono : ∀ a0 a1 k, LeO (laws_markStmtS.f k a0 a1) (laws_markStmtS.f (k + 1) a0 a1) := by
 intro a0 a1 k
 have ih0 := laws_markStmtS.mono_l k
 unfold laws_markStmtS.f
 repeat' first
   | (with_reducible exact ih0 _ _ _)
   | (with_reducible exact laws_markText.mono _ _)
   | (with_reducible exact LeO.refl _)
   | (with_reducible exact LeO.none _)
   | (with_reducible refine LeO.ite ?_ ?_)
   | (with_reducible refine LeO.bind ?_ (fun _ => ?_))
   | exact ih0 _ _ _
   | exact laws_markText.mono _ _
   | exact LeO.none _
   | refine LeO.ite ?_ ?_
   | refine LeO.bind ?_ (fun _ => ?_)
set_option maxHeartbeats 8000000 in
set_option maxRecDepth 100000 in
theorem laws_markStmtS.calls (k : Nat) (P0_ : Nat → Prop) (u9000_ : Value) (l0 : List (S53)) (a1 : Int) (r1 : Int) (r2 : List (S53)) (w0 w : World) (hB : Below w0.heap.size w0 w) (ho0 : Kd.R k53 53 w w0.heap.size P0_ u9000_ l0) (h : laws_markStmtS.f k l0 a1 = some (r1, r2)) :
  Calls Try.prog 43 #[u9000_, .int .i64 a1] w fun e w' => e = .returned (.int .i64 r1) ∧ Kd.R k53 53 w' w0.heap.size (fun k_ => (P0_ k_ ∨ w.heap.size ≤ k_)) u9000_ r2 ∧ Below w0.heap.size w0 w' ∧ Kept w w' (fun k_ => P0_ k_) := by
 have HO0 := Aside0.mk (show Kd.R k53 53 w w0.heap.size (fun k_ => (P0_ k_ ∨ w.heap.size ≤ k_)) u9000_ l0 from Kd.R_mono ho0 (fun k_ hk => (.inl hk)))
 have HK := Aside0.mk (Kept.refl w (fun k_ => P0_ k_))
 have HW0 := Aside0.mk hB.size
 have HB := Aside0.mk hB
 clear hB
 have H : (laws_markStmtS.l0 k l0 a1 0) = some (r1, r2) := h
 clear h
 have H' := Aside0.mk H
 clear H
 go_enter Try.func43, Try.ntmps43
 go_wp2
 go_loopg [1, 5] k (fun kq v1 v5 w' => ∃ (x0_1 : List (S53)) (x1_1 : Int) (x5_1 : Int), v1 = .int .i64 x1_1 ∧ v5 = .int .i64 x5_1 ∧ Aside0 (laws_markStmtS.l0 kq x0_1 x1_1 x5_1 = some (r1, r2)) ∧ Aside0 (kq ≤ k) ∧ Aside0 (Kd.R k53 53 w' w0.heap.size (fun k_ => (P0_ k_ ∨ w.heap.size ≤ k_)) u9000_ x0_1) ∧ Aside0 (Kept w w' (fun k_ => P0_ k_)) ∧ Aside0 (Below w0.heap.size w0 w'))
 case atStart => exact ⟨(l0), (a1), (0), zt9, zt9, H', ⟨Nat.le_refl _⟩, ⟨zt39⟩, ⟨zt7⟩, ⟨zt3⟩⟩
 case round =>
  clear H'
  try clear p2
  obtain ⟨x0_1, x1_1, x5_1, rfl, rfl, HA, HK1, HO_0, HK, HB⟩ := hrel
  cases gk with
  | zero => exact absurd HA.out (by simp [laws_markStmtS.l0])
  | succ k1 =>
   have H := HA.out
   clear HA
   simp only [laws_markStmtS.l0] at H
   by_cases c3 : x5_1 < (x0_1.length : Int)
   rw [if_pos c3] at H
   have c3b0 : decide (x5_1 < (x0_1.length : Int)) = true := decide_eq_true c3
   clear c3
   by_cases c4 : 0 ≤ x5_1
   rw [if_pos c4] at H
   have c4b0 : decide (0 ≤ x5_1) = true := decide_eq_true c4
   clear c4
   obtain ⟨y238, hy238⟩ : ∃ y_ : List (S53), y_ = (x0_1.set (x5_1 : Int).toNat (⟨x1_1, (rd_T53 x0_1 x5_1).f1, (rd_T53 x0_1 x5_1).f2⟩ : S53)) := ⟨_, rfl⟩
   replace H : ((laws_markText.f k1 (wrap64 (x1_1 + 1))).bind fun t239 => ((some (y238.set (x5_1 : Int).toNat (⟨(rd_T53 y238 x5_1).f0, t239, (rd_T53 y238 x5_1).f2⟩ : S53) : List (S53))).bind fun y240 => (laws_markStmtS.l0 k1 (y240.set (x5_1 : Int).toNat (⟨(rd_T53 y240 x5_1).f0, (rd_T53 y240 x5_1).f1, wrap64 ((wrap64 (x1_1 + 1)) + 1)⟩ : S53)) (wrap64 ((wrap64 ((wrap64 (x1_1 + 1)) + 1)) + 1)) (wrap64 (x5_1 + 1))))) = some (r1, r2) := by first | (rw [hy238]; with_reducible exact H) | (have H2_ := (Option.bind_some _ _).symm.trans H; rw [hy238]; with_reducible exact H2_) | (have H2_ := (Option.bind_some _ _).symm.trans H; with_reducible exact H2_) | with_reducible exact H | (rw [hy238]; exact H) | exact H
   have Ny238 := Aside0.mk hy238
   clear hy238
   replace H := Option.bind_eq_some_iff.mp H
   obtain ⟨t239, A60, H⟩ := H
   replace H : ((some (y238.set (x5_1 : Int).toNat (⟨(rd_T53 y238 x5_1).f0, t239, (rd_T53 y238 x5_1).f2⟩ : S53) : List (S53))).bind fun y240 => (laws_markStmtS.l0 k1 (y240.set (x5_1 : Int).toNat (⟨(rd_T53 y240 x5_1).f0, (rd_T53 y240 x5_1).f1, wrap64 ((wrap64 (x1_1 + 1)) + 1)⟩ : S53)) (wrap64 ((wrap64 ((wrap64 (x1_1 + 1)) + 1)) + 1)) (wrap64 (x5_1 + 1)))) = some (r1, r2) := H
   have A6 := Aside0.mk A60
   clear A60
   obtain ⟨y240, hy240⟩ : ∃ y_ : List (S53), y_ = (y238.set (x5_1 : Int).toNat (⟨(rd_T53 y238 x5_1).f0, t239, (rd_T53 y238 x5_1).f2⟩ : S53)) := ⟨_, rfl⟩
   replace H : (laws_markStmtS.l0 k1 (y240.set (x5_1 : Int).toNat (⟨(rd_T53 y240 x5_1).f0, (rd_T53 y240 x5_1).f1, wrap64 ((wrap64 (x1_1 + 1)) + 1)⟩ : S53)) (wrap64 ((wrap64 ((wrap64 (x1_1 + 1)) + 1)) + 1)) (wrap64 (x5_1 + 1))) = some (r1, r2) := by first | (rw [hy240]; with_reducible exact H) | (have H2_ := (Option.bind_some _ _).symm.trans H; rw [hy240]; with_reducible exact H2_) | (have H2_ := (Option.bind_some _ _).symm.trans H; with_reducible exact H2_) | with_reducible exact H | (rw [hy240]; exact H) | exact H
   have Ny240 := Aside0.mk hy240
   clear hy240
   obtain ⟨y241, hy241⟩ : ∃ y_ : List (S53), y_ = (y240.set (x5_1 : Int).toNat (⟨(rd_T53 y240 x5_1).f0, (rd_T53 y240 x5_1).f1, wrap64 ((wrap64 (x1_1 + 1)) + 1)⟩ : S53)) := ⟨_, rfl⟩
   replace H : (laws_markStmtS.l0 k1 y241 (wrap64 ((wrap64 ((wrap64 (x1_1 + 1)) + 1)) + 1)) (wrap64 (x5_1 + 1))) = some (r1, r2) := by first | (rw [hy241]; with_reducible exact H) | (have H2_ := (Option.bind_some _ _).symm.trans H; rw [hy241]; with_reducible exact H2_) | (have H2_ := (Option.bind_some _ _).symm.trans H; with_reducible exact H2_) | with_reducible exact H | (rw [hy241]; exact H) | exact H
   have Ny241 := Aside0.mk hy241
   clear hy241
   have H' := Aside0.mk H
   clear H
   obtain ⟨Ao9, co9, eo9⟩ := Kd.R_slice HO_0.out
   subst eo9
   have p5 : 0 ≤ (x5_1 : Int) := of_decide_eq_true zt4
   have q5 : (x5_1 : Int) < ((x0_1.length : Int) : Int) := of_decide_eq_true zt4
   obtain ⟨go5, co5, eo5, gb5, gl5, cl5, HG5⟩ := Kd.R_form HO_0.out (by omega)
   (first | cases eo5 | (injection eo5 with ea_ en_ ec_; (first | subst ea_ | (injection ea_ with ea_; subst ea_)); subst ec_; clear en_))
   have GB5 := Aside0.mk gb5
   have GG5 := Aside0.mk HG5
   clear gb5 gl5 HG5
   have HMgo5 := Aside0.mk (show (P0_ go5 ∨ w.heap.size ≤ go5) from (HO_0.out.1 _ rfl))
   obtain ⟨ce5, hcl5, hM5, hcc5, hfr5⟩ := Kd.R_elem HO_0.out z53 (x5_1 : Int) p5 q5
   obtain rfl := k53_openM hM5
   have hx5_0 : wr.cell? ⟨go5, (x5_1 : Int).toNat * 3, none⟩ = some (.int .i64 ((rd_T53 x0_1 x5_1).f0)) := hcc5 0 _ rfl
   have hx5_1 : wr.cell? ⟨go5, (x5_1 : Int).toNat * 3 + 1, none⟩ = some (.string ((rd_T53 x0_1 x5_1).f1)) := hcc5 1 _ rfl
   have hx5_2 : wr.cell? ⟨go5, (x5_1 : Int).toNat * 3 + 2, none⟩ = some (.int .i64 ((rd_T53 x0_1 x5_1).f2)) := hcc5 2 _ rfl
   have hf5_0 : wr.frozen? ⟨go5, (x5_1 : Int).toNat * 3, none⟩ = false := hfr5 0
   have hf5_1 : wr.frozen? ⟨go5, (x5_1 : Int).toNat * 3 + 1, none⟩ = false := hfr5 1
   have hf5_2 : wr.frozen? ⟨go5, (x5_1 : Int).toNat * 3 + 2, none⟩ = false := hfr5 2
   clear hcl5 hcc5 hfr5 hM5
   replace p5 := eq_true p5
   replace q5 := eq_true q5
   have HX10 := Aside0.mk (show Kd.R k53 53 wr w0.heap.size (fun k_ => (P0_ k_ ∨ w.heap.size ≤ k_)) (.slice (some ⟨go5, 0, none⟩) x0_1.length co9) x0_1 from (rz HO_0.out))
   obtain ⟨ce10, hcl10, hM10, hcc10, hfr10⟩ := Kd.R_elem HX10.out z53 (x5_1 : Int) (of_decide_eq_true zt4) (by have h_ : (x5_1 : Int) < ((x0_1.length : Int) : Int) := of_decide_eq_true zt4; first | exact h_ | (have e_ := (Kd.R_reads' HO_0.out).1; omega) | simpa using h_)
   obtain rfl := k53_openM hM10
   have HP10 := Kd.R_seg HX10.out (x5_1 : Int) (of_decide_eq_true zt4) (by have h_ : (x5_1 : Int) < ((x0_1.length : Int) : Int) := of_decide_eq_true zt4; first | exact h_ | (have e_ := (Kd.R_reads' HO_0.out).1; omega) | simpa using h_) (seg := [.int .i64 x1_1]) (j := 0) hcl10 hcc10 (show 1 ≤ 3 from by decide) (x' := (⟨x1_1, (rd_T53 x0_1 x5_1).f1, (rd_T53 x0_1 x5_1).f2⟩ : S53)) (k53_mkM _ _ _ (⟨x1_1, (rd_T53 x0_1 x5_1).f1, (rd_T53 x0_1 x5_1).f2⟩ : S53) ) (fun _ hk => hk)
   have hx10_0 := hcc10 0 _ rfl
   (try simp only [show (k53).sz = 3 from rfl, Nat.mul_one, Nat.add_zero] at hx10_0)
   have hf10_0 := hfr10 0
   (try simp only [show (k53).sz = 3 from rfl, Nat.mul_one, Nat.add_zero] at hf10_0)
   clear hcl10 hcc10 hfr10 hM10
   rotate_left
   rw [if_neg c4] at H
   exact absurd H (by simp)
   rw [if_neg c3] at H
   have c3b0 : decide (x5_1 < (x0_1.length : Int)) = false := decide_eq_false c3
   clear c3
   simp only [Option.some.injEq, Prod.mk.injEq] at H
   obtain ⟨rfl, rfl⟩ := H
   obtain ⟨Ao17, co17, eo17⟩ := Kd.R_slice HO_0.out
   subst eo17
   rotate_left
   all_goals
    repeat (go_wp2_with (first | ((with_reducible refine gate_store (t := 9) (p := 24) rfl ?_); refine store_event (t := 9) (p := 24) (v := ?vo_w7004) (w1 := (w7001.setCell ⟨go5, (x5_1 : Int).toNat * 3 + 1, none⟩ (.string t239))) ?hg ?ho ?hn ?hr ?_; (case ho => rfl); (case hg => rfl); (case hn => rfl); (case hr => first | (go_simp; done) | (go_simp; rfl)); intro w7004 hw; have hg : w7001.grownBy w7004 (some go5) := (by rw [hw]; exact HP7003.2); have hp_ : Kd.R k53 53 w7004 w0.heap.size (fun k_ => (P0_ k_ ∨ w.heap.size ≤ k_)) (.slice (some ⟨go5, 0, none⟩) x0_1.length co9) y240 := (by rw [hw, Ny240.out]; exact HP7003.1); clear HP7003; have n0_ := Aside0.mk (hp_); have n1_ := Aside0.mk ((zt41 : Below w0.heap.size w0 w7004)); have n2_ := Aside0.mk (Kept.of_grown (S := (fun k_ => P0_ k_)) hg zt7 (fun k_ e_ => (HO_0.out.1 k_ e_))); clear HO_0; clear HB; clear HK; have HO_0 := n0_; have HB := n1_; have HK := n2_; clear n0_ n1_ n2_; clear hg hw hp_; have p7005 : 0 ≤ (x5_1 : Int) := of_decide_eq_true zt4; have q7005 : (x5_1 : Int) < ((x0_1.length : Int) : Int) := of_decide_eq_true zt4; obtain ⟨ce7005, hcl7005, hM7005, hcc7005, hfr7005⟩ := Kd.R_elem HO_0.out z53 (x5_1 : Int) p7005 q7005; obtain rfl := k53_openM hM7005; have hx7005_0 : w7004.cell? ⟨go5, (x5_1 : Int).toNat * 3, none⟩ = some (.int .i64 ((rd_T53 y240 x5_1).f0)) := hcc7005 0 _ rfl; have hx7005_1 : w7004.cell? ⟨go5, (x5_1 : Int).toNat * 3 + 1, none⟩ = some (.string ((rd_T53 y240 x5_1).f1)) := hcc7005 1 _ rfl; have hx7005_2 : w7004.cell? ⟨go5, (x5_1 : Int).toNat * 3 + 2, none⟩ = some (.int .i64 ((rd_T53 y240 x5_1).f2)) := hcc7005 2 _ rfl; have hf7005_0 : w7004.frozen? ⟨go5, (x5_1 : Int).toNat * 3, none⟩ = false := hfr7005 0; have hf7005_1 : w7004.frozen? ⟨go5, (x5_1 : Int).toNat * 3 + 1, none⟩ = false := hfr7005 1; have hf7005_2 : w7004.frozen? ⟨go5, (x5_1 : Int).toNat * 3 + 2, none⟩ = false := hfr7005 2; clear hcl7005 hcc7005 hfr7005 hM7005; replace p7005 := eq_true p7005; replace q7005 := eq_true q7005; have HX7006 := Aside0.mk (show Kd.R k53 53 w7004 w0.heap.size (fun k_ => (P0_ k_ ∨ w.heap.size ≤ k_)) (.slice (some ⟨go5, 0, none⟩) x0_1.length co9) y240 from (rz HO_0.out)); obtain ⟨ce7006, hcl7006, hM7006, hcc7006, hfr7006⟩ := Kd.R_elem HX7006.out z53 (x5_1 : Int) (of_decide_eq_true zt4) (by have h_ : (x5_1 : Int) < ((x0_1.length : Int) : Int) := of_decide_eq_true zt4; first | exact h_ | (have e_ := (Kd.R_reads' HO_0.out).1; omega) | simpa using h_); obtain rfl := k53_openM hM7006; have HP7006 := Kd.R_seg HX7006.out (x5_1 : Int) (of_decide_eq_true zt4) (by have h_ : (x5_1 : Int) < ((x0_1.length : Int) : Int) := of_decide_eq_true zt4; first | exact h_ | (have e_ := (Kd.R_reads' HO_0.out).1; omega) | simpa using h_) (seg := [.int .i64 (wrap64 ((wrap64 (x1_1 + 1)) + 1))]) (j := 2) hcl7006 hcc7006 (show 3 ≤ 3 from by decide) (x' := (⟨(rd_T53 y240 x5_1).f0, (rd_T53 y240 x5_1).f1, wrap64 ((wrap64 (x1_1 + 1)) + 1)⟩ : S53)) (k53_mkM _ _ _ (⟨(rd_T53 y240 x5_1).f0, (rd_T53 y240 x5_1).f1, wrap64 ((wrap64 (x1_1 + 1)) + 1)⟩ : S53) ) (fun _ hk => hk); have hx7006_2 := hcc7006 2 _ rfl; (try simp only [show (k53).sz = 3 from rfl, Nat.mul_one, Nat.add_zero] at hx7006_2); have hf7006_2 := hfr7006 2; (try simp only [show (k53).sz = 3 from rfl, Nat.mul_one, Nat.add_zero] at hf7006_2); clear hcl7006 hcc7006 hfr7006 hM7006) | ((with_reducible refine gate_callee (f := 45) rfl ?_); refine goesL_ (some 22) rfl rfl Try.func45 (by kernel_rfl) rfl #[.int .i64 (wrap64 (x1_1 + 1))] rfl zt5 ?_; (with_reducible refine (laws_markText.calls k1 (wrap64 (x1_1 + 1)) t239 _ A6.out).mono ?_); rintro e w7001 ⟨rfl, hb⟩; refine ⟨_, rfl, ?_⟩; have n0_ := Aside0.mk (Kd.R_below (rz HO_0.out) hb); have n1_ := Aside0.mk (Kept.below (S := (fun k_ => P0_ k_)) zt7 hb); have n2_ := Aside0.mk (below_step zt3 hb); clear HO_0; clear HK; clear HB; have HO_0 := n0_; have HK := n1_; have HB := n2_; clear n0_ n1_ n2_; (try clear hb); (try clear hb2); (try clear hk); (try clear hi); have p7002 : 0 ≤ (x5_1 : Int) := of_decide_eq_true zt4; have q7002 : (x5_1 : Int) < ((x0_1.length : Int) : Int) := of_decide_eq_true zt4; obtain ⟨ce7002, hcl7002, hM7002, hcc7002, hfr7002⟩ := Kd.R_elem HO_0.out z53 (x5_1 : Int) p7002 q7002; obtain rfl := k53_openM hM7002; have hx7002_0 : w7001.cell? ⟨go5, (x5_1 : Int).toNat * 3, none⟩ = some (.int .i64 ((rd_T53 y238 x5_1).f0)) := hcc7002 0 _ rfl; have hx7002_1 : w7001.cell? ⟨go5, (x5_1 : Int).toNat * 3 + 1, none⟩ = some (.string ((rd_T53 y238 x5_1).f1)) := hcc7002 1 _ rfl; have hx7002_2 : w7001.cell? ⟨go5, (x5_1 : Int).toNat * 3 + 2, none⟩ = some (.int .i64 ((rd_T53 y238 x5_1).f2)) := hcc7002 2 _ rfl; have hf7002_0 : w7001.frozen? ⟨go5, (x5_1 : Int).toNat * 3, none⟩ = false := hfr7002 0; have hf7002_1 : w7001.frozen? ⟨go5, (x5_1 : Int).toNat * 3 + 1, none⟩ = false := hfr7002 1; have hf7002_2 : w7001.frozen? ⟨go5, (x5_1 : Int).toNat * 3 + 2, none⟩ = false := hfr7002 2; clear hcl7002 hcc7002 hfr7002 hM7002; replace p7002 := eq_true p7002; replace q7002 := eq_true q7002; have HX7003 := Aside0.mk (show Kd.R k53 53 w7001 w0.heap.size (fun k_ => (P0_ k_ ∨ w.heap.size ≤ k_)) (.slice (some ⟨go5, 0, none⟩) x0_1.length co9) y238 from (rz HO_0.out)); obtain ⟨ce7003, hcl7003, hM7003, hcc7003, hfr7003⟩ := Kd.R_elem HX7003.out z53 (x5_1 : Int) (of_decide_eq_true zt4) (by have h_ : (x5_1 : Int) < ((x0_1.length : Int) : Int) := of_decide_eq_true zt4; first | exact h_ | (have e_ := (Kd.R_reads' HO_0.out).1; omega) | simpa using h_); obtain rfl := k53_openM hM7003; have HP7003 := Kd.R_seg HX7003.out (x5_1 : Int) (of_decide_eq_true zt4) (by have h_ : (x5_1 : Int) < ((x0_1.length : Int) : Int) := of_decide_eq_true zt4; first | exact h_ | (have e_ := (Kd.R_reads' HO_0.out).1; omega) | simpa using h_) (seg := [.string t239]) (j := 1) hcl7003 hcc7003 (show 2 ≤ 3 from by decide) (x' := (⟨(rd_T53 y238 x5_1).f0, t239, (rd_T53 y238 x5_1).f2⟩ : S53)) (k53_mkM _ _ _ (⟨(rd_T53 y238 x5_1).f0, t239, (rd_T53 y238 x5_1).f2⟩ : S53) ) (fun _ hk => hk); have hx7003_1 := hcc7003 1 _ rfl; (try simp only [show (k53).sz = 3 from rfl, Nat.mul_one, Nat.add_zero] at hx7003_1); have hf7003_1 := hfr7003 1; (try simp only [show (k53).sz = 3 from rfl, Nat.mul_one, Nat.add_zero] at hf7003_1); clear hcl7003 hcc7003 hfr7003 hM7003) | ((with_reducible refine gate_store (t := 3) (p := 31) rfl ?_); refine store_event (t := 3) (p := 31) (v := ?vo_w7007) (w1 := (w7004.setCell ⟨go5, (x5_1 : Int).toNat * 3 + 2, none⟩ (.int .i64 (wrap64 ((wrap64 (x1_1 + 1)) + 1))))) ?hg ?ho ?hn ?hr ?_; (case ho => rfl); (case hg => rfl); (case hn => rfl); (case hr => first | (go_simp; done) | (go_simp; rfl)); intro w7007 hw; have hg : w7004.grownBy w7007 (some go5) := (by rw [hw]; exact HP7006.2); have hp_ : Kd.R k53 53 w7007 w0.heap.size (fun k_ => (P0_ k_ ∨ w.heap.size ≤ k_)) (.slice (some ⟨go5, 0, none⟩) x0_1.length co9) y241 := (by rw [hw, Ny241.out]; exact HP7006.1); clear HP7006; have n0_ := Aside0.mk (hp_); have n1_ := Aside0.mk ((zt41 : Below w0.heap.size w0 w7007)); have n2_ := Aside0.mk (Kept.of_grown (S := (fun k_ => P0_ k_)) hg zt7 (fun k_ e_ => (HO_0.out.1 k_ e_))); clear HO_0; clear HB; clear HK; have HO_0 := n0_; have HB := n1_; have HK := n2_; clear n0_ n1_ n2_; clear hg hw hp_) | ((with_reducible refine gate_store (t := 3) (p := 16) rfl ?_); refine store_event (t := 3) (p := 16) (v := ?vo_w7000) (w1 := (wr.setCell ⟨go5, (x5_1 : Int).toNat * 3, none⟩ (.int .i64 x1_1))) ?hg ?ho ?hn ?hr ?_; (case ho => rfl); (case hg => rfl); (case hn => rfl); (case hr => first | (go_simp; done) | (go_simp; rfl)); intro w7000 hw; have hg : wr.grownBy w7000 (some go5) := (by rw [hw]; exact HP10.2); have hp_ : Kd.R k53 53 w7000 w0.heap.size (fun k_ => (P0_ k_ ∨ w.heap.size ≤ k_)) (.slice (some ⟨go5, 0, none⟩) x0_1.length co9) y238 := (by rw [hw, Ny238.out]; exact HP10.1); clear HP10; have n0_ := Aside0.mk (hp_); have n1_ := Aside0.mk ((zt41 : Below w0.heap.size w0 w7000)); have n2_ := Aside0.mk (Kept.of_grown (S := (fun k_ => P0_ k_)) hg zt7 (fun k_ e_ => (HO_0.out.1 k_ e_))); clear HO_0; clear HB; clear HK; have HO_0 := n0_; have HB := n1_; have HK := n2_; clear n0_ n1_ n2_; clear hg hw hp_)); first | go_quiet (fail) | (go_roundg k1; (case measure => have := HK1.out; omega); (case rel => exact ⟨(y241), (wrap64 ((wrap64 ((wrap64 (x1_1 + 1)) + 1)) + 1)), (wrap64 (x5_1 + 1)), zt9, zt9, H', ⟨by have := HK1.out; omega⟩, ⟨zt14⟩, ⟨zt7⟩, ⟨zt3⟩⟩)) | (go_ret; exact ⟨zt8, zt42, zt3, zt7⟩))

/-! ### laws_markExprS: function 44 -/
def laws_markExprS.l0 : Nat → List (S50) → Int → Int → Option (Int × (List (S50)))
 | 0, _, _, _ => none
 | k + 1, x0, x1, x5 => if x5 < (x0.length : Int) then (if 0 ≤ x5 then ((some (x0.set (x5 : Int).toNat (⟨x1, (rd_T50 x0 x5).f1, (rd_T50 x0 x5).f2, (rd_T50 x0 x5).f3, (rd_T50 x0 x5).f4, (rd_T50 x0 x5).f5⟩ : S50) : List (S50))).bind fun y242 => ((some (y242.set (x5 : Int).toNat (⟨(rd_T50 y242 x5).f0, wrap64 (x1 + 1), (rd_T50 y242 x5).f2, (rd_T50 y242 x5).f3, (rd_T50 y242 x5).f4, (rd_T50 y242 x5).f5⟩ : S50) : List (S50))).bind fun y243 => ((laws_markText.f k (wrap64 ((wrap64 (x1 + 1)) + 1))).bind fun t244 => ((some (y243.set (x5 : Int).toNat (⟨(rd_T50 y243 x5).f0, (rd_T50 y243 x5).f1, t244, (rd_T50 y243 x5).f3, (rd_T50 y243 x5).f4, (rd_T50 y243 x5).f5⟩ : S50) : List (S50))).bind fun y245 => ((laws_markText.f k (wrap64 ((wrap64 ((wrap64 (x1 + 1)) + 1)) + 1))).bind fun t246 => ((some (y245.set (x5 : Int).toNat (⟨(rd_T50 y245 x5).f0, (rd_T50 y245 x5).f1, (rd_T50 y245 x5).f2, t246, (rd_T50 y245 x5).f4, (rd_T50 y245 x5).f5⟩ : S50) : List (S50))).bind fun y247 => ((some (y247.set (x5 : Int).toNat (⟨(rd_T50 y247 x5).f0, (rd_T50 y247 x5).f1, (rd_T50 y247 x5).f2, (rd_T50 y247 x5).f3, wrap64 ((wrap64 ((wrap64 ((wrap64 (x1 + 1)) + 1)) + 1)) + 1), (rd_T50 y247 x5).f5⟩ : S50) : List (S50))).bind fun y248 => (laws_markExprS.l0 k (y248.set (x5 : Int).toNat (⟨(rd_T50 y248 x5).f0, (rd_T50 y248 x5).f1, (rd_T50 y248 x5).f2, (rd_T50 y248 x5).f3, (rd_T50 y248 x5).f4, wrap64 ((wrap64 ((wrap64 ((wrap64 ((wrap64 (x1 + 1)) + 1)) + 1)) + 1)) + 1)⟩ : S50)) (wrap64 ((wrap64 ((wrap64 ((wrap64 ((wrap64 ((wrap64 (x1 + 1)) + 1)) + 1)) + 1)) + 1)) + 1)) (wrap64 (x5 + 1)))))))))) else (none)) else (some (x1, x0))
def laws_markExprS.f (k : Nat) (l0 : List (S50)) (a1 : Int) : Option (Int × (List (S50))) := laws_markExprS.l0 k l0 a1 0
theorem laws_markExprS.mono_l : ∀ k, (∀ y0 y1 y2, LeO (laws_markExprS.l0 k y0 y1 y2) (laws_markExprS.l0 (k + 1) y0 y1 y2))
 | 0 => fun _ _ _ r h => by simp [laws_markExprS.l0] at h
 | k + 1 => by
  have ih0 := laws_markExprS.mono_l k
  ·intro y0 y1 y2
   unfold laws_markExprS.l0
   repeat' first
   | (with_reducible exact ih0 _ _ _)
   | (with_reducible exact laws_markText.mono _ _)
   | (with_reducible exact LeO.refl _)
   | (with_reducible exact LeO.none _)
   | (with_reducible refine LeO.ite ?_ ?_)
   | (with_reducible refine LeO.bind ?_ (fun _ => ?_))
   | exact ih0 _ _ _
   | exact laws_markText.mono _ _
   | exact LeO.none _
   | refine LeO.ite ?_ ?_
   | refine LeO.bind ?_ (fun _ => ?_)
theorem laws_markExprS.mono : ∀ a0 a1 k, LeO (laws_markExprS.f k a0 a1) (laws_markExprS.f (k + 1) a0 a1) := by
 intro a0 a1 k
 have ih0 := laws_markExprS.mono_l k
 unfold laws_markExprS.f
 repeat' first
   | (with_reducible exact ih0 _ _ _)
   | (with_reducible exact laws_markText.mono _ _)
   | (with_reducible exact LeO.refl _)
   | (with_reducible exact LeO.none _)
   | (with_reducible refine LeO.ite ?_ ?_)
   | (with_reducible refine LeO.bind ?_ (fun _ => ?_))
   | exact ih0 _ _ _
   | exact laws_markText.mono _ _
   | exact LeO.none _
   | refine LeO.ite ?_ ?_
   | refine LeO.bind ?_ (fun _ => ?_)
set_option maxHeartbeats 8000000 in
set_option maxRecDepth 100000 in
theorem laws_markExprS.calls (k : Nat) (P0_ : Nat → Prop) (u9000_ : Value) (l0 : List (S50)) (a1 : Int) (r1 : Int) (r2 : List (S50)) (w0 w : World) (hB : Below w0.heap.size w0 w) (ho0 : Kd.R k50 50 w w0.heap.size P0_ u9000_ l0) (h : laws_markExprS.f k l0 a1 = some (r1, r2)) :
  Calls Try.prog 44 #[u9000_, .int .i64 a1] w fun e w' => e = .returned (.int .i64 r1) ∧ Kd.R k50 50 w' w0.heap.size (fun k_ => (P0_ k_ ∨ w.heap.size ≤ k_)) u9000_ r2 ∧ Below w0.heap.size w0 w' ∧ Kept w w' (fun k_ => P0_ k_) := by
 have HO0 := Aside0.mk (show Kd.R k50 50 w w0.heap.size (fun k_ => (P0_ k_ ∨ w.heap.size ≤ k_)) u9000_ l0 from Kd.R_mono ho0 (fun k_ hk => (.inl hk)))
 have HK := Aside0.mk (Kept.refl w (fun k_ => P0_ k_))
 have HW0 := Aside0.mk hB.size
 have HB := Aside0.mk hB
 clear hB
 have H : (laws_markExprS.l0 k l0 a1 0) = some (r1, r2) := h
 clear h
 have H' := Aside0.mk H
 clear H
 go_enter Try.func44, Try.ntmps44
 go_wp2
 go_loopg [1, 5] k (fun kq v1 v5 w' => ∃ (x0_1 : List (S50)) (x1_1 : Int) (x5_1 : Int), v1 = .int .i64 x1_1 ∧ v5 = .int .i64 x5_1 ∧ Aside0 (laws_markExprS.l0 kq x0_1 x1_1 x5_1 = some (r1, r2)) ∧ Aside0 (kq ≤ k) ∧ Aside0 (Kd.R k50 50 w' w0.heap.size (fun k_ => (P0_ k_ ∨ w.heap.size ≤ k_)) u9000_ x0_1) ∧ Aside0 (Kept w w' (fun k_ => P0_ k_)) ∧ Aside0 (Below w0.heap.size w0 w'))
 case atStart => exact ⟨(l0), (a1), (0), zt9, zt9, H', ⟨Nat.le_refl _⟩, ⟨zt39⟩, ⟨zt7⟩, ⟨zt3⟩⟩
 case round =>
  clear H'
  try clear p2
  obtain ⟨x0_1, x1_1, x5_1, rfl, rfl, HA, HK1, HO_0, HK, HB⟩ := hrel
  cases gk with
  | zero => exact absurd HA.out (by simp [laws_markExprS.l0])
  | succ k1 =>
   have H := HA.out
   clear HA
   simp only [laws_markExprS.l0] at H
   by_cases c3 : x5_1 < (x0_1.length : Int)
   rw [if_pos c3] at H
   have c3b0 : decide (x5_1 < (x0_1.length : Int)) = true := decide_eq_true c3
   clear c3
   by_cases c4 : 0 ≤ x5_1
   rw [if_pos c4] at H
   have c4b0 : decide (0 ≤ x5_1) = true := decide_eq_true c4
   clear c4
   obtain ⟨y242, hy242⟩ : ∃ y_ : List (S50), y_ = (x0_1.set (x5_1 : Int).toNat (⟨x1_1, (rd_T50 x0_1 x5_1).f1, (rd_T50 x0_1 x5_1).f2, (rd_T50 x0_1 x5_1).f3, (rd_T50 x0_1 x5_1).f4, (rd_T50 x0_1 x5_1).f5⟩ : S50)) := ⟨_, rfl⟩
   replace H : ((some (y242.set (x5_1 : Int).toNat (⟨(rd_T50 y242 x5_1).f0, wrap64 (x1_1 + 1), (rd_T50 y242 x5_1).f2, (rd_T50 y242 x5_1).f3, (rd_T50 y242 x5_1).f4, (rd_T50 y242 x5_1).f5⟩ : S50) : List (S50))).bind fun y243 => ((laws_markText.f k1 (wrap64 ((wrap64 (x1_1 + 1)) + 1))).bind fun t244 => ((some (y243.set (x5_1 : Int).toNat (⟨(rd_T50 y243 x5_1).f0, (rd_T50 y243 x5_1).f1, t244, (rd_T50 y243 x5_1).f3, (rd_T50 y243 x5_1).f4, (rd_T50 y243 x5_1).f5⟩ : S50) : List (S50))).bind fun y245 => ((laws_markText.f k1 (wrap64 ((wrap64 ((wrap64 (x1_1 + 1)) + 1)) + 1))).bind fun t246 => ((some (y245.set (x5_1 : Int).toNat (⟨(rd_T50 y245 x5_1).f0, (rd_T50 y245 x5_1).f1, (rd_T50 y245 x5_1).f2, t246, (rd_T50 y245 x5_1).f4, (rd_T50 y245 x5_1).f5⟩ : S50) : List (S50))).bind fun y247 => ((some (y247.set (x5_1 : Int).toNat (⟨(rd_T50 y247 x5_1).f0, (rd_T50 y247 x5_1).f1, (rd_T50 y247 x5_1).f2, (rd_T50 y247 x5_1).f3, wrap64 ((wrap64 ((wrap64 ((wrap64 (x1_1 + 1)) + 1)) + 1)) + 1), (rd_T50 y247 x5_1).f5⟩ : S50) : List (S50))).bind fun y248 => (laws_markExprS.l0 k1 (y248.set (x5_1 : Int).toNat (⟨(rd_T50 y248 x5_1).f0, (rd_T50 y248 x5_1).f1, (rd_T50 y248 x5_1).f2, (rd_T50 y248 x5_1).f3, (rd_T50 y248 x5_1).f4, wrap64 ((wrap64 ((wrap64 ((wrap64 ((wrap64 (x1_1 + 1)) + 1)) + 1)) + 1)) + 1)⟩ : S50)) (wrap64 ((wrap64 ((wrap64 ((wrap64 ((wrap64 ((wrap64 (x1_1 + 1)) + 1)) + 1)) + 1)) + 1)) + 1)) (wrap64 (x5_1 + 1))))))))) = some (r1, r2) := by first | (rw [hy242]; with_reducible exact H) | (have H2_ := (Option.bind_some _ _).symm.trans H; rw [hy242]; with_reducible exact H2_) | (have H2_ := (Option.bind_some _ _).symm.trans H; with_reducible exact H2_) | with_reducible exact H | (rw [hy242]; exact H) | exact H
   have Ny242 := Aside0.mk hy242
   clear hy242
   obtain ⟨y243, hy243⟩ : ∃ y_ : List (S50), y_ = (y242.set (x5_1 : Int).toNat (⟨(rd_T50 y242 x5_1).f0, wrap64 (x1_1 + 1), (rd_T50 y242 x5_1).f2, (rd_T50 y242 x5_1).f3, (rd_T50 y242 x5_1).f4, (rd_T50 y242 x5_1).f5⟩ : S50)) := ⟨_, rfl⟩
   replace H : ((laws_markText.f k1 (wrap64 ((wrap64 (x1_1 + 1)) + 1))).bind fun t244 => ((some (y243.set (x5_1 : Int).toNat (⟨(rd_T50 y243 x5_1).f0, (rd_T50 y243 x5_1).f1, t244, (rd_T50 y243 x5_1).f3, (rd_T50 y243 x5_1).f4, (rd_T50 y243 x5_1).f5⟩ : S50) : List (S50))).bind fun y245 => ((laws_markText.f k1 (wrap64 ((wrap64 ((wrap64 (x1_1 + 1)) + 1)) + 1))).bind fun t246 => ((some (y245.set (x5_1 : Int).toNat (⟨(rd_T50 y245 x5_1).f0, (rd_T50 y245 x5_1).f1, (rd_T50 y245 x5_1).f2, t246, (rd_T50 y245 x5_1).f4, (rd_T50 y245 x5_1).f5⟩ : S50) : List (S50))).bind fun y247 => ((some (y247.set (x5_1 : Int).toNat (⟨(rd_T50 y247 x5_1).f0, (rd_T50 y247 x5_1).f1, (rd_T50 y247 x5_1).f2, (rd_T50 y247 x5_1).f3, wrap64 ((wrap64 ((wrap64 ((wrap64 (x1_1 + 1)) + 1)) + 1)) + 1), (rd_T50 y247 x5_1).f5⟩ : S50) : List (S50))).bind fun y248 => (laws_markExprS.l0 k1 (y248.set (x5_1 : Int).toNat (⟨(rd_T50 y248 x5_1).f0, (rd_T50 y248 x5_1).f1, (rd_T50 y248 x5_1).f2, (rd_T50 y248 x5_1).f3, (rd_T50 y248 x5_1).f4, wrap64 ((wrap64 ((wrap64 ((wrap64 ((wrap64 (x1_1 + 1)) + 1)) + 1)) + 1)) + 1)⟩ : S50)) (wrap64 ((wrap64 ((wrap64 ((wrap64 ((wrap64 ((wrap64 (x1_1 + 1)) + 1)) + 1)) + 1)) + 1)) + 1)) (wrap64 (x5_1 + 1)))))))) = some (r1, r2) := by first | (rw [hy243]; with_reducible exact H) | (have H2_ := (Option.bind_some _ _).symm.trans H; rw [hy243]; with_reducible exact H2_) | (have H2_ := (Option.bind_some _ _).symm.trans H; with_reducible exact H2_) | with_reducible exact H | (rw [hy243]; exact H) | exact H
   have Ny243 := Aside0.mk hy243
   clear hy243
   replace H := Option.bind_eq_some_iff.mp H
   obtain ⟨t244, A70, H⟩ := H
   replace H : ((some (y243.set (x5_1 : Int).toNat (⟨(rd_T50 y243 x5_1).f0, (rd_T50 y243 x5_1).f1, t244, (rd_T50 y243 x5_1).f3, (rd_T50 y243 x5_1).f4, (rd_T50 y243 x5_1).f5⟩ : S50) : List (S50))).bind fun y245 => ((laws_markText.f k1 (wrap64 ((wrap64 ((wrap64 (x1_1 + 1)) + 1)) + 1))).bind fun t246 => ((some (y245.set (x5_1 : Int).toNat (⟨(rd_T50 y245 x5_1).f0, (rd_T50 y245 x5_1).f1, (rd_T50 y245 x5_1).f2, t246, (rd_T50 y245 x5_1).f4, (rd_T50 y245 x5_1).f5⟩ : S50) : List (S50))).bind fun y247 => ((some (y247.set (x5_1 : Int).toNat (⟨(rd_T50 y247 x5_1).f0, (rd_T50 y247 x5_1).f1, (rd_T50 y247 x5_1).f2, (rd_T50 y247 x5_1).f3, wrap64 ((wrap64 ((wrap64 ((wrap64 (x1_1 + 1)) + 1)) + 1)) + 1), (rd_T50 y247 x5_1).f5⟩ : S50) : List (S50))).bind fun y248 => (laws_markExprS.l0 k1 (y248.set (x5_1 : Int).toNat (⟨(rd_T50 y248 x5_1).f0, (rd_T50 y248 x5_1).f1, (rd_T50 y248 x5_1).f2, (rd_T50 y248 x5_1).f3, (rd_T50 y248 x5_1).f4, wrap64 ((wrap64 ((wrap64 ((wrap64 ((wrap64 (x1_1 + 1)) + 1)) + 1)) + 1)) + 1)⟩ : S50)) (wrap64 ((wrap64 ((wrap64 ((wrap64 ((wrap64 ((wrap64 (x1_1 + 1)) + 1)) + 1)) + 1)) + 1)) + 1)) (wrap64 (x5_1 + 1))))))) = some (r1, r2) := H
   have A7 := Aside0.mk A70
   clear A70
   obtain ⟨y245, hy245⟩ : ∃ y_ : List (S50), y_ = (y243.set (x5_1 : Int).toNat (⟨(rd_T50 y243 x5_1).f0, (rd_T50 y243 x5_1).f1, t244, (rd_T50 y243 x5_1).f3, (rd_T50 y243 x5_1).f4, (rd_T50 y243 x5_1).f5⟩ : S50)) := ⟨_, rfl⟩
   replace H : ((laws_markText.f k1 (wrap64 ((wrap64 ((wrap64 (x1_1 + 1)) + 1)) + 1))).bind fun t246 => ((some (y245.set (x5_1 : Int).toNat (⟨(rd_T50 y245 x5_1).f0, (rd_T50 y245 x5_1).f1, (rd_T50 y245 x5_1).f2, t246, (rd_T50 y245 x5_1).f4, (rd_T50 y245 x5_1).f5⟩ : S50) : List (S50))).bind fun y247 => ((some (y247.set (x5_1 : Int).toNat (⟨(rd_T50 y247 x5_1).f0, (rd_T50 y247 x5_1).f1, (rd_T50 y247 x5_1).f2, (rd_T50 y247 x5_1).f3, wrap64 ((wrap64 ((wrap64 ((wrap64 (x1_1 + 1)) + 1)) + 1)) + 1), (rd_T50 y247 x5_1).f5⟩ : S50) : List (S50))).bind fun y248 => (laws_markExprS.l0 k1 (y248.set (x5_1 : Int).toNat (⟨(rd_T50 y248 x5_1).f0, (rd_T50 y248 x5_1).f1, (rd_T50 y248 x5_1).f2, (rd_T50 y248 x5_1).f3, (rd_T50 y248 x5_1).f4, wrap64 ((wrap64 ((wrap64 ((wrap64 ((wrap64 (x1_1 + 1)) + 1)) + 1)) + 1)) + 1)⟩ : S50)) (wrap64 ((wrap64 ((wrap64 ((wrap64 ((wrap64 ((wrap64 (x1_1 + 1)) + 1)) + 1)) + 1)) + 1)) + 1)) (wrap64 (x5_1 + 1)))))) = some (r1, r2) := by first | (rw [hy245]; with_reducible exact H) | (have H2_ := (Option.bind_some _ _).symm.trans H; rw [hy245]; with_reducible exact H2_) | (have H2_ := (Option.bind_some _ _).symm.trans H; with_reducible exact H2_) | with_reducible exact H | (rw [hy245]; exact H) | exact H
   have Ny245 := Aside0.mk hy245
   clear hy245
   replace H := Option.bind_eq_some_iff.mp H
   obtain ⟨t246, A90, H⟩ := H
   replace H : ((some (y245.set (x5_1 : Int).toNat (⟨(rd_T50 y245 x5_1).f0, (rd_T50 y245 x5_1).f1, (rd_T50 y245 x5_1).f2, t246, (rd_T50 y245 x5_1).f4, (rd_T50 y245 x5_1).f5⟩ : S50) : List (S50))).bind fun y247 => ((some (y247.set (x5_1 : Int).toNat (⟨(rd_T50 y247 x5_1).f0, (rd_T50 y247 x5_1).f1, (rd_T50 y247 x5_1).f2, (rd_T50 y247 x5_1).f3, wrap64 ((wrap64 ((wrap64 ((wrap64 (x1_1 + 1)) + 1)) + 1)) + 1), (rd_T50 y247 x5_1).f5⟩ : S50) : List (S50))).bind fun y248 => (laws_markExprS.l0 k1 (y248.set (x5_1 : Int).toNat (⟨(rd_T50 y248 x5_1).f0, (rd_T50 y248 x5_1).f1, (rd_T50 y248 x5_1).f2, (rd_T50 y248 x5_1).f3, (rd_T50 y248 x5_1).f4, wrap64 ((wrap64 ((wrap64 ((wrap64 ((wrap64 (x1_1 + 1)) + 1)) + 1)) + 1)) + 1)⟩ : S50)) (wrap64 ((wrap64 ((wrap64 ((wrap64 ((wrap64 ((wrap64 (x1_1 + 1)) + 1)) + 1)) + 1)) + 1)) + 1)) (wrap64 (x5_1 + 1))))) = some (r1, r2) := H
   have A9 := Aside0.mk A90
   clear A90
   obtain ⟨y247, hy247⟩ : ∃ y_ : List (S50), y_ = (y245.set (x5_1 : Int).toNat (⟨(rd_T50 y245 x5_1).f0, (rd_T50 y245 x5_1).f1, (rd_T50 y245 x5_1).f2, t246, (rd_T50 y245 x5_1).f4, (rd_T50 y245 x5_1).f5⟩ : S50)) := ⟨_, rfl⟩
   replace H : ((some (y247.set (x5_1 : Int).toNat (⟨(rd_T50 y247 x5_1).f0, (rd_T50 y247 x5_1).f1, (rd_T50 y247 x5_1).f2, (rd_T50 y247 x5_1).f3, wrap64 ((wrap64 ((wrap64 ((wrap64 (x1_1 + 1)) + 1)) + 1)) + 1), (rd_T50 y247 x5_1).f5⟩ : S50) : List (S50))).bind fun y248 => (laws_markExprS.l0 k1 (y248.set (x5_1 : Int).toNat (⟨(rd_T50 y248 x5_1).f0, (rd_T50 y248 x5_1).f1, (rd_T50 y248 x5_1).f2, (rd_T50 y248 x5_1).f3, (rd_T50 y248 x5_1).f4, wrap64 ((wrap64 ((wrap64 ((wrap64 ((wrap64 (x1_1 + 1)) + 1)) + 1)) + 1)) + 1)⟩ : S50)) (wrap64 ((wrap64 ((wrap64 ((wrap64 ((wrap64 ((wrap64 (x1_1 + 1)) + 1)) + 1)) + 1)) + 1)) + 1)) (wrap64 (x5_1 + 1)))) = some (r1, r2) := by first | (rw [hy247]; with_reducible exact H) | (have H2_ := (Option.bind_some _ _).symm.trans H; rw [hy247]; with_reducible exact H2_) | (have H2_ := (Option.bind_some _ _).symm.trans H; with_reducible exact H2_) | with_reducible exact H | (rw [hy247]; exact H) | exact H
   have Ny247 := Aside0.mk hy247
   clear hy247
   obtain ⟨y248, hy248⟩ : ∃ y_ : List (S50), y_ = (y247.set (x5_1 : Int).toNat (⟨(rd_T50 y247 x5_1).f0, (rd_T50 y247 x5_1).f1, (rd_T50 y247 x5_1).f2, (rd_T50 y247 x5_1).f3, wrap64 ((wrap64 ((wrap64 ((wrap64 (x1_1 + 1)) + 1)) + 1)) + 1), (rd_T50 y247 x5_1).f5⟩ : S50)) := ⟨_, rfl⟩
   replace H : (laws_markExprS.l0 k1 (y248.set (x5_1 : Int).toNat (⟨(rd_T50 y248 x5_1).f0, (rd_T50 y248 x5_1).f1, (rd_T50 y248 x5_1).f2, (rd_T50 y248 x5_1).f3, (rd_T50 y248 x5_1).f4, wrap64 ((wrap64 ((wrap64 ((wrap64 ((wrap64 (x1_1 + 1)) + 1)) + 1)) + 1)) + 1)⟩ : S50)) (wrap64 ((wrap64 ((wrap64 ((wrap64 ((wrap64 ((wrap64 (x1_1 + 1)) + 1)) + 1)) + 1)) + 1)) + 1)) (wrap64 (x5_1 + 1))) = some (r1, r2) := by first | (rw [hy248]; with_reducible exact H) | (have H2_ := (Option.bind_some _ _).symm.trans H; rw [hy248]; with_reducible exact H2_) | (have H2_ := (Option.bind_some _ _).symm.trans H; with_reducible exact H2_) | with_reducible exact H | (rw [hy248]; exact H) | exact H
   have Ny248 := Aside0.mk hy248
   clear hy248
   obtain ⟨y249, hy249⟩ : ∃ y_ : List (S50), y_ = (y248.set (x5_1 : Int).toNat (⟨(rd_T50 y248 x5_1).f0, (rd_T50 y248 x5_1).f1, (rd_T50 y248 x5_1).f2, (rd_T50 y248 x5_1).f3, (rd_T50 y248 x5_1).f4, wrap64 ((wrap64 ((wrap64 ((wrap64 ((wrap64 (x1_1 + 1)) + 1)) + 1)) + 1)) + 1)⟩ : S50)) := ⟨_, rfl⟩
   replace H : (laws_markExprS.l0 k1 y249 (wrap64 ((wrap64 ((wrap64 ((wrap64 ((wrap64 ((wrap64 (x1_1 + 1)) + 1)) + 1)) + 1)) + 1)) + 1)) (wrap64 (x5_1 + 1))) = some (r1, r2) := by first | (rw [hy249]; with_reducible exact H) | (have H2_ := (Option.bind_some _ _).symm.trans H; rw [hy249]; with_reducible exact H2_) | (have H2_ := (Option.bind_some _ _).symm.trans H; with_reducible exact H2_) | with_reducible exact H | (rw [hy249]; exact H) | exact H
   have Ny249 := Aside0.mk hy249
   clear hy249
   have H' := Aside0.mk H
   clear H
   obtain ⟨Ao13, co13, eo13⟩ := Kd.R_slice HO_0.out
   subst eo13
   have p5 : 0 ≤ (x5_1 : Int) := of_decide_eq_true zt4
   have q5 : (x5_1 : Int) < ((x0_1.length : Int) : Int) := of_decide_eq_true zt4
   obtain ⟨go5, co5, eo5, gb5, gl5, cl5, HG5⟩ := Kd.R_form HO_0.out (by omega)
   (first | cases eo5 | (injection eo5 with ea_ en_ ec_; (first | subst ea_ | (injection ea_ with ea_; subst ea_)); subst ec_; clear en_))
   have GB5 := Aside0.mk gb5
   have GG5 := Aside0.mk HG5
   clear gb5 gl5 HG5
   have HMgo5 := Aside0.mk (show (P0_ go5 ∨ w.heap.size ≤ go5) from (HO_0.out.1 _ rfl))
   obtain ⟨ce5, hcl5, hM5, hcc5, hfr5⟩ := Kd.R_elem HO_0.out z50 (x5_1 : Int) p5 q5
   obtain rfl := k50_openM hM5
   have hx5_0 : wr.cell? ⟨go5, (x5_1 : Int).toNat * 6, none⟩ = some (.int .i64 ((rd_T50 x0_1 x5_1).f0)) := hcc5 0 _ rfl
   have hx5_1 : wr.cell? ⟨go5, (x5_1 : Int).toNat * 6 + 1, none⟩ = some (.int .i64 ((rd_T50 x0_1 x5_1).f1)) := hcc5 1 _ rfl
   have hx5_2 : wr.cell? ⟨go5, (x5_1 : Int).toNat * 6 + 2, none⟩ = some (.string ((rd_T50 x0_1 x5_1).f2)) := hcc5 2 _ rfl
   have hx5_3 : wr.cell? ⟨go5, (x5_1 : Int).toNat * 6 + 3, none⟩ = some (.string ((rd_T50 x0_1 x5_1).f3)) := hcc5 3 _ rfl
   have hx5_4 : wr.cell? ⟨go5, (x5_1 : Int).toNat * 6 + 4, none⟩ = some (.int .i64 ((rd_T50 x0_1 x5_1).f4)) := hcc5 4 _ rfl
   have hx5_5 : wr.cell? ⟨go5, (x5_1 : Int).toNat * 6 + 5, none⟩ = some (.int .i64 ((rd_T50 x0_1 x5_1).f5)) := hcc5 5 _ rfl
   have hf5_0 : wr.frozen? ⟨go5, (x5_1 : Int).toNat * 6, none⟩ = false := hfr5 0
   have hf5_1 : wr.frozen? ⟨go5, (x5_1 : Int).toNat * 6 + 1, none⟩ = false := hfr5 1
   have hf5_2 : wr.frozen? ⟨go5, (x5_1 : Int).toNat * 6 + 2, none⟩ = false := hfr5 2
   have hf5_3 : wr.frozen? ⟨go5, (x5_1 : Int).toNat * 6 + 3, none⟩ = false := hfr5 3
   have hf5_4 : wr.frozen? ⟨go5, (x5_1 : Int).toNat * 6 + 4, none⟩ = false := hfr5 4
   have hf5_5 : wr.frozen? ⟨go5, (x5_1 : Int).toNat * 6 + 5, none⟩ = false := hfr5 5
   clear hcl5 hcc5 hfr5 hM5
   replace p5 := eq_true p5
   replace q5 := eq_true q5
   have HX14 := Aside0.mk (show Kd.R k50 50 wr w0.heap.size (fun k_ => (P0_ k_ ∨ w.heap.size ≤ k_)) (.slice (some ⟨go5, 0, none⟩) x0_1.length co13) x0_1 from (rz HO_0.out))
   obtain ⟨ce14, hcl14, hM14, hcc14, hfr14⟩ := Kd.R_elem HX14.out z50 (x5_1 : Int) (of_decide_eq_true zt4) (by have h_ : (x5_1 : Int) < ((x0_1.length : Int) : Int) := of_decide_eq_true zt4; first | exact h_ | (have e_ := (Kd.R_reads' HO_0.out).1; omega) | simpa using h_)
   obtain rfl := k50_openM hM14
   have HP14 := Kd.R_seg HX14.out (x5_1 : Int) (of_decide_eq_true zt4) (by have h_ : (x5_1 : Int) < ((x0_1.length : Int) : Int) := of_decide_eq_true zt4; first | exact h_ | (have e_ := (Kd.R_reads' HO_0.out).1; omega) | simpa using h_) (seg := [.int .i64 x1_1]) (j := 0) hcl14 hcc14 (show 1 ≤ 6 from by decide) (x' := (⟨x1_1, (rd_T50 x0_1 x5_1).f1, (rd_T50 x0_1 x5_1).f2, (rd_T50 x0_1 x5_1).f3, (rd_T50 x0_1 x5_1).f4, (rd_T50 x0_1 x5_1).f5⟩ : S50)) (k50_mkM _ _ _ (⟨x1_1, (rd_T50 x0_1 x5_1).f1, (rd_T50 x0_1 x5_1).f2, (rd_T50 x0_1 x5_1).f3, (rd_T50 x0_1 x5_1).f4, (rd_T50 x0_1 x5_1).f5⟩ : S50) ) (fun _ hk => hk)
   have hx14_0 := hcc14 0 _ rfl
   (try simp only [show (k50).sz = 6 from rfl, Nat.mul_one, Nat.add_zero] at hx14_0)
   have hf14_0 := hfr14 0
   (try simp only [show (k50).sz = 6 from rfl, Nat.mul_one, Nat.add_zero] at hf14_0)
   clear hcl14 hcc14 hfr14 hM14
   rotate_left
   rw [if_neg c4] at H
   exact absurd H (by simp)
   rw [if_neg c3] at H
   have c3b0 : decide (x5_1 < (x0_1.length : Int)) = false := decide_eq_false c3
   clear c3
   simp only [Option.some.injEq, Prod.mk.injEq] at H
   obtain ⟨rfl, rfl⟩ := H
   obtain ⟨Ao28, co28, eo28⟩ := Kd.R_slice HO_0.out
   subst eo28
   rotate_left
   all_goals
    repeat (go_wp2_with (first | ((with_reducible refine gate_store (t := 3) (p := 46) rfl ?_); refine store_event (t := 3) (p := 46) (v := ?vo_w7014) (w1 := (w7011.setCell ⟨go5, (x5_1 : Int).toNat * 6 + 4, none⟩ (.int .i64 (wrap64 ((wrap64 ((wrap64 ((wrap64 (x1_1 + 1)) + 1)) + 1)) + 1))))) ?hg ?ho ?hn ?hr ?_; (case ho => rfl); (case hg => rfl); (case hn => rfl); (case hr => first | (go_simp; done) | (go_simp; rfl)); intro w7014 hw; have hg : w7011.grownBy w7014 (some go5) := (by rw [hw]; exact HP7013.2); have hp_ : Kd.R k50 50 w7014 w0.heap.size (fun k_ => (P0_ k_ ∨ w.heap.size ≤ k_)) (.slice (some ⟨go5, 0, none⟩) x0_1.length co13) y248 := (by rw [hw, Ny248.out]; exact HP7013.1); clear HP7013; have n0_ := Aside0.mk (hp_); have n1_ := Aside0.mk ((zt41 : Below w0.heap.size w0 w7014)); have n2_ := Aside0.mk (Kept.of_grown (S := (fun k_ => P0_ k_)) hg zt7 (fun k_ e_ => (HO_0.out.1 k_ e_))); clear HO_0; clear HB; clear HK; have HO_0 := n0_; have HB := n1_; have HK := n2_; clear n0_ n1_ n2_; clear hg hw hp_; have p7015 : 0 ≤ (x5_1 : Int) := of_decide_eq_true zt4; have q7015 : (x5_1 : Int) < ((x0_1.length : Int) : Int) := of_decide_eq_true zt4; obtain ⟨ce7015, hcl7015, hM7015, hcc7015, hfr7015⟩ := Kd.R_elem HO_0.out z50 (x5_1 : Int) p7015 q7015; obtain rfl := k50_openM hM7015; have hx7015_0 : w7014.cell? ⟨go5, (x5_1 : Int).toNat * 6, none⟩ = some (.int .i64 ((rd_T50 y248 x5_1).f0)) := hcc7015 0 _ rfl; have hx7015_1 : w7014.cell? ⟨go5, (x5_1 : Int).toNat * 6 + 1, none⟩ = some (.int .i64 ((rd_T50 y248 x5_1).f1)) := hcc7015 1 _ rfl; have hx7015_2 : w7014.cell? ⟨go5, (x5_1 : Int).toNat * 6 + 2, none⟩ = some (.string ((rd_T50 y248 x5_1).f2)) := hcc7015 2 _ rfl; have hx7015_3 : w7014.cell? ⟨go5, (x5_1 : Int).toNat * 6 + 3, none⟩ = some (.string ((rd_T50 y248 x5_1).f3)) := hcc7015 3 _ rfl; have hx7015_4 : w7014.cell? ⟨go5, (x5_1 : Int).toNat * 6 + 4, none⟩ = some (.int .i64 ((rd_T50 y248 x5_1).f4)) := hcc7015 4 _ rfl; have hx7015_5 : w7014.cell? ⟨go5, (x5_1 : Int).toNat * 6 + 5, none⟩ = some (.int .i64 ((rd_T50 y248 x5_1).f5)) := hcc7015 5 _ rfl; have hf7015_0 : w7014.frozen? ⟨go5, (x5_1 : Int).toNat * 6, none⟩ = false := hfr7015 0; have hf7015_1 : w7014.frozen? ⟨go5, (x5_1 : Int).toNat * 6 + 1, none⟩ = false := hfr7015 1; have hf7015_2 : w7014.frozen? ⟨go5, (x5_1 : Int).toNat * 6 + 2, none⟩ = false := hfr7015 2; have hf7015_3 : w7014.frozen? ⟨go5, (x5_1 : Int).toNat * 6 + 3, none⟩ = false := hfr7015 3; have hf7015_4 : w7014.frozen? ⟨go5, (x5_1 : Int).toNat * 6 + 4, none⟩ = false := hfr7015 4; have hf7015_5 : w7014.frozen? ⟨go5, (x5_1 : Int).toNat * 6 + 5, none⟩ = false := hfr7015 5; clear hcl7015 hcc7015 hfr7015 hM7015; replace p7015 := eq_true p7015; replace q7015 := eq_true q7015; have HX7016 := Aside0.mk (show Kd.R k50 50 w7014 w0.heap.size (fun k_ => (P0_ k_ ∨ w.heap.size ≤ k_)) (.slice (some ⟨go5, 0, none⟩) x0_1.length co13) y248 from (rz HO_0.out)); obtain ⟨ce7016, hcl7016, hM7016, hcc7016, hfr7016⟩ := Kd.R_elem HX7016.out z50 (x5_1 : Int) (of_decide_eq_true zt4) (by have h_ : (x5_1 : Int) < ((x0_1.length : Int) : Int) := of_decide_eq_true zt4; first | exact h_ | (have e_ := (Kd.R_reads' HO_0.out).1; omega) | simpa using h_); obtain rfl := k50_openM hM7016; have HP7016 := Kd.R_seg HX7016.out (x5_1 : Int) (of_decide_eq_true zt4) (by have h_ : (x5_1 : Int) < ((x0_1.length : Int) : Int) := of_decide_eq_true zt4; first | exact h_ | (have e_ := (Kd.R_reads' HO_0.out).1; omega) | simpa using h_) (seg := [.int .i64 (wrap64 ((wrap64 ((wrap64 ((wrap64 ((wrap64 (x1_1 + 1)) + 1)) + 1)) + 1)) + 1))]) (j := 5) hcl7016 hcc7016 (show 6 ≤ 6 from by decide) (x' := (⟨(rd_T50 y248 x5_1).f0, (rd_T50 y248 x5_1).f1, (rd_T50 y248 x5_1).f2, (rd_T50 y248 x5_1).f3, (rd_T50 y248 x5_1).f4, wrap64 ((wrap64 ((wrap64 ((wrap64 ((wrap64 (x1_1 + 1)) + 1)) + 1)) + 1)) + 1)⟩ : S50)) (k50_mkM _ _ _ (⟨(rd_T50 y248 x5_1).f0, (rd_T50 y248 x5_1).f1, (rd_T50 y248 x5_1).f2, (rd_T50 y248 x5_1).f3, (rd_T50 y248 x5_1).f4, wrap64 ((wrap64 ((wrap64 ((wrap64 ((wrap64 (x1_1 + 1)) + 1)) + 1)) + 1)) + 1)⟩ : S50) ) (fun _ hk => hk); have hx7016_5 := hcc7016 5 _ rfl; (try simp only [show (k50).sz = 6 from rfl, Nat.mul_one, Nat.add_zero] at hx7016_5); have hf7016_5 := hfr7016 5; (try simp only [show (k50).sz = 6 from rfl, Nat.mul_one, Nat.add_zero] at hf7016_5); clear hcl7016 hcc7016 hfr7016 hM7016) | ((with_reducible refine gate_store (t := 9) (p := 39) rfl ?_); refine store_event (t := 9) (p := 39) (v := ?vo_w7011) (w1 := (w7008.setCell ⟨go5, (x5_1 : Int).toNat * 6 + 3, none⟩ (.string t246))) ?hg ?ho ?hn ?hr ?_; (case ho => rfl); (case hg => rfl); (case hn => rfl); (case hr => first | (go_simp; done) | (go_simp; rfl)); intro w7011 hw; have hg : w7008.grownBy w7011 (some go5) := (by rw [hw]; exact HP7010.2); have hp_ : Kd.R k50 50 w7011 w0.heap.size (fun k_ => (P0_ k_ ∨ w.heap.size ≤ k_)) (.slice (some ⟨go5, 0, none⟩) x0_1.length co13) y247 := (by rw [hw, Ny247.out]; exact HP7010.1); clear HP7010; have n0_ := Aside0.mk (hp_); have n1_ := Aside0.mk ((zt41 : Below w0.heap.size w0 w7011)); have n2_ := Aside0.mk (Kept.of_grown (S := (fun k_ => P0_ k_)) hg zt7 (fun k_ e_ => (HO_0.out.1 k_ e_))); clear HO_0; clear HB; clear HK; have HO_0 := n0_; have HB := n1_; have HK := n2_; clear n0_ n1_ n2_; clear hg hw hp_; have p7012 : 0 ≤ (x5_1 : Int) := of_decide_eq_true zt4; have q7012 : (x5_1 : Int) < ((x0_1.length : Int) : Int) := of_decide_eq_true zt4; obtain ⟨ce7012, hcl7012, hM7012, hcc7012, hfr7012⟩ := Kd.R_elem HO_0.out z50 (x5_1 : Int) p7012 q7012; obtain rfl := k50_openM hM7012; have hx7012_0 : w7011.cell? ⟨go5, (x5_1 : Int).toNat * 6, none⟩ = some (.int .i64 ((rd_T50 y247 x5_1).f0)) := hcc7012 0 _ rfl; have hx7012_1 : w7011.cell? ⟨go5, (x5_1 : Int).toNat * 6 + 1, none⟩ = some (.int .i64 ((rd_T50 y247 x5_1).f1)) := hcc7012 1 _ rfl; have hx7012_2 : w7011.cell? ⟨go5, (x5_1 : Int).toNat * 6 + 2, none⟩ = some (.string ((rd_T50 y247 x5_1).f2)) := hcc7012 2 _ rfl; have hx7012_3 : w7011.cell? ⟨go5, (x5_1 : Int).toNat * 6 + 3, none⟩ = some (.string ((rd_T50 y247 x5_1).f3)) := hcc7012 3 _ rfl; have hx7012_4 : w7011.cell? ⟨go5, (x5_1 : Int).toNat * 6 + 4, none⟩ = some (.int .i64 ((rd_T50 y247 x5_1).f4)) := hcc7012 4 _ rfl; have hx7012_5 : w7011.cell? ⟨go5, (x5_1 : Int).toNat * 6 + 5, none⟩ = some (.int .i64 ((rd_T50 y247 x5_1).f5)) := hcc7012 5 _ rfl; have hf7012_0 : w7011.frozen? ⟨go5, (x5_1 : Int).toNat * 6, none⟩ = false := hfr7012 0; have hf7012_1 : w7011.frozen? ⟨go5, (x5_1 : Int).toNat * 6 + 1, none⟩ = false := hfr7012 1; have hf7012_2 : w7011.frozen? ⟨go5, (x5_1 : Int).toNat * 6 + 2, none⟩ = false := hfr7012 2; have hf7012_3 : w7011.frozen? ⟨go5, (x5_1 : Int).toNat * 6 + 3, none⟩ = false := hfr7012 3; have hf7012_4 : w7011.frozen? ⟨go5, (x5_1 : Int).toNat * 6 + 4, none⟩ = false := hfr7012 4; have hf7012_5 : w7011.frozen? ⟨go5, (x5_1 : Int).toNat * 6 + 5, none⟩ = false := hfr7012 5; clear hcl7012 hcc7012 hfr7012 hM7012; replace p7012 := eq_true p7012; replace q7012 := eq_true q7012; have HX7013 := Aside0.mk (show Kd.R k50 50 w7011 w0.heap.size (fun k_ => (P0_ k_ ∨ w.heap.size ≤ k_)) (.slice (some ⟨go5, 0, none⟩) x0_1.length co13) y247 from (rz HO_0.out)); obtain ⟨ce7013, hcl7013, hM7013, hcc7013, hfr7013⟩ := Kd.R_elem HX7013.out z50 (x5_1 : Int) (of_decide_eq_true zt4) (by have h_ : (x5_1 : Int) < ((x0_1.length : Int) : Int) := of_decide_eq_true zt4; first | exact h_ | (have e_ := (Kd.R_reads' HO_0.out).1; omega) | simpa using h_); obtain rfl := k50_openM hM7013; have HP7013 := Kd.R_seg HX7013.out (x5_1 : Int) (of_decide_eq_true zt4) (by have h_ : (x5_1 : Int) < ((x0_1.length : Int) : Int) := of_decide_eq_true zt4; first | exact h_ | (have e_ := (Kd.R_reads' HO_0.out).1; omega) | simpa using h_) (seg := [.int .i64 (wrap64 ((wrap64 ((wrap64 ((wrap64 (x1_1 + 1)) + 1)) + 1)) + 1))]) (j := 4) hcl7013 hcc7013 (show 5 ≤ 6 from by decide) (x' := (⟨(rd_T50 y247 x5_1).f0, (rd_T50 y247 x5_1).f1, (rd_T50 y247 x5_1).f2, (rd_T50 y247 x5_1).f3, wrap64 ((wrap64 ((wrap64 ((wrap64 (x1_1 + 1)) + 1)) + 1)) + 1), (rd_T50 y247 x5_1).f5⟩ : S50)) (k50_mkM _ _ _ (⟨(rd_T50 y247 x5_1).f0, (rd_T50 y247 x5_1).f1, (rd_T50 y247 x5_1).f2, (rd_T50 y247 x5_1).f3, wrap64 ((wrap64 ((wrap64 ((wrap64 (x1_1 + 1)) + 1)) + 1)) + 1), (rd_T50 y247 x5_1).f5⟩ : S50) ) (fun _ hk => hk); have hx7013_4 := hcc7013 4 _ rfl; (try simp only [show (k50).sz = 6 from rfl, Nat.mul_one, Nat.add_zero] at hx7013_4); have hf7013_4 := hfr7013 4; (try simp only [show (k50).sz = 6 from rfl, Nat.mul_one, Nat.add_zero] at hf7013_4); clear hcl7013 hcc7013 hfr7013 hM7013) | ((with_reducible refine gate_callee (f := 45) rfl ?_); refine goesL_ (some 37) rfl rfl Try.func45 (by kernel_rfl) rfl #[.int .i64 (wrap64 ((wrap64 ((wrap64 (x1_1 + 1)) + 1)) + 1))] rfl zt5 ?_; (with_reducible refine (laws_markText.calls k1 (wrap64 ((wrap64 ((wrap64 (x1_1 + 1)) + 1)) + 1)) t246 _ A9.out).mono ?_); rintro e w7008 ⟨rfl, hb⟩; refine ⟨_, rfl, ?_⟩; have n0_ := Aside0.mk (Kd.R_below (rz HO_0.out) hb); have n1_ := Aside0.mk (Kept.below (S := (fun k_ => P0_ k_)) zt7 hb); have n2_ := Aside0.mk (below_step zt3 hb); clear HO_0; clear HK; clear HB; have HO_0 := n0_; have HK := n1_; have HB := n2_; clear n0_ n1_ n2_; (try clear hb); (try clear hb2); (try clear hk); (try clear hi); have p7009 : 0 ≤ (x5_1 : Int) := of_decide_eq_true zt4; have q7009 : (x5_1 : Int) < ((x0_1.length : Int) : Int) := of_decide_eq_true zt4; obtain ⟨ce7009, hcl7009, hM7009, hcc7009, hfr7009⟩ := Kd.R_elem HO_0.out z50 (x5_1 : Int) p7009 q7009; obtain rfl := k50_openM hM7009; have hx7009_0 : w7008.cell? ⟨go5, (x5_1 : Int).toNat * 6, none⟩ = some (.int .i64 ((rd_T50 y245 x5_1).f0)) := hcc7009 0 _ rfl; have hx7009_1 : w7008.cell? ⟨go5, (x5_1 : Int).toNat * 6 + 1, none⟩ = some (.int .i64 ((rd_T50 y245 x5_1).f1)) := hcc7009 1 _ rfl; have hx7009_2 : w7008.cell? ⟨go5, (x5_1 : Int).toNat * 6 + 2, none⟩ = some (.string ((rd_T50 y245 x5_1).f2)) := hcc7009 2 _ rfl; have hx7009_3 : w7008.cell? ⟨go5, (x5_1 : Int).toNat * 6 + 3, none⟩ = some (.string ((rd_T50 y245 x5_1).f3)) := hcc7009 3 _ rfl; have hx7009_4 : w7008.cell? ⟨go5, (x5_1 : Int).toNat * 6 + 4, none⟩ = some (.int .i64 ((rd_T50 y245 x5_1).f4)) := hcc7009 4 _ rfl; have hx7009_5 : w7008.cell? ⟨go5, (x5_1 : Int).toNat * 6 + 5, none⟩ = some (.int .i64 ((rd_T50 y245 x5_1).f5)) := hcc7009 5 _ rfl; have hf7009_0 : w7008.frozen? ⟨go5, (x5_1 : Int).toNat * 6, none⟩ = false := hfr7009 0; have hf7009_1 : w7008.frozen? ⟨go5, (x5_1 : Int).toNat * 6 + 1, none⟩ = false := hfr7009 1; have hf7009_2 : w7008.frozen? ⟨go5, (x5_1 : Int).toNat * 6 + 2, none⟩ = false := hfr7009 2; have hf7009_3 : w7008.frozen? ⟨go5, (x5_1 : Int).toNat * 6 + 3, none⟩ = false := hfr7009 3; have hf7009_4 : w7008.frozen? ⟨go5, (x5_1 : Int).toNat * 6 + 4, none⟩ = false := hfr7009 4; have hf7009_5 : w7008.frozen? ⟨go5, (x5_1 : Int).toNat * 6 + 5, none⟩ = false := hfr7009 5; clear hcl7009 hcc7009 hfr7009 hM7009; replace p7009 := eq_true p7009; replace q7009 := eq_true q7009; have HX7010 := Aside0.mk (show Kd.R k50 50 w7008 w0.heap.size (fun k_ => (P0_ k_ ∨ w.heap.size ≤ k_)) (.slice (some ⟨go5, 0, none⟩) x0_1.length co13) y245 from (rz HO_0.out)); obtain ⟨ce7010, hcl7010, hM7010, hcc7010, hfr7010⟩ := Kd.R_elem HX7010.out z50 (x5_1 : Int) (of_decide_eq_true zt4) (by have h_ : (x5_1 : Int) < ((x0_1.length : Int) : Int) := of_decide_eq_true zt4; first | exact h_ | (have e_ := (Kd.R_reads' HO_0.out).1; omega) | simpa using h_); obtain rfl := k50_openM hM7010; have HP7010 := Kd.R_seg HX7010.out (x5_1 : Int) (of_decide_eq_true zt4) (by have h_ : (x5_1 : Int) < ((x0_1.length : Int) : Int) := of_decide_eq_true zt4; first | exact h_ | (have e_ := (Kd.R_reads' HO_0.out).1; omega) | simpa using h_) (seg := [.string t246]) (j := 3) hcl7010 hcc7010 (show 4 ≤ 6 from by decide) (x' := (⟨(rd_T50 y245 x5_1).f0, (rd_T50 y245 x5_1).f1, (rd_T50 y245 x5_1).f2, t246, (rd_T50 y245 x5_1).f4, (rd_T50 y245 x5_1).f5⟩ : S50)) (k50_mkM _ _ _ (⟨(rd_T50 y245 x5_1).f0, (rd_T50 y245 x5_1).f1, (rd_T50 y245 x5_1).f2, t246, (rd_T50 y245 x5_1).f4, (rd_T50 y245 x5_1).f5⟩ : S50) ) (fun _ hk => hk); have hx7010_3 := hcc7010 3 _ rfl; (try simp only [show (k50).sz = 6 from rfl, Nat.mul_one, Nat.add_zero] at hx7010_3); have hf7010_3 := hfr7010 3; (try simp only [show (k50).sz = 6 from rfl, Nat.mul_one, Nat.add_zero] at hf7010_3); clear hcl7010 hcc7010 hfr7010 hM7010) | ((with_reducible refine gate_callee (f := 45) rfl ?_); refine goesL_ (some 29) rfl rfl Try.func45 (by kernel_rfl) rfl #[.int .i64 (wrap64 ((wrap64 (x1_1 + 1)) + 1))] rfl zt5 ?_; (with_reducible refine (laws_markText.calls k1 (wrap64 ((wrap64 (x1_1 + 1)) + 1)) t244 _ A7.out).mono ?_); rintro e w7004 ⟨rfl, hb⟩; refine ⟨_, rfl, ?_⟩; have n0_ := Aside0.mk (Kd.R_below (rz HO_0.out) hb); have n1_ := Aside0.mk (Kept.below (S := (fun k_ => P0_ k_)) zt7 hb); have n2_ := Aside0.mk (below_step zt3 hb); clear HO_0; clear HK; clear HB; have HO_0 := n0_; have HK := n1_; have HB := n2_; clear n0_ n1_ n2_; (try clear hb); (try clear hb2); (try clear hk); (try clear hi); have p7005 : 0 ≤ (x5_1 : Int) := of_decide_eq_true zt4; have q7005 : (x5_1 : Int) < ((x0_1.length : Int) : Int) := of_decide_eq_true zt4; obtain ⟨ce7005, hcl7005, hM7005, hcc7005, hfr7005⟩ := Kd.R_elem HO_0.out z50 (x5_1 : Int) p7005 q7005; obtain rfl := k50_openM hM7005; have hx7005_0 : w7004.cell? ⟨go5, (x5_1 : Int).toNat * 6, none⟩ = some (.int .i64 ((rd_T50 y243 x5_1).f0)) := hcc7005 0 _ rfl; have hx7005_1 : w7004.cell? ⟨go5, (x5_1 : Int).toNat * 6 + 1, none⟩ = some (.int .i64 ((rd_T50 y243 x5_1).f1)) := hcc7005 1 _ rfl; have hx7005_2 : w7004.cell? ⟨go5, (x5_1 : Int).toNat * 6 + 2, none⟩ = some (.string ((rd_T50 y243 x5_1).f2)) := hcc7005 2 _ rfl; have hx7005_3 : w7004.cell? ⟨go5, (x5_1 : Int).toNat * 6 + 3, none⟩ = some (.string ((rd_T50 y243 x5_1).f3)) := hcc7005 3 _ rfl; have hx7005_4 : w7004.cell? ⟨go5, (x5_1 : Int).toNat * 6 + 4, none⟩ = some (.int .i64 ((rd_T50 y243 x5_1).f4)) := hcc7005 4 _ rfl; have hx7005_5 : w7004.cell? ⟨go5, (x5_1 : Int).toNat * 6 + 5, none⟩ = some (.int .i64 ((rd_T50 y243 x5_1).f5)) := hcc7005 5 _ rfl; have hf7005_0 : w7004.frozen? ⟨go5, (x5_1 : Int).toNat * 6, none⟩ = false := hfr7005 0; have hf7005_1 : w7004.frozen? ⟨go5, (x5_1 : Int).toNat * 6 + 1, none⟩ = false := hfr7005 1; have hf7005_2 : w7004.frozen? ⟨go5, (x5_1 : Int).toNat * 6 + 2, none⟩ = false := hfr7005 2; have hf7005_3 : w7004.frozen? ⟨go5, (x5_1 : Int).toNat * 6 + 3, none⟩ = false := hfr7005 3; have hf7005_4 : w7004.frozen? ⟨go5, (x5_1 : Int).toNat * 6 + 4, none⟩ = false := hfr7005 4; have hf7005_5 : w7004.frozen? ⟨go5, (x5_1 : Int).toNat * 6 + 5, none⟩ = false := hfr7005 5; clear hcl7005 hcc7005 hfr7005 hM7005; replace p7005 := eq_true p7005; replace q7005 := eq_true q7005; have HX7006 := Aside0.mk (show Kd.R k50 50 w7004 w0.heap.size (fun k_ => (P0_ k_ ∨ w.heap.size ≤ k_)) (.slice (some ⟨go5, 0, none⟩) x0_1.length co13) y243 from (rz HO_0.out)); obtain ⟨ce7006, hcl7006, hM7006, hcc7006, hfr7006⟩ := Kd.R_elem HX7006.out z50 (x5_1 : Int) (of_decide_eq_true zt4) (by have h_ : (x5_1 : Int) < ((x0_1.length : Int) : Int) := of_decide_eq_true zt4; first | exact h_ | (have e_ := (Kd.R_reads' HO_0.out).1; omega) | simpa using h_); obtain rfl := k50_openM hM7006; have HP7006 := Kd.R_seg HX7006.out (x5_1 : Int) (of_decide_eq_true zt4) (by have h_ : (x5_1 : Int) < ((x0_1.length : Int) : Int) := of_decide_eq_true zt4; first | exact h_ | (have e_ := (Kd.R_reads' HO_0.out).1; omega) | simpa using h_) (seg := [.string t244]) (j := 2) hcl7006 hcc7006 (show 3 ≤ 6 from by decide) (x' := (⟨(rd_T50 y243 x5_1).f0, (rd_T50 y243 x5_1).f1, t244, (rd_T50 y243 x5_1).f3, (rd_T50 y243 x5_1).f4, (rd_T50 y243 x5_1).f5⟩ : S50)) (k50_mkM _ _ _ (⟨(rd_T50 y243 x5_1).f0, (rd_T50 y243 x5_1).f1, t244, (rd_T50 y243 x5_1).f3, (rd_T50 y243 x5_1).f4, (rd_T50 y243 x5_1).f5⟩ : S50) ) (fun _ hk => hk); have hx7006_2 := hcc7006 2 _ rfl; (try simp only [show (k50).sz = 6 from rfl, Nat.mul_one, Nat.add_zero] at hx7006_2); have hf7006_2 := hfr7006 2; (try simp only [show (k50).sz = 6 from rfl, Nat.mul_one, Nat.add_zero] at hf7006_2); clear hcl7006 hcc7006 hfr7006 hM7006) | ((with_reducible refine gate_store (t := 3) (p := 16) rfl ?_); refine store_event (t := 3) (p := 16) (v := ?vo_w7000) (w1 := (wr.setCell ⟨go5, (x5_1 : Int).toNat * 6, none⟩ (.int .i64 x1_1))) ?hg ?ho ?hn ?hr ?_; (case ho => rfl); (case hg => rfl); (case hn => rfl); (case hr => first | (go_simp; done) | (go_simp; rfl)); intro w7000 hw; have hg : wr.grownBy w7000 (some go5) := (by rw [hw]; exact HP14.2); have hp_ : Kd.R k50 50 w7000 w0.heap.size (fun k_ => (P0_ k_ ∨ w.heap.size ≤ k_)) (.slice (some ⟨go5, 0, none⟩) x0_1.length co13) y242 := (by rw [hw, Ny242.out]; exact HP14.1); clear HP14; have n0_ := Aside0.mk (hp_); have n1_ := Aside0.mk ((zt41 : Below w0.heap.size w0 w7000)); have n2_ := Aside0.mk (Kept.of_grown (S := (fun k_ => P0_ k_)) hg zt7 (fun k_ e_ => (HO_0.out.1 k_ e_))); clear HO_0; clear HB; clear HK; have HO_0 := n0_; have HB := n1_; have HK := n2_; clear n0_ n1_ n2_; clear hg hw hp_; have p7001 : 0 ≤ (x5_1 : Int) := of_decide_eq_true zt4; have q7001 : (x5_1 : Int) < ((x0_1.length : Int) : Int) := of_decide_eq_true zt4; obtain ⟨ce7001, hcl7001, hM7001, hcc7001, hfr7001⟩ := Kd.R_elem HO_0.out z50 (x5_1 : Int) p7001 q7001; obtain rfl := k50_openM hM7001; have hx7001_0 : w7000.cell? ⟨go5, (x5_1 : Int).toNat * 6, none⟩ = some (.int .i64 ((rd_T50 y242 x5_1).f0)) := hcc7001 0 _ rfl; have hx7001_1 : w7000.cell? ⟨go5, (x5_1 : Int).toNat * 6 + 1, none⟩ = some (.int .i64 ((rd_T50 y242 x5_1).f1)) := hcc7001 1 _ rfl; have hx7001_2 : w7000.cell? ⟨go5, (x5_1 : Int).toNat * 6 + 2, none⟩ = some (.string ((rd_T50 y242 x5_1).f2)) := hcc7001 2 _ rfl; have hx7001_3 : w7000.cell? ⟨go5, (x5_1 : Int).toNat * 6 + 3, none⟩ = some (.string ((rd_T50 y242 x5_1).f3)) := hcc7001 3 _ rfl; have hx7001_4 : w7000.cell? ⟨go5, (x5_1 : Int).toNat * 6 + 4, none⟩ = some (.int .i64 ((rd_T50 y242 x5_1).f4)) := hcc7001 4 _ rfl; have hx7001_5 : w7000.cell? ⟨go5, (x5_1 : Int).toNat * 6 + 5, none⟩ = some (.int .i64 ((rd_T50 y242 x5_1).f5)) := hcc7001 5 _ rfl; have hf7001_0 : w7000.frozen? ⟨go5, (x5_1 : Int).toNat * 6, none⟩ = false := hfr7001 0; have hf7001_1 : w7000.frozen? ⟨go5, (x5_1 : Int).toNat * 6 + 1, none⟩ = false := hfr7001 1; have hf7001_2 : w7000.frozen? ⟨go5, (x5_1 : Int).toNat * 6 + 2, none⟩ = false := hfr7001 2; have hf7001_3 : w7000.frozen? ⟨go5, (x5_1 : Int).toNat * 6 + 3, none⟩ = false := hfr7001 3; have hf7001_4 : w7000.frozen? ⟨go5, (x5_1 : Int).toNat * 6 + 4, none⟩ = false := hfr7001 4; have hf7001_5 : w7000.frozen? ⟨go5, (x5_1 : Int).toNat * 6 + 5, none⟩ = false := hfr7001 5; clear hcl7001 hcc7001 hfr7001 hM7001; replace p7001 := eq_true p7001; replace q7001 := eq_true q7001; have HX7002 := Aside0.mk (show Kd.R k50 50 w7000 w0.heap.size (fun k_ => (P0_ k_ ∨ w.heap.size ≤ k_)) (.slice (some ⟨go5, 0, none⟩) x0_1.length co13) y242 from (rz HO_0.out)); obtain ⟨ce7002, hcl7002, hM7002, hcc7002, hfr7002⟩ := Kd.R_elem HX7002.out z50 (x5_1 : Int) (of_decide_eq_true zt4) (by have h_ : (x5_1 : Int) < ((x0_1.length : Int) : Int) := of_decide_eq_true zt4; first | exact h_ | (have e_ := (Kd.R_reads' HO_0.out).1; omega) | simpa using h_); obtain rfl := k50_openM hM7002; have HP7002 := Kd.R_seg HX7002.out (x5_1 : Int) (of_decide_eq_true zt4) (by have h_ : (x5_1 : Int) < ((x0_1.length : Int) : Int) := of_decide_eq_true zt4; first | exact h_ | (have e_ := (Kd.R_reads' HO_0.out).1; omega) | simpa using h_) (seg := [.int .i64 (wrap64 (x1_1 + 1))]) (j := 1) hcl7002 hcc7002 (show 2 ≤ 6 from by decide) (x' := (⟨(rd_T50 y242 x5_1).f0, wrap64 (x1_1 + 1), (rd_T50 y242 x5_1).f2, (rd_T50 y242 x5_1).f3, (rd_T50 y242 x5_1).f4, (rd_T50 y242 x5_1).f5⟩ : S50)) (k50_mkM _ _ _ (⟨(rd_T50 y242 x5_1).f0, wrap64 (x1_1 + 1), (rd_T50 y242 x5_1).f2, (rd_T50 y242 x5_1).f3, (rd_T50 y242 x5_1).f4, (rd_T50 y242 x5_1).f5⟩ : S50) ) (fun _ hk => hk); have hx7002_1 := hcc7002 1 _ rfl; (try simp only [show (k50).sz = 6 from rfl, Nat.mul_one, Nat.add_zero] at hx7002_1); have hf7002_1 := hfr7002 1; (try simp only [show (k50).sz = 6 from rfl, Nat.mul_one, Nat.add_zero] at hf7002_1); clear hcl7002 hcc7002 hfr7002 hM7002) | ((with_reducible refine gate_store (t := 3) (p := 53) rfl ?_); refine store_event (t := 3) (p := 53) (v := ?vo_w7017) (w1 := (w7014.setCell ⟨go5, (x5_1 : Int).toNat * 6 + 5, none⟩ (.int .i64 (wrap64 ((wrap64 ((wrap64 ((wrap64 ((wrap64 (x1_1 + 1)) + 1)) + 1)) + 1)) + 1))))) ?hg ?ho ?hn ?hr ?_; (case ho => rfl); (case hg => rfl); (case hn => rfl); (case hr => first | (go_simp; done) | (go_simp; rfl)); intro w7017 hw; have hg : w7014.grownBy w7017 (some go5) := (by rw [hw]; exact HP7016.2); have hp_ : Kd.R k50 50 w7017 w0.heap.size (fun k_ => (P0_ k_ ∨ w.heap.size ≤ k_)) (.slice (some ⟨go5, 0, none⟩) x0_1.length co13) y249 := (by rw [hw, Ny249.out]; exact HP7016.1); clear HP7016; have n0_ := Aside0.mk (hp_); have n1_ := Aside0.mk ((zt41 : Below w0.heap.size w0 w7017)); have n2_ := Aside0.mk (Kept.of_grown (S := (fun k_ => P0_ k_)) hg zt7 (fun k_ e_ => (HO_0.out.1 k_ e_))); clear HO_0; clear HB; clear HK; have HO_0 := n0_; have HB := n1_; have HK := n2_; clear n0_ n1_ n2_; clear hg hw hp_) | ((with_reducible refine gate_store (t := 3) (p := 23) rfl ?_); refine store_event (t := 3) (p := 23) (v := ?vo_w7003) (w1 := (w7000.setCell ⟨go5, (x5_1 : Int).toNat * 6 + 1, none⟩ (.int .i64 (wrap64 (x1_1 + 1))))) ?hg ?ho ?hn ?hr ?_; (case ho => rfl); (case hg => rfl); (case hn => rfl); (case hr => first | (go_simp; done) | (go_simp; rfl)); intro w7003 hw; have hg : w7000.grownBy w7003 (some go5) := (by rw [hw]; exact HP7002.2); have hp_ : Kd.R k50 50 w7003 w0.heap.size (fun k_ => (P0_ k_ ∨ w.heap.size ≤ k_)) (.slice (some ⟨go5, 0, none⟩) x0_1.length co13) y243 := (by rw [hw, Ny243.out]; exact HP7002.1); clear HP7002; have n0_ := Aside0.mk (hp_); have n1_ := Aside0.mk ((zt41 : Below w0.heap.size w0 w7003)); have n2_ := Aside0.mk (Kept.of_grown (S := (fun k_ => P0_ k_)) hg zt7 (fun k_ e_ => (HO_0.out.1 k_ e_))); clear HO_0; clear HB; clear HK; have HO_0 := n0_; have HB := n1_; have HK := n2_; clear n0_ n1_ n2_; clear hg hw hp_) | ((with_reducible refine gate_store (t := 9) (p := 31) rfl ?_); refine store_event (t := 9) (p := 31) (v := ?vo_w7007) (w1 := (w7004.setCell ⟨go5, (x5_1 : Int).toNat * 6 + 2, none⟩ (.string t244))) ?hg ?ho ?hn ?hr ?_; (case ho => rfl); (case hg => rfl); (case hn => rfl); (case hr => first | (go_simp; done) | (go_simp; rfl)); intro w7007 hw; have hg : w7004.grownBy w7007 (some go5) := (by rw [hw]; exact HP7006.2); have hp_ : Kd.R k50 50 w7007 w0.heap.size (fun k_ => (P0_ k_ ∨ w.heap.size ≤ k_)) (.slice (some ⟨go5, 0, none⟩) x0_1.length co13) y245 := (by rw [hw, Ny245.out]; exact HP7006.1); clear HP7006; have n0_ := Aside0.mk (hp_); have n1_ := Aside0.mk ((zt41 : Below w0.heap.size w0 w7007)); have n2_ := Aside0.mk (Kept.of_grown (S := (fun k_ => P0_ k_)) hg zt7 (fun k_ e_ => (HO_0.out.1 k_ e_))); clear HO_0; clear HB; clear HK; have HO_0 := n0_; have HB := n1_; have HK := n2_; clear n0_ n1_ n2_; clear hg hw hp_)); first | go_quiet (fail) | (go_roundg k1; (case measure => have := HK1.out; omega); (case rel => exact ⟨(y249), (wrap64 ((wrap64 ((wrap64 ((wrap64 ((wrap64 ((wrap64 (x1_1 + 1)) + 1)) + 1)) + 1)) + 1)) + 1)), (wrap64 (x5_1 + 1)), zt9, zt9, H', ⟨by have := HK1.out; omega⟩, ⟨zt14⟩, ⟨zt7⟩, ⟨zt3⟩⟩)) | (go_ret; exact ⟨zt8, zt42, zt3, zt7⟩))

/-! ### laws_markMod: function 12 -/
def laws_markMod.f (k : Nat) (l0_0 : List ByteArray) (l0_1 : List (S73)) (l0_2 : List (S55)) (l0_3 : List (S53)) (l0_4 : List (S50)) (a1 : Int) : Option (Int × List ByteArray × (List (S73)) × (List (S55)) × (List (S53)) × (List (S50))) := (laws_markStringS.f k l0_0 a1).bind fun bt251 => ((laws_markImpS.f k l0_1 bt251.1).bind fun bt253 => ((laws_markExpS.f k l0_2 bt253.1).bind fun bt255 => ((laws_markStmtS.f k l0_3 bt255.1).bind fun bt257 => ((laws_markExprS.f k l0_4 bt257.1).bind fun bt259 => (some (bt259.1, bt251.2, bt253.2, bt255.2, bt257.2, bt259.2))))))
theorem laws_markMod.mono : ∀ a0 a1 a2 a3 a4 a5 k, LeO (laws_markMod.f k a0 a1 a2 a3 a4 a5) (laws_markMod.f (k + 1) a0 a1 a2 a3 a4 a5) := by
 intro a0 a1 a2 a3 a4 a5 k
 unfold laws_markMod.f
 repeat' first
   | (with_reducible exact laws_markExpS.mono _ _ _)
   | (with_reducible exact laws_markExprS.mono _ _ _)
   | (with_reducible exact laws_markImpS.mono _ _ _)
   | (with_reducible exact laws_markStmtS.mono _ _ _)
   | (with_reducible exact laws_markStringS.mono _ _ _)
   | (with_reducible exact LeO.refl _)
   | (with_reducible exact LeO.none _)
   | (with_reducible refine LeO.ite ?_ ?_)
   | (with_reducible refine LeO.bind ?_ (fun _ => ?_))
   | exact laws_markExpS.mono _ _ _
   | exact laws_markExprS.mono _ _ _
   | exact laws_markImpS.mono _ _ _
   | exact laws_markStmtS.mono _ _ _
   | exact laws_markStringS.mono _ _ _
   | exact LeO.none _
   | refine LeO.ite ?_ ?_
   | refine LeO.bind ?_ (fun _ => ?_)
set_option maxHeartbeats 8000000 in
set_option maxRecDepth 100000 in
theorem laws_markMod.calls (k : Nat) (P0_0_ : Nat → Prop) (u9000_ : Value) (l0_0 : List ByteArray) (P0_1_ : Nat → Prop) (u9001_ : Value) (l0_1 : List (S73)) (P0_2_ : Nat → Prop) (u9002_ : Value) (l0_2 : List (S55)) (P0_3_ : Nat → Prop) (u9003_ : Value) (l0_3 : List (S53)) (P0_4_ : Nat → Prop) (u9004_ : Value) (l0_4 : List (S50)) (a1 : Int) (r1 : Int) (r2 : List ByteArray) (r3 : List (S73)) (r4 : List (S55)) (r5 : List (S53)) (r6 : List (S50)) (w0 w : World) (hB : Below w0.heap.size w0 w) (ho0_0 : Kd.R Kd.string 9 w w0.heap.size P0_0_ u9000_ l0_0) (ho0_1 : Kd.R k73 73 w w0.heap.size P0_1_ u9001_ l0_1) (ho0_2 : Kd.R k55 55 w w0.heap.size P0_2_ u9002_ l0_2) (ho0_3 : Kd.R k53 53 w w0.heap.size P0_3_ u9003_ l0_3) (ho0_4 : Kd.R k50 50 w w0.heap.size P0_4_ u9004_ l0_4) (h : laws_markMod.f k l0_0 l0_1 l0_2 l0_3 l0_4 a1 = some (r1, r2, r3, r4, r5, r6)) :
  Calls Try.prog 12 #[.agg #[u9000_, u9001_, u9002_, u9003_, u9004_], .int .i64 a1] w fun e w' => e = .returned (.int .i64 r1) ∧ Kd.R Kd.string 9 w' w0.heap.size (fun k_ => ((P0_0_ k_ ∨ P0_1_ k_ ∨ P0_2_ k_ ∨ P0_3_ k_ ∨ P0_4_ k_) ∨ w.heap.size ≤ k_)) u9000_ r2 ∧ Kd.R k73 73 w' w0.heap.size (fun k_ => ((P0_0_ k_ ∨ P0_1_ k_ ∨ P0_2_ k_ ∨ P0_3_ k_ ∨ P0_4_ k_) ∨ w.heap.size ≤ k_)) u9001_ r3 ∧ Kd.R k55 55 w' w0.heap.size (fun k_ => ((P0_0_ k_ ∨ P0_1_ k_ ∨ P0_2_ k_ ∨ P0_3_ k_ ∨ P0_4_ k_) ∨ w.heap.size ≤ k_)) u9002_ r4 ∧ Kd.R k53 53 w' w0.heap.size (fun k_ => ((P0_0_ k_ ∨ P0_1_ k_ ∨ P0_2_ k_ ∨ P0_3_ k_ ∨ P0_4_ k_) ∨ w.heap.size ≤ k_)) u9003_ r5 ∧ Kd.R k50 50 w' w0.heap.size (fun k_ => ((P0_0_ k_ ∨ P0_1_ k_ ∨ P0_2_ k_ ∨ P0_3_ k_ ∨ P0_4_ k_) ∨ w.heap.size ≤ k_)) u9004_ r6 ∧ Below w0.heap.size w0 w' ∧ Kept w w' (fun k_ => P0_0_ k_ ∨ P0_1_ k_ ∨ P0_2_ k_ ∨ P0_3_ k_ ∨ P0_4_ k_) := by
 have hu36 := Try.underlying36
 have HO0_0 := Aside0.mk (show Kd.R Kd.string 9 w w0.heap.size (fun k_ => ((P0_0_ k_ ∨ P0_1_ k_ ∨ P0_2_ k_ ∨ P0_3_ k_ ∨ P0_4_ k_) ∨ w.heap.size ≤ k_)) u9000_ l0_0 from Kd.R_mono ho0_0 (fun k_ hk => (.inl (.inl hk))))
 have HO0_1 := Aside0.mk (show Kd.R k73 73 w w0.heap.size (fun k_ => ((P0_0_ k_ ∨ P0_1_ k_ ∨ P0_2_ k_ ∨ P0_3_ k_ ∨ P0_4_ k_) ∨ w.heap.size ≤ k_)) u9001_ l0_1 from Kd.R_mono ho0_1 (fun k_ hk => (.inl (.inr (.inl hk)))))
 have HO0_2 := Aside0.mk (show Kd.R k55 55 w w0.heap.size (fun k_ => ((P0_0_ k_ ∨ P0_1_ k_ ∨ P0_2_ k_ ∨ P0_3_ k_ ∨ P0_4_ k_) ∨ w.heap.size ≤ k_)) u9002_ l0_2 from Kd.R_mono ho0_2 (fun k_ hk => (.inl (.inr (.inr (.inl hk))))))
 have HO0_3 := Aside0.mk (show Kd.R k53 53 w w0.heap.size (fun k_ => ((P0_0_ k_ ∨ P0_1_ k_ ∨ P0_2_ k_ ∨ P0_3_ k_ ∨ P0_4_ k_) ∨ w.heap.size ≤ k_)) u9003_ l0_3 from Kd.R_mono ho0_3 (fun k_ hk => (.inl (.inr (.inr (.inr (.inl hk)))))))
 have HO0_4 := Aside0.mk (show Kd.R k50 50 w w0.heap.size (fun k_ => ((P0_0_ k_ ∨ P0_1_ k_ ∨ P0_2_ k_ ∨ P0_3_ k_ ∨ P0_4_ k_) ∨ w.heap.size ≤ k_)) u9004_ l0_4 from Kd.R_mono ho0_4 (fun k_ hk => (.inl (.inr (.inr (.inr (.inr hk)))))))
 have HK := Aside0.mk (Kept.refl w (fun k_ => P0_0_ k_ ∨ P0_1_ k_ ∨ P0_2_ k_ ∨ P0_3_ k_ ∨ P0_4_ k_))
 have HW0 := Aside0.mk hB.size
 have HB := Aside0.mk hB
 clear hB
 have H : ((laws_markStringS.f k l0_0 a1).bind fun bt251 => ((laws_markImpS.f k l0_1 bt251.1).bind fun bt253 => ((laws_markExpS.f k l0_2 bt253.1).bind fun bt255 => ((laws_markStmtS.f k l0_3 bt255.1).bind fun bt257 => ((laws_markExprS.f k l0_4 bt257.1).bind fun bt259 => (some (bt259.1, bt251.2, bt253.2, bt255.2, bt257.2, bt259.2))))))) = some (r1, r2, r3, r4, r5, r6) := h
 clear h
 replace H := Option.bind_eq_some_iff.mp H
 obtain ⟨⟨t251, t252⟩, A30, H⟩ := H
 replace H : ((laws_markImpS.f k l0_1 t251).bind fun bt253 => ((laws_markExpS.f k l0_2 bt253.1).bind fun bt255 => ((laws_markStmtS.f k l0_3 bt255.1).bind fun bt257 => ((laws_markExprS.f k l0_4 bt257.1).bind fun bt259 => (some (bt259.1, t252, bt253.2, bt255.2, bt257.2, bt259.2)))))) = some (r1, r2, r3, r4, r5, r6) := H
 have A3 := Aside0.mk A30
 clear A30
 replace H := Option.bind_eq_some_iff.mp H
 obtain ⟨⟨t253, t254⟩, A40, H⟩ := H
 replace H : ((laws_markExpS.f k l0_2 t253).bind fun bt255 => ((laws_markStmtS.f k l0_3 bt255.1).bind fun bt257 => ((laws_markExprS.f k l0_4 bt257.1).bind fun bt259 => (some (bt259.1, t252, t254, bt255.2, bt257.2, bt259.2))))) = some (r1, r2, r3, r4, r5, r6) := H
 have A4 := Aside0.mk A40
 clear A40
 replace H := Option.bind_eq_some_iff.mp H
 obtain ⟨⟨t255, t256⟩, A50, H⟩ := H
 replace H : ((laws_markStmtS.f k l0_3 t255).bind fun bt257 => ((laws_markExprS.f k l0_4 bt257.1).bind fun bt259 => (some (bt259.1, t252, t254, t256, bt257.2, bt259.2)))) = some (r1, r2, r3, r4, r5, r6) := H
 have A5 := Aside0.mk A50
 clear A50
 replace H := Option.bind_eq_some_iff.mp H
 obtain ⟨⟨t257, t258⟩, A60, H⟩ := H
 replace H : ((laws_markExprS.f k l0_4 t257).bind fun bt259 => (some (bt259.1, t252, t254, t256, t258, bt259.2))) = some (r1, r2, r3, r4, r5, r6) := H
 have A6 := Aside0.mk A60
 clear A60
 replace H := Option.bind_eq_some_iff.mp H
 obtain ⟨⟨t259, t260⟩, A70, H⟩ := H
 replace H : (some (t259, t252, t254, t256, t258, t260)) = some (r1, r2, r3, r4, r5, r6) := H
 have A7 := Aside0.mk A70
 clear A70
 simp only [Option.some.injEq, Prod.mk.injEq] at H
 obtain ⟨rfl, rfl, rfl, rfl, rfl, rfl⟩ := H
 obtain ⟨Ao8, co8, eo8⟩ := Kd.R_slice HO0_0.out
 subst eo8
 obtain ⟨Ao9, co9, eo9⟩ := Kd.R_slice HO0_1.out
 subst eo9
 obtain ⟨Ao10, co10, eo10⟩ := Kd.R_slice HO0_2.out
 subst eo10
 obtain ⟨Ao11, co11, eo11⟩ := Kd.R_slice HO0_3.out
 subst eo11
 obtain ⟨Ao12, co12, eo12⟩ := Kd.R_slice HO0_4.out
 subst eo12
 go_enter Try.func12, Try.ntmps12
 go_wp2_with (first | ((with_reducible refine gate_dst (N := 2) rfl ?_); refine box_event ?hg (N := 2) ?hd (cs := #[.slice Ao8 l0_0.length co8, .slice Ao9 l0_1.length co9, .slice Ao10 l0_2.length co10, .slice Ao11 l0_3.length co11, .slice Ao12 l0_4.length co12]) (t := 36) ?hr ?_; (case hd => rfl); (case hg => rfl); (case hr => first | (go_simp; done) | (go_simp; rfl)); intro gb250 hg w13 hbox hb; have n0_ := Aside0.mk (Kd.R_below (rz HO0_0.out) hb); have n1_ := Aside0.mk (Kd.R_below (rz HO0_1.out) hb); have n2_ := Aside0.mk (Kd.R_below (rz HO0_2.out) hb); have n3_ := Aside0.mk (Kd.R_below (rz HO0_3.out) hb); have n4_ := Aside0.mk (Kd.R_below (rz HO0_4.out) hb); have n5_ := Aside0.mk (Kept.below (S := (fun k_ => P0_0_ k_ ∨ P0_1_ k_ ∨ P0_2_ k_ ∨ P0_3_ k_ ∨ P0_4_ k_)) zt7 hb); have n6_ := Aside0.mk (below_step zt3 hb); have n7_ := Aside0.mk (hbox); have n8_ := Aside0.mk ((by rw [hg]; exact (by first | exact HK.out.1 | exact (show Kept w _ (fun k_ => P0_0_ k_ ∨ P0_1_ k_ ∨ P0_2_ k_ ∨ P0_3_ k_ ∨ P0_4_ k_) from zt7).1) : w.heap.size ≤ gb250)); have n9_ := Aside0.mk ((zt6 : w0.heap.size ≤ gb250)); clear HO0_0; clear HO0_1; clear HO0_2; clear HO0_3; clear HO0_4; clear HK; clear HB; have HO0_0 := n0_; have HO0_1 := n1_; have HO0_2 := n2_; have HO0_3 := n3_; have HO0_4 := n4_; have HK := n5_; have HB := n6_; have BK250 := n7_; have GW250 := n8_; have GE250 := n9_; clear n0_ n1_ n2_ n3_ n4_ n5_ n6_ n7_ n8_ n9_; clear hb hbox hg; have hcz14_0 : w13.cell? ⟨gb250, 0, none⟩ = some (.slice Ao8 l0_0.length co8) := (blk_cell BK250.out 0).trans rfl; have hcz14_1 : w13.cell? ⟨gb250, 1, none⟩ = some (.slice Ao9 l0_1.length co9) := (blk_cell BK250.out 1).trans rfl; have hcz14_2 : w13.cell? ⟨gb250, 2, none⟩ = some (.slice Ao10 l0_2.length co10) := (blk_cell BK250.out 2).trans rfl; have hcz14_3 : w13.cell? ⟨gb250, 3, none⟩ = some (.slice Ao11 l0_3.length co11) := (blk_cell BK250.out 3).trans rfl; have hcz14_4 : w13.cell? ⟨gb250, 4, none⟩ = some (.slice Ao12 l0_4.length co12) := (blk_cell BK250.out 4).trans rfl; have hfz14_0 := blk_frozen BK250.out 0; have hfz14_1 := blk_frozen BK250.out 1; have hfz14_2 := blk_frozen BK250.out 2; have hfz14_3 := blk_frozen BK250.out 3; have hfz14_4 := blk_frozen BK250.out 4) | ((with_reducible refine gate_callee (f := 13) rfl ?_); refine goesL_ (some 8) rfl rfl Try.func13 (by kernel_rfl) rfl #[.slice Ao8 l0_0.length co8, .int .i64 a1] rfl zt5 ?_; (with_reducible refine (laws_markStringS.calls k (fun k_ => some k_ = (.slice Ao8 l0_0.length co8 : Value).ownBlock) (.slice Ao8 l0_0.length co8) l0_0 a1 t251 t252 w0 _ ?side1 ?side2 A3.out).mono ?_); (case side1 => exact zt35); (case side2 => exact Kd.R_tight rfl HO0_0.out); rintro e w15 ⟨rfl, hy0, hb, hkp⟩; refine ⟨_, rfl, ?_⟩; have n0_ := Aside0.mk (Kd.R_reok rfl hy0 (fun k_ e_ => HO0_0.out.1 k_ e_)); have n1_ := Aside0.mk (Kd.R_mono (ok' := fun k_ => ((P0_0_ k_ ∨ P0_1_ k_ ∨ P0_2_ k_ ∨ P0_3_ k_ ∨ P0_4_ k_) ∨ w.heap.size ≤ k_)) (Kd.R_keptB ((Kd.R_apart' HO0_1.out (Kd.R_typed HO0_0.out) (by decide))) hkp (fun k_ hk_ hs_ => (hk_.2) hs_)) (fun k_ hk_ => hk_.1.1)); have n2_ := Aside0.mk (Kd.R_mono (ok' := fun k_ => ((P0_0_ k_ ∨ P0_1_ k_ ∨ P0_2_ k_ ∨ P0_3_ k_ ∨ P0_4_ k_) ∨ w.heap.size ≤ k_)) (Kd.R_keptB ((Kd.R_apart' HO0_2.out (Kd.R_typed HO0_0.out) (by decide))) hkp (fun k_ hk_ hs_ => (hk_.2) hs_)) (fun k_ hk_ => hk_.1.1)); have n3_ := Aside0.mk (Kd.R_mono (ok' := fun k_ => ((P0_0_ k_ ∨ P0_1_ k_ ∨ P0_2_ k_ ∨ P0_3_ k_ ∨ P0_4_ k_) ∨ w.heap.size ≤ k_)) (Kd.R_keptB ((Kd.R_apart' HO0_3.out (Kd.R_typed HO0_0.out) (by decide))) hkp (fun k_ hk_ hs_ => (hk_.2) hs_)) (fun k_ hk_ => hk_.1.1)); have n4_ := Aside0.mk (Kd.R_mono (ok' := fun k_ => ((P0_0_ k_ ∨ P0_1_ k_ ∨ P0_2_ k_ ∨ P0_3_ k_ ∨ P0_4_ k_) ∨ w.heap.size ≤ k_)) (Kd.R_keptB ((Kd.R_apart' HO0_4.out (Kd.R_typed HO0_0.out) (by decide))) hkp (fun k_ hk_ hs_ => (hk_.2) hs_)) (fun k_ hk_ => hk_.1.1)); have n5_ := Aside0.mk (blk_kept (oz BK250.out) hkp (fun hs_ => (fun e_ => (Kd.R_ne HO0_0.out BK250.out (by decide)) e_) hs_)); have n6_ := Aside0.mk (Kept.then_ (S := (fun k_ => P0_0_ k_ ∨ P0_1_ k_ ∨ P0_2_ k_ ∨ P0_3_ k_ ∨ P0_4_ k_)) zt34 hkp (fun k_ hs_ => (fun e_ => (HO0_0.out.1 k_ e_.symm)) hs_)); have n7_ := Aside0.mk (hb); clear HO0_0; clear HO0_1; clear HO0_2; clear HO0_3; clear HO0_4; clear BK250; clear HK; clear HB; have HO0_0 := n0_; have HO0_1 := n1_; have HO0_2 := n2_; have HO0_3 := n3_; have HO0_4 := n4_; have BK250 := n5_; have HK := n6_; have HB := n7_; clear n0_ n1_ n2_ n3_ n4_ n5_ n6_ n7_; (try clear hb); (try clear hkp); (try clear hy0); have hcz16_0 : w15.cell? ⟨gb250, 0, none⟩ = some (.slice Ao8 l0_0.length co8) := (blk_cell BK250.out 0).trans rfl; have hcz16_1 : w15.cell? ⟨gb250, 1, none⟩ = some (.slice Ao9 l0_1.length co9) := (blk_cell BK250.out 1).trans rfl; have hcz16_2 : w15.cell? ⟨gb250, 2, none⟩ = some (.slice Ao10 l0_2.length co10) := (blk_cell BK250.out 2).trans rfl; have hcz16_3 : w15.cell? ⟨gb250, 3, none⟩ = some (.slice Ao11 l0_3.length co11) := (blk_cell BK250.out 3).trans rfl; have hcz16_4 : w15.cell? ⟨gb250, 4, none⟩ = some (.slice Ao12 l0_4.length co12) := (blk_cell BK250.out 4).trans rfl; have hfz16_0 := blk_frozen BK250.out 0; have hfz16_1 := blk_frozen BK250.out 1; have hfz16_2 := blk_frozen BK250.out 2; have hfz16_3 := blk_frozen BK250.out 3; have hfz16_4 := blk_frozen BK250.out 4) | ((with_reducible refine gate_callee (f := 41) rfl ?_); refine goesL_ (some 12) rfl rfl Try.func41 (by kernel_rfl) rfl #[.slice Ao9 l0_1.length co9, .int .i64 t251] rfl zt5 ?_; (with_reducible refine (laws_markImpS.calls k (fun k_ => some k_ = (.slice Ao9 l0_1.length co9 : Value).ownBlock) (.slice Ao9 l0_1.length co9) l0_1 t251 t253 t254 w0 _ ?side1 ?side2 A4.out).mono ?_); (case side1 => exact zt35); (case side2 => exact Kd.R_tight rfl HO0_1.out); rintro e w17 ⟨rfl, hy0, hb, hkp⟩; refine ⟨_, rfl, ?_⟩; have n0_ := Aside0.mk (Kd.R_mono (ok' := fun k_ => ((P0_0_ k_ ∨ P0_1_ k_ ∨ P0_2_ k_ ∨ P0_3_ k_ ∨ P0_4_ k_) ∨ w.heap.size ≤ k_)) (Kd.R_keptB ((Kd.R_apart' HO0_0.out (Kd.R_typed HO0_1.out) (by decide))) hkp (fun k_ hk_ hs_ => (hk_.2) hs_)) (fun k_ hk_ => hk_.1.1)); have n1_ := Aside0.mk (Kd.R_reok rfl hy0 (fun k_ e_ => HO0_1.out.1 k_ e_)); have n2_ := Aside0.mk (Kd.R_mono (ok' := fun k_ => ((P0_0_ k_ ∨ P0_1_ k_ ∨ P0_2_ k_ ∨ P0_3_ k_ ∨ P0_4_ k_) ∨ w.heap.size ≤ k_)) (Kd.R_keptB ((Kd.R_apart' HO0_2.out (Kd.R_typed HO0_1.out) (by decide))) hkp (fun k_ hk_ hs_ => (hk_.2) hs_)) (fun k_ hk_ => hk_.1.1)); have n3_ := Aside0.mk (Kd.R_mono (ok' := fun k_ => ((P0_0_ k_ ∨ P0_1_ k_ ∨ P0_2_ k_ ∨ P0_3_ k_ ∨ P0_4_ k_) ∨ w.heap.size ≤ k_)) (Kd.R_keptB ((Kd.R_apart' HO0_3.out (Kd.R_typed HO0_1.out) (by decide))) hkp (fun k_ hk_ hs_ => (hk_.2) hs_)) (fun k_ hk_ => hk_.1.1)); have n4_ := Aside0.mk (Kd.R_mono (ok' := fun k_ => ((P0_0_ k_ ∨ P0_1_ k_ ∨ P0_2_ k_ ∨ P0_3_ k_ ∨ P0_4_ k_) ∨ w.heap.size ≤ k_)) (Kd.R_keptB ((Kd.R_apart' HO0_4.out (Kd.R_typed HO0_1.out) (by decide))) hkp (fun k_ hk_ hs_ => (hk_.2) hs_)) (fun k_ hk_ => hk_.1.1)); have n5_ := Aside0.mk (blk_kept (oz BK250.out) hkp (fun hs_ => (fun e_ => (Kd.R_ne HO0_1.out BK250.out (by decide)) e_) hs_)); have n6_ := Aside0.mk (Kept.then_ (S := (fun k_ => P0_0_ k_ ∨ P0_1_ k_ ∨ P0_2_ k_ ∨ P0_3_ k_ ∨ P0_4_ k_)) zt34 hkp (fun k_ hs_ => (fun e_ => (HO0_1.out.1 k_ e_.symm)) hs_)); have n7_ := Aside0.mk (hb); clear HO0_0; clear HO0_1; clear HO0_2; clear HO0_3; clear HO0_4; clear BK250; clear HK; clear HB; have HO0_0 := n0_; have HO0_1 := n1_; have HO0_2 := n2_; have HO0_3 := n3_; have HO0_4 := n4_; have BK250 := n5_; have HK := n6_; have HB := n7_; clear n0_ n1_ n2_ n3_ n4_ n5_ n6_ n7_; (try clear hb); (try clear hkp); (try clear hy0); have hcz18_0 : w17.cell? ⟨gb250, 0, none⟩ = some (.slice Ao8 l0_0.length co8) := (blk_cell BK250.out 0).trans rfl; have hcz18_1 : w17.cell? ⟨gb250, 1, none⟩ = some (.slice Ao9 l0_1.length co9) := (blk_cell BK250.out 1).trans rfl; have hcz18_2 : w17.cell? ⟨gb250, 2, none⟩ = some (.slice Ao10 l0_2.length co10) := (blk_cell BK250.out 2).trans rfl; have hcz18_3 : w17.cell? ⟨gb250, 3, none⟩ = some (.slice Ao11 l0_3.length co11) := (blk_cell BK250.out 3).trans rfl; have hcz18_4 : w17.cell? ⟨gb250, 4, none⟩ = some (.slice Ao12 l0_4.length co12) := (blk_cell BK250.out 4).trans rfl; have hfz18_0 := blk_frozen BK250.out 0; have hfz18_1 := blk_frozen BK250.out 1; have hfz18_2 := blk_frozen BK250.out 2; have hfz18_3 := blk_frozen BK250.out 3; have hfz18_4 := blk_frozen BK250.out 4) | ((with_reducible refine gate_callee (f := 42) rfl ?_); refine goesL_ (some 16) rfl rfl Try.func42 (by kernel_rfl) rfl #[.slice Ao10 l0_2.length co10, .int .i64 t253] rfl zt5 ?_; (with_reducible refine (laws_markExpS.calls k (fun k_ => some k_ = (.slice Ao10 l0_2.length co10 : Value).ownBlock) (.slice Ao10 l0_2.length co10) l0_2 t253 t255 t256 w0 _ ?side1 ?side2 A5.out).mono ?_); (case side1 => exact zt35); (case side2 => exact Kd.R_tight rfl HO0_2.out); rintro e w19 ⟨rfl, hy0, hb, hkp⟩; refine ⟨_, rfl, ?_⟩; have n0_ := Aside0.mk (Kd.R_mono (ok' := fun k_ => ((P0_0_ k_ ∨ P0_1_ k_ ∨ P0_2_ k_ ∨ P0_3_ k_ ∨ P0_4_ k_) ∨ w.heap.size ≤ k_)) (Kd.R_keptB ((Kd.R_apart' HO0_0.out (Kd.R_typed HO0_2.out) (by decide))) hkp (fun k_ hk_ hs_ => (hk_.2) hs_)) (fun k_ hk_ => hk_.1.1)); have n1_ := Aside0.mk (Kd.R_mono (ok' := fun k_ => ((P0_0_ k_ ∨ P0_1_ k_ ∨ P0_2_ k_ ∨ P0_3_ k_ ∨ P0_4_ k_) ∨ w.heap.size ≤ k_)) (Kd.R_keptB ((Kd.R_apart' HO0_1.out (Kd.R_typed HO0_2.out) (by decide))) hkp (fun k_ hk_ hs_ => (hk_.2) hs_)) (fun k_ hk_ => hk_.1.1)); have n2_ := Aside0.mk (Kd.R_reok rfl hy0 (fun k_ e_ => HO0_2.out.1 k_ e_)); have n3_ := Aside0.mk (Kd.R_mono (ok' := fun k_ => ((P0_0_ k_ ∨ P0_1_ k_ ∨ P0_2_ k_ ∨ P0_3_ k_ ∨ P0_4_ k_) ∨ w.heap.size ≤ k_)) (Kd.R_keptB ((Kd.R_apart' HO0_3.out (Kd.R_typed HO0_2.out) (by decide))) hkp (fun k_ hk_ hs_ => (hk_.2) hs_)) (fun k_ hk_ => hk_.1.1)); have n4_ := Aside0.mk (Kd.R_mono (ok' := fun k_ => ((P0_0_ k_ ∨ P0_1_ k_ ∨ P0_2_ k_ ∨ P0_3_ k_ ∨ P0_4_ k_) ∨ w.heap.size ≤ k_)) (Kd.R_keptB ((Kd.R_apart' HO0_4.out (Kd.R_typed HO0_2.out) (by decide))) hkp (fun k_ hk_ hs_ => (hk_.2) hs_)) (fun k_ hk_ => hk_.1.1)); have n5_ := Aside0.mk (blk_kept (oz BK250.out) hkp (fun hs_ => (fun e_ => (Kd.R_ne HO0_2.out BK250.out (by decide)) e_) hs_)); have n6_ := Aside0.mk (Kept.then_ (S := (fun k_ => P0_0_ k_ ∨ P0_1_ k_ ∨ P0_2_ k_ ∨ P0_3_ k_ ∨ P0_4_ k_)) zt34 hkp (fun k_ hs_ => (fun e_ => (HO0_2.out.1 k_ e_.symm)) hs_)); have n7_ := Aside0.mk (hb); clear HO0_0; clear HO0_1; clear HO0_2; clear HO0_3; clear HO0_4; clear BK250; clear HK; clear HB; have HO0_0 := n0_; have HO0_1 := n1_; have HO0_2 := n2_; have HO0_3 := n3_; have HO0_4 := n4_; have BK250 := n5_; have HK := n6_; have HB := n7_; clear n0_ n1_ n2_ n3_ n4_ n5_ n6_ n7_; (try clear hb); (try clear hkp); (try clear hy0); have hcz20_0 : w19.cell? ⟨gb250, 0, none⟩ = some (.slice Ao8 l0_0.length co8) := (blk_cell BK250.out 0).trans rfl; have hcz20_1 : w19.cell? ⟨gb250, 1, none⟩ = some (.slice Ao9 l0_1.length co9) := (blk_cell BK250.out 1).trans rfl; have hcz20_2 : w19.cell? ⟨gb250, 2, none⟩ = some (.slice Ao10 l0_2.length co10) := (blk_cell BK250.out 2).trans rfl; have hcz20_3 : w19.cell? ⟨gb250, 3, none⟩ = some (.slice Ao11 l0_3.length co11) := (blk_cell BK250.out 3).trans rfl; have hcz20_4 : w19.cell? ⟨gb250, 4, none⟩ = some (.slice Ao12 l0_4.length co12) := (blk_cell BK250.out 4).trans rfl; have hfz20_0 := blk_frozen BK250.out 0; have hfz20_1 := blk_frozen BK250.out 1; have hfz20_2 := blk_frozen BK250.out 2; have hfz20_3 := blk_frozen BK250.out 3; have hfz20_4 := blk_frozen BK250.out 4) | ((with_reducible refine gate_callee (f := 43) rfl ?_); refine goesL_ (some 20) rfl rfl Try.func43 (by kernel_rfl) rfl #[.slice Ao11 l0_3.length co11, .int .i64 t255] rfl zt5 ?_; (with_reducible refine (laws_markStmtS.calls k (fun k_ => some k_ = (.slice Ao11 l0_3.length co11 : Value).ownBlock) (.slice Ao11 l0_3.length co11) l0_3 t255 t257 t258 w0 _ ?side1 ?side2 A6.out).mono ?_); (case side1 => exact zt35); (case side2 => exact Kd.R_tight rfl HO0_3.out); rintro e w21 ⟨rfl, hy0, hb, hkp⟩; refine ⟨_, rfl, ?_⟩; have n0_ := Aside0.mk (Kd.R_mono (ok' := fun k_ => ((P0_0_ k_ ∨ P0_1_ k_ ∨ P0_2_ k_ ∨ P0_3_ k_ ∨ P0_4_ k_) ∨ w.heap.size ≤ k_)) (Kd.R_keptB ((Kd.R_apart' HO0_0.out (Kd.R_typed HO0_3.out) (by decide))) hkp (fun k_ hk_ hs_ => (hk_.2) hs_)) (fun k_ hk_ => hk_.1.1)); have n1_ := Aside0.mk (Kd.R_mono (ok' := fun k_ => ((P0_0_ k_ ∨ P0_1_ k_ ∨ P0_2_ k_ ∨ P0_3_ k_ ∨ P0_4_ k_) ∨ w.heap.size ≤ k_)) (Kd.R_keptB ((Kd.R_apart' HO0_1.out (Kd.R_typed HO0_3.out) (by decide))) hkp (fun k_ hk_ hs_ => (hk_.2) hs_)) (fun k_ hk_ => hk_.1.1)); have n2_ := Aside0.mk (Kd.R_mono (ok' := fun k_ => ((P0_0_ k_ ∨ P0_1_ k_ ∨ P0_2_ k_ ∨ P0_3_ k_ ∨ P0_4_ k_) ∨ w.heap.size ≤ k_)) (Kd.R_keptB ((Kd.R_apart' HO0_2.out (Kd.R_typed HO0_3.out) (by decide))) hkp (fun k_ hk_ hs_ => (hk_.2) hs_)) (fun k_ hk_ => hk_.1.1)); have n3_ := Aside0.mk (Kd.R_reok rfl hy0 (fun k_ e_ => HO0_3.out.1 k_ e_)); have n4_ := Aside0.mk (Kd.R_mono (ok' := fun k_ => ((P0_0_ k_ ∨ P0_1_ k_ ∨ P0_2_ k_ ∨ P0_3_ k_ ∨ P0_4_ k_) ∨ w.heap.size ≤ k_)) (Kd.R_keptB ((Kd.R_apart' HO0_4.out (Kd.R_typed HO0_3.out) (by decide))) hkp (fun k_ hk_ hs_ => (hk_.2) hs_)) (fun k_ hk_ => hk_.1.1)); have n5_ := Aside0.mk (blk_kept (oz BK250.out) hkp (fun hs_ => (fun e_ => (Kd.R_ne HO0_3.out BK250.out (by decide)) e_) hs_)); have n6_ := Aside0.mk (Kept.then_ (S := (fun k_ => P0_0_ k_ ∨ P0_1_ k_ ∨ P0_2_ k_ ∨ P0_3_ k_ ∨ P0_4_ k_)) zt34 hkp (fun k_ hs_ => (fun e_ => (HO0_3.out.1 k_ e_.symm)) hs_)); have n7_ := Aside0.mk (hb); clear HO0_0; clear HO0_1; clear HO0_2; clear HO0_3; clear HO0_4; clear BK250; clear HK; clear HB; have HO0_0 := n0_; have HO0_1 := n1_; have HO0_2 := n2_; have HO0_3 := n3_; have HO0_4 := n4_; have BK250 := n5_; have HK := n6_; have HB := n7_; clear n0_ n1_ n2_ n3_ n4_ n5_ n6_ n7_; (try clear hb); (try clear hkp); (try clear hy0); have hcz22_0 : w21.cell? ⟨gb250, 0, none⟩ = some (.slice Ao8 l0_0.length co8) := (blk_cell BK250.out 0).trans rfl; have hcz22_1 : w21.cell? ⟨gb250, 1, none⟩ = some (.slice Ao9 l0_1.length co9) := (blk_cell BK250.out 1).trans rfl; have hcz22_2 : w21.cell? ⟨gb250, 2, none⟩ = some (.slice Ao10 l0_2.length co10) := (blk_cell BK250.out 2).trans rfl; have hcz22_3 : w21.cell? ⟨gb250, 3, none⟩ = some (.slice Ao11 l0_3.length co11) := (blk_cell BK250.out 3).trans rfl; have hcz22_4 : w21.cell? ⟨gb250, 4, none⟩ = some (.slice Ao12 l0_4.length co12) := (blk_cell BK250.out 4).trans rfl; have hfz22_0 := blk_frozen BK250.out 0; have hfz22_1 := blk_frozen BK250.out 1; have hfz22_2 := blk_frozen BK250.out 2; have hfz22_3 := blk_frozen BK250.out 3; have hfz22_4 := blk_frozen BK250.out 4) | ((with_reducible refine gate_callee (f := 44) rfl ?_); refine goesL_ (some 24) rfl rfl Try.func44 (by kernel_rfl) rfl #[.slice Ao12 l0_4.length co12, .int .i64 t257] rfl zt5 ?_; (with_reducible refine (laws_markExprS.calls k (fun k_ => some k_ = (.slice Ao12 l0_4.length co12 : Value).ownBlock) (.slice Ao12 l0_4.length co12) l0_4 t257 t259 t260 w0 _ ?side1 ?side2 A7.out).mono ?_); (case side1 => exact zt35); (case side2 => exact Kd.R_tight rfl HO0_4.out); rintro e w23 ⟨rfl, hy0, hb, hkp⟩; refine ⟨_, rfl, ?_⟩; have n0_ := Aside0.mk (Kd.R_mono (ok' := fun k_ => ((P0_0_ k_ ∨ P0_1_ k_ ∨ P0_2_ k_ ∨ P0_3_ k_ ∨ P0_4_ k_) ∨ w.heap.size ≤ k_)) (Kd.R_keptB ((Kd.R_apart' HO0_0.out (Kd.R_typed HO0_4.out) (by decide))) hkp (fun k_ hk_ hs_ => (hk_.2) hs_)) (fun k_ hk_ => hk_.1.1)); have n1_ := Aside0.mk (Kd.R_mono (ok' := fun k_ => ((P0_0_ k_ ∨ P0_1_ k_ ∨ P0_2_ k_ ∨ P0_3_ k_ ∨ P0_4_ k_) ∨ w.heap.size ≤ k_)) (Kd.R_keptB ((Kd.R_apart' HO0_1.out (Kd.R_typed HO0_4.out) (by decide))) hkp (fun k_ hk_ hs_ => (hk_.2) hs_)) (fun k_ hk_ => hk_.1.1)); have n2_ := Aside0.mk (Kd.R_mono (ok' := fun k_ => ((P0_0_ k_ ∨ P0_1_ k_ ∨ P0_2_ k_ ∨ P0_3_ k_ ∨ P0_4_ k_) ∨ w.heap.size ≤ k_)) (Kd.R_keptB ((Kd.R_apart' HO0_2.out (Kd.R_typed HO0_4.out) (by decide))) hkp (fun k_ hk_ hs_ => (hk_.2) hs_)) (fun k_ hk_ => hk_.1.1)); have n3_ := Aside0.mk (Kd.R_mono (ok' := fun k_ => ((P0_0_ k_ ∨ P0_1_ k_ ∨ P0_2_ k_ ∨ P0_3_ k_ ∨ P0_4_ k_) ∨ w.heap.size ≤ k_)) (Kd.R_keptB ((Kd.R_apart' HO0_3.out (Kd.R_typed HO0_4.out) (by decide))) hkp (fun k_ hk_ hs_ => (hk_.2) hs_)) (fun k_ hk_ => hk_.1.1)); have n4_ := Aside0.mk (Kd.R_reok rfl hy0 (fun k_ e_ => HO0_4.out.1 k_ e_)); have n5_ := Aside0.mk (blk_kept (oz BK250.out) hkp (fun hs_ => (fun e_ => (Kd.R_ne HO0_4.out BK250.out (by decide)) e_) hs_)); have n6_ := Aside0.mk (Kept.then_ (S := (fun k_ => P0_0_ k_ ∨ P0_1_ k_ ∨ P0_2_ k_ ∨ P0_3_ k_ ∨ P0_4_ k_)) zt34 hkp (fun k_ hs_ => (fun e_ => (HO0_4.out.1 k_ e_.symm)) hs_)); have n7_ := Aside0.mk (hb); clear HO0_0; clear HO0_1; clear HO0_2; clear HO0_3; clear HO0_4; clear BK250; clear HK; clear HB; have HO0_0 := n0_; have HO0_1 := n1_; have HO0_2 := n2_; have HO0_3 := n3_; have HO0_4 := n4_; have BK250 := n5_; have HK := n6_; have HB := n7_; clear n0_ n1_ n2_ n3_ n4_ n5_ n6_ n7_; (try clear hb); (try clear hkp); (try clear hy0)))
 go_ret
 exact ⟨zt8, by (with_reducible repeat (first | apply Kd.R_alloc | apply Kd.R_drewN | apply Kd.R_drew)); exact HO0_0.out, by (with_reducible repeat (first | apply Kd.R_alloc | apply Kd.R_drewN | apply Kd.R_drew)); exact HO0_1.out, by (with_reducible repeat (first | apply Kd.R_alloc | apply Kd.R_drewN | apply Kd.R_drew)); exact HO0_2.out, by (with_reducible repeat (first | apply Kd.R_alloc | apply Kd.R_drewN | apply Kd.R_drew)); exact HO0_3.out, by (with_reducible repeat (first | apply Kd.R_alloc | apply Kd.R_drewN | apply Kd.R_drew)); exact HO0_4.out, zt35, zt34⟩

/-! ### spec_l16Named: function 25 -/
def spec_l16Named.f (a0 : Int) : Option (Bool) := if a0 = 2 then (some true) else (if a0 = 3 then (some true) else (if a0 = 4 then (some true) else (some (a0 == 5))))
set_option maxHeartbeats 8000000 in
set_option maxRecDepth 100000 in
theorem spec_l16Named.calls (a0 : Int) (r : Bool) (w : World) (h : spec_l16Named.f a0 = some r) :
  Calls Try.prog 25 #[.int .i64 a0] w fun e w' => e = .returned (.bool r) ∧ Drawn0 w w' := by
 have H : (if a0 = 2 then (some true) else (if a0 = 3 then (some true) else (if a0 = 4 then (some true) else (some (a0 == 5))))) = some r := h
 clear h
 by_cases c2 : a0 = 2
 rw [if_pos c2] at H
 have c2b0 : (a0 == 2) = true := beq_iff_eq.mpr c2
 have c2b1 : (a0 != 2) = false := bne_eq_false_iff_eq.mpr c2
 clear c2
 obtain rfl := Option.some.inj H
 rotate_left
 rw [if_neg c2] at H
 have c2b0 : (a0 == 2) = false := beq_eq_false_iff_ne.mpr c2
 have c2b1 : (a0 != 2) = true := bne_iff_ne.mpr c2
 by_cases c3 : a0 = 3
 rw [if_pos c3] at H
 have c3b0 : (a0 == 3) = true := beq_iff_eq.mpr c3
 have c3b1 : (a0 != 3) = false := bne_eq_false_iff_eq.mpr c3
 clear c3
 obtain rfl := Option.some.inj H
 rotate_left
 rw [if_neg c3] at H
 have c3b0 : (a0 == 3) = false := beq_eq_false_iff_ne.mpr c3
 have c3b1 : (a0 != 3) = true := bne_iff_ne.mpr c3
 by_cases c4 : a0 = 4
 rw [if_pos c4] at H
 have c4b0 : (a0 == 4) = true := beq_iff_eq.mpr c4
 have c4b1 : (a0 != 4) = false := bne_eq_false_iff_eq.mpr c4
 clear c4
 obtain rfl := Option.some.inj H
 rotate_left
 rw [if_neg c4] at H
 have c4b0 : (a0 == 4) = false := beq_eq_false_iff_ne.mpr c4
 have c4b1 : (a0 != 4) = true := bne_iff_ne.mpr c4
 obtain rfl := Option.some.inj H
 rotate_left
 all_goals
  go_enter Try.func25, Try.ntmps25
  repeat (go_wp2; first | go_quiet (fail) | (go_ret; exact ⟨zt9, zt36⟩))

/-! ### spec_l6In: function 46 -/
def spec_l6In.l0 : Nat → List ByteArray → ByteArray → Int → Option (Bool)
 | 0, _, _, _ => none
 | k + 1, x0, x1, x5 => if x5 < (x0.length : Int) then (if 0 ≤ x5 then (if (rdOf ByteArray.empty x0 x5).toList = x1.toList then (some true) else (spec_l6In.l0 k x0 x1 (wrap64 (x5 + 1)))) else (none)) else (some false)
def spec_l6In.f (k : Nat) (l0 : List ByteArray) (a1 : ByteArray) : Option (Bool) := spec_l6In.l0 k l0 a1 0
theorem spec_l6In.mono_l : ∀ k, (∀ y0 y1 y2, LeO (spec_l6In.l0 k y0 y1 y2) (spec_l6In.l0 (k + 1) y0 y1 y2))
 | 0 => fun _ _ _ r h => by simp [spec_l6In.l0] at h
 | k + 1 => by
  have ih0 := spec_l6In.mono_l k
  ·intro y0 y1 y2
   unfold spec_l6In.l0
   repeat' first
   | (with_reducible exact ih0 _ _ _)
   | (with_reducible exact LeO.refl _)
   | (with_reducible exact LeO.none _)
   | (with_reducible refine LeO.ite ?_ ?_)
   | (with_reducible refine LeO.bind ?_ (fun _ => ?_))
   | exact ih0 _ _ _
   | exact LeO.none _
   | refine LeO.ite ?_ ?_
   | refine LeO.bind ?_ (fun _ => ?_)
theorem spec_l6In.mono : ∀ a0 a1 k, LeO (spec_l6In.f k a0 a1) (spec_l6In.f (k + 1) a0 a1) := by
 intro a0 a1 k
 have ih0 := spec_l6In.mono_l k
 unfold spec_l6In.f
 repeat' first
   | (with_reducible exact ih0 _ _ _)
   | (with_reducible exact LeO.refl _)
   | (with_reducible exact LeO.none _)
   | (with_reducible refine LeO.ite ?_ ?_)
   | (with_reducible refine LeO.bind ?_ (fun _ => ?_))
   | exact ih0 _ _ _
   | exact LeO.none _
   | refine LeO.ite ?_ ?_
   | refine LeO.bind ?_ (fun _ => ?_)
set_option maxHeartbeats 8000000 in
set_option maxRecDepth 100000 in
theorem spec_l6In.calls (k : Nat) (A0 : Option Addr) (c0 : Nat) (l0 : List ByteArray) (a1 : ByteArray) (r : Bool) (w : World) (hr0 : Kd.C Kd.string w A0 l0.length l0) (hc0 : l0.length ≤ c0) (h : spec_l6In.f k l0 a1 = some r) :
  Calls Try.prog 46 #[.slice A0 l0.length c0, .string a1] w fun e w' => e = .returned (.bool r) ∧ Drawn0 w w' := by
 have HR0 := Aside0.mk hr0
 have HC0 := Aside0.mk hc0
 clear hr0 hc0
 have H : (spec_l6In.l0 k l0 a1 0) = some r := h
 clear h
 have H' := Aside0.mk H
 clear H
 go_enter Try.func46, Try.ntmps46
 go_wp2
 go_loopg [5] k (fun kq v5 w' => ∃ (x5_1 : Int), v5 = .int .i64 x5_1 ∧ Aside0 (spec_l6In.l0 kq l0 a1 x5_1 = some r) ∧ Aside0 (kq ≤ k) ∧ Drawn0 w w')
 case atStart => exact ⟨(0), zt9, H', ⟨Nat.le_refl _⟩, zt36⟩
 case round =>
  clear H'
  try clear p2
  obtain ⟨x5_1, rfl, HA, HK1, ⟨m1, rfl⟩⟩ := hrel
  cases gk with
  | zero => exact absurd HA.out (by simp [spec_l6In.l0])
  | succ k1 =>
   have H := HA.out
   clear HA
   simp only [spec_l6In.l0] at H
   by_cases c3 : x5_1 < (l0.length : Int)
   rw [if_pos c3] at H
   have c3b0 : decide (x5_1 < (l0.length : Int)) = true := decide_eq_true c3
   clear c3
   by_cases c4 : 0 ≤ x5_1
   rw [if_pos c4] at H
   have c4b0 : decide (0 ≤ x5_1) = true := decide_eq_true c4
   clear c4
   by_cases c5 : (rdOf ByteArray.empty l0 x5_1).toList = a1.toList
   rw [if_pos c5] at H
   have c5b0 : ((rdOf ByteArray.empty l0 x5_1).toList == a1.toList) = true := beq_iff_eq.mpr c5
   have c5b1 : ((rdOf ByteArray.empty l0 x5_1).toList != a1.toList) = false := bne_eq_false_iff_eq.mpr c5
   clear c5
   obtain rfl := Option.some.inj H
   have p261 : 0 ≤ (x5_1 : Int) := of_decide_eq_true zt4
   have q261 : x5_1 < (l0.length : Int) := of_decide_eq_true zt4
   obtain ⟨ad261, e261, hx261_0⟩ := Kd.at_string HR0.out x5_1 p261 q261
   cases e261
   replace p261 := eq_true p261
   replace q261 := eq_true q261
   rotate_left
   rw [if_neg c5] at H
   have c5b0 : ((rdOf ByteArray.empty l0 x5_1).toList == a1.toList) = false := beq_eq_false_iff_ne.mpr c5
   have c5b1 : ((rdOf ByteArray.empty l0 x5_1).toList != a1.toList) = true := bne_iff_ne.mpr c5
   have H' := Aside0.mk H
   clear H
   have p261 : 0 ≤ (x5_1 : Int) := of_decide_eq_true zt4
   have q261 : x5_1 < (l0.length : Int) := of_decide_eq_true zt4
   obtain ⟨ad261, e261, hx261_0⟩ := Kd.at_string HR0.out x5_1 p261 q261
   cases e261
   replace p261 := eq_true p261
   replace q261 := eq_true q261
   rotate_left
   rw [if_neg c4] at H
   exact absurd H (by simp)
   rw [if_neg c3] at H
   have c3b0 : decide (x5_1 < (l0.length : Int)) = false := decide_eq_false c3
   clear c3
   obtain rfl := Option.some.inj H
   rotate_left
   all_goals
    repeat (go_wp2; first | go_quiet (fail) | (go_ret; exact ⟨zt9, zt36⟩) | (go_roundg k1; (case measure => have := HK1.out; omega); (case rel => exact ⟨(wrap64 (x5_1 + 1)), zt9, H', ⟨by have := HK1.out; omega⟩, zt36⟩)))

end Go.Proofs.Ytopicidanlienaa.PFnExactTrim

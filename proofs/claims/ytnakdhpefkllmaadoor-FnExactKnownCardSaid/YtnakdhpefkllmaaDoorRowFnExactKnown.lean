/-
  The row of the law FnExactKnown: for every input the law returns true and its arguments read as they did: the printed contract, lifted; the pure statement is proved in YtnakdhpefkllmaaDoorPureFnExactKnown. No condition narrows it.
-/
import Derived.Test.YtnakdhpefkllmaaDoorRows
import Derived.Test.YtnakdhpefkllmaaDoorPFnExactKnownx13
import Derived.Test.YtnakdhpefkllmaaDoorPureFnExactKnown
import Derived.Test.YtnakdhpefkllmaaDoorLift
import Derived.Test.YtnakdhpefkllmaaDoorWSized
import Derived.Test.YtnakdhpefkllmaaDoorOpen
import Derived.Test.YtnakdhpefkllmaaDoorTie
import Derived.Test.YtnakdhpefkllmaaDoorCards
import Derived.LaidMore
import Derived.SevenTiedAt
import Derived.WalkKit
import Derived.ProofKit
import Derived.OpenShut
import Derived.ShutString
import Derived.ChangeOld
import Derived.Below
import Derived.SizedLaws
namespace Go.Proofs.YtnakdhpefkllmaaDoor.fnExactKnown
open Go.ChangeShapes Go.WideShapes Go.ChangeAt Go.RowKit Go.Proofs.YtnakdhpefkllmaaDoor.Lift Go.Proofs.YtnakdhpefkllmaaDoor.Open Go.Proofs.YtnakdhpefkllmaaDoor.PFnExactKnown Go.Proofs.YtnakdhpefkllmaaDoorW.PrintWords
open Go.ChangeMaps (open_string shut_string)
set_option linter.unusedVariables false
theorem own : ownKnob Tryd.prog.godebug = none := by kernel_rfl
theorem laidOut : laidOutB Tryd.prog = true := by kernel_rfl
theorem o65 : Opens Tryd.prog 65 k65 (fun x => (x.f0.size ≤ maxLen) ∧ (x.f1.size ≤ maxLen) ∧ (x.f2.size ≤ maxLen)) :=
  opens_iso (fun x => ⟨x.1, x.2.1, x.2.2⟩) (fun _ => rfl) (opens_struct Tryd.underlying65 (by kernel_rfl) (opensF_cons rfl (by kernel_rfl) (opens_string Tryd.underlying9) (opensF_cons rfl (by kernel_rfl) (opens_string Tryd.underlying9) (opensF_one rfl (by kernel_rfl) (opens_string Tryd.underlying9)))))
theorem o68 : Opens Tryd.prog 68 k68 (fun x => ((Lit.int .i64 x.f0).wf = true) ∧ (x.f1.size ≤ maxLen) ∧ (x.f2.size ≤ maxLen) ∧ (x.f3.size ≤ maxLen)) :=
  opens_iso (fun x => ⟨x.1, x.2.1, x.2.2.1, x.2.2.2⟩) (fun _ => rfl) (opens_struct Tryd.underlying68 (by kernel_rfl) (opensF_cons rfl (by kernel_rfl) (opens_int Tryd.underlying3) (opensF_cons rfl (by kernel_rfl) (opens_string Tryd.underlying9) (opensF_cons rfl (by kernel_rfl) (opens_string Tryd.underlying9) (opensF_one rfl (by kernel_rfl) (opens_string Tryd.underlying9))))))
theorem o71 : Opens Tryd.prog 71 k71 (fun x => ((Lit.int .i64 x.f0).wf = true) ∧ (x.f1.size ≤ maxLen) ∧ ((Lit.int .i64 x.f2).wf = true)) :=
  opens_iso (fun x => ⟨x.1, x.2.1, x.2.2⟩) (fun _ => rfl) (opens_struct Tryd.underlying71 (by kernel_rfl) (opensF_cons rfl (by kernel_rfl) (opens_int Tryd.underlying3) (opensF_cons rfl (by kernel_rfl) (opens_string Tryd.underlying9) (opensF_one rfl (by kernel_rfl) (opens_int Tryd.underlying3)))))
theorem o74 : Opens Tryd.prog 74 k74 (fun x => ((Lit.int .i64 x.f0).wf = true) ∧ ((Lit.int .i64 x.f1).wf = true) ∧ (x.f2.size ≤ maxLen) ∧ (x.f3.size ≤ maxLen) ∧ ((Lit.int .i64 x.f4).wf = true) ∧ ((Lit.int .i64 x.f5).wf = true)) :=
  opens_iso (fun x => ⟨x.1, x.2.1, x.2.2.1, x.2.2.2.1, x.2.2.2.2.1, x.2.2.2.2.2⟩) (fun _ => rfl) (opens_struct Tryd.underlying74 (by kernel_rfl) (opensF_cons rfl (by kernel_rfl) (opens_int Tryd.underlying3) (opensF_cons rfl (by kernel_rfl) (opens_int Tryd.underlying3) (opensF_cons rfl (by kernel_rfl) (opens_string Tryd.underlying9) (opensF_cons rfl (by kernel_rfl) (opens_string Tryd.underlying9) (opensF_cons rfl (by kernel_rfl) (opens_int Tryd.underlying3) (opensF_one rfl (by kernel_rfl) (opens_int Tryd.underlying3))))))))
set_option maxRecDepth 100000 in
theorem lifted (os : Os) (started : os.Started) (H : Type) (enc : TypeId × Value → H) :
    ReturnsInHanded {} Tryd.checked os 3 .any (fun w args => (Rows.fnExactKnownSpec.pre enc Tryd.prog Tryd.f3 Rows.fnExactKnownRow.domain false w args ∧ laidMetH Tryd.prog Rows.fnExactKnownRow.laid w) ∧ sizedMet enc Tryd.prog Tryd.f3 (OpenSpec.ofChange Rows.fnExactKnownSpec) false w args) (Rows.fnExactKnownSpec.post enc Tryd.prog Tryd.f3 false true false false) := by
  refine returns_listed (C := Tryd.checked) own started (by kernel_rfl) Tryd.func3
    (ChangeSpec.witness_shaped (enc := enc) (C := Tryd.checked) (os := os) (X := fun w _ => laidMetH Tryd.prog Rows.fnExactKnownRow.laid w) false (World.laidAll Tryd.prog os Rows.fnExactKnownRow.laid) #[.agg #[.slice none 0 0, .slice none 0 0, .slice none 0 0, .slice none 0 0, .slice none 0 0], .int .i64 0] 8 (World.laidAll_os _ _ _)
      (World.shaped_of_ZipB (by kernel_rfl) (by kernel_rfl)) (by kernel_rfl) (by kernel_rfl) (by kernel_rfl)
      (by rw [MakeChecks.laidMetH_plain _ _ _ (by kernel_rfl)]; exact laidMet_laidAll _ (by kernel_rfl) (by kernel_rfl))) ?_
  intro W base args ds gs before hval0 hW hcnd hsz0 hL hSh
  have hsz : (DataW.weightsEach Tryd.prog (Tryd.f3.params.toList ++ Rows.fnExactKnownSpec.plain.varTypes Tryd.prog) (ds ++ gs)).all (· ≤ reachBytes) = true := hsz0
  have hval : ∀ (j : Nat) t v, Tryd.f3.params[j]? = some t → args[j]? = some v → Value.okWide Tryd.prog W .any base t v := hval0
  have hW' := hW
  obtain ⟨p, q, hA0, hV, rfl, hfz, hnd⟩ := hW
  have hA : DataW.TrodAll enc Tryd.prog W 0 (fun _ => true) true Tryd.f3.params.toList args.toList ds p := hA0
  rw [Tryd.params3] at hA hval hsz
  obtain ⟨v0, vs0, d0, ds0, p0, q0, hargs, rfl, rfl, h0, r0⟩ := trodAll_cons hA
  obtain ⟨v1, vs1, d1, ds1, p1, q1, rfl, rfl, rfl, h1, r1⟩ := trodAll_cons r0
  obtain ⟨rfl, rfl, rfl⟩ := trodAll_nil r1
  obtain rfl : args = #[v0, v1] := by cases args; simp_all
  obtain ⟨rfl, rfl⟩ := trodVars_none hV
  obtain ⟨cs0, rfl, _⟩ := okWide_struct Tryd.underlying28 (hval 0 28 v0 rfl rfl)
  have k0 := h0
  have lt0 : ∀ x ∈ p0, x.block < W.heap.size := by obtain ⟨m, hm⟩ := k0; exact DataW.trod_lt m _ _ _ hm
  obtain ⟨fuel0, hf0⟩ := h0
  obtain ⟨x0, hK0, hB0⟩ := opens_struct Tryd.underlying28 (by kernel_rfl) (opensF_cons rfl (by kernel_rfl) (opens_slice Tryd.underlying22 (by kernel_rfl) (opens_string Tryd.underlying9)) (opensF_cons rfl (by kernel_rfl) (opens_slice Tryd.underlying23 (by kernel_rfl) o65) (opensF_cons rfl (by kernel_rfl) (opens_slice Tryd.underlying24 (by kernel_rfl) o68) (opensF_cons rfl (by kernel_rfl) (opens_slice Tryd.underlying25 (by kernel_rfl) o71) (opensF_one rfl (by kernel_rfl) (opens_slice Tryd.underlying26 (by kernel_rfl) o74)))))) H enc W 0 _ true fuel0 _ _ hf0
  obtain ⟨x0_0, x0_1, x0_2, x0_3, x0_4⟩ := x0
  obtain ⟨c0_0, e0_0, E0_0, hK0_0, ⟨c0_1, e0_1, E0_1, hK0_1, ⟨c0_2, e0_2, E0_2, hK0_2, ⟨c0_3, e0_3, E0_3, hK0_3, hK0_4⟩⟩⟩⟩ := hK0
  obtain ⟨hB0_0, hB0_1, hB0_2, hB0_3, hB0_4⟩ := hB0
  obtain ⟨A0_0, cap0_0, q0_0, hc0_0, hC0_0⟩ := hK0_0
  obtain ⟨A0_1, cap0_1, q0_1, hc0_1, hC0_1⟩ := hK0_1
  obtain ⟨A0_2, cap0_2, q0_2, hc0_2, hC0_2⟩ := hK0_2
  obtain ⟨A0_3, cap0_3, q0_3, hc0_3, hC0_3⟩ := hK0_3
  obtain ⟨A0_4, cap0_4, q0_4, hc0_4, hC0_4⟩ := hK0_4
  obtain rfl : cs0 = #[.slice A0_0 x0_0.length cap0_0, .slice A0_1 x0_1.length cap0_1, .slice A0_2 x0_2.length cap0_2, .slice A0_3 x0_3.length cap0_3, .slice A0_4 x0_4.length cap0_4] := by
    have z : cs0.toList = [.slice A0_0 x0_0.length cap0_0, .slice A0_1 x0_1.length cap0_1, .slice A0_2 x0_2.length cap0_2, .slice A0_3 x0_3.length cap0_3, .slice A0_4 x0_4.length cap0_4] := by
      have z0 : cs0.toList = _ := E0_0
      rw [show c0_0 = _ from q0_0] at z0
      rw [E0_1] at z0
      rw [show c0_1 = _ from q0_1] at z0
      rw [E0_2] at z0
      rw [show c0_2 = _ from q0_2] at z0
      rw [E0_3] at z0
      rw [show c0_3 = _ from q0_3] at z0
      rw [show e0_3 = _ from q0_4] at z0
      exact z0
    rw [← Array.toList_inj]
    exact z
  obtain ⟨a1, rfl, rfl, rfl, w1⟩ := open_int Tryd.underlying3 (hval 1 3 v1 rfl rfl) h1
  rw [MakeChecks.laidMetH_plain _ _ _ (by kernel_rfl)] at hL
  have HT : TabsP W := tabsP hL (by first | exact .head _ | exact .tail _ (.head _) | exact .tail _ (.tail _ (.head _)) | exact .tail _ (.tail _ (.tail _ (.head _))) | exact .tail _ (.tail _ (.tail _ (.tail _ (.head _)))))
  clear hA0 hval0 hsz0 hsz
  obtain ⟨k, h⟩ := Pure.FnExactKnown x0_0 x0_1 x0_2 x0_3 x0_4 a1 hB0_0 hB0_1 hB0_2 hB0_3 hB0_4 w1
  refine (laws_FnExactKnown.calls k _ _ x0_0 _ _ x0_1 _ _ x0_2 _ _ x0_3 _ _ x0_4 a1 true W hC0_0 hc0_0 hC0_1 hc0_1 hC0_2 hc0_2 hC0_3 hc0_3 hC0_4 hc0_4 HT h rfl).mono fun e W' ⟨he, bel⟩ => ?_
  subst he
  exact ⟨_, rfl, _, _, _, [], _, [], hW', trodAll_mk1 (shut_bool Tryd.underlying4 _), (trodAll_cons_mk (Below.trod laidOut (by kernel_rfl) (of_decide_eq_true (by kernel_rfl)) k0 bel lt0) (trodAll_cons_mk (shut_int Tryd.underlying3 w1) trodAll_mk0)), rfl, bel.frame _, fun h => by cases h⟩
theorem j10 : (Rows.fnExactKnownRow.inPlace == Tryd.pinned.checked.prog.inPlace 3) = true := by kernel_rfl
theorem j11 : (Rows.fnExactKnownRow.unfollowed == Tryd.pinned.checked.prog.unfollowed 3) = true := by kernel_rfl
theorem j12 : (Rows.fnExactKnownRow.recurses == Tryd.pinned.checked.prog.recurses 3) = true := by kernel_rfl
theorem j13 : (Rows.fnExactKnownRow.named == Tryd.pinned.checked.prog.varsNamed 3) = true := by kernel_rfl
theorem closed : joinedFacts Tryd.pinned.checked.prog 3 Tryd.f3 Rows.fnExactKnownSpec Rows.fnExactKnownRow = true := by
  unfold joinedFacts
  rw [j10, j11, j12, j13]
  kernel_rfl
theorem over : Rows.fnExactKnownRow.holds Tryd.pinned (OpenSpec.ofChange Rows.fnExactKnownSpec) :=
  OpenClaim.holds_of_wide 3 Tryd.f3 rfl rfl rfl rfl rfl rfl rfl ⟨rfl, rfl, rfl, rfl, rfl⟩ rfl rfl rfl rfl rfl (by kernel_rfl) Tryd.func3 closed
    (of_decide_eq_true (by kernel_rfl)) (by unfold Func.isWrapper; first | (rw [if_pos (by decide +kernel)]; kernel_rfl) | (rw [if_neg (by decide +kernel)]; exact ⟨rfl, rfl⟩))
    (fun os started H enc _ => lifted os started H enc)
theorem proved : Rows.FnExactKnownSaid := over
theorem card : Rows.FnExactKnownCardSaid :=
  Claim7.holds_tied_plain_at .later [] [.data, .data, .data] true (true, "f800ab989c828553eceb5b5ed5b3790effca67334813ab29e1e42d306d7d1054") false proved (fun _ h => by cases h) (by kernel_rfl) (fun _ h => by cases h) fnExactKnown_row_tie rfl ⟨rfl, rfl⟩ (by kernel_rfl) rfl
    (fun f fn hf hfn => by
      obtain rfl : f = 3 := Option.some.inj ((show Tryd.prog.funcNamed Rows.fnExactKnownRow.func = some 3 by kernel_rfl).symm.trans hf) |>.symm
      obtain rfl : fn = Tryd.f3 := (Option.some.inj (Tryd.func3.symm.trans hfn)).symm
      exact ⟨by kernel_rfl, fun j t ht => by
        rw [Tryd.params3] at ht
        have hm : t ∈ [28, 3] := by simpa using Array.mem_of_getElem? ht
        have hall : ([28, 3].all fun u => !Tryd.prog.wantsStandIn u) = true := by kernel_rfl
        exact (show Tryd.prog.wantsStandIn t = false by simpa using List.all_eq_true.1 hall t hm)⟩)
    (by kernel_rfl)
#print axioms card
end Go.Proofs.YtnakdhpefkllmaaDoor.fnExactKnown
namespace Go.Proofs.YtnakdhpefkllmaaDoor
/-- The row, under a short name, for the claim. -/
theorem fnExactKnown_card : Rows.FnExactKnownCardSaid := fnExactKnown.card
end Go.Proofs.YtnakdhpefkllmaaDoor

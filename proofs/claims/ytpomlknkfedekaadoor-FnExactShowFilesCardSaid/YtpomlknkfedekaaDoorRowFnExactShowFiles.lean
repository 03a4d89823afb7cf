/-
  The row of the law FnExactShowFiles: for every input the law returns true and its arguments read as they did: the printed contract, lifted; the pure statement is proved in YtpomlknkfedekaaDoorPureFnExactShowFiles. No condition narrows it.
-/
import Derived.Test.YtpomlknkfedekaaDoorRows
import Derived.Test.YtpomlknkfedekaaDoorPFnExactShowFilesx8
import Derived.Test.YtpomlknkfedekaaDoorPureFnExactShowFiles
import Derived.Test.YtpomlknkfedekaaDoorLift
import Derived.Test.YtpomlknkfedekaaDoorWSized
import Derived.Test.YtpomlknkfedekaaDoorOpen
import Derived.Test.YtpomlknkfedekaaDoorTie
import Derived.Test.YtpomlknkfedekaaDoorCards
import Derived.LaidMore
import Derived.SevenTiedAt
import Derived.WalkKit
import Derived.ProofKit
import Derived.OpenShut
import Derived.ShutString
import Derived.ChangeOld
import Derived.Below
import Derived.SizedLaws
namespace Go.Proofs.YtpomlknkfedekaaDoor.fnExactShowFiles
open Go.ChangeShapes Go.WideShapes Go.ChangeAt Go.RowKit Go.Proofs.YtpomlknkfedekaaDoor.Lift Go.Proofs.YtpomlknkfedekaaDoor.Open Go.Proofs.YtpomlknkfedekaaDoor.PFnExactShowFiles Go.Proofs.YtpomlknkfedekaaDoorW.PrintWords
open Go.ChangeMaps (open_string shut_string)
set_option linter.unusedVariables false
theorem own : ownKnob Tryd.prog.godebug = none := by kernel_rfl
theorem laidOut : laidOutB Tryd.prog = true := by kernel_rfl
theorem o55 : Opens Tryd.prog 55 k55 (fun x => (x.f0.size ≤ maxLen) ∧ (x.f1.size ≤ maxLen)) :=
  opens_iso (fun x => ⟨x.1, x.2⟩) (fun _ => rfl) (opens_struct Tryd.underlying55 (by kernel_rfl) (opensF_cons rfl (by kernel_rfl) (opens_string Tryd.underlying9) (opensF_one rfl (by kernel_rfl) (opens_string Tryd.underlying9))))
set_option maxRecDepth 100000 in
theorem lifted (os : Os) (started : os.Started) (H : Type) (enc : TypeId × Value → H) :
    ReturnsInHanded {} Tryd.checked os 11 .any (fun w args => (Rows.fnExactShowFilesSpec.pre enc Tryd.prog Tryd.f11 Rows.fnExactShowFilesRow.domain false w args ∧ laidMetH Tryd.prog Rows.fnExactShowFilesRow.laid w) ∧ sizedMet enc Tryd.prog Tryd.f11 (OpenSpec.ofChange Rows.fnExactShowFilesSpec) false w args) (Rows.fnExactShowFilesSpec.post enc Tryd.prog Tryd.f11 false true false false) := by
  refine returns_listed (C := Tryd.checked) own started (by kernel_rfl) Tryd.func11
    (ChangeSpec.witness_shaped (enc := enc) (C := Tryd.checked) (os := os) (X := fun w _ => laidMetH Tryd.prog Rows.fnExactShowFilesRow.laid w) false (World.laidAll Tryd.prog os Rows.fnExactShowFilesRow.laid) #[.slice none 0 0] 8 (World.laidAll_os _ _ _)
      (World.shaped_of_ZipB (by kernel_rfl) (by kernel_rfl)) (by kernel_rfl) (by kernel_rfl) (by kernel_rfl)
      (by rw [MakeChecks.laidMetH_plain _ _ _ (by kernel_rfl)]; exact laidMet_laidAll _ (by kernel_rfl) (by kernel_rfl))) ?_
  intro W base args ds gs before hval0 hW hcnd hsz0 hL hSh
  have hsz : (DataW.weightsEach Tryd.prog (Tryd.f11.params.toList ++ Rows.fnExactShowFilesSpec.plain.varTypes Tryd.prog) (ds ++ gs)).all (· ≤ reachBytes) = true := hsz0
  have hval : ∀ (j : Nat) t v, Tryd.f11.params[j]? = some t → args[j]? = some v → Value.okWide Tryd.prog W .any base t v := hval0
  have hW' := hW
  obtain ⟨p, q, hA0, hV, rfl, hfz, hnd⟩ := hW
  have hA : DataW.TrodAll enc Tryd.prog W 0 (fun _ => true) true Tryd.f11.params.toList args.toList ds p := hA0
  rw [Tryd.params11] at hA hval hsz
  obtain ⟨v0, vs0, d0, ds0, p0, q0, hargs, rfl, rfl, h0, r0⟩ := trodAll_cons hA
  obtain ⟨rfl, rfl, rfl⟩ := trodAll_nil r0
  obtain rfl : args = #[v0] := by cases args; simp_all
  obtain ⟨rfl, rfl⟩ := trodVars_none hV
  obtain ⟨A0, len0, cap0, rfl⟩ := okWide_slice Tryd.underlying32 (hval 0 32 v0 rfl rfl)
  have k0 := h0
  have lt0 : ∀ x ∈ p0, x.block < W.heap.size := by obtain ⟨m, hm⟩ := k0; exact DataW.trod_lt m _ _ _ hm
  obtain ⟨l0, hn0, hc0, hC0, hB0⟩ := slice_in (opens_slice Tryd.underlying32 (by kernel_rfl) o55) h0
  subst hn0
  have HT : TabsL W := tabsL hSh
  clear hA0 hval0 hsz0 hsz
  obtain ⟨k, h⟩ := Pure.FnExactShowFiles l0 hB0
  refine (laws_FnExactShowFiles.calls k _ _ l0 true W hC0 hc0 HT h).mono fun e W' ⟨he, bel⟩ => ?_
  subst he
  exact ⟨_, rfl, _, _, _, [], _, [], hW', trodAll_mk1 (shut_bool Tryd.underlying4 _), (trodAll_cons_mk (Below.trod laidOut (by kernel_rfl) (of_decide_eq_true (by kernel_rfl)) k0 bel lt0) trodAll_mk0), rfl, bel.frame _, fun h => by cases h⟩
theorem over : Rows.fnExactShowFilesRow.holds Tryd.pinned (OpenSpec.ofChange Rows.fnExactShowFilesSpec) :=
  OpenClaim.holds_of_wide 11 Tryd.f11 rfl rfl rfl rfl rfl rfl rfl ⟨rfl, rfl, rfl, rfl, rfl⟩ rfl rfl rfl rfl rfl (by kernel_rfl) Tryd.func11 (by kernel_rfl)
    (of_decide_eq_true (by kernel_rfl)) (by unfold Func.isWrapper; first | (rw [if_pos (by decide +kernel)]; kernel_rfl) | (rw [if_neg (by decide +kernel)]; exact ⟨rfl, rfl⟩))
    (fun os started H enc _ => lifted os started H enc)
theorem proved : Rows.FnExactShowFilesSaid := over
theorem card : Rows.FnExactShowFilesCardSaid :=
  Claim7.holds_tied_plain_at .later [] [.data, .pinned] true (true, "60d82b4c37b3458f8d5cac84f0b8b1354b6ab427395fcb83ecb5a77e93c3cb05") true proved (fun _ h => by cases h) (by kernel_rfl) (fun _ h => by cases h) fnExactShowFiles_row_tie rfl ⟨rfl, rfl⟩ (by kernel_rfl) rfl
    (fun f fn hf hfn => by
      obtain rfl : f = 11 := Option.some.inj ((show Tryd.prog.funcNamed Rows.fnExactShowFilesRow.func = some 11 by kernel_rfl).symm.trans hf) |>.symm
      obtain rfl : fn = Tryd.f11 := (Option.some.inj (Tryd.func11.symm.trans hfn)).symm
      exact ⟨by kernel_rfl, fun j t ht => by
        rw [Tryd.params11] at ht
        have hm : t ∈ [32] := by simpa using Array.mem_of_getElem? ht
        have hall : ([32].all fun u => !Tryd.prog.wantsStandIn u) = true := by kernel_rfl
        exact (show Tryd.prog.wantsStandIn t = false by simpa using List.all_eq_true.1 hall t hm)⟩)
    (by kernel_rfl)
#print axioms card
end Go.Proofs.YtpomlknkfedekaaDoor.fnExactShowFiles
namespace Go.Proofs.YtpomlknkfedekaaDoor
/-- The row, under a short name, for the claim. -/
theorem fnExactShowFiles_card : Rows.FnExactShowFilesCardSaid := fnExactShowFiles.card
end Go.Proofs.YtpomlknkfedekaaDoor

/-
  The row of the law FnExactReadFiles: for every input the law returns true and its arguments read as they did: the printed contract, lifted; the pure statement is proved in YtmpmfaaodjmpjaaDoorPureFnExactReadFiles. No condition narrows it.
-/
import Derived.Test.YtmpmfaaodjmpjaaDoorRows
import Derived.Test.YtmpmfaaodjmpjaaDoorPFnExactReadFilesx11
import Derived.Test.YtmpmfaaodjmpjaaDoorPureFnExactReadFiles
import Derived.Test.YtmpmfaaodjmpjaaDoorLift
import Derived.Test.YtmpmfaaodjmpjaaDoorWSized
import Derived.Test.YtmpmfaaodjmpjaaDoorOpen
import Derived.Test.YtmpmfaaodjmpjaaDoorTie
import Derived.Test.YtmpmfaaodjmpjaaDoorCards
import Derived.LaidMore
import Derived.SevenTiedAt
import Derived.WalkKit
import Derived.ProofKit
import Derived.OpenShut
import Derived.ShutString
import Derived.ChangeOld
import Derived.Below
import Derived.SizedLaws
namespace Go.Proofs.YtmpmfaaodjmpjaaDoor.fnExactReadFiles
open Go.ChangeShapes Go.WideShapes Go.ChangeAt Go.RowKit Go.Proofs.YtmpmfaaodjmpjaaDoor.Lift Go.Proofs.YtmpmfaaodjmpjaaDoor.Open Go.Proofs.YtmpmfaaodjmpjaaDoor.PFnExactReadFiles Go.Proofs.YtmpmfaaodjmpjaaDoorW.PrintWords
open Go.ChangeMaps (open_string shut_string)
set_option linter.unusedVariables false
theorem own : ownKnob Tryd.prog.godebug = none := by kernel_rfl
theorem laidOut : laidOutB Tryd.prog = true := by kernel_rfl
set_option maxRecDepth 100000 in
theorem lifted (os : Os) (started : os.Started) (H : Type) (enc : TypeId × Value → H) :
    ReturnsInHanded {} Tryd.checked os 5 .any (fun w args => (Rows.fnExactReadFilesSpec.pre enc Tryd.prog Tryd.f5 Rows.fnExactReadFilesRow.domain false w args ∧ laidMetH Tryd.prog Rows.fnExactReadFilesRow.laid w) ∧ sizedMet enc Tryd.prog Tryd.f5 (OpenSpec.ofChange Rows.fnExactReadFilesSpec) false w args) (Rows.fnExactReadFilesSpec.post enc Tryd.prog Tryd.f5 false true false false) := by
  refine returns_listed (C := Tryd.checked) own started (by kernel_rfl) Tryd.func5
    (ChangeSpec.witness_shaped (enc := enc) (C := Tryd.checked) (os := os) (X := fun w _ => laidMetH Tryd.prog Rows.fnExactReadFilesRow.laid w) false (World.laidAll Tryd.prog os Rows.fnExactReadFilesRow.laid) #[.string ByteArray.empty] 8 (World.laidAll_os _ _ _)
      (World.shaped_of_ZipB (by kernel_rfl) (by kernel_rfl)) (by kernel_rfl) (by kernel_rfl) (by kernel_rfl)
      (by rw [MakeChecks.laidMetH_plain _ _ _ (by kernel_rfl)]; exact laidMet_laidAll _ (by kernel_rfl) (by kernel_rfl))) ?_
  intro W base args ds gs before hval0 hW hcnd hsz0 hL hSh
  have hsz : (DataW.weightsEach Tryd.prog (Tryd.f5.params.toList ++ Rows.fnExactReadFilesSpec.plain.varTypes Tryd.prog) (ds ++ gs)).all (· ≤ reachBytes) = true := hsz0
  have hval : ∀ (j : Nat) t v, Tryd.f5.params[j]? = some t → args[j]? = some v → Value.okWide Tryd.prog W .any base t v := hval0
  have hW' := hW
  obtain ⟨p, q, hA0, hV, rfl, hfz, hnd⟩ := hW
  have hA : DataW.TrodAll enc Tryd.prog W 0 (fun _ => true) true Tryd.f5.params.toList args.toList ds p := hA0
  rw [Tryd.params5] at hA hval hsz
  obtain ⟨v0, vs0, d0, ds0, p0, q0, hargs, rfl, rfl, h0, r0⟩ := trodAll_cons hA
  obtain ⟨rfl, rfl, rfl⟩ := trodAll_nil r0
  obtain rfl : args = #[v0] := by cases args; simp_all
  obtain ⟨rfl, rfl⟩ := trodVars_none hV
  obtain ⟨a0, rfl, rfl, rfl, y0⟩ := open_string Tryd.underlying9 (hval 0 9 v0 rfl rfl) h0
  have w0 : a0.size ≤ 140737488351232 := by
    have z := sized_string hsz (j := 0) (t := 9) rfl rfl
    rw [Array.length_toList] at z
    exact z
  have HT : TabsL W := tabsL hSh
  clear hA0 hval0 hsz0 hsz
  obtain ⟨k, h⟩ := Pure.FnExactReadFiles a0 w0
  refine (laws_FnExactReadFiles.calls k a0 true W HT h).mono fun e W' ⟨he, bel⟩ => ?_
  subst he
  exact ⟨_, rfl, _, _, _, [], _, [], hW', trodAll_mk1 (shut_bool Tryd.underlying4 _), (trodAll_cons_mk (shut_string Tryd.underlying9 y0) trodAll_mk0), rfl, bel.frame _, fun h => by cases h⟩
theorem j10 : (Rows.fnExactReadFilesRow.inPlace == Tryd.pinned.checked.prog.inPlace 5) = true := by kernel_rfl
theorem j11 : (Rows.fnExactReadFilesRow.unfollowed == Tryd.pinned.checked.prog.unfollowed 5) = true := by kernel_rfl
theorem j12 : (Rows.fnExactReadFilesRow.recurses == Tryd.pinned.checked.prog.recurses 5) = true := by kernel_rfl
theorem j13 : (Rows.fnExactReadFilesRow.named == Tryd.pinned.checked.prog.varsNamed 5) = true := by kernel_rfl
theorem closed : joinedFacts Tryd.pinned.checked.prog 5 Tryd.f5 Rows.fnExactReadFilesSpec Rows.fnExactReadFilesRow = true := by
  unfold joinedFacts
  rw [j10, j11, j12, j13]
  kernel_rfl
theorem over : Rows.fnExactReadFilesRow.holds Tryd.pinned (OpenSpec.ofChange Rows.fnExactReadFilesSpec) :=
  OpenClaim.holds_of_wide 5 Tryd.f5 rfl rfl rfl rfl rfl rfl rfl ⟨rfl, rfl, rfl, rfl, rfl⟩ rfl rfl rfl rfl rfl (by kernel_rfl) Tryd.func5 closed
    (of_decide_eq_true (by kernel_rfl)) (by unfold Func.isWrapper; first | (rw [if_pos (by decide +kernel)]; kernel_rfl) | (rw [if_neg (by decide +kernel)]; exact ⟨rfl, rfl⟩))
    (fun os started H enc _ => lifted os started H enc)
theorem proved : Rows.FnExactReadFilesSaid := over
theorem card : Rows.FnExactReadFilesCardSaid :=
  Claim7.holds_tied_plain_at .later [] [.data, .pinned] true (true, "d7b4837e76b9b089eb8e8db53ef4ec9f2b2bce7cdb64466ba76ef66faa6bca34") true proved (fun _ h => by cases h) (by kernel_rfl) (fun _ h => by cases h) fnExactReadFiles_row_tie rfl ⟨rfl, rfl⟩ (by kernel_rfl) rfl
    (fun f fn hf hfn => by
      obtain rfl : f = 5 := Option.some.inj ((show Tryd.prog.funcNamed Rows.fnExactReadFilesRow.func = some 5 by kernel_rfl).symm.trans hf) |>.symm
      obtain rfl : fn = Tryd.f5 := (Option.some.inj (Tryd.func5.symm.trans hfn)).symm
      exact ⟨by kernel_rfl, fun j t ht => by
        rw [Tryd.params5] at ht
        have hm : t ∈ [9] := by simpa using Array.mem_of_getElem? ht
        have hall : ([9].all fun u => !Tryd.prog.wantsStandIn u) = true := by kernel_rfl
        exact (show Tryd.prog.wantsStandIn t = false by simpa using List.all_eq_true.1 hall t hm)⟩)
    (by kernel_rfl)
#print axioms card
end Go.Proofs.YtmpmfaaodjmpjaaDoor.fnExactReadFiles
namespace Go.Proofs.YtmpmfaaodjmpjaaDoor
/-- The row, under a short name, for the claim. -/
theorem fnExactReadFiles_card : Rows.FnExactReadFilesCardSaid := fnExactReadFiles.card
end Go.Proofs.YtmpmfaaodjmpjaaDoor

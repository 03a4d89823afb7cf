/-
  The row of the law FnExactDropFile: for every input the law returns true and its arguments read as they did: the printed contract, lifted; the pure statement is proved in YtkmcnjpgamaljaaDoorPureFnExactDropFile. No condition narrows it.
-/
import Derived.Test.YtkmcnjpgamaljaaDoorRows
import Derived.Test.YtkmcnjpgamaljaaDoorPFnExactDropFilex9
import Derived.Test.YtkmcnjpgamaljaaDoorPureFnExactDropFile
import Derived.Test.YtkmcnjpgamaljaaDoorLift
import Derived.Test.YtkmcnjpgamaljaaDoorWSized
import Derived.Test.YtkmcnjpgamaljaaDoorOpen
import Derived.Test.YtkmcnjpgamaljaaDoorTie
import Derived.Test.YtkmcnjpgamaljaaDoorCards
import Derived.LaidMore
import Derived.SevenTiedAt
import Derived.WalkKit
import Derived.ProofKit
import Derived.OpenShut
import Derived.ShutString
import Derived.ChangeOld
import Derived.Below
import Derived.SizedLaws
namespace Go.Proofs.YtkmcnjpgamaljaaDoor.fnExactDropFile
open Go.ChangeShapes Go.WideShapes Go.ChangeAt Go.RowKit Go.Proofs.YtkmcnjpgamaljaaDoor.Lift Go.Proofs.YtkmcnjpgamaljaaDoor.Open Go.Proofs.YtkmcnjpgamaljaaDoor.PFnExactDropFile Go.Proofs.YtkmcnjpgamaljaaDoorW.PrintWords
open Go.ChangeMaps (open_string shut_string)
set_option linter.unusedVariables false
theorem own : ownKnob Tryd.prog.godebug = none := by kernel_rfl
theorem laidOut : laidOutB Tryd.prog = true := by kernel_rfl
theorem o32 : Opens Tryd.prog 32 k32 (fun x => (x.f0.size ≤ maxLen) ∧ (x.f1.size ≤ maxLen)) :=
  opens_iso (fun x => ⟨x.1, x.2⟩) (fun _ => rfl) (opens_struct Tryd.underlying32 (by kernel_rfl) (opensF_cons rfl (by kernel_rfl) (opens_string Tryd.underlying9) (opensF_one rfl (by kernel_rfl) (opens_string Tryd.underlying9))))
set_option maxRecDepth 100000 in
theorem lifted (os : Os) (started : os.Started) (H : Type) (enc : TypeId × Value → H) :
    ReturnsInHanded {} Tryd.checked os 3 .any (fun w args => (Rows.fnExactDropFileSpec.pre enc Tryd.prog Tryd.f3 Rows.fnExactDropFileRow.domain false w args ∧ laidMetH Tryd.prog Rows.fnExactDropFileRow.laid w) ∧ sizedMet enc Tryd.prog Tryd.f3 (OpenSpec.ofChange Rows.fnExactDropFileSpec) false w args) (Rows.fnExactDropFileSpec.post enc Tryd.prog Tryd.f3 false true false false) := by
  refine returns_listed (C := Tryd.checked) own started (by kernel_rfl) Tryd.func3
    (ChangeSpec.witness_shaped (enc := enc) (C := Tryd.checked) (os := os) (X := fun w _ => laidMetH Tryd.prog Rows.fnExactDropFileRow.laid w) false (World.laidAll Tryd.prog os Rows.fnExactDropFileRow.laid) #[.slice none 0 0, .string ByteArray.empty] 8 (World.laidAll_os _ _ _)
      (World.shaped_of_ZipB (by kernel_rfl) (by kernel_rfl)) (by kernel_rfl) (by kernel_rfl) (by kernel_rfl)
      (by rw [MakeChecks.laidMetH_plain _ _ _ (by kernel_rfl)]; exact laidMet_laidAll _ (by kernel_rfl) (by kernel_rfl))) ?_
  intro W base args ds gs before hval0 hW hcnd hsz0 hL hSh
  have hsz : (DataW.weightsEach Tryd.prog (Tryd.f3.params.toList ++ Rows.fnExactDropFileSpec.plain.varTypes Tryd.prog) (ds ++ gs)).all (· ≤ reachBytes) = true := hsz0
  have hval : ∀ (j : Nat) t v, Tryd.f3.params[j]? = some t → args[j]? = some v → Value.okWide Tryd.prog W .any base t v := hval0
  have hW' := hW
  obtain ⟨p, q, hA0, hV, rfl, hfz, hnd⟩ := hW
  have hA : DataW.TrodAll enc Tryd.prog W 0 (fun _ => true) true Tryd.f3.params.toList args.toList ds p := hA0
  rw [Tryd.params3] at hA hval hsz
  obtain ⟨v0, vs0, d0, ds0, p0, q0, hargs, rfl, rfl, h0, r0⟩ := trodAll_cons hA
  obtain ⟨v1, vs1, d1, ds1, p1, q1, rfl, rfl, rfl, h1, r1⟩ := trodAll_cons r0
  obtain ⟨rfl, rfl, rfl⟩ := trodAll_nil r1
  obtain rfl : args = #[v0, v1] := by cases args; simp_all
  obtain ⟨rfl, rfl⟩ := trodVars_none hV
  obtain ⟨A0, len0, cap0, rfl⟩ := okWide_slice Tryd.underlying22 (hval 0 22 v0 rfl rfl)
  have k0 := h0
  have lt0 : ∀ x ∈ p0, x.block < W.heap.size := by obtain ⟨m, hm⟩ := k0; exact DataW.trod_lt m _ _ _ hm
  obtain ⟨l0, hn0, hc0, hC0, hB0⟩ := slice_in (opens_slice Tryd.underlying22 (by kernel_rfl) o32) h0
  subst hn0
  obtain ⟨a1, rfl, rfl, rfl, y1⟩ := open_string Tryd.underlying9 (hval 1 9 v1 rfl rfl) h1
  have w1 : a1.size ≤ 140737488351232 := by
    have z := sized_string hsz (j := 1) (t := 9) rfl rfl
    rw [Array.length_toList] at z
    exact z
  have HT : TabsL W := tabsL hSh
  clear hA0 hval0 hsz0 hsz
  obtain ⟨k, h⟩ := Pure.FnExactDropFile l0 a1 hB0 w1
  refine (laws_FnExactDropFile.calls k _ _ l0 a1 true W hC0 hc0 HT h).mono fun e W' ⟨he, bel⟩ => ?_
  subst he
  exact ⟨_, rfl, _, _, _, [], _, [], hW', trodAll_mk1 (shut_bool Tryd.underlying4 _), (trodAll_cons_mk (Below.trod laidOut (by kernel_rfl) (of_decide_eq_true (by kernel_rfl)) k0 bel lt0) (trodAll_cons_mk (shut_string Tryd.underlying9 y1) trodAll_mk0)), rfl, bel.frame _, fun h => by cases h⟩
theorem j10 : (Rows.fnExactDropFileRow.inPlace == Tryd.pinned.checked.prog.inPlace 3) = true := by kernel_rfl
theorem j11 : (Rows.fnExactDropFileRow.unfollowed == Tryd.pinned.checked.prog.unfollowed 3) = true := by kernel_rfl
theorem j12 : (Rows.fnExactDropFileRow.recurses == Tryd.pinned.checked.prog.recurses 3) = true := by kernel_rfl
theorem j13 : (Rows.fnExactDropFileRow.named == Tryd.pinned.checked.prog.varsNamed 3) = true := by kernel_rfl
theorem closed : joinedFacts Tryd.pinned.checked.prog 3 Tryd.f3 Rows.fnExactDropFileSpec Rows.fnExactDropFileRow = true := by
  unfold joinedFacts
  rw [j10, j11, j12, j13]
  kernel_rfl
theorem over : Rows.fnExactDropFileRow.holds Tryd.pinned (OpenSpec.ofChange Rows.fnExactDropFileSpec) :=
  OpenClaim.holds_of_wide 3 Tryd.f3 rfl rfl rfl rfl rfl rfl rfl ⟨rfl, rfl, rfl, rfl, rfl⟩ rfl rfl rfl rfl rfl (by kernel_rfl) Tryd.func3 closed
    (of_decide_eq_true (by kernel_rfl)) (by unfold Func.isWrapper; first | (rw [if_pos (by decide +kernel)]; kernel_rfl) | (rw [if_neg (by decide +kernel)]; exact ⟨rfl, rfl⟩))
    (fun os started H enc _ => lifted os started H enc)
theorem proved : Rows.FnExactDropFileSaid := over
theorem card : Rows.FnExactDropFileCardSaid :=
  Claim7.holds_tied_plain_at .later [] [.data, .pinned] true (true, "639eb822f888d300205d8b068990b703496c2e2c4464910f1ce7bbea9f91e5a0") false proved (fun _ h => by cases h) (by kernel_rfl) (fun _ h => by cases h) fnExactDropFile_row_tie rfl ⟨rfl, rfl⟩ (by kernel_rfl) rfl
    (fun f fn hf hfn => by
      obtain rfl : f = 3 := Option.some.inj ((show Tryd.prog.funcNamed Rows.fnExactDropFileRow.func = some 3 by kernel_rfl).symm.trans hf) |>.symm
      obtain rfl : fn = Tryd.f3 := (Option.some.inj (Tryd.func3.symm.trans hfn)).symm
      exact ⟨by kernel_rfl, fun j t ht => by
        rw [Tryd.params3] at ht
        have hm : t ∈ [22, 9] := by simpa using Array.mem_of_getElem? ht
        have hall : ([22, 9].all fun u => !Tryd.prog.wantsStandIn u) = true := by kernel_rfl
        exact (show Tryd.prog.wantsStandIn t = false by simpa using List.all_eq_true.1 hall t hm)⟩)
    (by kernel_rfl)
#print axioms card
end Go.Proofs.YtkmcnjpgamaljaaDoor.fnExactDropFile
namespace Go.Proofs.YtkmcnjpgamaljaaDoor
/-- The row, under a short name, for the claim. -/
theorem fnExactDropFile_card : Rows.FnExactDropFileCardSaid := fnExactDropFile.card
end Go.Proofs.YtkmcnjpgamaljaaDoor

/-
  The row of the law FnExactPutFile: for every input the law returns true and its arguments read as they did: the printed contract, lifted; the pure statement is proved in YtkmcnjpgamaljaaDoorPureFnExactPutFile. No condition narrows it.
-/
import Derived.Test.YtkmcnjpgamaljaaDoorRows
import Derived.Test.YtkmcnjpgamaljaaDoorPFnExactPutFilex11
import Derived.Test.YtkmcnjpgamaljaaDoorPureFnExactPutFile
import Derived.Test.YtkmcnjpgamaljaaDoorLift
import Derived.Test.YtkmcnjpgamaljaaDoorWSized
import Derived.Test.YtkmcnjpgamaljaaDoorOpen
import Derived.Test.YtkmcnjpgamaljaaDoorTie
import Derived.Test.YtkmcnjpgamaljaaDoorCards
import Derived.LaidMore
import Derived.SevenTiedAt
import Derived.WalkKit
import Derived.ProofKit
import Derived.OpenShut
import Derived.ShutString
import Derived.ChangeOld
import Derived.Below
import Derived.SizedLaws
namespace Go.Proofs.YtkmcnjpgamaljaaDoor.fnExactPutFile
open Go.ChangeShapes Go.WideShapes Go.ChangeAt Go.RowKit Go.Proofs.YtkmcnjpgamaljaaDoor.Lift Go.Proofs.YtkmcnjpgamaljaaDoor.Open Go.Proofs.YtkmcnjpgamaljaaDoor.PFnExactPutFile Go.Proofs.YtkmcnjpgamaljaaDoorW.PrintWords
open Go.ChangeMaps (open_string shut_string)
set_option linter.unusedVariables false
theorem own : ownKnob Tryd.prog.godebug = none := by kernel_rfl
theorem laidOut : laidOutB Tryd.prog = true := by kernel_rfl
theorem o32 : Opens Tryd.prog 32 k32 (fun x => (x.f0.size ≤ maxLen) ∧ (x.f1.size ≤ maxLen)) :=
  opens_iso (fun x => ⟨x.1, x.2⟩) (fun _ => rfl) (opens_struct Tryd.underlying32 (by kernel_rfl) (opensF_cons rfl (by kernel_rfl) (opens_string Tryd.underlying9) (opensF_one rfl (by kernel_rfl) (opens_string Tryd.underlying9))))
set_option maxRecDepth 100000 in
theorem lifted (os : Os) (started : os.Started) (H : Type) (enc : TypeId × Value → H) :
    ReturnsInHanded {} Tryd.checked os 4 .any (fun w args => (Rows.fnExactPutFileSpec.pre enc Tryd.prog Tryd.f4 Rows.fnExactPutFileRow.domain false w args ∧ laidMetH Tryd.prog Rows.fnExactPutFileRow.laid w) ∧ sizedMet enc Tryd.prog Tryd.f4 (OpenSpec.ofChange Rows.fnExactPutFileSpec) false w args) (Rows.fnExactPutFileSpec.post enc Tryd.prog Tryd.f4 false true false false) := by
  refine returns_listed (C := Tryd.checked) own started (by kernel_rfl) Tryd.func4
    (ChangeSpec.witness_shaped (enc := enc) (C := Tryd.checked) (os := os) (X := fun w _ => laidMetH Tryd.prog Rows.fnExactPutFileRow.laid w) false (World.laidAll Tryd.prog os Rows.fnExactPutFileRow.laid) #[.slice none 0 0, .agg #[.string ByteArray.empty, .string ByteArray.empty]] 8 (World.laidAll_os _ _ _)
      (World.shaped_of_ZipB (by kernel_rfl) (by kernel_rfl)) (by kernel_rfl) (by kernel_rfl) (by kernel_rfl)
      (by rw [MakeChecks.laidMetH_plain _ _ _ (by kernel_rfl)]; exact laidMet_laidAll _ (by kernel_rfl) (by kernel_rfl))) ?_
  intro W base args ds gs before hval0 hW hcnd hsz0 hL hSh
  have hsz : (DataW.weightsEach Tryd.prog (Tryd.f4.params.toList ++ Rows.fnExactPutFileSpec.plain.varTypes Tryd.prog) (ds ++ gs)).all (· ≤ reachBytes) = true := hsz0
  have hval : ∀ (j : Nat) t v, Tryd.f4.params[j]? = some t → args[j]? = some v → Value.okWide Tryd.prog W .any base t v := hval0
  have hW' := hW
  obtain ⟨p, q, hA0, hV, rfl, hfz, hnd⟩ := hW
  have hA : DataW.TrodAll enc Tryd.prog W 0 (fun _ => true) true Tryd.f4.params.toList args.toList ds p := hA0
  rw [Tryd.params4] at hA hval hsz
  obtain ⟨v0, vs0, d0, ds0, p0, q0, hargs, rfl, rfl, h0, r0⟩ := trodAll_cons hA
  obtain ⟨v1, vs1, d1, ds1, p1, q1, rfl, rfl, rfl, h1, r1⟩ := trodAll_cons r0
  obtain ⟨rfl, rfl, rfl⟩ := trodAll_nil r1
  obtain rfl : args = #[v0, v1] := by cases args; simp_all
  obtain ⟨rfl, rfl⟩ := trodVars_none hV
  obtain ⟨A0, len0, cap0, rfl⟩ := okWide_slice Tryd.underlying22 (hval 0 22 v0 rfl rfl)
  have k0 := h0
  have lt0 : ∀ x ∈ p0, x.block < W.heap.size := by obtain ⟨m, hm⟩ := k0; exact DataW.trod_lt m _ _ _ hm
  obtain ⟨l0, hn0, hc0, hC0, hB0⟩ := slice_in (opens_slice Tryd.underlying22 (by kernel_rfl) o32) h0
  subst hn0
  obtain ⟨cs1, rfl, _⟩ := okWide_struct Tryd.underlying32 (hval 1 32 v1 rfl rfl)
  have k1 := h1
  have lt1 : ∀ x ∈ p1, x.block < W.heap.size := by obtain ⟨m, hm⟩ := k1; exact DataW.trod_lt m _ _ _ hm
  obtain ⟨fuel1, hf1⟩ := h1
  obtain ⟨x1, hK1, hB1⟩ := opens_struct Tryd.underlying32 (by kernel_rfl) (opensF_cons rfl (by kernel_rfl) (opens_string Tryd.underlying9) (opensF_one rfl (by kernel_rfl) (opens_string Tryd.underlying9))) H enc W 0 _ true fuel1 _ _ hf1
  obtain ⟨x1_0, x1_1⟩ := x1
  obtain ⟨c1_0, e1_0, E1_0, hK1_0, hK1_1⟩ := hK1
  obtain ⟨hB1_0, hB1_1⟩ := hB1
  have q1_0 := hK1_0
  have q1_1 := hK1_1
  obtain rfl : cs1 = #[.string x1_0, .string x1_1] := by
    have z : cs1.toList = [.string x1_0, .string x1_1] := by
      have z0 : cs1.toList = _ := E1_0
      rw [show c1_0 = _ from q1_0] at z0
      rw [show e1_0 = _ from q1_1] at z0
      exact z0
    rw [← Array.toList_inj]
    exact z
  have HT : TabsL W := tabsL hSh
  clear hA0 hval0 hsz0 hsz
  obtain ⟨k, h⟩ := Pure.FnExactPutFile l0 x1_0 x1_1 hB0 hB1_0 hB1_1
  refine (laws_FnExactPutFile.calls k _ _ l0 x1_0 x1_1 true W hC0 hc0 HT h).mono fun e W' ⟨he, bel⟩ => ?_
  subst he
  exact ⟨_, rfl, _, _, _, [], _, [], hW', trodAll_mk1 (shut_bool Tryd.underlying4 _), (trodAll_cons_mk (Below.trod laidOut (by kernel_rfl) (of_decide_eq_true (by kernel_rfl)) k0 bel lt0) (trodAll_cons_mk (Below.trod laidOut (by kernel_rfl) (of_decide_eq_true (by kernel_rfl)) k1 bel lt1) trodAll_mk0)), rfl, bel.frame _, fun h => by cases h⟩
theorem j10 : (Rows.fnExactPutFileRow.inPlace == Tryd.pinned.checked.prog.inPlace 4) = true := by kernel_rfl
theorem j11 : (Rows.fnExactPutFileRow.unfollowed == Tryd.pinned.checked.prog.unfollowed 4) = true := by kernel_rfl
theorem j12 : (Rows.fnExactPutFileRow.recurses == Tryd.pinned.checked.prog.recurses 4) = true := by kernel_rfl
theorem j13 : (Rows.fnExactPutFileRow.named == Tryd.pinned.checked.prog.varsNamed 4) = true := by kernel_rfl
theorem closed : joinedFacts Tryd.pinned.checked.prog 4 Tryd.f4 Rows.fnExactPutFileSpec Rows.fnExactPutFileRow = true := by
  unfold joinedFacts
  rw [j10, j11, j12, j13]
  kernel_rfl
theorem over : Rows.fnExactPutFileRow.holds Tryd.pinned (OpenSpec.ofChange Rows.fnExactPutFileSpec) :=
  OpenClaim.holds_of_wide 4 Tryd.f4 rfl rfl rfl rfl rfl rfl rfl ⟨rfl, rfl, rfl, rfl, rfl⟩ rfl rfl rfl rfl rfl (by kernel_rfl) Tryd.func4 closed
    (of_decide_eq_true (by kernel_rfl)) (by unfold Func.isWrapper; first | (rw [if_pos (by decide +kernel)]; kernel_rfl) | (rw [if_neg (by decide +kernel)]; exact ⟨rfl, rfl⟩))
    (fun os started H enc _ => lifted os started H enc)
theorem proved : Rows.FnExactPutFileSaid := over
theorem card : Rows.FnExactPutFileCardSaid :=
  Claim7.holds_tied_plain_at .later [] [.data, .pinned] true (true, "639eb822f888d300205d8b068990b703496c2e2c4464910f1ce7bbea9f91e5a0") false proved (fun _ h => by cases h) (by kernel_rfl) (fun _ h => by cases h) fnExactPutFile_row_tie rfl ⟨rfl, rfl⟩ (by kernel_rfl) rfl
    (fun f fn hf hfn => by
      obtain rfl : f = 4 := Option.some.inj ((show Tryd.prog.funcNamed Rows.fnExactPutFileRow.func = some 4 by kernel_rfl).symm.trans hf) |>.symm
      obtain rfl : fn = Tryd.f4 := (Option.some.inj (Tryd.func4.symm.trans hfn)).symm
      exact ⟨by kernel_rfl, fun j t ht => by
        rw [Tryd.params4] at ht
        have hm : t ∈ [22, 32] := by simpa using Array.mem_of_getElem? ht
        have hall : ([22, 32].all fun u => !Tryd.prog.wantsStandIn u) = true := by kernel_rfl
        exact (show Tryd.prog.wantsStandIn t = false by simpa using List.all_eq_true.1 hall t hm)⟩)
    (by kernel_rfl)
#print axioms card
end Go.Proofs.YtkmcnjpgamaljaaDoor.fnExactPutFile
namespace Go.Proofs.YtkmcnjpgamaljaaDoor
/-- The row, under a short name, for the claim. -/
theorem fnExactPutFile_card : Rows.FnExactPutFileCardSaid := fnExactPutFile.card
end Go.Proofs.YtkmcnjpgamaljaaDoor

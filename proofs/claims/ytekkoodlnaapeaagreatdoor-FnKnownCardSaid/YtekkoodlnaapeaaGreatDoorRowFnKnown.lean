/-
  The row of the law FnKnown: for every input the law returns true and its arguments read as they did: the law is reckoned by an evaluator of the model whose soundness is proved (YtekkoodlnaapeaaGreatDoorSx1 to Sx4, Law); the kernel reckons each case (YtekkoodlnaapeaaGreatDoorRun..). No condition narrows it.
-/
import Derived.Test.YtekkoodlnaapeaaGreatDoorRows
import Derived.Test.YtekkoodlnaapeaaGreatDoorFinKnown
import Derived.Test.YtekkoodlnaapeaaGreatDoorLift
import Derived.Test.YtekkoodlnaapeaaGreatDoorWSized
import Derived.Test.YtekkoodlnaapeaaGreatDoorOpen
import Derived.Test.YtekkoodlnaapeaaGreatDoorTie
import Derived.Test.YtekkoodlnaapeaaGreatDoorCards
import Derived.LaidMore
import Derived.SevenTiedAt
import Derived.WalkKit
import Derived.ProofKit
import Derived.OpenShut
import Derived.ShutString
import Derived.ChangeOld
import Derived.Below
import Derived.SizedLaws
namespace Go.Proofs.YtekkoodlnaapeaaGreatDoor.fnKnown
open Go.ChangeShapes Go.WideShapes Go.ChangeAt Go.RowKit Go.Proofs.YtekkoodlnaapeaaGreatDoor.Lift Go.Proofs.YtekkoodlnaapeaaGreatDoor.Open Go.Proofs.YtekkoodlnaapeaaGreatDoorW.PrintWords
open Go.ChangeMaps (open_string shut_string)
set_option linter.unusedVariables false
theorem own : ownKnob Tryz.prog.godebug = none := by kernel_rfl
theorem laidOut : laidOutB Tryz.prog = true := by kernel_rfl
set_option maxRecDepth 100000 in
theorem lifted (os : Os) (started : os.Started) (H : Type) (enc : TypeId × Value → H) :
    ReturnsInHanded {} Tryz.checked os 4 .any (fun w args => (Rows.fnKnownSpec.pre enc Tryz.prog Tryz.f4 Rows.fnKnownRow.domain false w args ∧ laidMetH Tryz.prog Rows.fnKnownRow.laid w) ∧ sizedMet enc Tryz.prog Tryz.f4 (OpenSpec.ofChange Rows.fnKnownSpec) false w args) (Rows.fnKnownSpec.post enc Tryz.prog Tryz.f4 false true false false) := by
  refine returns_listed (C := Tryz.checked) own started (by kernel_rfl) Tryz.func4
    (ChangeSpec.witness_shaped (enc := enc) (C := Tryz.checked) (os := os) (X := fun w _ => laidMetH Tryz.prog Rows.fnKnownRow.laid w) false (World.laidAll Tryz.prog os Rows.fnKnownRow.laid) #[.slice none 0 0] 8 (World.laidAll_os _ _ _)
      (World.shaped_of_ZipB (by kernel_rfl) (by kernel_rfl)) (by kernel_rfl) (by kernel_rfl) (by kernel_rfl)
      (by rw [MakeChecks.laidMetH_plain _ _ _ (by kernel_rfl)]; exact laidMet_laidAll _ (by kernel_rfl) (by kernel_rfl))) ?_
  intro W base args ds gs before hval0 hW hcnd hsz0 hL hSh
  have hsz : (DataW.weightsEach Tryz.prog (Tryz.f4.params.toList ++ Rows.fnKnownSpec.plain.varTypes Tryz.prog) (ds ++ gs)).all (· ≤ reachBytes) = true := hsz0
  have hval : ∀ (j : Nat) t v, Tryz.f4.params[j]? = some t → args[j]? = some v → Value.okWide Tryz.prog W .any base t v := hval0
  have hW' := hW
  obtain ⟨p, q, hA0, hV, rfl, hfz, hnd⟩ := hW
  have hA : DataW.TrodAll enc Tryz.prog W 0 (fun _ => true) true Tryz.f4.params.toList args.toList ds p := hA0
  rw [Tryz.params4] at hA hval hsz
  obtain ⟨v0, vs0, d0, ds0, p0, q0, hargs, rfl, rfl, h0, r0⟩ := trodAll_cons hA
  obtain ⟨rfl, rfl, rfl⟩ := trodAll_nil r0
  obtain rfl : args = #[v0] := by cases args; simp_all
  obtain ⟨rfl, rfl⟩ := trodVars_none hV
  obtain ⟨A0, len0, cap0, rfl⟩ := okWide_slice Tryz.underlying22 (hval 0 22 v0 rfl rfl)
  have k0 := h0
  have lt0 : ∀ x ∈ p0, x.block < W.heap.size := by obtain ⟨m, hm⟩ := k0; exact DataW.trod_lt m _ _ _ hm
  obtain ⟨l0, hn0, hc0, hC0, hB0⟩ := slice_in (opens_slice Tryz.underlying22 (by kernel_rfl) (opens_int Tryz.underlying5)) h0
  subst hn0
  have HL : TabsL W := tabsL hSh
  rw [MakeChecks.laidMetH_plain _ _ _ (by kernel_rfl)] at hL
  have HT : TabsE W := ⟨(tabsP hL (by first | exact .head _ | exact .tail _ (.head _) | exact .tail _ (.tail _ (.head _)) | exact .tail _ (.tail _ (.tail _ (.head _))) | exact .tail _ (.tail _ (.tail _ (.tail _ (.head _)))))).pow, errSyn (by first | exact hL | exact hL.tail | exact hL.tail.tail | exact hL.tail.tail.tail | exact hL.tail.tail.tail.tail | exact hL.tail.tail.tail.tail.tail | exact hL.tail.tail.tail.tail.tail.tail), errRng (by first | exact hL | exact hL.tail | exact hL.tail.tail | exact hL.tail.tail.tail | exact hL.tail.tail.tail.tail | exact hL.tail.tail.tail.tail.tail | exact hL.tail.tail.tail.tail.tail.tail)⟩
  clear hA0 hval0 hsz0 hsz
  refine (SX.fnKnown (l := l0) (A := A0) (c := cap0) (W := W) ⟨hC0, hc0, HL, HT, hB0.2⟩).mono fun e W' ⟨he, bel⟩ => ?_
  subst he
  exact ⟨_, rfl, _, _, _, [], _, [], hW', trodAll_mk1 (shut_bool Tryz.underlying4 _), (trodAll_cons_mk (Below.trod laidOut (by kernel_rfl) (of_decide_eq_true (by kernel_rfl)) k0 bel lt0) trodAll_mk0), rfl, bel.frame _, fun h => by cases h⟩
theorem j10 : (Rows.fnKnownRow.inPlace == Tryz.pinned.checked.prog.inPlace 4) = true := by kernel_rfl
theorem j11 : (Rows.fnKnownRow.unfollowed == Tryz.pinned.checked.prog.unfollowed 4) = true := by kernel_rfl
theorem j12 : (Rows.fnKnownRow.recurses == Tryz.pinned.checked.prog.recurses 4) = true := by kernel_rfl
theorem j13 : (Rows.fnKnownRow.named == Tryz.pinned.checked.prog.varsNamed 4) = true := by kernel_rfl
theorem closed : joinedFacts Tryz.pinned.checked.prog 4 Tryz.f4 Rows.fnKnownSpec Rows.fnKnownRow = true := by
  unfold joinedFacts
  rw [j10, j11, j12, j13]
  kernel_rfl
theorem over : Rows.fnKnownRow.holds Tryz.pinned (OpenSpec.ofChange Rows.fnKnownSpec) :=
  OpenClaim.holds_of_wide 4 Tryz.f4 rfl rfl rfl rfl rfl rfl rfl ⟨rfl, rfl, rfl, rfl, rfl⟩ rfl rfl rfl rfl rfl (by kernel_rfl) Tryz.func4 closed
    (of_decide_eq_true (by kernel_rfl)) (by unfold Func.isWrapper; first | (rw [if_pos (by decide +kernel)]; kernel_rfl) | (rw [if_neg (by decide +kernel)]; exact ⟨rfl, rfl⟩))
    (fun os started H enc _ => lifted os started H enc)
theorem proved : Rows.FnKnownSaid := over
theorem card : Rows.FnKnownCardSaid :=
  Claim7.holds_tied_plain_at .later [] [.data, .data, .data, .sentinel, .sentinel] true (true, "689928cfe2b3f8e80ba2a1e222b7b5f1ceba17e3bfaf39160f22979414f0426f") true proved (fun _ h => by cases h) (by kernel_rfl) (fun _ h => by cases h) fnKnown_row_tie rfl ⟨rfl, rfl⟩ (by kernel_rfl) rfl
    (fun f fn hf hfn => by
      obtain rfl : f = 4 := Option.some.inj ((show Tryz.prog.funcNamed Rows.fnKnownRow.func = some 4 by kernel_rfl).symm.trans hf) |>.symm
      obtain rfl : fn = Tryz.f4 := (Option.some.inj (Tryz.func4.symm.trans hfn)).symm
      exact ⟨by kernel_rfl, fun j t ht => by
        rw [Tryz.params4] at ht
        have hm : t ∈ [22] := by simpa using Array.mem_of_getElem? ht
        have hall : ([22].all fun u => !Tryz.prog.wantsStandIn u) = true := by kernel_rfl
        exact (show Tryz.prog.wantsStandIn t = false by simpa using List.all_eq_true.1 hall t hm)⟩)
    (by kernel_rfl)
#print axioms card
end Go.Proofs.YtekkoodlnaapeaaGreatDoor.fnKnown
namespace Go.Proofs.YtekkoodlnaapeaaGreatDoor
/-- The row, under a short name, for the claim. -/
theorem fnKnown_card : Rows.FnKnownCardSaid := fnKnown.card
end Go.Proofs.YtekkoodlnaapeaaGreatDoor

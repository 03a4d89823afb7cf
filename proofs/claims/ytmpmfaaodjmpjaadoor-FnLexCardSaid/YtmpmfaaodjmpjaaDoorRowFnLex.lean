/-
  The row of the law FnLex: for every input the law returns true and its arguments read as they did: the printed contract, lifted; the pure statement is proved in YtmpmfaaodjmpjaaDoorPureFnLex. No condition narrows it.
-/
import Derived.Test.YtmpmfaaodjmpjaaDoorRows
import Derived.Test.YtmpmfaaodjmpjaaDoorPFnLexx5
import Derived.Test.YtmpmfaaodjmpjaaDoorPureFnLex
import Derived.Test.YtmpmfaaodjmpjaaDoorLift
import Derived.Test.YtmpmfaaodjmpjaaDoorWSized
import Derived.Test.YtmpmfaaodjmpjaaDoorOpen
import Derived.Test.YtmpmfaaodjmpjaaDoorTie
import Derived.Test.YtmpmfaaodjmpjaaDoorCards
import Derived.LaidMore
import Derived.SevenTiedAt
import Derived.WalkKit
import Derived.ProofKit
import Derived.OpenShut
import Derived.ShutString
import Derived.ChangeOld
import Derived.Below
import Derived.SizedLaws
namespace Go.Proofs.YtmpmfaaodjmpjaaDoor.fnLex
open Go.ChangeShapes Go.WideShapes Go.ChangeAt Go.RowKit Go.Proofs.YtmpmfaaodjmpjaaDoor.Lift Go.Proofs.YtmpmfaaodjmpjaaDoor.Open Go.Proofs.YtmpmfaaodjmpjaaDoor.PFnLex Go.Proofs.YtmpmfaaodjmpjaaDoorW.PrintWords
open Go.ChangeMaps (open_string shut_string)
set_option linter.unusedVariables false
theorem own : ownKnob Tryd.prog.godebug = none := by kernel_rfl
theorem laidOut : laidOutB Tryd.prog = true := by kernel_rfl
set_option maxRecDepth 100000 in
theorem lifted (os : Os) (started : os.Started) (H : Type) (enc : TypeId × Value → H) :
    ReturnsInHanded {} Tryd.checked os 10 .any (fun w args => (Rows.fnLexSpec.pre enc Tryd.prog Tryd.f10 Rows.fnLexRow.domain false w args ∧ laidMetH Tryd.prog Rows.fnLexRow.laid w) ∧ sizedMet enc Tryd.prog Tryd.f10 (OpenSpec.ofChange Rows.fnLexSpec) false w args) (Rows.fnLexSpec.post enc Tryd.prog Tryd.f10 false true false false) := by
  refine returns_listed (C := Tryd.checked) own started (by kernel_rfl) Tryd.func10
    (ChangeSpec.witness_shaped (enc := enc) (C := Tryd.checked) (os := os) (X := fun w _ => laidMetH Tryd.prog Rows.fnLexRow.laid w) false (World.laidAll Tryd.prog os Rows.fnLexRow.laid) #[.slice none 0 0] 8 (World.laidAll_os _ _ _)
      (World.shaped_of_ZipB (by kernel_rfl) (by kernel_rfl)) (by kernel_rfl) (by kernel_rfl) (by kernel_rfl)
      (by rw [MakeChecks.laidMetH_plain _ _ _ (by kernel_rfl)]; exact laidMet_laidAll _ (by kernel_rfl) (by kernel_rfl))) ?_
  intro W base args ds gs before hval0 hW hcnd hsz0 hL hSh
  have hsz : (DataW.weightsEach Tryd.prog (Tryd.f10.params.toList ++ Rows.fnLexSpec.plain.varTypes Tryd.prog) (ds ++ gs)).all (· ≤ reachBytes) = true := hsz0
  have hval : ∀ (j : Nat) t v, Tryd.f10.params[j]? = some t → args[j]? = some v → Value.okWide Tryd.prog W .any base t v := hval0
  have hW' := hW
  obtain ⟨p, q, hA0, hV, rfl, hfz, hnd⟩ := hW
  have hA : DataW.TrodAll enc Tryd.prog W 0 (fun _ => true) true Tryd.f10.params.toList args.toList ds p := hA0
  rw [Tryd.params10] at hA hval hsz
  obtain ⟨v0, vs0, d0, ds0, p0, q0, hargs, rfl, rfl, h0, r0⟩ := trodAll_cons hA
  obtain ⟨rfl, rfl, rfl⟩ := trodAll_nil r0
  obtain rfl : args = #[v0] := by cases args; simp_all
  obtain ⟨rfl, rfl⟩ := trodVars_none hV
  obtain ⟨A0, len0, cap0, rfl⟩ := okWide_slice Tryd.underlying38 (hval 0 38 v0 rfl rfl)
  have k0 := h0
  have lt0 : ∀ x ∈ p0, x.block < W.heap.size := by obtain ⟨m, hm⟩ := k0; exact DataW.trod_lt m _ _ _ hm
  obtain ⟨l0, hn0, hc0, hC0, hB0⟩ := slice_in (opens_slice Tryd.underlying38 (by kernel_rfl) (opens_int Tryd.underlying5)) h0
  subst hn0
  rw [MakeChecks.laidMetH_plain _ _ _ (by kernel_rfl)] at hL
  have HT : TabsE W := ⟨(tabsP hL (by first | exact .head _ | exact .tail _ (.head _) | exact .tail _ (.tail _ (.head _)) | exact .tail _ (.tail _ (.tail _ (.head _))) | exact .tail _ (.tail _ (.tail _ (.tail _ (.head _)))))).pow, errSyn (by first | exact hL | exact hL.tail | exact hL.tail.tail | exact hL.tail.tail.tail | exact hL.tail.tail.tail.tail | exact hL.tail.tail.tail.tail.tail | exact hL.tail.tail.tail.tail.tail.tail), errRng (by first | exact hL | exact hL.tail | exact hL.tail.tail | exact hL.tail.tail.tail | exact hL.tail.tail.tail.tail | exact hL.tail.tail.tail.tail.tail | exact hL.tail.tail.tail.tail.tail.tail)⟩
  clear hA0 hval0 hsz0 hsz
  obtain ⟨k, h⟩ := Pure.FnLex l0 hB0
  refine (laws_FnLex.calls k _ _ l0 true W hC0 hc0 HT h).mono fun e W' ⟨he, bel⟩ => ?_
  subst he
  exact ⟨_, rfl, _, _, _, [], _, [], hW', trodAll_mk1 (shut_bool Tryd.underlying4 _), (trodAll_cons_mk (Below.trod laidOut (by kernel_rfl) (of_decide_eq_true (by kernel_rfl)) k0 bel lt0) trodAll_mk0), rfl, bel.frame _, fun h => by cases h⟩
theorem j10 : (Rows.fnLexRow.inPlace == Tryd.pinned.checked.prog.inPlace 10) = true := by kernel_rfl
theorem j11 : (Rows.fnLexRow.unfollowed == Tryd.pinned.checked.prog.unfollowed 10) = true := by kernel_rfl
theorem j12 : (Rows.fnLexRow.recurses == Tryd.pinned.checked.prog.recurses 10) = true := by kernel_rfl
theorem j13 : (Rows.fnLexRow.named == Tryd.pinned.checked.prog.varsNamed 10) = true := by kernel_rfl
theorem closed : joinedFacts Tryd.pinned.checked.prog 10 Tryd.f10 Rows.fnLexSpec Rows.fnLexRow = true := by
  unfold joinedFacts
  rw [j10, j11, j12, j13]
  kernel_rfl
theorem over : Rows.fnLexRow.holds Tryd.pinned (OpenSpec.ofChange Rows.fnLexSpec) :=
  OpenClaim.holds_of_wide 10 Tryd.f10 rfl rfl rfl rfl rfl rfl rfl ⟨rfl, rfl, rfl, rfl, rfl⟩ rfl rfl rfl rfl rfl (by kernel_rfl) Tryd.func10 closed
    (of_decide_eq_true (by kernel_rfl)) (by unfold Func.isWrapper; first | (rw [if_pos (by decide +kernel)]; kernel_rfl) | (rw [if_neg (by decide +kernel)]; exact ⟨rfl, rfl⟩))
    (fun os started H enc _ => lifted os started H enc)
theorem proved : Rows.FnLexSaid := over
theorem card : Rows.FnLexCardSaid :=
  Claim7.holds_tied_plain_at .later [] [.data, .data, .data, .sentinel, .sentinel] true (true, "d7b4837e76b9b089eb8e8db53ef4ec9f2b2bce7cdb64466ba76ef66faa6bca34") true proved (fun _ h => by cases h) (by kernel_rfl) (fun _ h => by cases h) fnLex_row_tie rfl ⟨rfl, rfl⟩ (by kernel_rfl) rfl
    (fun f fn hf hfn => by
      obtain rfl : f = 10 := Option.some.inj ((show Tryd.prog.funcNamed Rows.fnLexRow.func = some 10 by kernel_rfl).symm.trans hf) |>.symm
      obtain rfl : fn = Tryd.f10 := (Option.some.inj (Tryd.func10.symm.trans hfn)).symm
      exact ⟨by kernel_rfl, fun j t ht => by
        rw [Tryd.params10] at ht
        have hm : t ∈ [38] := by simpa using Array.mem_of_getElem? ht
        have hall : ([38].all fun u => !Tryd.prog.wantsStandIn u) = true := by kernel_rfl
        exact (show Tryd.prog.wantsStandIn t = false by simpa using List.all_eq_true.1 hall t hm)⟩)
    (by kernel_rfl)
#print axioms card
end Go.Proofs.YtmpmfaaodjmpjaaDoor.fnLex
namespace Go.Proofs.YtmpmfaaodjmpjaaDoor
/-- The row, under a short name, for the claim. -/
theorem fnLex_card : Rows.FnLexCardSaid := fnLex.card
end Go.Proofs.YtmpmfaaodjmpjaaDoor

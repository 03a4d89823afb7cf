/-
  The row of the law FnExactHeights: for every input the law returns true and its arguments read as they did: the printed contract, lifted; the pure statement is proved in YtpomlknkfedekaaPureFnExactHeights. No condition narrows it.
-/
import Derived.Test.YtpomlknkfedekaaRows
import Derived.Test.YtpomlknkfedekaaPFnExactHeightsx5
import Derived.Test.YtpomlknkfedekaaPureFnExactHeights
import Derived.Test.YtpomlknkfedekaaLift
import Derived.Test.YtpomlknkfedekaaWSized
import Derived.WalkKit
import Derived.ProofKit
import Derived.OpenShut
import Derived.ShutString
import Derived.ChangeOld
import Derived.Below
import Derived.SizedLaws
namespace Go.Proofs.Ytpomlknkfedekaa.fnExactHeights
open Go.ChangeShapes Go.WideShapes Go.ChangeAt Go.RowKit Go.Proofs.Ytpomlknkfedekaa.Lift Go.Proofs.Ytpomlknkfedekaa.PFnExactHeights Go.Proofs.YtpomlknkfedekaaW.PrintWords
open Go.ChangeMaps (open_string shut_string)
set_option linter.unusedVariables false
theorem own : ownKnob Try.prog.godebug = none := by kernel_rfl
theorem laidOut : laidOutB Try.prog = true := by kernel_rfl
theorem o80 : Opens Try.prog 80 k80 (fun x => ((Lit.int .i64 x.f0).wf = true) ∧ ((Lit.int .i64 x.f1).wf = true)) :=
  opens_iso (fun x => ⟨x.1, x.2⟩) (fun _ => rfl) (opens_struct Try.underlying80 (by kernel_rfl) (opensF_cons rfl (by kernel_rfl) (opens_int Try.underlying3) (opensF_one rfl (by kernel_rfl) (opens_int Try.underlying3))))
set_option maxRecDepth 100000 in
theorem lifted (os : Os) (started : os.Started) (H : Type) (enc : TypeId × Value → H) :
    ReturnsInHanded {} Try.checked os 3 .any (Rows.fnExactHeightsSpec.pre6 enc Try.prog Try.f3 Rows.fnExactHeightsRow.domain false) (Rows.fnExactHeightsSpec.post enc Try.prog Try.f3 false true false false) := by
  refine returnsInHanded_of_change_sized (C := Try.checked) own started (by kernel_rfl) Try.func3
    (ChangeSpec.witness6 (enc := enc) (C := Try.checked) false ⟨#[], #[.agg #[.slice none 0 0, .slice none 0 0, .slice none 0 0]], []⟩ 8 (by kernel_rfl) (by kernel_rfl) (by kernel_rfl) (by kernel_rfl)) ?_
  intro W base args ds gs before hval0 hW hcnd hsz0 _
  have hsz : (DataW.weightsEach Try.prog (Try.f3.params.toList ++ Rows.fnExactHeightsSpec.plain.varTypes Try.prog) (ds ++ gs)).all (· ≤ reachBytes) = true := hsz0
  have hval : ∀ (j : Nat) t v, Try.f3.params[j]? = some t → args[j]? = some v → Value.okWide Try.prog W .any base t v := hval0
  have hW' := hW
  obtain ⟨p, q, hA0, hV, rfl, hfz, hnd⟩ := hW
  have hA : DataW.TrodAll enc Try.prog W 0 (fun _ => true) true Try.f3.params.toList args.toList ds p := hA0
  rw [Try.params3] at hA hval hsz
  obtain ⟨v0, vs0, d0, ds0, p0, q0, hargs, rfl, rfl, h0, r0⟩ := trodAll_cons hA
  obtain ⟨rfl, rfl, rfl⟩ := trodAll_nil r0
  obtain rfl : args = #[v0] := by cases args; simp_all
  obtain ⟨rfl, rfl⟩ := trodVars_none hV
  obtain ⟨cs0, rfl, _⟩ := okWide_struct Try.underlying26 (hval 0 26 v0 rfl rfl)
  have k0 := h0
  have lt0 : ∀ x ∈ p0, x.block < W.heap.size := by obtain ⟨m, hm⟩ := k0; exact DataW.trod_lt m _ _ _ hm
  obtain ⟨fuel0, hf0⟩ := h0
  obtain ⟨x0, hK0, hB0⟩ := opens_struct Try.underlying26 (by kernel_rfl) (opensF_cons rfl (by kernel_rfl) (opens_slice Try.underlying22 (by kernel_rfl) o80) (opensF_cons rfl (by kernel_rfl) (opens_slice Try.underlying23 (by kernel_rfl) (opens_string Try.underlying9)) (opensF_one rfl (by kernel_rfl) (opens_slice Try.underlying24 (by kernel_rfl) (opens_int Try.underlying3))))) H enc W 0 _ true fuel0 _ _ hf0
  obtain ⟨x0_0, x0_1, x0_2⟩ := x0
  obtain ⟨c0_0, e0_0, E0_0, hK0_0, ⟨c0_1, e0_1, E0_1, hK0_1, hK0_2⟩⟩ := hK0
  obtain ⟨hB0_0, hB0_1, hB0_2⟩ := hB0
  obtain ⟨A0_0, cap0_0, q0_0, hc0_0, hC0_0⟩ := hK0_0
  obtain ⟨A0_1, cap0_1, q0_1, hc0_1, hC0_1⟩ := hK0_1
  obtain ⟨A0_2, cap0_2, q0_2, hc0_2, hC0_2⟩ := hK0_2
  obtain rfl : cs0 = #[.slice A0_0 x0_0.length cap0_0, .slice A0_1 x0_1.length cap0_1, .slice A0_2 x0_2.length cap0_2] := by
    have z : cs0.toList = [.slice A0_0 x0_0.length cap0_0, .slice A0_1 x0_1.length cap0_1, .slice A0_2 x0_2.length cap0_2] := by
      have z0 : cs0.toList = _ := E0_0
      rw [show c0_0 = _ from q0_0] at z0
      rw [E0_1] at z0
      rw [show c0_1 = _ from q0_1] at z0
      rw [show e0_1 = _ from q0_2] at z0
      exact z0
    rw [← Array.toList_inj]
    exact z
  clear hA0 hval0 hsz0 hsz
  obtain ⟨k, h⟩ := Pure.FnExactHeights x0_0 x0_1 x0_2 hB0_0 hB0_1 hB0_2
  refine (laws_FnExactHeights.calls k _ _ x0_0 _ _ x0_1 _ _ x0_2 true W hC0_0 hc0_0 hC0_1 hc0_1 hC0_2 hc0_2 h).mono fun e W' ⟨he, bel⟩ => ?_
  subst he
  exact ⟨_, rfl, _, _, _, [], _, [], hW', trodAll_mk1 (shut_bool Try.underlying4 _), (trodAll_cons_mk (Below.trod laidOut (by kernel_rfl) (of_decide_eq_true (by kernel_rfl)) k0 bel lt0) trodAll_mk0), rfl, bel.frame _, fun h => by cases h⟩
theorem over : Rows.fnExactHeightsRow.holds Try.pinned (OpenSpec.ofChange Rows.fnExactHeightsSpec) :=
  OpenClaim.holds_of_wide 3 Try.f3 rfl rfl rfl rfl rfl rfl rfl ⟨rfl, rfl, rfl, rfl, rfl⟩ rfl rfl rfl rfl rfl (by kernel_rfl) Try.func3 (by kernel_rfl)
    (of_decide_eq_true (by kernel_rfl)) (by unfold Func.isWrapper; first | (rw [if_pos (by decide +kernel)]; kernel_rfl) | (rw [if_neg (by decide +kernel)]; exact ⟨rfl, rfl⟩))
    (fun os started H enc _ => lifted os started H enc)
theorem proved : Rows.FnExactHeightsSaid := over
#print axioms proved
end Go.Proofs.Ytpomlknkfedekaa.fnExactHeights
namespace Go.Proofs.Ytpomlknkfedekaa
/-- The row, under a short name, for the claim. -/
theorem fnExactHeights_holds : Rows.FnExactHeightsSaid := fnExactHeights.proved
end Go.Proofs.Ytpomlknkfedekaa

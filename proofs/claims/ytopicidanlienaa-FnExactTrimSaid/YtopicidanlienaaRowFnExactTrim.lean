/-
  The row of the law FnExactTrim: for every input the law returns true and its arguments read as they did: the printed contract, lifted; the pure statement is proved in YtopicidanlienaaPureFnExactTrim. No condition narrows it.
-/
import Derived.Test.YtopicidanlienaaRows
import Derived.Test.YtopicidanlienaaPFnExactTrimx19
import Derived.Test.YtopicidanlienaaPureFnExactTrim
import Derived.Test.YtopicidanlienaaLift
import Derived.Test.YtopicidanlienaaWSized
import Derived.WalkKit
import Derived.ProofKit
import Derived.OpenShut
import Derived.ShutString
import Derived.ChangeOld
import Derived.Below
import Derived.SizedLaws
namespace Go.Proofs.Ytopicidanlienaa.fnExactTrim
open Go.ChangeShapes Go.WideShapes Go.ChangeAt Go.RowKit Go.Proofs.Ytopicidanlienaa.Lift Go.Proofs.Ytopicidanlienaa.PFnExactTrim Go.Proofs.YtopicidanlienaaW.PrintWords
open Go.ChangeMaps (open_string shut_string)
set_option linter.unusedVariables false
theorem own : ownKnob Try.prog.godebug = none := by kernel_rfl
theorem laidOut : laidOutB Try.prog = true := by kernel_rfl
theorem o77 : Opens Try.prog 77 k77 (fun x => (x.f0.size ≤ maxLen) ∧ (x.f1.size ≤ maxLen) ∧ (x.f2.size ≤ maxLen)) :=
  opens_iso (fun x => ⟨x.1, x.2.1, x.2.2⟩) (fun _ => rfl) (opens_struct Try.underlying77 (by kernel_rfl) (opensF_cons rfl (by kernel_rfl) (opens_string Try.underlying9) (opensF_cons rfl (by kernel_rfl) (opens_string Try.underlying9) (opensF_one rfl (by kernel_rfl) (opens_string Try.underlying9)))))
theorem o79 : Opens Try.prog 79 k79 (fun x => ((Lit.int .i64 x.f0).wf = true) ∧ (x.f1.size ≤ maxLen) ∧ (x.f2.size ≤ maxLen) ∧ (x.f3.size ≤ maxLen)) :=
  opens_iso (fun x => ⟨x.1, x.2.1, x.2.2.1, x.2.2.2⟩) (fun _ => rfl) (opens_struct Try.underlying79 (by kernel_rfl) (opensF_cons rfl (by kernel_rfl) (opens_int Try.underlying3) (opensF_cons rfl (by kernel_rfl) (opens_string Try.underlying9) (opensF_cons rfl (by kernel_rfl) (opens_string Try.underlying9) (opensF_one rfl (by kernel_rfl) (opens_string Try.underlying9))))))
theorem o81 : Opens Try.prog 81 k81 (fun x => ((Lit.int .i64 x.f0).wf = true) ∧ (x.f1.size ≤ maxLen) ∧ ((Lit.int .i64 x.f2).wf = true)) :=
  opens_iso (fun x => ⟨x.1, x.2.1, x.2.2⟩) (fun _ => rfl) (opens_struct Try.underlying81 (by kernel_rfl) (opensF_cons rfl (by kernel_rfl) (opens_int Try.underlying3) (opensF_cons rfl (by kernel_rfl) (opens_string Try.underlying9) (opensF_one rfl (by kernel_rfl) (opens_int Try.underlying3)))))
theorem o83 : Opens Try.prog 83 k83 (fun x => ((Lit.int .i64 x.f0).wf = true) ∧ ((Lit.int .i64 x.f1).wf = true) ∧ (x.f2.size ≤ maxLen) ∧ (x.f3.size ≤ maxLen) ∧ ((Lit.int .i64 x.f4).wf = true) ∧ ((Lit.int .i64 x.f5).wf = true)) :=
  opens_iso (fun x => ⟨x.1, x.2.1, x.2.2.1, x.2.2.2.1, x.2.2.2.2.1, x.2.2.2.2.2⟩) (fun _ => rfl) (opens_struct Try.underlying83 (by kernel_rfl) (opensF_cons rfl (by kernel_rfl) (opens_int Try.underlying3) (opensF_cons rfl (by kernel_rfl) (opens_int Try.underlying3) (opensF_cons rfl (by kernel_rfl) (opens_string Try.underlying9) (opensF_cons rfl (by kernel_rfl) (opens_string Try.underlying9) (opensF_cons rfl (by kernel_rfl) (opens_int Try.underlying3) (opensF_one rfl (by kernel_rfl) (opens_int Try.underlying3))))))))
set_option maxRecDepth 100000 in
theorem lifted (os : Os) (started : os.Started) (H : Type) (enc : TypeId × Value → H) :
    ReturnsInHanded {} Try.checked os 5 .any (Rows.fnExactTrimSpec.pre6 enc Try.prog Try.f5 Rows.fnExactTrimRow.domain false) (Rows.fnExactTrimSpec.post enc Try.prog Try.f5 false true false false) := by
  refine returnsInHanded_of_change_sized (C := Try.checked) own started (by kernel_rfl) Try.func5
    (ChangeSpec.witness6 (enc := enc) (C := Try.checked) false ⟨#[], #[.agg #[.slice none 0 0, .slice none 0 0, .slice none 0 0, .slice none 0 0, .slice none 0 0]], []⟩ 8 (by kernel_rfl) (by kernel_rfl) (by kernel_rfl) (by kernel_rfl)) ?_
  intro W base args ds gs before hval0 hW hcnd hsz0 _
  have hsz : (DataW.weightsEach Try.prog (Try.f5.params.toList ++ Rows.fnExactTrimSpec.plain.varTypes Try.prog) (ds ++ gs)).all (· ≤ reachBytes) = true := hsz0
  have hval : ∀ (j : Nat) t v, Try.f5.params[j]? = some t → args[j]? = some v → Value.okWide Try.prog W .any base t v := hval0
  have hW' := hW
  obtain ⟨p, q, hA0, hV, rfl, hfz, hnd⟩ := hW
  have hA : DataW.TrodAll enc Try.prog W 0 (fun _ => true) true Try.f5.params.toList args.toList ds p := hA0
  rw [Try.params5] at hA hval hsz
  obtain ⟨v0, vs0, d0, ds0, p0, q0, hargs, rfl, rfl, h0, r0⟩ := trodAll_cons hA
  obtain ⟨rfl, rfl, rfl⟩ := trodAll_nil r0
  obtain rfl : args = #[v0] := by cases args; simp_all
  obtain ⟨rfl, rfl⟩ := trodVars_none hV
  obtain ⟨cs0, rfl, _⟩ := okWide_struct Try.underlying28 (hval 0 28 v0 rfl rfl)
  have k0 := h0
  have lt0 : ∀ x ∈ p0, x.block < W.heap.size := by obtain ⟨m, hm⟩ := k0; exact DataW.trod_lt m _ _ _ hm
  obtain ⟨fuel0, hf0⟩ := h0
  obtain ⟨x0, hK0, hB0⟩ := opens_struct Try.underlying28 (by kernel_rfl) (opensF_cons rfl (by kernel_rfl) (opens_slice Try.underlying22 (by kernel_rfl) (opens_string Try.underlying9)) (opensF_cons rfl (by kernel_rfl) (opens_slice Try.underlying23 (by kernel_rfl) o77) (opensF_cons rfl (by kernel_rfl) (opens_slice Try.underlying24 (by kernel_rfl) o79) (opensF_cons rfl (by kernel_rfl) (opens_slice Try.underlying25 (by kernel_rfl) o81) (opensF_one rfl (by kernel_rfl) (opens_slice Try.underlying26 (by kernel_rfl) o83)))))) H enc W 0 _ true fuel0 _ _ hf0
  obtain ⟨x0_0, x0_1, x0_2, x0_3, x0_4⟩ := x0
  obtain ⟨c0_0, e0_0, E0_0, hK0_0, ⟨c0_1, e0_1, E0_1, hK0_1, ⟨c0_2, e0_2, E0_2, hK0_2, ⟨c0_3, e0_3, E0_3, hK0_3, hK0_4⟩⟩⟩⟩ := hK0
  obtain ⟨hB0_0, hB0_1, hB0_2, hB0_3, hB0_4⟩ := hB0
  obtain ⟨A0_0, cap0_0, q0_0, hc0_0, hC0_0⟩ := hK0_0
  obtain ⟨A0_1, cap0_1, q0_1, hc0_1, hC0_1⟩ := hK0_1
  obtain ⟨A0_2, cap0_2, q0_2, hc0_2, hC0_2⟩ := hK0_2
  obtain ⟨A0_3, cap0_3, q0_3, hc0_3, hC0_3⟩ := hK0_3
  obtain ⟨A0_4, cap0_4, q0_4, hc0_4, hC0_4⟩ := hK0_4
  obtain rfl : cs0 = #[.slice A0_0 x0_0.length cap0_0, .slice A0_1 x0_1.length cap0_1, .slice A0_2 x0_2.length cap0_2, .slice A0_3 x0_3.length cap0_3, .slice A0_4 x0_4.length cap0_4] := by
    have z : cs0.toList = [.slice A0_0 x0_0.length cap0_0, .slice A0_1 x0_1.length cap0_1, .slice A0_2 x0_2.length cap0_2, .slice A0_3 x0_3.length cap0_3, .slice A0_4 x0_4.length cap0_4] := by
      have z0 : cs0.toList = _ := E0_0
      rw [show c0_0 = _ from q0_0] at z0
      rw [E0_1] at z0
      rw [show c0_1 = _ from q0_1] at z0
      rw [E0_2] at z0
      rw [show c0_2 = _ from q0_2] at z0
      rw [E0_3] at z0
      rw [show c0_3 = _ from q0_3] at z0
      rw [show e0_3 = _ from q0_4] at z0
      exact z0
    rw [← Array.toList_inj]
    exact z
  clear hA0 hval0 hsz0 hsz
  obtain ⟨k, h⟩ := Pure.FnExactTrim x0_0 x0_1 x0_2 x0_3 x0_4 hB0_0 hB0_1 hB0_2 hB0_3 hB0_4
  refine (laws_FnExactTrim.calls k _ _ x0_0 _ _ x0_1 _ _ x0_2 _ _ x0_3 _ _ x0_4 true W hC0_0 hc0_0 hC0_1 hc0_1 hC0_2 hc0_2 hC0_3 hc0_3 hC0_4 hc0_4 h rfl).mono fun e W' ⟨he, bel⟩ => ?_
  subst he
  exact ⟨_, rfl, _, _, _, [], _, [], hW', trodAll_mk1 (shut_bool Try.underlying4 _), (trodAll_cons_mk (Below.trod laidOut (by kernel_rfl) (of_decide_eq_true (by kernel_rfl)) k0 bel lt0) trodAll_mk0), rfl, bel.frame _, fun h => by cases h⟩
theorem j10 : (Rows.fnExactTrimRow.inPlace == Try.pinned.checked.prog.inPlace 5) = true := by kernel_rfl
theorem j11 : (Rows.fnExactTrimRow.unfollowed == Try.pinned.checked.prog.unfollowed 5) = true := by kernel_rfl
theorem j12 : (Rows.fnExactTrimRow.recurses == Try.pinned.checked.prog.recurses 5) = true := by kernel_rfl
theorem j13 : (Rows.fnExactTrimRow.named == Try.pinned.checked.prog.varsNamed 5) = true := by kernel_rfl
theorem closed : joinedFacts Try.pinned.checked.prog 5 Try.f5 Rows.fnExactTrimSpec Rows.fnExactTrimRow = true := by
  unfold joinedFacts
  rw [j10, j11, j12, j13]
  kernel_rfl
theorem over : Rows.fnExactTrimRow.holds Try.pinned (OpenSpec.ofChange Rows.fnExactTrimSpec) :=
  OpenClaim.holds_of_wide 5 Try.f5 rfl rfl rfl rfl rfl rfl rfl ⟨rfl, rfl, rfl, rfl, rfl⟩ rfl rfl rfl rfl rfl (by kernel_rfl) Try.func5 closed
    (of_decide_eq_true (by kernel_rfl)) (by unfold Func.isWrapper; first | (rw [if_pos (by decide +kernel)]; kernel_rfl) | (rw [if_neg (by decide +kernel)]; exact ⟨rfl, rfl⟩))
    (fun os started H enc _ => lifted os started H enc)
theorem proved : Rows.FnExactTrimSaid := over
#print axioms proved
end Go.Proofs.Ytopicidanlienaa.fnExactTrim
namespace Go.Proofs.Ytopicidanlienaa
/-- The row, under a short name, for the claim. -/
theorem fnExactTrim_holds : Rows.FnExactTrimSaid := fnExactTrim.proved
end Go.Proofs.Ytopicidanlienaa

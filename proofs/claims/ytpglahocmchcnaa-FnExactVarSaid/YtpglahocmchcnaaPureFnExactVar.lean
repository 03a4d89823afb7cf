import Derived.Test.YtpglahocmchcnaaPFnExactVarx1
import Derived.Test.YtpglahocmchcnaaKit
/- FnExactVar: the program's Var and the reference's go round in step and build the same bytes, for every whole number. -/
namespace Go.Proofs.Ytpglahocmchcnaa.Pure
open Go.RowKit Go.Proofs.Ytpglahocmchcnaa.PFnExactVar Go.Proofs.YtpglahocmchcnaaW.PrintWords Go.Proofs.YtpglahocmchcnaaW.PrintLast Go.Proofs.YtpglahocmchcnaaW.PrintMore Go.Proofs.Ytpglahocmchcnaa.Kit

theorem var_loop (d : Nat) : ∀ (x : Int) (acc : List Int), x.toNat ≤ d → 0 ≤ x → (acc.length : Int) + x / 4 < 140737488355328 →
    ∃ r, Ev (fun k => spec_Var.l0 k x acc) r ∧ Ev (fun k => impl_Var.l0 k x acc) r := by
  induction d with
  | zero =>
    intro x acc hd h0 hl
    refine ⟨strOfNums (acc ++ [x % 256]), Ev_succ ?_, Ev_succ ?_⟩
    · simp (disch := omega) only [spec_Var.l0, if_pos, if_neg]; exact Ev.now _
    · simp (disch := omega) only [impl_Var.l0, if_pos, if_neg]; exact Ev.now _
  | succ d ih =>
    intro x acc hd h0 hl
    by_cases h : 128 ≤ x
    · have e : Go.bits .or .i64 (x % 128) 128 = 128 + x % 128 := by
        rw [i64_or_high (y := x % 128) (x := 128) 7 (by omega) (by omega) (by omega) (by omega) (by omega) (by omega)]; omega
      obtain ⟨r, e1, e2⟩ := ih (x / 128) (acc ++ [(128 + x % 128) % 256]) (by omega) (by omega) (by simp; omega)
      refine ⟨r, Ev_succ ?_, Ev_succ ?_⟩
      · simp (disch := omega) only [spec_Var.l0, if_pos, w64, tdiv_nn, tmod_nn]
        exact e1
      · simp (disch := omega) only [impl_Var.l0, if_pos, i64_and127, e]
        exact e2
    · refine ⟨strOfNums (acc ++ [x % 256]), Ev_succ ?_, Ev_succ ?_⟩
      · simp (disch := omega) only [spec_Var.l0, if_pos, if_neg]; exact Ev.now _
      · simp (disch := omega) only [impl_Var.l0, if_pos, if_neg]; exact Ev.now _
theorem FnExactVar : laws_FnExactVar.Pure := by
  intro x hx
  apply Ev.rounds
  simp only [laws_FnExactVar.f]
  by_cases h : 0 ≤ x ∧ x ≤ 562949953421311
  · obtain ⟨h0, h1⟩ := h
    obtain ⟨r, e1, e2⟩ := var_loop x.toNat x [] (by omega) h0 (by simp; omega)
    refine Ev_same (r := r) ?_ ?_
    · simp (disch := omega) only [spec_Var.f, spec_l1In.f, if_pos, Option.bind_some, decide_eq_true h1]; exact e1
    · simp (disch := omega) only [impl_Var.f, impl_in.f, if_pos, Option.bind_some, decide_eq_true h1]; exact e2
  · refine Ev_same (r := ⟨#[]⟩) ?_ ?_
    · by_cases h0 : 0 ≤ x
      · have h1 : ¬ x ≤ 562949953421311 := fun h1 => h ⟨h0, h1⟩
        simp (disch := omega) only [spec_Var.f, spec_l1In.f, if_pos, Option.bind_some, decide_eq_false h1]; exact Ev.now _
      · simp (disch := omega) only [spec_Var.f, spec_l1In.f, if_neg, Option.bind_some]; exact Ev.now _
    · by_cases h0 : 0 ≤ x
      · have h1 : ¬ x ≤ 562949953421311 := fun h1 => h ⟨h0, h1⟩
        simp (disch := omega) only [impl_Var.f, impl_in.f, if_pos, Option.bind_some, decide_eq_false h1]; exact Ev.now _
      · simp (disch := omega) only [impl_Var.f, impl_in.f, if_neg, Option.bind_some]; exact Ev.now _

end Go.Proofs.Ytpglahocmchcnaa.Pure

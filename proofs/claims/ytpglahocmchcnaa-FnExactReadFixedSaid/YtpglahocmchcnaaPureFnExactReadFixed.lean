import Derived.Test.YtpglahocmchcnaaPFnExactReadFixedx1
import Derived.Test.YtpglahocmchcnaaKit
/- FnExactReadFixed: the program's ReadFixed and the reference's take the same bytes in step and come to the same number, for every text and width. -/
namespace Go.Proofs.Ytpglahocmchcnaa.Pure
open Go.RowKit Go.Proofs.Ytpglahocmchcnaa.PFnExactReadFixed Go.Proofs.YtpglahocmchcnaaW.PrintWords Go.Proofs.YtpglahocmchcnaaW.PrintLast Go.Proofs.YtpglahocmchcnaaW.PrintMore Go.Proofs.Ytpglahocmchcnaa.Kit

theorem rf_loop (s : ByteArray) (w : Int) (hw : w ≤ 7) (hs : w ≤ s.size) (hz : s.size ≤ 1048576) (d : Nat) : ∀ (n i : Int) (j : Nat), i = j → i + d = w → 0 ≤ n → n < ((256 ^ j : Nat) : Int) →
    ∃ r, Ev (fun k => spec_ReadFixed.l0 k s w n i) r ∧ Ev (fun k => impl_ReadFixed.l0 k s n w i) r := by
  induction d with
  | zero =>
    intro n i j hj hd h0 h1
    refine ⟨(n, true), Ev_succ ?_, Ev_succ ?_⟩
    · simp (disch := omega) only [spec_ReadFixed.l0, if_neg]; exact Ev.now _
    · simp (disch := omega) only [impl_ReadFixed.l0, if_neg]; exact Ev.now _
  | succ d ih =>
    intro n i j hj hd h0 h1
    have hb := bt_range s i
    have hp := Nat.pow_le_pow_right (n := 256) (by decide) (show j ≤ 6 by omega)
    have h6 : 256 ^ 6 = 281474976710656 := by decide
    have hq : 256 ^ (j + 1) = 256 ^ j * 256 := Nat.pow_succ _ _
    obtain ⟨r, e1, e2⟩ := ih (n * 256 + bt s i) (i + 1) (j + 1) (by omega) (by omega) (by omega) (by omega)
    have e : Go.bits .or .i64 (n * 256) (bt s i) = n * 256 + bt s i := i64_or_low 8 (by omega) (by omega) (by omega) (by omega) (by omega) (by omega)
    refine ⟨r, Ev_succ ?_, Ev_succ ?_⟩
    · simp (disch := omega) only [spec_ReadFixed.l0, if_pos, w64]; exact e1
    · simp (disch := omega) only [impl_ReadFixed.l0, if_pos, w64, e]; exact e2
theorem FnExactReadFixed : laws_FnExactReadFixed.Pure := by
  intro s w _ hw
  by_cases h : (s.size : Int) > 1048576
  · exact ⟨0, by simp only [laws_FnExactReadFixed.f]; rw [if_pos h]⟩
  apply Ev.rounds
  simp only [laws_FnExactReadFixed.f, if_neg h]
  suffices hr : ∃ r, Ev (fun k => spec_ReadFixed.f k s w) r ∧ Ev (fun k => impl_ReadFixed.f k s w) r by
    obtain ⟨r, e1, e2⟩ := hr
    refine Ev_call e1 (Ev_call e2 ?_)
    simp only [if_true, bne_self_eq_false, Bool.false_eq_true, if_false]
    exact Ev.now _
  by_cases h1 : 1 ≤ w
  · by_cases h7 : w ≤ 7
    · by_cases hs : (s.size : Int) < w
      · refine ⟨(0, false), ?_, ?_⟩
        · simp (disch := omega) only [spec_ReadFixed.f, spec_l1In.f, if_pos, Option.bind_some, decide_eq_true h7, decide_eq_true hs]
          refine Ev_succ ?_; simp only [spec_ReadFixed.j0, if_true]; exact Ev.now _
        · simp (disch := omega) only [impl_ReadFixed.f, impl_in.f, if_pos, Option.bind_some, decide_eq_true h7, decide_eq_true hs]
          refine Ev_succ ?_; simp only [impl_ReadFixed.j0, if_true]; exact Ev.now _
      · obtain ⟨r, e1, e2⟩ := rf_loop s w h7 (by omega) (by omega) w.toNat 0 0 0 (by omega) (by omega) (by omega) (by decide)
        refine ⟨r, ?_, ?_⟩
        · simp (disch := omega) only [spec_ReadFixed.f, spec_l1In.f, if_pos, Option.bind_some, decide_eq_true h7, decide_eq_false hs]
          refine Ev_succ ?_; simp only [spec_ReadFixed.j0, Bool.false_eq_true, if_false]; exact e1
        · simp (disch := omega) only [impl_ReadFixed.f, impl_in.f, if_pos, Option.bind_some, decide_eq_true h7, decide_eq_false hs]
          refine Ev_succ ?_; simp only [impl_ReadFixed.j0, Bool.false_eq_true, if_false]; exact e2
    · refine ⟨(0, false), ?_, ?_⟩
      · simp (disch := omega) only [spec_ReadFixed.f, spec_l1In.f, if_pos, Option.bind_some, decide_eq_false h7, Bool.false_eq_true, if_false]
        refine Ev_succ ?_; simp only [spec_ReadFixed.j0, if_true]; exact Ev.now _
      · simp (disch := omega) only [impl_ReadFixed.f, impl_in.f, if_pos, Option.bind_some, decide_eq_false h7, Bool.false_eq_true, if_false]
        refine Ev_succ ?_; simp only [impl_ReadFixed.j0, if_true]; exact Ev.now _
  · refine ⟨(0, false), ?_, ?_⟩
    · simp (disch := omega) only [spec_ReadFixed.f, spec_l1In.f, if_neg, Option.bind_some, Bool.false_eq_true, if_false]
      refine Ev_succ ?_; simp only [spec_ReadFixed.j0, if_true]; exact Ev.now _
    · simp (disch := omega) only [impl_ReadFixed.f, impl_in.f, if_neg, Option.bind_some, Bool.false_eq_true, if_false]
      refine Ev_succ ?_; simp only [impl_ReadFixed.j0, if_true]; exact Ev.now _

end Go.Proofs.Ytpglahocmchcnaa.Pure

import Derived.Test.YtpglahocmchcnaaPFnExactShortNamex1
import Derived.Test.YtpglahocmchcnaaKit
/- FnExactShortName: the program's ShortName and the reference's build the same bytes, for every whole number; the first turns its digits round at the end. -/
namespace Go.Proofs.Ytpglahocmchcnaa.Pure
open Go.RowKit Go.Proofs.Ytpglahocmchcnaa.PFnExactShortName Go.Proofs.YtpglahocmchcnaaW.PrintWords Go.Proofs.YtpglahocmchcnaaW.PrintLast Go.Proofs.YtpglahocmchcnaaW.PrintMore Go.Proofs.Ytpglahocmchcnaa.Kit
set_option linter.unusedSimpArgs false
set_option linter.unusedVariables false

theorem rev_loop (d : Nat) : ∀ (A M B : List Int), M.length ≤ d → (A ++ M ++ B).length < 4611686018427387904 →
    Ev (fun k => slices_Reverse_byte_byte.l0 k (A ++ M ++ B) A.length ((A.length : Int) + M.length - 1)) (A ++ M.reverse ++ B) := by
  induction d with
  | zero =>
    intro A M B hd hl
    obtain rfl : M = [] := List.eq_nil_of_length_eq_zero (by omega)
    refine Ev_succ ?_
    simp (disch := (first | omega | (simp; done) | (simp; omega))) only [slices_Reverse_byte_byte.l0, if_neg]
    exact Ev.now _
  | succ d ih =>
    intro A M B hd hl
    match M with
    | [] =>
      refine Ev_succ ?_
      simp (disch := (first | omega | (simp; done) | (simp; omega))) only [slices_Reverse_byte_byte.l0, if_neg]
      exact Ev.now _
    | [x] =>
      refine Ev_succ ?_
      simp (disch := (first | omega | (simp; done) | (simp; omega))) only [slices_Reverse_byte_byte.l0, if_neg]
      exact Ev.now _
    | x :: y :: M =>
      obtain ⟨M', z, hM⟩ : ∃ M' z, y :: M = M' ++ [z] := ⟨(y :: M).dropLast, (y :: M).getLast (by simp), (List.dropLast_concat_getLast (by simp)).symm⟩
      rw [hM] at hd hl ⊢
      simp only [List.length_append, List.length_cons, List.length_nil] at hd hl
      have e1 : rd (A ++ x :: (M' ++ [z]) ++ B) (A.length : Int) = x := by simp [rd, List.getD_eq_getElem?_getD]
      have e2 : rd (A ++ x :: (M' ++ [z]) ++ B) ((A.length : Int) + (x :: (M' ++ [z])).length - 1) = z := by
        have : ((A.length : Int) + (x :: (M' ++ [z])).length - 1).toNat = A.length + (M'.length + 1) := by simp; omega
        simp only [rd, this, List.getD_eq_getElem?_getD]
        rw [List.append_assoc, List.getElem?_append_right (by omega), Nat.add_sub_cancel_left, List.cons_append, List.getElem?_cons_succ, List.append_assoc, List.getElem?_append_right (by omega)]
        simp
      have e3 : ((A ++ x :: (M' ++ [z]) ++ B).set ((A.length : Int)).toNat z).set ((A.length : Int) + (x :: (M' ++ [z])).length - 1).toNat x = (A ++ [z]) ++ M' ++ (x :: B) := by
        have : ((A.length : Int) + (x :: (M' ++ [z])).length - 1).toNat = A.length + (M'.length + 1) := by simp; omega
        rw [this]
        simp
      have hi := ih (A ++ [z]) M' (x :: B) (by omega) (by simp; omega)
      refine Ev_succ ?_
      simp (disch := (first | omega | (simp; done) | (simp; omega))) only [slices_Reverse_byte_byte.l0, if_pos, e1, e2, e3, w64]
      have e4 : ((A ++ [z]).length : Int) = (A.length : Int) + 1 := by simp
      have e5 : (A.length : Int) + 1 + M'.length - 1 = (A.length : Int) + (x :: (M' ++ [z])).length - 1 - 1 := by simp; omega
      rw [e4, e5] at hi
      have e6 : A ++ [z] ++ M'.reverse ++ x :: B = A ++ (x :: (M' ++ [z])).reverse ++ B := by simp
      rw [e6] at hi
      exact hi
theorem rev_all (l : List Int) (h : l.length < 4611686018427387904) : Ev (fun k => slices_Reverse_byte_byte.f k l) l.reverse := by
  have e := rev_loop l.length [] l [] (Nat.le_refl _) (by simpa using h)
  simp only [List.nil_append, List.append_nil, List.length_nil] at e
  simp (disch := omega) only [slices_Reverse_byte_byte.f, w64]
  have e1 : ((0 : Nat) : Int) + (l.length : Int) - 1 = (l.length : Int) - 1 := by omega
  rw [e1] at e
  exact e

theorem sn_loop (d : Nat) : ∀ (y : Int) (T : List Int), 0 ≤ y → y < ((26 ^ (d + 1) : Nat) : Int) → T.length + d ≤ 100 → d ≤ 13 →
    ∃ r, Ev (fun k => spec_ShortName.l0 k (y / 26) (strOfNums (((97 + y % 26) % 256) :: T))) r ∧ Ev (fun k => impl_ShortName.l0 k y T.reverse) r := by
  induction d with
  | zero =>
    intro y T h0 h1 hT _
    have hy : y / 26 = 0 := by omega
    refine ⟨⟨#[36]⟩ ++ strOfNums (((97 + y % 26) % 256) :: T), Ev_succ ?_, Ev_succ ?_⟩
    · simp (disch := (first | omega | (simp only [strOfNums_size, List.length_cons]; omega))) only [spec_ShortName.l0, if_neg, if_pos]; exact Ev.now _
    · have hr := rev_all (T.reverse ++ [(97 + y % 26) % 256]) (by simp; omega)
      have er : (T.reverse ++ [(97 + y % 26) % 256]).reverse = ((97 + y % 26) % 256) :: T := by simp
      rw [er] at hr
      simp (disch := (first | omega | (simp only [List.length_reverse]; omega))) only [impl_ShortName.l0, if_pos, tmod_nn, tdiv_nn, w64, Option.bind_some, hy]
      refine Ev_call hr ?_
      simp (disch := (simp only [strOfNums_size, List.length_cons]; omega)) only [if_pos]
      exact Ev.now _
  | succ d ih =>
    intro y T h0 h1 hT hd
    have hp := Nat.pow_le_pow_right (n := 26) (by decide) (show d + 1 + 1 ≤ 14 by omega)
    have h14 : 26 ^ 14 = 64509974703297150976 := by decide
    have hq : 26 ^ (d + 1 + 1) = 26 ^ (d + 1) * 26 := Nat.pow_succ _ _
    by_cases hy : y / 26 = 0
    · refine ⟨⟨#[36]⟩ ++ strOfNums (((97 + y % 26) % 256) :: T), Ev_succ ?_, Ev_succ ?_⟩
      · simp (disch := (first | omega | (simp only [strOfNums_size, List.length_cons]; omega))) only [spec_ShortName.l0, if_neg, if_pos]; exact Ev.now _
      · have hr := rev_all (T.reverse ++ [(97 + y % 26) % 256]) (by simp; omega)
        have er : (T.reverse ++ [(97 + y % 26) % 256]).reverse = ((97 + y % 26) % 256) :: T := by simp
        rw [er] at hr
        simp (disch := (first | omega | (simp only [List.length_reverse]; omega))) only [impl_ShortName.l0, if_pos, tmod_nn, tdiv_nn, w64, Option.bind_some, hy]
        refine Ev_call hr ?_
        simp (disch := (simp only [strOfNums_size, List.length_cons]; omega)) only [if_pos]
        exact Ev.now _
    · obtain ⟨r, e1, e2⟩ := ih (y / 26) (((97 + y % 26) % 256) :: T) (by omega) (by omega) (by simp; omega) (by omega)
      refine ⟨r, Ev_succ ?_, Ev_succ ?_⟩
      · simp (disch := (first | omega | (simp only [strOfNums_size, List.length_cons, List.length_nil]; omega))) only [spec_ShortName.l0, if_pos, w64, tdiv_nn, tmod_nn, Option.bind_some, str_app, List.cons_append, List.nil_append]
        exact e1
      · rw [List.reverse_cons] at e2
        simp (disch := (first | omega | (simp only [List.length_reverse]; omega))) only [impl_ShortName.l0, if_pos, if_neg, w64, tdiv_nn, tmod_nn, Option.bind_some]
        exact e2
theorem FnExactShortName : laws_FnExactShortName.Pure := by
  intro x hx
  have hx := wf_i64 hx
  apply Ev.rounds
  simp only [laws_FnExactShortName.f]
  by_cases h0 : x < 0
  · refine Ev_same (r := ⟨#[]⟩) ?_ ?_
    · simp only [spec_ShortName.f, if_pos h0]; exact Ev.now _
    · simp only [impl_ShortName.f, if_pos h0]; exact Ev.now _
  · have h14 : 26 ^ (13 + 1) = 64509974703297150976 := by decide
    obtain ⟨r, e1, e2⟩ := sn_loop 13 x [] (by omega) (by omega) (by simp) (by omega)
    refine Ev_same (r := r) ?_ ?_
    · simp (disch := omega) only [spec_ShortName.f, if_neg, w64, tdiv_nn, tmod_nn]; exact e1
    · simp (disch := omega) only [impl_ShortName.f, if_neg]; exact e2

end Go.Proofs.Ytpglahocmchcnaa.Pure

import Derived.Test.YtpglahocmchcnaaPFnExactFixedx1
import Derived.Test.YtpglahocmchcnaaKit
/- FnExactFixed: the program's Fixed and the reference's build the same bytes, for every number and width; one fills a row from behind, the other puts byte ahead of byte. -/
namespace Go.Proofs.Ytpglahocmchcnaa.Pure
open Go.RowKit Go.Proofs.Ytpglahocmchcnaa.PFnExactFixed Go.Proofs.YtpglahocmchcnaaW.PrintWords Go.Proofs.YtpglahocmchcnaaW.PrintLast Go.Proofs.YtpglahocmchcnaaW.PrintMore Go.Proofs.Ytpglahocmchcnaa.Kit
set_option linter.unusedSimpArgs false
set_option linter.unusedVariables false

/-- d bytes more of y, the lowest last, ahead of T. -/
def fxL : Int → Nat → List Int → List Int
  | _, 0, T => T
  | y, d + 1, T => fxL (y / 256) d ((y % 256) :: T)
theorem fx_spec (w : Int) (d : Nat) : ∀ (y i : Int) (T : List Int), 0 ≤ y → y < 9223372036854775808 → 0 ≤ i → i + d = w → w ≤ 7 → (T.length : Int) ≤ i →
    Ev (fun k => spec_Fixed.l0 k y w (strOfNums T) i) (if y / 256 ^ d > 0 then ⟨#[]⟩ else strOfNums (fxL y d T)) := by
  induction d with
  | zero =>
    intro y i T h0 h1 hi hd hw hT
    refine Ev_succ ?_
    have e : y / 256 ^ 0 = y := by simp
    rw [e]
    by_cases h : y > 0
    · simp (disch := omega) only [spec_Fixed.l0, if_neg, if_pos h]; exact Ev.now _
    · simp (disch := omega) only [spec_Fixed.l0, if_neg, if_neg h]; exact Ev.now _
  | succ d ih =>
    intro y i T h0 h1 hi hd hw hT
    have hs := ih (y / 256) (i + 1) ((y % 256) :: T) (by omega) (by omega) (by omega) (by omega) hw (by simp; omega)
    have e : y / 256 / 256 ^ d = y / 256 ^ (d + 1) := by
      rw [Int.ediv_ediv_of_nonneg (by omega), Int.pow_succ, Int.mul_comm]
    rw [e] at hs
    refine Ev_succ ?_
    have em : y % 256 % 256 = y % 256 := by omega
    simp (disch := (first | omega | (simp only [strOfNums_size, List.length_cons, List.length_nil]; omega))) only [spec_Fixed.l0, if_pos, w64, tdiv_nn, tmod_nn, Option.bind_some, str_app, List.cons_append, List.nil_append, em]
    exact hs
theorem shr8 (x : Int) (j : Nat) (hj : j ≤ 7) : shr .i64 x (8 * (j : Int)) = x / 256 ^ j := by
  unfold shr
  have e : min (8 * (j : Int)).toNat IntKind.i64.bits = 8 * j := by simp only [IntKind.bits]; omega
  rw [e, Int.pow_mul]
  rfl
theorem fx_impl (x w : Int) (d : Nat) : ∀ (j : Nat) (T : List Int), j + d = w → w ≤ 7 → T.length = j →
    Ev (fun k => impl_Fixed.l0 k x w (List.replicate d 0 ++ T) w j) (strOfNums (fxL (x / 256 ^ j) d T)) := by
  induction d with
  | zero =>
    intro j T hd hw hT
    refine Ev_succ ?_
    simp (disch := omega) only [impl_Fixed.l0, if_neg, List.replicate_zero, List.nil_append]
    exact Ev.now _
  | succ d ih =>
    intro j T hd hw hT
    have hs := ih (j + 1) ((x / 256 ^ j % 256) :: T) (by omega) hw (by simp; omega)
    have e : x / 256 ^ (j + 1) = x / 256 ^ j / 256 := by
      rw [Int.ediv_ediv_of_nonneg (Int.pow_nonneg (by omega)), Int.pow_succ]
    rw [e] at hs
    refine Ev_succ ?_
    have e1 : ((w - 1 - (j : Int)).toNat) = d := by omega
    have e2 : (List.replicate (d + 1) (0 : Int) ++ T).set d (x / 256 ^ j % 256) = List.replicate d 0 ++ (x / 256 ^ j % 256) :: T := by
      rw [List.replicate_succ', List.append_assoc, List.set_append_right _ _ (by simp)]
      simp
    simp (disch := (first | omega | (simp only [List.length_append, List.length_replicate]; omega))) only [impl_Fixed.l0, if_pos, w64, shr8, e1, e2]
    exact hs
theorem FnExactFixed : laws_FnExactFixed.Pure := by
  intro x w hx hw
  have hx := wf_i64 hx
  apply Ev.rounds
  simp only [laws_FnExactFixed.f]
  by_cases h1 : 1 ≤ w
  · by_cases h7 : w ≤ 7
    · obtain ⟨n, rfl⟩ : ∃ n : Nat, w = n := ⟨w.toNat, by omega⟩
      by_cases h0 : x < 0
      · refine Ev_same (r := ⟨#[]⟩) ?_ ?_
        · simp (disch := omega) only [spec_Fixed.f, spec_l1In.f, if_pos, Option.bind_some, decide_eq_true h7, decide_eq_true h0]
          refine Ev_succ ?_; simp only [spec_Fixed.j0, if_true]; exact Ev.now _
        · simp (disch := omega) only [impl_Fixed.f, impl_in.f, if_pos, Option.bind_some, decide_eq_true h7, if_pos h0]
          refine Ev_succ ?_; simp only [impl_Fixed.j0, if_true]; exact Ev.now _
      · have es := fx_spec n n x 0 [] (by omega) (by omega) (by omega) (by omega) h7 (by simp)
        have ei := fx_impl x n n 0 [] (by omega) h7 rfl
        have z : strOfNums [] = ⟨#[]⟩ := rfl
        have hq : 0 ≤ x / 256 ^ n := Int.ediv_nonneg (by omega) (Int.pow_nonneg (by omega))
        refine Ev_same (r := if x / 256 ^ n > 0 then ⟨#[]⟩ else strOfNums (fxL x n [])) ?_ ?_
        · simp (disch := omega) only [spec_Fixed.f, spec_l1In.f, if_pos, Option.bind_some, decide_eq_true h7, decide_eq_false h0]
          refine Ev_succ ?_; simp only [spec_Fixed.j0, Bool.false_eq_true, if_false]
          rw [z] at es; exact es
        · by_cases hp : x / 256 ^ n > 0
          · have hb : ((shr .i64 x (8 * (n : Int))) != 0) = true := by rw [shr8 x n (by omega)]; simp; omega
            simp (disch := omega) only [impl_Fixed.f, impl_in.f, if_pos, Option.bind_some, decide_eq_true h7, if_neg h0, w64, hb, if_pos hp]
            refine Ev_succ ?_; simp only [impl_Fixed.j0, if_true]; exact Ev.now _
          · have hb : ((shr .i64 x (8 * (n : Int))) != 0) = false := by rw [shr8 x n (by omega)]; simp; omega
            simp (disch := omega) only [impl_Fixed.f, impl_in.f, if_pos, Option.bind_some, decide_eq_true h7, if_neg h0, w64, hb, if_neg hp]
            refine Ev_succ ?_
            simp (disch := omega) only [impl_Fixed.j0, Bool.false_eq_true, if_false, if_pos, Int.toNat_natCast]
            simp only [List.append_nil, Int.pow_zero, Int.ediv_one, Int.natCast_zero] at ei
            exact ei
    · refine Ev_same (r := ⟨#[]⟩) ?_ ?_
      · simp (disch := omega) only [spec_Fixed.f, spec_l1In.f, if_pos, Option.bind_some, decide_eq_false h7, Bool.false_eq_true, if_false]
        refine Ev_succ ?_; simp only [spec_Fixed.j0, if_true]; exact Ev.now _
      · simp (disch := omega) only [impl_Fixed.f, impl_in.f, if_pos, Option.bind_some, decide_eq_false h7, Bool.false_eq_true, if_false]
        refine Ev_succ ?_; simp only [impl_Fixed.j0, if_true]; exact Ev.now _
  · refine Ev_same (r := ⟨#[]⟩) ?_ ?_
    · simp (disch := omega) only [spec_Fixed.f, spec_l1In.f, if_neg, Option.bind_some, Bool.false_eq_true, if_false]
      refine Ev_succ ?_; simp only [spec_Fixed.j0, if_true]; exact Ev.now _
    · simp (disch := omega) only [impl_Fixed.f, impl_in.f, if_neg, Option.bind_some, Bool.false_eq_true, if_false]
      refine Ev_succ ?_; simp only [impl_Fixed.j0, if_true]; exact Ev.now _

end Go.Proofs.Ytpglahocmchcnaa.Pure

import Derived.Test.YtpglahocmchcnaaPFnExactHexx1
import Derived.Test.YtpglahocmchcnaaKit
/- FnExactHex: the program's Hex and the reference's go round in step and build the same bytes, for every text. -/
namespace Go.Proofs.Ytpglahocmchcnaa.Pure
open Go.RowKit Go.Proofs.Ytpglahocmchcnaa.PFnExactHex Go.Proofs.YtpglahocmchcnaaW.PrintWords Go.Proofs.YtpglahocmchcnaaW.PrintLast Go.Proofs.YtpglahocmchcnaaW.PrintMore Go.Proofs.Ytpglahocmchcnaa.Kit

theorem hex_digit {c : Int} (h0 : 0 ≤ c) (h1 : c < 16) : spec_l1Digit.f c = some (bt (⟨#[48, 49, 50, 51, 52, 53, 54, 55, 56, 57, 97, 98, 99, 100, 101, 102]⟩ : ByteArray) c) := by
  simp only [spec_l1Digit.f]; rw [if_pos h0, if_pos h1]
theorem hex_loop (s : ByteArray) (hn : s.size ≤ 1048576) (d : Nat) : ∀ (acc : List Int) (i : Int), 0 ≤ i → i ≤ s.size → (s.size : Int) - i = d → (acc.length : Int) ≤ 2 * i →
    ∃ r, Ev (fun k => spec_Hex.l0 k s acc i) r ∧ Ev (fun k => impl_Hex.l0 k s acc s.size i) r := by
  induction d with
  | zero =>
    intro acc i h0 h1 hd hl
    refine ⟨strOfNums acc, Ev_succ ?_, Ev_succ ?_⟩
    · simp (disch := omega) only [spec_Hex.l0, if_neg]; exact Ev.now _
    · simp (disch := omega) only [impl_Hex.l0, if_neg]; exact Ev.now _
  | succ d ih =>
    intro acc i h0 h1 hd hl
    have hb := bt_range s i
    obtain ⟨r, e1, e2⟩ := ih (acc ++ [bt (⟨#[48, 49, 50, 51, 52, 53, 54, 55, 56, 57, 97, 98, 99, 100, 101, 102]⟩ : ByteArray) (bt s i / 16), bt (⟨#[48, 49, 50, 51, 52, 53, 54, 55, 56, 57, 97, 98, 99, 100, 101, 102]⟩ : ByteArray) (bt s i % 16)]) (i + 1) (by omega) (by omega) (by omega) (by simp; omega)
    refine ⟨r, Ev_succ ?_, Ev_succ ?_⟩
    · simp (disch := omega) only [spec_Hex.l0, if_pos, w64, tdiv_nn, tmod_nn, hex_digit, Option.bind_some, List.length_cons, List.length_nil]
      exact e1
    · simp (disch := omega) only [impl_Hex.l0, if_pos, w64, u8_and15, Option.bind_some, List.length_cons, List.length_nil]
      exact e2
theorem FnExactHex : laws_FnExactHex.Pure := by
  intro s _
  by_cases h : (s.size : Int) > 1048576
  · exact ⟨0, by simp only [laws_FnExactHex.f]; rw [if_pos h]⟩
  · obtain ⟨r, e1, e2⟩ := hex_loop s (by omega) s.size [] 0 (by omega) (by omega) (by omega) (by simp)
    apply Ev.rounds
    simp only [laws_FnExactHex.f, if_neg h]
    exact Ev_same e1 e2

end Go.Proofs.Ytpglahocmchcnaa.Pure

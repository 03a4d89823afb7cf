import Derived.Test.YtpglahocmchcnaaPFnExactUnhexx1
import Derived.Test.YtpglahocmchcnaaKit
/- FnExactUnhex: the program's Unhex and the reference's tell the same of every text: at each of the 256 bytes both find the same digit, and they build the same bytes in step. -/
namespace Go.Proofs.Ytpglahocmchcnaa.Pure
open Go.RowKit Go.Proofs.Ytpglahocmchcnaa.PFnExactUnhex Go.Proofs.YtpglahocmchcnaaW.PrintWords Go.Proofs.YtpglahocmchcnaaW.PrintLast Go.Proofs.YtpglahocmchcnaaW.PrintMore Go.Proofs.Ytpglahocmchcnaa.Kit
set_option linter.unusedSimpArgs false
set_option linter.unusedVariables false

def hexT : ByteArray := ⟨#[48, 49, 50, 51, 52, 53, 54, 55, 56, 57, 97, 98, 99, 100, 101, 102]⟩
theorem hex_table : ∀ c : Fin 256, spec_l1FromHex.f 20 (c.val : Int) = some (Lib.indexByte hexT.data.toList ((c.val : Int).toNat.toUInt8)) ∧
    -1 ≤ Lib.indexByte hexT.data.toList ((c.val : Int).toNat.toUInt8) ∧ Lib.indexByte hexT.data.toList ((c.val : Int).toNat.toUInt8) < 16 := by decide +kernel
theorem hex_at (c : Int) (h0 : 0 ≤ c) (h1 : c < 256) : ∃ v, Ev (fun k => spec_l1FromHex.f k c) v ∧ strings_IndexByte.f hexT c = some v ∧ -1 ≤ v ∧ v < 16 := by
  obtain ⟨n, rfl⟩ := Int.eq_ofNat_of_zero_le h0
  obtain ⟨e, p, q⟩ := hex_table ⟨n, by omega⟩
  exact ⟨_, Ev.of (spec_l1FromHex.mono (n : Int)) e, rfl, p, q⟩
theorem or16 (a b : Int) (ha : 0 ≤ a) (ha2 : a < 16) (hb : 0 ≤ b) (hb2 : b < 16) : Go.bits .or .i64 (a * 16) b = 16 * a + b := by
  rw [i64_or_low 4 (by omega) (by omega) (by omega) (by omega) (by omega) (by omega)]; omega
theorem unhex_loop (s : ByteArray) (hz : s.size ≤ 1048576) (d : Nat) : ∀ (acc : List Int) (i : Int), 0 ≤ i → i + 2 * d = s.size → (acc.length : Int) ≤ i →
    ∃ r, Ev (fun k => spec_Unhex.l0 k s acc i) r ∧ Ev (fun k => impl_Unhex.l0 k s acc i) r := by
  induction d with
  | zero =>
    intro acc i h0 hi hl
    refine ⟨(strOfNums acc, true), Ev_succ ?_, Ev_succ ?_⟩
    · simp (disch := omega) only [spec_Unhex.l0, if_neg]; exact Ev.now _
    · simp (disch := omega) only [impl_Unhex.l0, if_neg]; exact Ev.now _
  | succ d ih =>
    intro acc i h0 hi hl
    have hb := bt_range s i
    have hb2 := bt_range s (i + 1)
    obtain ⟨v, e1, f1, p1, q1⟩ := hex_at (bt s i) (by omega) (by omega)
    obtain ⟨u, e2, f2, p2, q2⟩ := hex_at (bt s (i + 1)) (by omega) (by omega)
    have f1 : strings_IndexByte.f (⟨#[48, 49, 50, 51, 52, 53, 54, 55, 56, 57, 97, 98, 99, 100, 101, 102]⟩ : ByteArray) (bt s i) = some v := f1
    have f2 : strings_IndexByte.f (⟨#[48, 49, 50, 51, 52, 53, 54, 55, 56, 57, 97, 98, 99, 100, 101, 102]⟩ : ByteArray) (bt s (i + 1)) = some u := f2
    have w1 : wrap64 (i + 1) = i + 1 := w64 (by omega) (by omega)
    by_cases cv : v < 0
    · refine ⟨(⟨#[]⟩, false), Ev_succ ?_, Ev_succ ?_⟩
      · simp (disch := omega) only [spec_Unhex.l0, if_pos, w1]
        refine Ev_call e1 (Ev_call e2 ?_)
        simp only [if_pos cv]; exact Ev.now _
      · simp (disch := omega) only [impl_Unhex.l0, if_pos, w1, f1, f2, Option.bind_some]; exact Ev.now _
    by_cases cu : u < 0
    · refine ⟨(⟨#[]⟩, false), Ev_succ ?_, Ev_succ ?_⟩
      · simp (disch := omega) only [spec_Unhex.l0, if_pos, w1]
        refine Ev_call e1 (Ev_call e2 ?_)
        simp only [if_neg cv, if_pos cu]; exact Ev.now _
      · simp (disch := omega) only [impl_Unhex.l0, if_pos, if_neg, w1, f1, f2, Option.bind_some]; exact Ev.now _
    obtain ⟨r, a1, a2⟩ := ih (acc ++ [(16 * v + u) % 256]) (i + 2) (by omega) (by omega) (by simp; omega)
    refine ⟨r, Ev_succ ?_, Ev_succ ?_⟩
    · simp (disch := omega) only [spec_Unhex.l0, if_pos, w1]
      refine Ev_call e1 (Ev_call e2 ?_)
      simp (disch := omega) only [if_neg, if_pos, w64]; exact a1
    · have eo := or16 v u (by omega) q1 (by omega) q2
      simp (disch := omega) only [impl_Unhex.l0, if_pos, if_neg, w64, f1, f2, Option.bind_some, eo]; exact a2
theorem FnExactUnhex : laws_FnExactUnhex.Pure := by
  intro s _
  by_cases h : (s.size : Int) > 1048576
  · exact ⟨0, by simp only [laws_FnExactUnhex.f]; rw [if_pos h]⟩
  apply Ev.rounds
  simp only [laws_FnExactUnhex.f, if_neg h]
  have hr : ∃ r, Ev (fun k => spec_Unhex.f k s) r ∧ Ev (fun k => impl_Unhex.f k s) r := by
    by_cases h2 : (s.size : Int) % 2 = 1
    · refine ⟨(⟨#[]⟩, false), ?_, ?_⟩
      · simp only [spec_Unhex.f, if_pos h2]; exact Ev.now _
      · simp (disch := omega) only [impl_Unhex.f, if_neg]; exact Ev.now _
    · obtain ⟨r, a1, a2⟩ := unhex_loop s (by omega) (s.size / 2) [] 0 (by omega) (by omega) (by simp)
      refine ⟨r, ?_, ?_⟩
      · simp only [spec_Unhex.f, if_neg h2]; exact a1
      · simp (disch := omega) only [impl_Unhex.f, if_pos]; exact a2
  obtain ⟨r, e1, e2⟩ := hr
  refine Ev_call e1 (Ev_call e2 ?_)
  simp only [if_true, bne_self_eq_false, Bool.false_eq_true, if_false]
  exact Ev.now _


end Go.Proofs.Ytpglahocmchcnaa.Pure

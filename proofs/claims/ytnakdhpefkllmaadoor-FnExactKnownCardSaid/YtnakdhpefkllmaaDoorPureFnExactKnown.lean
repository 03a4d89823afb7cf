import Derived.Test.YtnakdhpefkllmaaDoorSayFnExactKnown
import Derived.Test.YtnakdhpefkllmaaDoorKit
import Derived.Lib.ItoaLen
/- FnExactKnown: both know the same of an expression of a program that can be written; for every program and every number. -/
namespace Go.Proofs.YtnakdhpefkllmaaDoor.Pure
open Go.RowKit Go.Proofs.YtnakdhpefkllmaaDoor.PFnExactKnown Go.Proofs.YtnakdhpefkllmaaDoorW.PrintWords Go.Proofs.YtnakdhpefkllmaaDoorW.PrintLast Go.Proofs.YtnakdhpefkllmaaDoorW.PrintMore Go.Proofs.YtnakdhpefkllmaaDoor.Kit
set_option linter.unusedSimpArgs false
set_option linter.unusedVariables false

theorem szStringS_loop (l : List ByteArray) (hs : ∀ x ∈ l, x.size ≤ 9223372036854775807) (hl : l.length ≤ 1048576) (d : Nat) : ∀ (i : Nat) (left : Int), i + d = l.length → 0 ≤ left → left ≤ 1048576 →
    ∃ t, Ev (fun k => laws_szStringS.l0 k l left i) t ∧ t ≤ left ∧ -1 ≤ t ∧ (0 ≤ t → ∀ j, i ≤ j → j < l.length → ((l.getD j ByteArray.empty).size : Int) ≤ left) := by
  induction d with
  | zero =>
    intro i left hi h0 h1
    refine ⟨left, Ev_succ ?_, by omega, by omega, fun _ j hj hj2 => absurd hj2 (by omega)⟩
    simp (disch := omega) only [laws_szStringS.l0, if_neg]; exact Ev.now _
  | succ d ih =>
    intro i left hi h0 h1
    have hx := hs (l.getD i ByteArray.empty) (by rw [getD_at l _ i (by omega)]; exact List.getElem_mem _)
    by_cases hn : left - (l.getD i ByteArray.empty).size < 0
    · refine ⟨-1, Ev_succ ?_, by omega, by omega, fun h => absurd h (by omega)⟩
      simp (disch := omega) only [laws_szStringS.l0, if_pos, rdOf, Int.toNat_natCast, w64]; exact Ev.now _
    · obtain ⟨t2, e2, h2, h3, hf2⟩ := ih (i + 1) (left - (l.getD i ByteArray.empty).size) (by omega) (by omega) (by omega)
      refine ⟨t2, Ev_succ ?_, by omega, h3, fun h j hj hj2 => ?_⟩
      · simp (disch := omega) only [laws_szStringS.l0, if_pos, if_neg, rdOf, Int.toNat_natCast, w64]; exact e2
      · rcases Nat.eq_or_lt_of_le hj with hj | hj
        · subst hj; omega
        · have := hf2 h j hj hj2
          omega
theorem szStringS_ev (l : List ByteArray) (hl : l.length ≤ 9223372036854775807) (hs : ∀ x ∈ l, x.size ≤ 9223372036854775807) (left : Int) (h0 : 0 ≤ left) (h1 : left ≤ 1048576) :
    ∃ t, Ev (fun k => laws_szStringS.f k l left) t ∧ t ≤ left ∧ -1 ≤ t ∧ (0 ≤ t → (l.length : Int) ≤ left ∧ ∀ x ∈ l, (x.size : Int) ≤ left) := by
  by_cases c0 : left - l.length < 0
  · refine ⟨-1, ?_, by omega, by omega, fun h => absurd h (by omega)⟩
    simp (disch := omega) only [laws_szStringS.f, w64, if_pos]; exact Ev.now _
  · obtain ⟨t, e, h2, h3, hf⟩ := szStringS_loop l hs (by omega) l.length 0 (left - l.length) (by omega) (by omega) (by omega)
    refine ⟨t, ?_, by omega, h3, fun h => ⟨by omega, fun x hx => ?_⟩⟩
    · simp (disch := omega) only [laws_szStringS.f, w64, if_neg]; exact e
    · obtain ⟨j, hj, rfl⟩ := List.mem_iff_getElem.1 hx
      have := hf h j (by omega) hj
      rw [getD_at l _ j hj] at this
      omega
theorem szImp_some (b0 : ByteArray) (b1 : ByteArray) (b2 : ByteArray) (left : Int) (h0 : 0 ≤ left) (h1 : left ≤ 1048576) (hb0 : b0.size ≤ 9223372036854775807) (hb1 : b1.size ≤ 9223372036854775807) (hb2 : b2.size ≤ 9223372036854775807) :
    ∃ t, laws_szImp.f b0 b1 b2 left = some t ∧ t ≤ left ∧ -1 ≤ t ∧ (0 ≤ t → (b0.size : Int) ≤ left ∧ (b1.size : Int) ≤ left ∧ (b2.size : Int) ≤ left) := by
  by_cases c0 : left - b0.size < 0
  · exact ⟨-1, by simp (disch := omega) only [laws_szImp.f, w64, if_pos, if_neg], by omega, by omega, fun h => absurd h (by omega)⟩
  by_cases c1 : left - b0.size - b1.size < 0
  · exact ⟨-1, by simp (disch := omega) only [laws_szImp.f, w64, if_pos, if_neg], by omega, by omega, fun h => absurd h (by omega)⟩
  by_cases c2 : left - b0.size - b1.size - b2.size < 0
  · exact ⟨-1, by simp (disch := omega) only [laws_szImp.f, w64, if_pos, if_neg], by omega, by omega, fun h => absurd h (by omega)⟩
  exact ⟨left - b0.size - b1.size - b2.size, by simp (disch := omega) only [laws_szImp.f, w64, if_neg], by omega, by omega, fun _ => ⟨by omega, by omega, by omega⟩⟩
theorem szImpS_loop (l : List S65) (hs : ∀ x ∈ l, x.f0.size ≤ 9223372036854775807 ∧ x.f1.size ≤ 9223372036854775807 ∧ x.f2.size ≤ 9223372036854775807) (hl : l.length ≤ 1048576) (d : Nat) : ∀ (i : Nat) (left : Int), i + d = l.length → 0 ≤ left → left ≤ 1048576 →
    ∃ t, Ev (fun k => laws_szImpS.l0 k l left i) t ∧ t ≤ left ∧ -1 ≤ t ∧ (0 ≤ t → ∀ j, i ≤ j → j < l.length → ((l.getD j z65).f0.size : Int) ≤ left ∧ ((l.getD j z65).f1.size : Int) ≤ left ∧ ((l.getD j z65).f2.size : Int) ≤ left) := by
  induction d with
  | zero =>
    intro i left hi h0 h1
    refine ⟨left, Ev_succ ?_, by omega, by omega, fun _ j hj hj2 => absurd hj2 (by omega)⟩
    simp (disch := omega) only [laws_szImpS.l0, if_neg]; exact Ev.now _
  | succ d ih =>
    intro i left hi h0 h1
    have hx := hs (l.getD i z65) (by rw [getD_at l _ i (by omega)]; exact List.getElem_mem _)
    obtain ⟨t, e, ht, ht1, hf⟩ := szImp_some (l.getD i z65).f0 (l.getD i z65).f1 (l.getD i z65).f2 left h0 h1 hx.1 hx.2.1 hx.2.2
    by_cases hn : t < 0
    · refine ⟨-1, Ev_succ ?_, by omega, by omega, fun h => absurd h (by omega)⟩
      simp (disch := omega) only [laws_szImpS.l0, if_pos, rd_T65, Int.toNat_natCast, e, Option.bind_some]; exact Ev.now _
    · obtain ⟨t2, e2, h2, h3, hf2⟩ := ih (i + 1) t (by omega) (by omega) (by omega)
      refine ⟨t2, Ev_succ ?_, by omega, h3, fun h j hj hj2 => ?_⟩
      · simp (disch := omega) only [laws_szImpS.l0, if_pos, if_neg, rd_T65, Int.toNat_natCast, e, Option.bind_some, w64]; exact e2
      · rcases Nat.eq_or_lt_of_le hj with hj | hj
        · subst hj; exact hf (by omega)
        · have := hf2 h j hj hj2
          exact ⟨by omega, by omega, by omega⟩
theorem szImpS_ev (l : List S65) (hl : l.length ≤ 9223372036854775807) (hs : ∀ x ∈ l, x.f0.size ≤ 9223372036854775807 ∧ x.f1.size ≤ 9223372036854775807 ∧ x.f2.size ≤ 9223372036854775807) (left : Int) (h0 : 0 ≤ left) (h1 : left ≤ 1048576) :
    ∃ t, Ev (fun k => laws_szImpS.f k l left) t ∧ t ≤ left ∧ -1 ≤ t ∧ (0 ≤ t → (l.length : Int) ≤ left ∧ ∀ x ∈ l, (x.f0.size : Int) ≤ left ∧ (x.f1.size : Int) ≤ left ∧ (x.f2.size : Int) ≤ left) := by
  by_cases c0 : left - l.length < 0
  · refine ⟨-1, ?_, by omega, by omega, fun h => absurd h (by omega)⟩
    simp (disch := omega) only [laws_szImpS.f, w64, if_pos]; exact Ev.now _
  · obtain ⟨t, e, h2, h3, hf⟩ := szImpS_loop l hs (by omega) l.length 0 (left - l.length) (by omega) (by omega) (by omega)
    refine ⟨t, ?_, by omega, h3, fun h => ⟨by omega, fun x hx => ?_⟩⟩
    · simp (disch := omega) only [laws_szImpS.f, w64, if_neg]; exact e
    · obtain ⟨j, hj, rfl⟩ := List.mem_iff_getElem.1 hx
      have := hf h j (by omega) hj
      rw [getD_at l _ j hj] at this
      exact ⟨by omega, by omega, by omega⟩
theorem szExp_some (b0 : Int) (b1 : ByteArray) (b2 : ByteArray) (b3 : ByteArray) (left : Int) (h0 : 0 ≤ left) (h1 : left ≤ 1048576) (hb1 : b1.size ≤ 9223372036854775807) (hb2 : b2.size ≤ 9223372036854775807) (hb3 : b3.size ≤ 9223372036854775807) :
    ∃ t, laws_szExp.f b0 b1 b2 b3 left = some t ∧ t ≤ left ∧ -1 ≤ t ∧ (0 ≤ t → (b1.size : Int) ≤ left ∧ (b2.size : Int) ≤ left ∧ (b3.size : Int) ≤ left) := by
  by_cases c0 : left - b1.size < 0
  · exact ⟨-1, by simp (disch := omega) only [laws_szExp.f, w64, if_pos, if_neg], by omega, by omega, fun h => absurd h (by omega)⟩
  by_cases c1 : left - b1.size - b2.size < 0
  · exact ⟨-1, by simp (disch := omega) only [laws_szExp.f, w64, if_pos, if_neg], by omega, by omega, fun h => absurd h (by omega)⟩
  by_cases c2 : left - b1.size - b2.size - b3.size < 0
  · exact ⟨-1, by simp (disch := omega) only [laws_szExp.f, w64, if_pos, if_neg], by omega, by omega, fun h => absurd h (by omega)⟩
  exact ⟨left - b1.size - b2.size - b3.size, by simp (disch := omega) only [laws_szExp.f, w64, if_neg], by omega, by omega, fun _ => ⟨by omega, by omega, by omega⟩⟩
theorem szExpS_loop (l : List S68) (hs : ∀ x ∈ l, x.f1.size ≤ 9223372036854775807 ∧ x.f2.size ≤ 9223372036854775807 ∧ x.f3.size ≤ 9223372036854775807) (hl : l.length ≤ 1048576) (d : Nat) : ∀ (i : Nat) (left : Int), i + d = l.length → 0 ≤ left → left ≤ 1048576 →
    ∃ t, Ev (fun k => laws_szExpS.l0 k l left i) t ∧ t ≤ left ∧ -1 ≤ t ∧ (0 ≤ t → ∀ j, i ≤ j → j < l.length → ((l.getD j z68).f1.size : Int) ≤ left ∧ ((l.getD j z68).f2.size : Int) ≤ left ∧ ((l.getD j z68).f3.size : Int) ≤ left) := by
  induction d with
  | zero =>
    intro i left hi h0 h1
    refine ⟨left, Ev_succ ?_, by omega, by omega, fun _ j hj hj2 => absurd hj2 (by omega)⟩
    simp (disch := omega) only [laws_szExpS.l0, if_neg]; exact Ev.now _
  | succ d ih =>
    intro i left hi h0 h1
    have hx := hs (l.getD i z68) (by rw [getD_at l _ i (by omega)]; exact List.getElem_mem _)
    obtain ⟨t, e, ht, ht1, hf⟩ := szExp_some (l.getD i z68).f0 (l.getD i z68).f1 (l.getD i z68).f2 (l.getD i z68).f3 left h0 h1 hx.1 hx.2.1 hx.2.2
    by_cases hn : t < 0
    · refine ⟨-1, Ev_succ ?_, by omega, by omega, fun h => absurd h (by omega)⟩
      simp (disch := omega) only [laws_szExpS.l0, if_pos, rd_T68, Int.toNat_natCast, e, Option.bind_some]; exact Ev.now _
    · obtain ⟨t2, e2, h2, h3, hf2⟩ := ih (i + 1) t (by omega) (by omega) (by omega)
      refine ⟨t2, Ev_succ ?_, by omega, h3, fun h j hj hj2 => ?_⟩
      · simp (disch := omega) only [laws_szExpS.l0, if_pos, if_neg, rd_T68, Int.toNat_natCast, e, Option.bind_some, w64]; exact e2
      · rcases Nat.eq_or_lt_of_le hj with hj | hj
        · subst hj; exact hf (by omega)
        · have := hf2 h j hj hj2
          exact ⟨by omega, by omega, by omega⟩
theorem szExpS_ev (l : List S68) (hl : l.length ≤ 9223372036854775807) (hs : ∀ x ∈ l, x.f1.size ≤ 9223372036854775807 ∧ x.f2.size ≤ 9223372036854775807 ∧ x.f3.size ≤ 9223372036854775807) (left : Int) (h0 : 0 ≤ left) (h1 : left ≤ 1048576) :
    ∃ t, Ev (fun k => laws_szExpS.f k l left) t ∧ t ≤ left ∧ -1 ≤ t ∧ (0 ≤ t → (l.length : Int) ≤ left ∧ ∀ x ∈ l, (x.f1.size : Int) ≤ left ∧ (x.f2.size : Int) ≤ left ∧ (x.f3.size : Int) ≤ left) := by
  by_cases c0 : left - l.length < 0
  · refine ⟨-1, ?_, by omega, by omega, fun h => absurd h (by omega)⟩
    simp (disch := omega) only [laws_szExpS.f, w64, if_pos]; exact Ev.now _
  · obtain ⟨t, e, h2, h3, hf⟩ := szExpS_loop l hs (by omega) l.length 0 (left - l.length) (by omega) (by omega) (by omega)
    refine ⟨t, ?_, by omega, h3, fun h => ⟨by omega, fun x hx => ?_⟩⟩
    · simp (disch := omega) only [laws_szExpS.f, w64, if_neg]; exact e
    · obtain ⟨j, hj, rfl⟩ := List.mem_iff_getElem.1 hx
      have := hf h j (by omega) hj
      rw [getD_at l _ j hj] at this
      exact ⟨by omega, by omega, by omega⟩
theorem szStmt_some (b0 : Int) (b1 : ByteArray) (b2 : Int) (left : Int) (h0 : 0 ≤ left) (h1 : left ≤ 1048576) (hb1 : b1.size ≤ 9223372036854775807) :
    ∃ t, laws_szStmt.f b0 b1 b2 left = some t ∧ t ≤ left ∧ -1 ≤ t ∧ (0 ≤ t → (b1.size : Int) ≤ left) := by
  by_cases c0 : left - b1.size < 0
  · exact ⟨-1, by simp (disch := omega) only [laws_szStmt.f, w64, if_pos, if_neg], by omega, by omega, fun h => absurd h (by omega)⟩
  exact ⟨left - b1.size, by simp (disch := omega) only [laws_szStmt.f, w64, if_neg], by omega, by omega, fun _ => by omega⟩
theorem szStmtS_loop (l : List S71) (hs : ∀ x ∈ l, x.f1.size ≤ 9223372036854775807) (hl : l.length ≤ 1048576) (d : Nat) : ∀ (i : Nat) (left : Int), i + d = l.length → 0 ≤ left → left ≤ 1048576 →
    ∃ t, Ev (fun k => laws_szStmtS.l0 k l left i) t ∧ t ≤ left ∧ -1 ≤ t ∧ (0 ≤ t → ∀ j, i ≤ j → j < l.length → ((l.getD j z71).f1.size : Int) ≤ left) := by
  induction d with
  | zero =>
    intro i left hi h0 h1
    refine ⟨left, Ev_succ ?_, by omega, by omega, fun _ j hj hj2 => absurd hj2 (by omega)⟩
    simp (disch := omega) only [laws_szStmtS.l0, if_neg]; exact Ev.now _
  | succ d ih =>
    intro i left hi h0 h1
    have hx := hs (l.getD i z71) (by rw [getD_at l _ i (by omega)]; exact List.getElem_mem _)
    obtain ⟨t, e, ht, ht1, hf⟩ := szStmt_some (l.getD i z71).f0 (l.getD i z71).f1 (l.getD i z71).f2 left h0 h1 hx
    by_cases hn : t < 0
    · refine ⟨-1, Ev_succ ?_, by omega, by omega, fun h => absurd h (by omega)⟩
      simp (disch := omega) only [laws_szStmtS.l0, if_pos, rd_T71, Int.toNat_natCast, e, Option.bind_some]; exact Ev.now _
    · obtain ⟨t2, e2, h2, h3, hf2⟩ := ih (i + 1) t (by omega) (by omega) (by omega)
      refine ⟨t2, Ev_succ ?_, by omega, h3, fun h j hj hj2 => ?_⟩
      · simp (disch := omega) only [laws_szStmtS.l0, if_pos, if_neg, rd_T71, Int.toNat_natCast, e, Option.bind_some, w64]; exact e2
      · rcases Nat.eq_or_lt_of_le hj with hj | hj
        · subst hj; exact hf (by omega)
        · have := hf2 h j hj hj2
          omega
theorem szStmtS_ev (l : List S71) (hl : l.length ≤ 9223372036854775807) (hs : ∀ x ∈ l, x.f1.size ≤ 9223372036854775807) (left : Int) (h0 : 0 ≤ left) (h1 : left ≤ 1048576) :
    ∃ t, Ev (fun k => laws_szStmtS.f k l left) t ∧ t ≤ left ∧ -1 ≤ t ∧ (0 ≤ t → (l.length : Int) ≤ left ∧ ∀ x ∈ l, (x.f1.size : Int) ≤ left) := by
  by_cases c0 : left - l.length < 0
  · refine ⟨-1, ?_, by omega, by omega, fun h => absurd h (by omega)⟩
    simp (disch := omega) only [laws_szStmtS.f, w64, if_pos]; exact Ev.now _
  · obtain ⟨t, e, h2, h3, hf⟩ := szStmtS_loop l hs (by omega) l.length 0 (left - l.length) (by omega) (by omega) (by omega)
    refine ⟨t, ?_, by omega, h3, fun h => ⟨by omega, fun x hx => ?_⟩⟩
    · simp (disch := omega) only [laws_szStmtS.f, w64, if_neg]; exact e
    · obtain ⟨j, hj, rfl⟩ := List.mem_iff_getElem.1 hx
      have := hf h j (by omega) hj
      rw [getD_at l _ j hj] at this
      omega
theorem szExpr_some (b0 : Int) (b1 : Int) (b2 : ByteArray) (b3 : ByteArray) (b4 : Int) (b5 : Int) (left : Int) (h0 : 0 ≤ left) (h1 : left ≤ 1048576) (hb2 : b2.size ≤ 9223372036854775807) (hb3 : b3.size ≤ 9223372036854775807) :
    ∃ t, laws_szExpr.f b0 b1 b2 b3 b4 b5 left = some t ∧ t ≤ left ∧ -1 ≤ t ∧ (0 ≤ t → (b2.size : Int) ≤ left ∧ (b3.size : Int) ≤ left) := by
  by_cases c0 : left - b2.size < 0
  · exact ⟨-1, by simp (disch := omega) only [laws_szExpr.f, w64, if_pos, if_neg], by omega, by omega, fun h => absurd h (by omega)⟩
  by_cases c1 : left - b2.size - b3.size < 0
  · exact ⟨-1, by simp (disch := omega) only [laws_szExpr.f, w64, if_pos, if_neg], by omega, by omega, fun h => absurd h (by omega)⟩
  exact ⟨left - b2.size - b3.size, by simp (disch := omega) only [laws_szExpr.f, w64, if_neg], by omega, by omega, fun _ => ⟨by omega, by omega⟩⟩
theorem szExprS_loop (l : List S74) (hs : ∀ x ∈ l, x.f2.size ≤ 9223372036854775807 ∧ x.f3.size ≤ 9223372036854775807) (hl : l.length ≤ 1048576) (d : Nat) : ∀ (i : Nat) (left : Int), i + d = l.length → 0 ≤ left → left ≤ 1048576 →
    ∃ t, Ev (fun k => laws_szExprS.l0 k l left i) t ∧ t ≤ left ∧ -1 ≤ t ∧ (0 ≤ t → ∀ j, i ≤ j → j < l.length → ((l.getD j z74).f2.size : Int) ≤ left ∧ ((l.getD j z74).f3.size : Int) ≤ left) := by
  induction d with
  | zero =>
    intro i left hi h0 h1
    refine ⟨left, Ev_succ ?_, by omega, by omega, fun _ j hj hj2 => absurd hj2 (by omega)⟩
    simp (disch := omega) only [laws_szExprS.l0, if_neg]; exact Ev.now _
  | succ d ih =>
    intro i left hi h0 h1
    have hx := hs (l.getD i z74) (by rw [getD_at l _ i (by omega)]; exact List.getElem_mem _)
    obtain ⟨t, e, ht, ht1, hf⟩ := szExpr_some (l.getD i z74).f0 (l.getD i z74).f1 (l.getD i z74).f2 (l.getD i z74).f3 (l.getD i z74).f4 (l.getD i z74).f5 left h0 h1 hx.1 hx.2
    by_cases hn : t < 0
    · refine ⟨-1, Ev_succ ?_, by omega, by omega, fun h => absurd h (by omega)⟩
      simp (disch := omega) only [laws_szExprS.l0, if_pos, rd_T74, Int.toNat_natCast, e, Option.bind_some]; exact Ev.now _
    · obtain ⟨t2, e2, h2, h3, hf2⟩ := ih (i + 1) t (by omega) (by omega) (by omega)
      refine ⟨t2, Ev_succ ?_, by omega, h3, fun h j hj hj2 => ?_⟩
      · simp (disch := omega) only [laws_szExprS.l0, if_pos, if_neg, rd_T74, Int.toNat_natCast, e, Option.bind_some, w64]; exact e2
      · rcases Nat.eq_or_lt_of_le hj with hj | hj
        · subst hj; exact hf (by omega)
        · have := hf2 h j hj hj2
          exact ⟨by omega, by omega⟩
theorem szExprS_ev (l : List S74) (hl : l.length ≤ 9223372036854775807) (hs : ∀ x ∈ l, x.f2.size ≤ 9223372036854775807 ∧ x.f3.size ≤ 9223372036854775807) (left : Int) (h0 : 0 ≤ left) (h1 : left ≤ 1048576) :
    ∃ t, Ev (fun k => laws_szExprS.f k l left) t ∧ t ≤ left ∧ -1 ≤ t ∧ (0 ≤ t → (l.length : Int) ≤ left ∧ ∀ x ∈ l, (x.f2.size : Int) ≤ left ∧ (x.f3.size : Int) ≤ left) := by
  by_cases c0 : left - l.length < 0
  · refine ⟨-1, ?_, by omega, by omega, fun h => absurd h (by omega)⟩
    simp (disch := omega) only [laws_szExprS.f, w64, if_pos]; exact Ev.now _
  · obtain ⟨t, e, h2, h3, hf⟩ := szExprS_loop l hs (by omega) l.length 0 (left - l.length) (by omega) (by omega) (by omega)
    refine ⟨t, ?_, by omega, h3, fun h => ⟨by omega, fun x hx => ?_⟩⟩
    · simp (disch := omega) only [laws_szExprS.f, w64, if_neg]; exact e
    · obtain ⟨j, hj, rfl⟩ := List.mem_iff_getElem.1 hx
      have := hf h j (by omega) hj
      rw [getD_at l _ j hj] at this
      exact ⟨by omega, by omega⟩
theorem toStringS_loop (l : List ByteArray) (hl : l.length ≤ 1048576) (d : Nat) : ∀ i : Nat, i + d = l.length → Ev (fun k => laws_toStringS.l0 k l ((l.take i).map (fun x => x) ++ List.replicate d (⟨#[]⟩ : ByteArray)) i) (l.map (fun x => x)) := by
  induction d with
  | zero =>
    intro i hi
    refine Ev_succ ?_
    simp (disch := omega) only [laws_toStringS.l0, if_neg]
    exact Ev_some (fill_done l (fun x => x) (⟨#[]⟩ : ByteArray) i (by omega))
  | succ d ih =>
    intro i hi
    have e := set_step l (fun x => x) (⟨#[]⟩ : ByteArray) ByteArray.empty i d hi
    have e2 := ih (i + 1) (by omega)
    rw [← e] at e2
    refine Ev_succ ?_
    simp (disch := (first | omega | (simp only [List.length_append, List.length_map, List.length_take, List.length_replicate]; omega))) only [laws_toStringS.l0, if_pos, rdOf, Int.toNat_natCast, w64]
    exact e2
theorem toStringS_ev (l : List ByteArray) (hl : l.length ≤ 1048576) : Ev (fun k => laws_toStringS.f k l) (l) := by
  have e := toStringS_loop l hl l.length 0 (by omega)
  simp only [List.take_zero, List.map_nil, List.nil_append] at e
  simp (disch := (first | omega | (simp only [Int.toNat_natCast]; omega))) only [laws_toStringS.f, if_pos, Int.toNat_natCast]
  simp only [List.map_id'] at e
  exact e
def cvImp (x : S65) : S78 := ⟨x.f0, x.f1, x.f2⟩
theorem toImpS_loop (l : List S65) (hl : l.length ≤ 1048576) (d : Nat) : ∀ i : Nat, i + d = l.length → Ev (fun k => laws_toImpS.l0 k l ((l.take i).map cvImp ++ List.replicate d z78) i) (l.map cvImp) := by
  induction d with
  | zero =>
    intro i hi
    refine Ev_succ ?_
    simp (disch := omega) only [laws_toImpS.l0, if_neg]
    exact Ev_some (fill_done l cvImp z78 i (by omega))
  | succ d ih =>
    intro i hi
    have e := set_step l cvImp z78 z65 i d hi
    have e2 := ih (i + 1) (by omega)
    rw [← e] at e2
    refine Ev_succ ?_
    simp (disch := (first | omega | (simp only [List.length_append, List.length_map, List.length_take, List.length_replicate]; omega))) only [laws_toImpS.l0, if_pos, rd_T65, laws_toImp.f, Option.bind_some, Int.toNat_natCast, w64]
    exact e2
theorem toImpS_ev (l : List S65) (hl : l.length ≤ 1048576) : Ev (fun k => laws_toImpS.f k l) (l.map cvImp) := by
  have e := toImpS_loop l hl l.length 0 (by omega)
  simp only [List.take_zero, List.map_nil, List.nil_append] at e
  simp (disch := (first | omega | (simp only [Int.toNat_natCast]; omega))) only [laws_toImpS.f, if_pos, Int.toNat_natCast]
  exact e
def cvExp (x : S68) : S80 := ⟨x.f0, x.f1, x.f2, x.f3⟩
theorem toExpS_loop (l : List S68) (hl : l.length ≤ 1048576) (d : Nat) : ∀ i : Nat, i + d = l.length → Ev (fun k => laws_toExpS.l0 k l ((l.take i).map cvExp ++ List.replicate d z80) i) (l.map cvExp) := by
  induction d with
  | zero =>
    intro i hi
    refine Ev_succ ?_
    simp (disch := omega) only [laws_toExpS.l0, if_neg]
    exact Ev_some (fill_done l cvExp z80 i (by omega))
  | succ d ih =>
    intro i hi
    have e := set_step l cvExp z80 z68 i d hi
    have e2 := ih (i + 1) (by omega)
    rw [← e] at e2
    refine Ev_succ ?_
    simp (disch := (first | omega | (simp only [List.length_append, List.length_map, List.length_take, List.length_replicate]; omega))) only [laws_toExpS.l0, if_pos, rd_T68, laws_toExp.f, Option.bind_some, Int.toNat_natCast, w64]
    exact e2
theorem toExpS_ev (l : List S68) (hl : l.length ≤ 1048576) : Ev (fun k => laws_toExpS.f k l) (l.map cvExp) := by
  have e := toExpS_loop l hl l.length 0 (by omega)
  simp only [List.take_zero, List.map_nil, List.nil_append] at e
  simp (disch := (first | omega | (simp only [Int.toNat_natCast]; omega))) only [laws_toExpS.f, if_pos, Int.toNat_natCast]
  exact e
def cvStmt (x : S71) : S77 := ⟨x.f0, x.f1, x.f2⟩
theorem toStmtS_loop (l : List S71) (hl : l.length ≤ 1048576) (d : Nat) : ∀ i : Nat, i + d = l.length → Ev (fun k => laws_toStmtS.l0 k l ((l.take i).map cvStmt ++ List.replicate d z77) i) (l.map cvStmt) := by
  induction d with
  | zero =>
    intro i hi
    refine Ev_succ ?_
    simp (disch := omega) only [laws_toStmtS.l0, if_neg]
    exact Ev_some (fill_done l cvStmt z77 i (by omega))
  | succ d ih =>
    intro i hi
    have e := set_step l cvStmt z77 z71 i d hi
    have e2 := ih (i + 1) (by omega)
    rw [← e] at e2
    refine Ev_succ ?_
    simp (disch := (first | omega | (simp only [List.length_append, List.length_map, List.length_take, List.length_replicate]; omega))) only [laws_toStmtS.l0, if_pos, rd_T71, laws_toStmt.f, Option.bind_some, Int.toNat_natCast, w64]
    exact e2
theorem toStmtS_ev (l : List S71) (hl : l.length ≤ 1048576) : Ev (fun k => laws_toStmtS.f k l) (l.map cvStmt) := by
  have e := toStmtS_loop l hl l.length 0 (by omega)
  simp only [List.take_zero, List.map_nil, List.nil_append] at e
  simp (disch := (first | omega | (simp only [Int.toNat_natCast]; omega))) only [laws_toStmtS.f, if_pos, Int.toNat_natCast]
  exact e
def cvExpr (x : S74) : S75 := ⟨x.f0, x.f1, x.f2, x.f3, x.f4, x.f5⟩
theorem toExprS_loop (l : List S74) (hl : l.length ≤ 1048576) (d : Nat) : ∀ i : Nat, i + d = l.length → Ev (fun k => laws_toExprS.l0 k l ((l.take i).map cvExpr ++ List.replicate d z75) i) (l.map cvExpr) := by
  induction d with
  | zero =>
    intro i hi
    refine Ev_succ ?_
    simp (disch := omega) only [laws_toExprS.l0, if_neg]
    exact Ev_some (fill_done l cvExpr z75 i (by omega))
  | succ d ih =>
    intro i hi
    have e := set_step l cvExpr z75 z74 i d hi
    have e2 := ih (i + 1) (by omega)
    rw [← e] at e2
    refine Ev_succ ?_
    simp (disch := (first | omega | (simp only [List.length_append, List.length_map, List.length_take, List.length_replicate]; omega))) only [laws_toExprS.l0, if_pos, rd_T74, laws_toExpr.f, Option.bind_some, Int.toNat_natCast, w64]
    exact e2
theorem toExprS_ev (l : List S74) (hl : l.length ≤ 1048576) : Ev (fun k => laws_toExprS.f k l) (l.map cvExpr) := by
  have e := toExprS_loop l hl l.length 0 (by omega)
  simp only [List.take_zero, List.map_nil, List.nil_append] at e
  simp (disch := (first | omega | (simp only [Int.toNat_natCast]; omega))) only [laws_toExprS.f, if_pos, Int.toNat_natCast]
  exact e
theorem eqStringS_loop (l : List ByteArray) (hl : l.length ≤ 4194304) (d : Nat) : ∀ i : Nat, i + d = l.length → Ev (fun k => laws_eqStringS.l0 k l l i) true := by
  induction d with
  | zero =>
    intro i hi
    refine Ev_succ ?_
    simp (disch := omega) only [laws_eqStringS.l0, if_neg]; exact Ev.now _
  | succ d ih =>
    intro i hi
    have e := ih (i + 1) (by omega)
    refine Ev_succ ?_
    simp (disch := omega) only [laws_eqStringS.l0, if_pos, if_true, w64]
    exact e
theorem eqStringS_ev (l : List ByteArray) (hl : l.length ≤ 4194304) : Ev (fun k => laws_eqStringS.f k l l) true := by
  have e := eqStringS_loop l hl l.length 0 (by omega)
  simp only [laws_eqStringS.f, if_true]
  exact e
theorem eqImpS_loop (l : List S78) (hl : l.length ≤ 1048576) (d : Nat) : ∀ i : Nat, i + d = l.length → Ev (fun k => laws_eqImpS.l0 k l l i) true := by
  induction d with
  | zero =>
    intro i hi
    refine Ev_succ ?_
    simp (disch := omega) only [laws_eqImpS.l0, if_neg]; exact Ev.now _
  | succ d ih =>
    intro i hi
    have e := ih (i + 1) (by omega)
    refine Ev_succ ?_
    simp (disch := omega) only [laws_eqImpS.l0, if_pos, if_true, laws_eqImp.f, Option.bind_some, w64]
    exact e
theorem eqImpS_ev (l : List S78) (hl : l.length ≤ 1048576) : Ev (fun k => laws_eqImpS.f k l l) true := by
  have e := eqImpS_loop l hl l.length 0 (by omega)
  simp only [laws_eqImpS.f, if_true]
  exact e
theorem eqExpS_loop (l : List S80) (hl : l.length ≤ 1048576) (d : Nat) : ∀ i : Nat, i + d = l.length → Ev (fun k => laws_eqExpS.l0 k l l i) true := by
  induction d with
  | zero =>
    intro i hi
    refine Ev_succ ?_
    simp (disch := omega) only [laws_eqExpS.l0, if_neg]; exact Ev.now _
  | succ d ih =>
    intro i hi
    have e := ih (i + 1) (by omega)
    refine Ev_succ ?_
    simp (disch := omega) only [laws_eqExpS.l0, if_pos, if_true, laws_eqExp.f, Option.bind_some, w64]
    exact e
theorem eqExpS_ev (l : List S80) (hl : l.length ≤ 1048576) : Ev (fun k => laws_eqExpS.f k l l) true := by
  have e := eqExpS_loop l hl l.length 0 (by omega)
  simp only [laws_eqExpS.f, if_true]
  exact e
theorem eqStmtS_loop (l : List S77) (hl : l.length ≤ 1048576) (d : Nat) : ∀ i : Nat, i + d = l.length → Ev (fun k => laws_eqStmtS.l0 k l l i) true := by
  induction d with
  | zero =>
    intro i hi
    refine Ev_succ ?_
    simp (disch := omega) only [laws_eqStmtS.l0, if_neg]; exact Ev.now _
  | succ d ih =>
    intro i hi
    have e := ih (i + 1) (by omega)
    refine Ev_succ ?_
    simp (disch := omega) only [laws_eqStmtS.l0, if_pos, if_true, laws_eqStmt.f, Option.bind_some, w64]
    exact e
theorem eqStmtS_ev (l : List S77) (hl : l.length ≤ 1048576) : Ev (fun k => laws_eqStmtS.f k l l) true := by
  have e := eqStmtS_loop l hl l.length 0 (by omega)
  simp only [laws_eqStmtS.f, if_true]
  exact e
theorem eqExprS_loop (l : List S75) (hl : l.length ≤ 1048576) (d : Nat) : ∀ i : Nat, i + d = l.length → Ev (fun k => laws_eqExprS.l0 k l l i) true := by
  induction d with
  | zero =>
    intro i hi
    refine Ev_succ ?_
    simp (disch := omega) only [laws_eqExprS.l0, if_neg]; exact Ev.now _
  | succ d ih =>
    intro i hi
    have e := ih (i + 1) (by omega)
    refine Ev_succ ?_
    simp (disch := omega) only [laws_eqExprS.l0, if_pos, if_true, laws_eqExpr.f, Option.bind_some, w64]
    exact e
theorem eqExprS_ev (l : List S75) (hl : l.length ≤ 1048576) : Ev (fun k => laws_eqExprS.f k l l) true := by
  have e := eqExprS_loop l hl l.length 0 (by omega)
  simp only [laws_eqExprS.f, if_true]
  exact e
theorem szMod_ev (l0 : List ByteArray) (l1 : List S65) (l2 : List S68) (l3 : List S71) (l4 : List S74)
    (h0 : l0.length ≤ 9223372036854775807 ∧ ∀ x ∈ l0, x.size ≤ 9223372036854775807)
    (h1 : l1.length ≤ 9223372036854775807 ∧ ∀ x ∈ l1, x.f0.size ≤ 9223372036854775807 ∧ x.f1.size ≤ 9223372036854775807 ∧ x.f2.size ≤ 9223372036854775807)
    (h2 : l2.length ≤ 9223372036854775807 ∧ ∀ x ∈ l2, x.f1.size ≤ 9223372036854775807 ∧ x.f2.size ≤ 9223372036854775807 ∧ x.f3.size ≤ 9223372036854775807)
    (h3 : l3.length ≤ 9223372036854775807 ∧ ∀ x ∈ l3, x.f1.size ≤ 9223372036854775807)
    (h4 : l4.length ≤ 9223372036854775807 ∧ ∀ x ∈ l4, x.f2.size ≤ 9223372036854775807 ∧ x.f3.size ≤ 9223372036854775807)
    (left : Int) (p0 : 0 ≤ left) (p1 : left ≤ 1048576) : ∃ t, Ev (fun k => laws_szMod.f k l0 l1 l2 l3 l4 left) t ∧ (0 ≤ t → t ≤ left ∧
      ((l0.length : Int) ≤ left ∧ ∀ x ∈ l0, (x.size : Int) ≤ left) ∧ ((l1.length : Int) ≤ left ∧ ∀ x ∈ l1, (x.f0.size : Int) ≤ left ∧ (x.f1.size : Int) ≤ left ∧ (x.f2.size : Int) ≤ left) ∧
      ((l2.length : Int) ≤ left ∧ ∀ x ∈ l2, (x.f1.size : Int) ≤ left ∧ (x.f2.size : Int) ≤ left ∧ (x.f3.size : Int) ≤ left) ∧ ((l3.length : Int) ≤ left ∧ ∀ x ∈ l3, (x.f1.size : Int) ≤ left) ∧
      ((l4.length : Int) ≤ left ∧ ∀ x ∈ l4, (x.f2.size : Int) ≤ left ∧ (x.f3.size : Int) ≤ left)) := by
  simp only [laws_szMod.f]
  obtain ⟨t0, e0, a0, b0, f0⟩ := szStringS_ev l0 h0.1 h0.2 left p0 p1
  by_cases n0 : t0 < 0
  · exact ⟨-1, Ev_call e0 (by simp only [if_pos n0]; exact Ev.now _), fun h => absurd h (by omega)⟩
  obtain ⟨t1, e1, a1, b1, f1⟩ := szImpS_ev l1 h1.1 h1.2 t0 (by omega) (by omega)
  by_cases n1 : t1 < 0
  · exact ⟨-1, Ev_call e0 (by simp only [if_neg n0]; exact Ev_call e1 (by simp only [if_pos n1]; exact Ev.now _)), fun h => absurd h (by omega)⟩
  obtain ⟨t2, e2, a2, b2, f2⟩ := szExpS_ev l2 h2.1 h2.2 t1 (by omega) (by omega)
  by_cases n2 : t2 < 0
  · exact ⟨-1, Ev_call e0 (by simp only [if_neg n0]; exact Ev_call e1 (by simp only [if_neg n1]; exact Ev_call e2 (by simp only [if_pos n2]; exact Ev.now _))), fun h => absurd h (by omega)⟩
  obtain ⟨t3, e3, a3, b3, f3⟩ := szStmtS_ev l3 h3.1 h3.2 t2 (by omega) (by omega)
  by_cases n3 : t3 < 0
  · exact ⟨-1, Ev_call e0 (by simp only [if_neg n0]; exact Ev_call e1 (by simp only [if_neg n1]; exact Ev_call e2 (by simp only [if_neg n2]; exact Ev_call e3 (by simp only [if_pos n3]; exact Ev.now _)))), fun h => absurd h (by omega)⟩
  obtain ⟨t4, e4, a4, b4, f4⟩ := szExprS_ev l4 h4.1 h4.2 t3 (by omega) (by omega)
  by_cases n4 : t4 < 0
  · exact ⟨-1, Ev_call e0 (by simp only [if_neg n0]; exact Ev_call e1 (by simp only [if_neg n1]; exact Ev_call e2 (by simp only [if_neg n2]; exact Ev_call e3 (by simp only [if_neg n3]; exact Ev_call e4 (by simp only [if_pos n4]; exact Ev.now _))))), fun h => absurd h (by omega)⟩
  refine ⟨t4, Ev_call e0 (by simp only [if_neg n0]; exact Ev_call e1 (by simp only [if_neg n1]; exact Ev_call e2 (by simp only [if_neg n2]; exact Ev_call e3 (by simp only [if_neg n3]; exact Ev_call e4 (by simp only [if_neg n4]; exact Ev.now _))))), fun _ => ?_⟩
  obtain ⟨g0, g0'⟩ := f0 (by omega); obtain ⟨g1, g1'⟩ := f1 (by omega); obtain ⟨g2, g2'⟩ := f2 (by omega); obtain ⟨g3, g3'⟩ := f3 (by omega); obtain ⟨g4, g4'⟩ := f4 (by omega)
  refine ⟨by omega, ⟨by omega, fun x hx => g0' x hx⟩, ⟨by omega, fun x hx => ?_⟩, ⟨by omega, fun x hx => ?_⟩, ⟨by omega, fun x hx => ?_⟩, ⟨by omega, fun x hx => ?_⟩⟩
  · have := g1' x hx; exact ⟨by omega, by omega, by omega⟩
  · have := g2' x hx; exact ⟨by omega, by omega, by omega⟩
  · have := g3' x hx; omega
  · have := g4' x hx; exact ⟨by omega, by omega⟩
theorem toMod_ev (l0 : List ByteArray) (l1 : List S65) (l2 : List S68) (l3 : List S71) (l4 : List S74)
    (h0 : l0.length ≤ 1048576) (h1 : l1.length ≤ 1048576) (h2 : l2.length ≤ 1048576) (h3 : l3.length ≤ 1048576) (h4 : l4.length ≤ 1048576) :
    Ev (fun k => laws_toMod.f k l0 l1 l2 l3 l4) (l0, l1.map cvImp, l2.map cvExp, l3.map cvStmt, l4.map cvExpr) := by
  simp only [laws_toMod.f]
  exact Ev_call (toStringS_ev l0 h0) (Ev_call (toImpS_ev l1 h1) (Ev_call (toExpS_ev l2 h2) (Ev_call (toStmtS_ev l3 h3) (Ev_call (toExprS_ev l4 h4) (Ev.now _)))))
theorem eqMod_ev (l0 : List ByteArray) (l1 : List S78) (l2 : List S80) (l3 : List S77) (l4 : List S75)
    (h0 : l0.length ≤ 1048576) (h1 : l1.length ≤ 1048576) (h2 : l2.length ≤ 1048576) (h3 : l3.length ≤ 1048576) (h4 : l4.length ≤ 1048576) :
    Ev (fun k => laws_eqMod.f k l0 l1 l2 l3 l4 l0 l1 l2 l3 l4) true := by
  simp only [laws_eqMod.f]
  refine Ev_call (eqStringS_ev l0 (by omega)) ?_
  simp only [if_true]
  refine Ev_call (eqImpS_ev l1 h1) ?_
  simp only [if_true]
  refine Ev_call (eqExpS_ev l2 h2) ?_
  simp only [if_true]
  refine Ev_call (eqStmtS_ev l3 h3) ?_
  simp only [if_true]
  refine Ev_call (eqExprS_ev l4 h4) ?_
  simp only [if_true]
  exact Ev.now _
abbrev SE := S75
abbrev SS := S77
abbrev rE := rd_T75
abbrev rS := rd_T77
theorem rE_at (E : List SE) (i : Nat) (h : i < E.length) : rE E (i : Int) = E[i] := by
  show E.getD _ _ = _; exact getD_at E _ i h
theorem rS_at (D : List SS) (i : Nat) (h : i < D.length) : rS D (i : Int) = D[i] := by
  show D.getD _ _ = _; exact getD_at D _ i h
theorem rd_at (t : List Int) (i : Nat) (h : i < t.length) : rd t (i : Int) = t[i] := by
  show t.getD _ _ = _; exact getD_at t _ i h
theorem drop_E (E : List SE) (i : Nat) (h : i < E.length) : E.drop i = rE E (i : Int) :: E.drop (i + 1) := by
  rw [List.drop_eq_getElem_cons h, rE_at E i h]
theorem drop_S (D : List SS) (i : Nat) (h : i < D.length) : D.drop i = rS D (i : Int) :: D.drop (i + 1) := by
  rw [List.drop_eq_getElem_cons h, rS_at D i h]
theorem two_f (a : Int) : spec_l5Two.f a = some (decide (6 ≤ a ∧ a ≤ 8)) := by
  unfold spec_l5Two.f
  by_cases c6 : a = 6
  · rw [if_pos c6]; congr 1; exact (decide_eq_true (by omega)).symm
  rw [if_neg c6]
  by_cases c7 : a = 7
  · rw [if_pos c7]; congr 1; exact (decide_eq_true (by omega)).symm
  rw [if_neg c7]; congr 1
  by_cases c8 : a = 8
  · rw [beq_iff_eq.2 c8]; exact (decide_eq_true (by omega)).symm
  · rw [beq_eq_false_iff_ne.2 c8]; exact (decide_eq_false (by omega)).symm
theorem inc_len (t : List Int) (i : Int) : (impl_printable.inc t i).length = t.length := List.length_set
/- Both ask the same of a program's expressions: each is a side of a later one, or a statement's, just once. -/
theorem tree_l2 (t : List Int) (ht : t.length ≤ 1048576) (d : Nat) : ∀ i : Nat, i + d = t.length → Ev (fun k => spec_l5Tree.l2 k t i) ((t.drop i).all (fun n => n == 1)) := by
  induction d with
  | zero =>
    intro i hi
    rw [List.drop_eq_nil_of_le (by omega)]
    refine Ev_succ ?_
    simp (disch := omega) only [spec_l5Tree.l2, if_neg]; exact Ev.now _
  | succ d ih =>
    intro i hi
    have c0 : (i : Int) < (t.length : Int) := by omega
    have c1 : 0 ≤ (i : Int) := by omega
    have hn : wrap64 ((i : Int) + 1) = ((i + 1 : Nat) : Int) := by rw [w64 (by omega) (by omega)]; omega
    rw [List.drop_eq_getElem_cons (by omega), List.all_cons, ← rd_at t i (by omega)]
    refine Ev_succ ?_
    simp only [spec_l5Tree.l2, if_pos c0, if_pos c1, hn]
    by_cases c : rd t (i : Int) = 1
    · rw [beq_iff_eq.2 c, Bool.true_and]
      simp only [if_pos c]
      exact ih (i + 1) (by omega)
    · rw [beq_eq_false_iff_ne.2 c, Bool.false_and]
      simp only [if_neg c]; exact Ev.now _
def fin2 (D : List SS) (t : List Int) : Bool := match impl_printable.go2 D t with | none => false | some t => t.all (fun n => n == 1)
theorem tree_l1 (A : List ByteArray) (B : List S78) (C : List S80) (D : List SS) (E : List SE) (hD : D.length ≤ 1048576) (n : Nat) (hn : n ≤ 1048576) (d : Nat) : ∀ (i : Nat) (t : List Int), i + d = D.length → t.length = n → Ev (fun k => spec_l5Tree.l1 k t i A B C D E) (fin2 (D.drop i) t) := by
  induction d with
  | zero =>
    intro i t hi ht
    rw [List.drop_eq_nil_of_le (by omega)]
    refine Ev_succ ?_
    simp (disch := omega) only [spec_l5Tree.l1, if_neg]
    exact tree_l2 t (by omega) t.length 0 (by omega)
  | succ d ih =>
    intro i t hi ht
    have c0 : (i : Int) < (D.length : Int) := by omega
    have c1 : 0 ≤ (i : Int) := by omega
    have hnx : wrap64 ((i : Int) + 1) = ((i + 1 : Nat) : Int) := by rw [w64 (by omega) (by omega)]; omega
    rw [drop_S D i (by omega)]
    refine Ev_succ ?_
    simp only [spec_l5Tree.l1, if_pos c0, if_pos c1, hnx]
    unfold fin2 impl_printable.go2
    by_cases c2 : (rS D (i : Int)).f2 < 0
    · simp only [if_pos c2]
      rw [if_neg (by omega)]; exact Ev.now _
    simp only [if_neg c2]
    by_cases c3 : (rS D (i : Int)).f2 ≥ (t.length : Int)
    · simp only [if_pos c3]
      rw [if_neg (by omega)]; exact Ev.now _
    have c4 : 0 ≤ (rS D (i : Int)).f2 := by omega
    have c5 : (rS D (i : Int)).f2 < (t.length : Int) := by omega
    simp only [if_neg c3, if_pos c4, if_pos c5]
    rw [if_pos ⟨c4, by omega⟩]
    exact ih (i + 1) _ (by omega) (by rw [List.length_set]; exact ht)
def fin1 (D : List SS) (E : List SE) (i : Int) (t : List Int) : Bool := match impl_printable.go1 E i t with | none => false | some t => fin2 D t
theorem tree_l0 (A : List ByteArray) (B : List S78) (C : List S80) (D : List SS) (E : List SE) (hD : D.length ≤ 1048576) (hE : E.length ≤ 1048576) (d : Nat) : ∀ (i : Nat) (t : List Int), i + d = E.length → t.length = E.length → Ev (fun k => spec_l5Tree.l0 k t i A B C D E) (fin1 D (E.drop i) i t) := by
  induction d with
  | zero =>
    intro i t hi ht
    rw [List.drop_eq_nil_of_le (by omega)]
    refine Ev_succ ?_
    simp (disch := omega) only [spec_l5Tree.l0, if_neg]
    exact tree_l1 A B C D E hD t.length (by omega) D.length 0 t (by omega) rfl
  | succ d ih =>
    intro i t hi ht
    have c0 : (i : Int) < (E.length : Int) := by omega
    have c1 : 0 ≤ (i : Int) := by omega
    have hnx : wrap64 ((i : Int) + 1) = ((i + 1 : Nat) : Int) := by rw [w64 (by omega) (by omega)]; omega
    rw [drop_E E i (by omega)]
    refine Ev_succ ?_
    simp only [spec_l5Tree.l0, if_pos c0, if_pos c1, hnx, two_f, Option.bind_some]
    unfold fin1 impl_printable.go1
    by_cases c2 : 6 ≤ (rE E (i : Int)).f0 ∧ (rE E (i : Int)).f0 ≤ 8
    · simp only [decide_eq_true c2, if_true]
      rw [if_pos c2]
      by_cases c3 : (rE E (i : Int)).f4 < 0
      · simp only [if_pos c3]
        rw [if_neg (by omega)]; exact Ev.now _
      simp only [if_neg c3]
      by_cases c4 : (rE E (i : Int)).f4 ≥ (i : Int)
      · simp only [if_pos c4]
        rw [if_neg (by omega)]; exact Ev.now _
      simp only [if_neg c4]
      rw [if_pos ⟨by omega, by omega⟩]
      by_cases c5 : (rE E (i : Int)).f5 < 0
      · simp only [if_pos c5]
        rw [if_neg (by omega)]; exact Ev.now _
      simp only [if_neg c5]
      by_cases c6 : (rE E (i : Int)).f5 ≥ (i : Int)
      · simp only [if_pos c6]
        rw [if_neg (by omega)]; exact Ev.now _
      simp only [if_neg c6]
      rw [if_pos ⟨by omega, by omega⟩]
      have d1 : 0 ≤ (rE E (i : Int)).f4 := by omega
      have d2 : (rE E (i : Int)).f4 < (t.length : Int) := by omega
      have d3 : 0 ≤ (rE E (i : Int)).f5 := by omega
      have d4 : (rE E (i : Int)).f5 < (t.length : Int) := by omega
      simp only [if_pos d1, if_pos d2, if_pos d3, if_pos d4, Option.bind_some]
      have e := ih (i + 1) (impl_printable.inc (impl_printable.inc t (rE E (i : Int)).f4) (rE E (i : Int)).f5) (by omega) (by rw [inc_len, inc_len]; exact ht)
      exact e
    · simp only [decide_eq_false c2, Bool.false_eq_true, if_false]
      rw [if_neg c2]
      exact ih (i + 1) t (by omega) ht
theorem tree_spec (A : List ByteArray) (B : List S78) (C : List S80) (D : List SS) (E : List SE) (hD : D.length ≤ 1048576) (hE : E.length ≤ 1048576) : Ev (fun k => spec_l5Tree.f k A B C D E) (impl_printable.b D E) := by
  have e := tree_l0 A B C D E hD hE E.length 0 (List.replicate E.length 0) (by omega) List.length_replicate
  rw [List.drop_zero] at e
  have hb : impl_printable.b D E = fin1 D E 0 (List.replicate E.length 0) := rfl
  rw [hb]
  simp (disch := omega) only [spec_l5Tree.f, Int.toNat_natCast, if_pos]
  exact e
def isOp (x : SE) : Prop := 6 ≤ x.f0 ∧ x.f0 ≤ 8
instance (x : SE) : Decidable (isOp x) := inferInstanceAs (Decidable (_ ∧ _))
def Low (E : List SE) : Prop := ∀ i : Nat, i < E.length → isOp (rE E (i : Int)) → (0 ≤ (rE E (i : Int)).f4 ∧ (rE E (i : Int)).f4 < i) ∧ (0 ≤ (rE E (i : Int)).f5 ∧ (rE E (i : Int)).f5 < i)
theorem go1_low (E : List SE) (d : Nat) : ∀ (i : Nat) (t t' : List Int), i + d = E.length → impl_printable.go1 (E.drop i) i t = some t' → ∀ j : Nat, i ≤ j → j < E.length → isOp (rE E (j : Int)) → (0 ≤ (rE E (j : Int)).f4 ∧ (rE E (j : Int)).f4 < j) ∧ (0 ≤ (rE E (j : Int)).f5 ∧ (rE E (j : Int)).f5 < j) := by
  induction d with
  | zero => intro i t t' hi h j h1 h2; omega
  | succ d ih =>
    intro i t t' hi h j h1 h2 ho
    rw [drop_E E i (by omega)] at h
    unfold impl_printable.go1 at h
    by_cases c : 6 ≤ (rE E (i : Int)).f0 ∧ (rE E (i : Int)).f0 ≤ 8
    · rw [if_pos c] at h
      by_cases c4 : 0 ≤ (rE E (i : Int)).f4 ∧ (rE E (i : Int)).f4 ≤ (i : Int) - 1
      case neg => rw [if_neg c4] at h; cases h
      rw [if_pos c4] at h
      by_cases c5 : 0 ≤ (rE E (i : Int)).f5 ∧ (rE E (i : Int)).f5 ≤ (i : Int) - 1
      case neg => rw [if_neg c5] at h; cases h
      rw [if_pos c5] at h
      rcases Nat.eq_or_lt_of_le h1 with hj | hj
      · subst hj; exact ⟨⟨c4.1, by omega⟩, c5.1, by omega⟩
      · exact ih (i + 1) _ t' (by omega) h j hj h2 ho
    · rw [if_neg c] at h
      rcases Nat.eq_or_lt_of_le h1 with hj | hj
      · subst hj; exact absurd ho c
      · exact ih (i + 1) t t' (by omega) h j hj h2 ho
theorem tree_low {D : List SS} {E : List SE} (h : impl_printable.b D E = true) : Low E := by
  unfold impl_printable.b at h
  intro i hi ho
  cases e : impl_printable.go1 E 0 (List.replicate E.length 0) with
  | none => rw [e] at h; cases h
  | some t => exact go1_low E E.length 0 (List.replicate E.length 0) t (by omega) (by rw [List.drop_zero]; exact e) i (Nat.zero_le _) hi ho
/- Sums over the first n places. -/
def S0 (f : Nat → Int) : Nat → Int
  | 0 => 0
  | n + 1 => S0 f n + f n
theorem S0_congr {f g : Nat → Int} : ∀ n, (∀ j, j < n → f j = g j) → S0 f n = S0 g n
  | 0, _ => rfl
  | n + 1, h => by rw [S0, S0, S0_congr n (fun j hj => h j (by omega)), h n (by omega)]
theorem S0_upd {f g : Nat → Int} (l : Nat) (d : Int) : ∀ n, l < n → (∀ j, j < n → j ≠ l → g j = f j) → g l = f l + d → S0 g n = S0 f n + d
  | 0, h, _, _ => by omega
  | n + 1, h, h1, h2 => by
    rw [S0, S0]
    by_cases c : l = n
    · subst c; rw [h2, S0_congr l (fun j hj => h1 j (by omega) (by omega))]; omega
    · rw [S0_upd l d n (by omega) (fun j hj hne => h1 j (by omega) hne) h2, h1 n (by omega) (fun e => c e.symm)]; omega
theorem S0_le {f : Nat → Int} (m : Int) : ∀ n, (∀ j, j < n → f j ≤ m) → S0 f n ≤ n * m
  | 0, _ => by simp [S0]
  | n + 1, h => by
    have := S0_le m n (fun j hj => h j (by omega)); have := h n (by omega)
    rw [S0]; push_cast; rw [Int.add_mul]; omega
theorem S0_add {f g : Nat → Int} : ∀ n, S0 (fun j => f j + g j) n = S0 f n + S0 g n
  | 0 => rfl
  | n + 1 => by rw [S0, S0, S0, S0_add n]; omega
theorem S0_nonneg {f : Nat → Int} : ∀ n, (∀ j, j < n → 0 ≤ f j) → 0 ≤ S0 f n
  | 0, _ => Int.le_refl _
  | n + 1, h => by have := S0_nonneg n (fun j hj => h j (by omega)); have := h n (by omega); rw [S0]; omega
theorem S0_pos {f : Nat → Int} : ∀ n, 0 < n → (∀ j, j < n → 1 ≤ f j) → 1 ≤ S0 f n
  | 0, h, _ => by omega
  | n + 1, _, h => by have := S0_nonneg n (fun j hj => Int.le_trans (by decide) (h j (by omega))); have := h n (by omega); rw [S0]; omega
/- What an expression weighs: no less than its text. -/
def co (x : SE) : Nat := x.f2.size + x.f3.size + 40
def wt (E : List SE) : Nat → Int → Nat
  | 0, _ => 0
  | f + 1, i => co (rE E i) + if isOp (rE E i) then wt E f (rE E i).f4 + wt E f (rE E i).f5 else 0
theorem wt_eq {E : List SE} (hL : Low E) : ∀ (f g : Nat) (i : Nat), i < E.length → i < f → i < g → wt E f i = wt E g i
  | 0, _, i, _, h, _ => by omega
  | _, 0, i, _, _, h => by omega
  | f + 1, g + 1, i, hi, h1, h2 => by
    rw [wt, wt]
    by_cases c : isOp (rE E (i : Int))
    · rw [if_pos c, if_pos c]
      obtain ⟨⟨a, b⟩, c', d⟩ := hL i hi c
      have e1 := wt_eq hL f g (rE E (i : Int)).f4.toNat (by omega) (by omega) (by omega)
      have e2 := wt_eq hL f g (rE E (i : Int)).f5.toNat (by omega) (by omega) (by omega)
      rw [Int.toNat_of_nonneg a] at e1
      rw [Int.toNat_of_nonneg c'] at e2
      rw [e1, e2]
    · rw [if_neg c, if_neg c]
def W (E : List SE) (i : Int) : Int := (wt E (i.toNat + 1) i : Int)
theorem W_pos (E : List SE) (i : Int) : 1 ≤ W E i := by unfold W; rw [wt]; unfold co; omega
theorem W_op {E : List SE} (hL : Low E) (i : Nat) (hi : i < E.length) : W E i = co (rE E (i : Int)) + if isOp (rE E (i : Int)) then W E (rE E (i : Int)).f4 + W E (rE E (i : Int)).f5 else 0 := by
  unfold W
  rw [Int.toNat_natCast, wt]
  by_cases c : isOp (rE E (i : Int))
  · rw [if_pos c, if_pos c]
    obtain ⟨⟨a, b⟩, c', d⟩ := hL i hi c
    have e1 := wt_eq hL i ((rE E (i : Int)).f4.toNat + 1) (rE E (i : Int)).f4.toNat (by omega) (by omega) (by omega)
    have e2 := wt_eq hL i ((rE E (i : Int)).f5.toNat + 1) (rE E (i : Int)).f5.toNat (by omega) (by omega) (by omega)
    rw [Int.toNat_of_nonneg a] at e1
    rw [Int.toNat_of_nonneg c'] at e2
    rw [e1, e2]; push_cast; rfl
  · rw [if_neg c, if_neg c]; push_cast; rfl
def Pt (E : List SE) (t : List Int) : Int := S0 (fun j => rd t (j : Int) * W E j) E.length
theorem Pt_inc {E : List SE} {t : List Int} (ht : t.length = E.length) (m : Int) (hm : m ≤ 1000000000) (hb : ∀ j : Nat, j < E.length → 0 ≤ rd t (j : Int) ∧ rd t (j : Int) ≤ m) (l : Int) (h0 : 0 ≤ l) (h1 : l < E.length) :
    Pt E (impl_printable.inc t l) = Pt E t + W E l ∧ ∀ j : Nat, j < E.length → 0 ≤ rd (impl_printable.inc t l) (j : Int) ∧ rd (impl_printable.inc t l) (j : Int) ≤ m + 1 := by
  obtain ⟨q, rfl⟩ : ∃ q : Nat, l = q := ⟨l.toNat, by omega⟩
  have hq : q < t.length := by omega
  have hq2 := hb q (by omega)
  have hw : wrap64 (rd t (q : Int) + 1) = rd t (q : Int) + 1 := w64 (by omega) (by omega)
  have hat : ∀ j : Nat, j < E.length → rd (impl_printable.inc t (q : Int)) (j : Int) = if j = q then rd t (q : Int) + 1 else rd t (j : Int) := by
    intro j hj
    have e : impl_printable.inc t (q : Int) = t.set q (rd t (q : Int) + 1) := by unfold impl_printable.inc; rw [hw, Int.toNat_natCast]
    rw [e, rd_at _ _ (by rw [List.length_set]; omega), List.getElem_set]
    by_cases c : j = q
    · rw [if_pos c, if_pos c.symm]
    · rw [if_neg c, if_neg (fun e => c e.symm), rd_at t j (by omega)]
  refine ⟨?_, fun j hj => ?_⟩
  · unfold Pt
    refine S0_upd q (W E q) E.length (by omega) (fun j hj hne => ?_) ?_
    · show rd _ _ * _ = _; rw [hat j hj, if_neg hne]
    · show rd _ _ * _ = _; rw [hat q (by omega), if_pos rfl, Int.add_mul, Int.one_mul]
  · rw [hat j hj]
    have := hb j hj
    by_cases c : j = q
    · rw [if_pos c]; subst c; omega
    · rw [if_neg c]; omega
theorem go1_P {E : List SE} (hL : Low E) (hE : E.length ≤ 1048576) (d : Nat) : ∀ (i : Nat) (t t' : List Int), i + d = E.length → t.length = E.length → (∀ j : Nat, j < E.length → 0 ≤ rd t (j : Int) ∧ rd t (j : Int) ≤ 2 * i) → impl_printable.go1 (E.drop i) i t = some t' →
    t'.length = E.length ∧ (∀ j : Nat, j < E.length → 0 ≤ rd t' (j : Int) ∧ rd t' (j : Int) ≤ 2 * E.length) ∧ Pt E t' + S0 (fun j => W E j - co (rE E (j : Int))) i = Pt E t + S0 (fun j => W E j - co (rE E (j : Int))) E.length := by
  induction d with
  | zero =>
    intro i t t' hi ht hb h
    rw [List.drop_eq_nil_of_le (by omega)] at h
    obtain rfl := Option.some.inj h
    have : i = E.length := by omega
    subst this
    exact ⟨ht, hb, rfl⟩
  | succ d ih =>
    intro i t t' hi ht hb h
    rw [drop_E E i (by omega)] at h
    unfold impl_printable.go1 at h
    have hW := W_op hL i (by omega)
    by_cases c : 6 ≤ (rE E (i : Int)).f0 ∧ (rE E (i : Int)).f0 ≤ 8
    · rw [if_pos c] at h
      rw [if_pos (show isOp _ from c)] at hW
      obtain ⟨⟨a0, a1⟩, b0, b1⟩ := hL i (by omega) c
      rw [if_pos ⟨a0, by omega⟩, if_pos ⟨b0, by omega⟩] at h
      obtain ⟨p1, q1⟩ := Pt_inc ht (2 * i) (by omega) hb (rE E (i : Int)).f4 a0 (by omega)
      obtain ⟨p2, q2⟩ := Pt_inc (t := impl_printable.inc t (rE E (i : Int)).f4) (by rw [inc_len]; exact ht) (2 * i + 1) (by omega) q1 (rE E (i : Int)).f5 b0 (by omega)
      obtain ⟨r1, r2, r3⟩ := ih (i + 1) (impl_printable.inc (impl_printable.inc t (rE E (i : Int)).f4) (rE E (i : Int)).f5) t' (by omega) (by rw [inc_len, inc_len]; exact ht) (fun j hj => by have := q2 j hj; omega) (by rw [show ((i + 1 : Nat) : Int) = (i : Int) + 1 from by omega]; exact h)
      refine ⟨r1, r2, ?_⟩
      rw [S0] at r3
      omega
    · rw [if_neg c] at h
      rw [if_neg (show ¬ isOp _ from c)] at hW
      obtain ⟨r1, r2, r3⟩ := ih (i + 1) t t' (by omega) ht (fun j hj => by have := hb j hj; omega) (by rw [show ((i + 1 : Nat) : Int) = (i : Int) + 1 from by omega]; exact h)
      refine ⟨r1, r2, ?_⟩
      rw [S0] at r3
      omega
def SD (E : List SE) : List SS → Int
  | [] => 0
  | s :: r => W E s.f2 + SD E r
theorem go2_P {E : List SE} (hE : E.length ≤ 1048576) : ∀ (D : List SS) (m : Int) (t t' : List Int), m + D.length ≤ 1000000000 → t.length = E.length → (∀ j : Nat, j < E.length → 0 ≤ rd t (j : Int) ∧ rd t (j : Int) ≤ m) → impl_printable.go2 D t = some t' → t'.length = E.length ∧ Pt E t' = Pt E t + SD E D ∧ ∀ s ∈ D, 0 ≤ s.f2 ∧ s.f2 < E.length
  | [], m, t, t', hm, ht, hb, h => by
    obtain rfl := Option.some.inj h
    exact ⟨ht, by rw [SD]; omega, fun s hs => by cases hs⟩
  | s :: r, m, t, t', hm, ht, hb, h => by
    unfold impl_printable.go2 at h
    rw [List.length_cons] at hm
    by_cases c : 0 ≤ s.f2 ∧ s.f2 ≤ (t.length : Int) - 1
    case neg => rw [if_neg c] at h; cases h
    rw [if_pos c] at h
    obtain ⟨p1, q1⟩ := Pt_inc ht m (by push_cast at hm; omega) hb s.f2 c.1 (by omega)
    obtain ⟨r1, r2, r3⟩ := go2_P hE r (m + 1) _ t' (by push_cast at hm; omega) (by rw [inc_len]; exact ht) q1 h
    refine ⟨r1, by rw [SD]; omega, fun s' hs => ?_⟩
    rcases List.mem_cons.1 hs with rfl | hs
    · exact ⟨c.1, by omega⟩
    · exact r3 s' hs
theorem SD_mem {E : List SE} : ∀ {D : List SS} {s : SS}, s ∈ D → W E s.f2 ≤ SD E D
  | [], _, h => by cases h
  | x :: r, s, h => by
    have hn : ∀ (l : List SS), 0 ≤ SD E l := by
      intro l
      induction l with
      | nil => exact Int.le_refl _
      | cons y l ih => have := W_pos E y.f2; rw [SD]; omega
    rw [SD]
    rcases List.mem_cons.1 h with rfl | h
    · have := hn r; omega
    · have := SD_mem (E := E) h; have := W_pos E x.f2; omega
theorem tree_sum {D : List SS} {E : List SE} (hD : D.length ≤ 1048576) (hE : E.length ≤ 1048576) (h : impl_printable.b D E = true) :
    (∀ s ∈ D, 0 ≤ s.f2 ∧ s.f2 < E.length) ∧ SD E D = S0 (fun j => (co (rE E (j : Int)) : Int)) E.length := by
  have hL := tree_low h
  unfold impl_printable.b at h
  cases e1 : impl_printable.go1 E 0 (List.replicate E.length 0) with
  | none => rw [e1] at h; cases h
  | some t =>
    rw [e1] at h
    dsimp only at h
    cases e2 : impl_printable.go2 D t with
    | none => rw [e2] at h; cases h
    | some t2 =>
      rw [e2] at h
      dsimp only at h
      have h0 : ∀ j : Nat, j < E.length → rd (List.replicate E.length (0 : Int)) (j : Int) = 0 := fun j hj => by
        rw [rd_at _ _ (by rw [List.length_replicate]; exact hj), List.getElem_replicate]
      obtain ⟨p1, p2, p3⟩ := go1_P hL hE E.length 0 (List.replicate E.length 0) t (by omega) List.length_replicate (fun j hj => by rw [h0 j hj]; omega) (by rw [List.drop_zero]; exact e1)
      obtain ⟨q1, q2, q3⟩ := go2_P hE D (2 * E.length) t t2 (by push_cast; omega) p1 p2 e2
      refine ⟨q3, ?_⟩
      have z0 : Pt E (List.replicate E.length 0) = 0 := by
        unfold Pt
        rw [S0_congr (g := fun _ => 0) E.length (fun j hj => by rw [h0 j hj, Int.zero_mul])]
        have : ∀ n, S0 (fun _ => 0) n = 0 := fun n => by
          induction n with
          | zero => rfl
          | succ n ih => rw [S0, ih]; rfl
        exact this _
      have z1 : Pt E t2 = S0 (fun j => W E j) E.length := by
        unfold Pt
        refine S0_congr E.length (fun j hj => ?_)
        have : rd t2 (j : Int) = 1 := by
          rw [rd_at t2 j (by omega)]
          have := List.all_eq_true.1 h (t2[j]'(by omega)) (List.getElem_mem _)
          exact eq_of_beq this
        rw [this, Int.one_mul]
      have z2 : S0 (fun j => W E j) E.length = S0 (fun j => W E j - co (rE E (j : Int))) E.length + S0 (fun j => (co (rE E (j : Int)) : Int)) E.length := by
        rw [← S0_add]
        exact S0_congr _ (fun j _ => by omega)
      rw [S0] at p3
      omega
/- What is known of an expression. -/
def inN (a : Int) : Bool := decide (-1000000 ≤ a ∧ a ≤ 1000000)
def vl (k a b : Int) : Int := if k = 7 then wrap64 (a - b) else if k = 8 then wrap64 (a * b) else wrap64 (a + b)
def kv (E : List SE) : Nat → Int → Int × Bool
  | 0, _ => (0, false)
  | f + 1, i => if (rE E i).f0 = 1 then ((rE E i).f1, true) else if isOp (rE E i) then
      (if (kv E f (rE E i).f4).2 = true then (if (kv E f (rE E i).f5).2 = true then (if inN (kv E f (rE E i).f4).1 = true then (if inN (kv E f (rE E i).f5).1 = true then
        (if inN (vl (rE E i).f0 (kv E f (rE E i).f4).1 (kv E f (rE E i).f5).1) = true then (vl (rE E i).f0 (kv E f (rE E i).f4).1 (kv E f (rE E i).f5).1, true) else (0, false)) else (0, false)) else (0, false)) else (0, false)) else (0, false))
    else (0, false)
theorem kv_eq {E : List SE} (hL : Low E) : ∀ (f g : Nat) (i : Nat), i < E.length → i < f → i < g → kv E f i = kv E g i
  | 0, _, i, _, h, _ => by omega
  | _, 0, i, _, _, h => by omega
  | f + 1, g + 1, i, hi, h1, h2 => by
    rw [kv, kv]
    by_cases c : isOp (rE E (i : Int))
    · obtain ⟨⟨a, b⟩, c', d⟩ := hL i hi c
      have e1 := kv_eq hL f g (rE E (i : Int)).f4.toNat (by omega) (by omega) (by omega)
      have e2 := kv_eq hL f g (rE E (i : Int)).f5.toNat (by omega) (by omega) (by omega)
      rw [Int.toNat_of_nonneg a] at e1
      rw [Int.toNat_of_nonneg c'] at e2
      rw [e1, e2]
    · simp only [if_neg c]
def K (E : List SE) (i : Int) : Int × Bool := kv E (i.toNat + 1) i
theorem K_eq {E : List SE} (hL : Low E) (i : Nat) (hi : i < E.length) : K E i = if (rE E i).f0 = 1 then ((rE E i).f1, true) else if isOp (rE E i) then
      (if (K E (rE E i).f4).2 = true then (if (K E (rE E i).f5).2 = true then (if inN (K E (rE E i).f4).1 = true then (if inN (K E (rE E i).f5).1 = true then
        (if inN (vl (rE E i).f0 (K E (rE E i).f4).1 (K E (rE E i).f5).1) = true then (vl (rE E i).f0 (K E (rE E i).f4).1 (K E (rE E i).f5).1, true) else (0, false)) else (0, false)) else (0, false)) else (0, false)) else (0, false))
    else (0, false) := by
  unfold K
  rw [Int.toNat_natCast, kv]
  by_cases c : isOp (rE E (i : Int))
  · obtain ⟨⟨a, b⟩, c', d⟩ := hL i hi c
    have e1 := kv_eq hL i ((rE E (i : Int)).f4.toNat + 1) (rE E (i : Int)).f4.toNat (by omega) (by omega) (by omega)
    have e2 := kv_eq hL i ((rE E (i : Int)).f5.toNat + 1) (rE E (i : Int)).f5.toNat (by omega) (by omega) (by omega)
    rw [Int.toNat_of_nonneg a] at e1
    rw [Int.toNat_of_nonneg c'] at e2
    rw [e1, e2]
  · simp only [if_neg c]
theorem in_f (a b c : Int) : impl_in.f a b c = some (decide (b ≤ a ∧ a ≤ c)) := by
  unfold impl_in.f
  by_cases h : a ≥ b
  · rw [if_pos h]; congr 1; exact decide_eq_decide.2 ⟨fun q => ⟨h, q⟩, fun q => q.2⟩
  · rw [if_neg h]; congr 1; exact (decide_eq_false (fun q => h q.1)).symm
theorem inN_f (a : Int) : impl_in.f a (-1000000) 1000000 = some (inN a) := in_f a _ _
theorem op_f (x : SE) : impl_isOp.f x.f0 = some (decide (isOp x)) := by
  unfold impl_isOp.f
  rw [in_f, Option.bind_some]; rfl
theorem vl_f (k a b : Int) (h : 6 ≤ k ∧ k ≤ 8) : impl_reckoned.f k a b = some (vl k a b) := by
  unfold impl_reckoned.f vl
  by_cases c6 : k = 6
  · rw [if_pos c6, if_neg (by omega), if_neg (by omega)]
  rw [if_neg c6]
  by_cases c7 : k = 7
  · rw [if_pos c7, if_pos c7]
  · rw [if_neg c7, if_neg c7, if_pos (by omega)]
theorem known_impl (A : List ByteArray) (B : List S78) (C : List S80) (D : List SS) {E : List SE} (hL : Low E) (d : Nat) : ∀ i : Nat, i < d → i < E.length → Ev (fun k => impl_known.f k A B C D E (i : Int)) (K E i) := by
  induction d with
  | zero => intro i h; omega
  | succ d ih =>
    intro i hd hi
    have c0 : 0 ≤ (i : Int) := by omega
    have c1 : (i : Int) < (E.length : Int) := by omega
    rw [K_eq hL i hi]
    refine Ev_succ ?_
    simp only [impl_known.f, if_pos c0, if_pos c1, op_f, Option.bind_some]
    by_cases k1 : (rE E (i : Int)).f0 = 1
    · simp only [if_pos k1]; exact Ev.now _
    simp only [if_neg k1]
    by_cases c : isOp (rE E (i : Int))
    case neg => simp only [if_neg c, decide_eq_false c, Bool.false_eq_true, if_false]; exact Ev.now _
    obtain ⟨⟨a0, a1⟩, b0, b1⟩ := hL i hi c
    simp only [if_pos c, decide_eq_true c, if_true]
    have e1 := ih (rE E (i : Int)).f4.toNat (by omega) (by omega)
    have e2 := ih (rE E (i : Int)).f5.toNat (by omega) (by omega)
    rw [Int.toNat_of_nonneg a0] at e1
    rw [Int.toNat_of_nonneg b0] at e2
    refine Ev_call e1 (Ev_call e2 ?_)
    generalize K E (rE E (i : Int)).f4 = p
    generalize K E (rE E (i : Int)).f5 = q
    obtain ⟨pv, pb⟩ := p
    obtain ⟨qv, qb⟩ := q
    have bad : ∀ (x y : Int) (m : Int) (n : Int) (s t : ByteArray) (u v : Int), Ev (fun k => impl_known.j0 k x y true m n s t u v) (0, false) := fun x y m n s t u v => by
      refine Ev_succ ?_
      simp only [impl_known.j0, if_true]; exact Ev.now _
    cases pb with
    | false => simp only [Bool.false_eq_true, if_false]; exact bad _ _ _ _ _ _ _ _
    | true =>
    simp only [if_true]
    cases qb with
    | false => simp only [Bool.false_eq_true, if_false]; exact bad _ _ _ _ _ _ _ _
    | true =>
    simp only [if_true, inN_f, Option.bind_some]
    cases hp : inN pv with
    | false => simp only [Bool.false_eq_true, if_false]; exact bad _ _ _ _ _ _ _ _
    | true =>
    simp only [if_true]
    cases hq : inN qv with
    | false => simp only [Bool.not_false, Bool.false_eq_true, if_false]; exact bad _ _ _ _ _ _ _ _
    | true =>
    simp only [Bool.not_true, if_true]
    refine Ev_succ ?_
    simp only [impl_known.j0, Bool.false_eq_true, if_false, vl_f _ _ _ c, inN_f, Option.bind_some]
    cases hv : inN (vl (rE E (i : Int)).f0 pv qv) with
    | false => simp only [Bool.false_eq_true, if_false]; exact Ev.now _
    | true => simp only [if_true]; exact Ev.now _
theorem rb_at (t : List Bool) (i : Nat) (h : i < t.length) : rdOf false t (i : Int) = t[i] := by
  show t.getD _ _ = _; exact getD_at t _ i h
/-- Up to place i the two rows hold what is known. -/
def Told (E : List SE) (i : Nat) (n : List Int) (b : List Bool) : Prop := n.length = E.length ∧ b.length = E.length ∧ (∀ j : Nat, j < i → rdOf false b (j : Int) = (K E j).2 ∧ ((K E j).2 = true → rd n (j : Int) = (K E j).1)) ∧ ∀ j : Nat, i ≤ j → j < E.length → rdOf false b (j : Int) = false
theorem Told.skip {E : List SE} {i : Nat} {n : List Int} {b : List Bool} (h : Told E i n b) (hi : i < E.length) (hk : (K E i).2 = false) : Told E (i + 1) n b := by
  obtain ⟨h1, h2, h3, h4⟩ := h
  refine ⟨h1, h2, fun j hj => ?_, fun j hj => h4 j (by omega)⟩
  rcases Nat.lt_succ_iff_lt_or_eq.1 hj with hj | rfl
  · exact h3 j hj
  · rw [hk]; exact ⟨h4 j (Nat.le_refl _) hi, fun e => by cases e⟩
theorem Told.put {E : List SE} {i : Nat} {n : List Int} {b : List Bool} (h : Told E i n b) (hi : i < E.length) (v : Int) (hk : K E i = (v, true)) : Told E (i + 1) (n.set i v) (b.set i true) := by
  obtain ⟨h1, h2, h3, h4⟩ := h
  have hb : ∀ j : Nat, j < E.length → rdOf false (b.set i true) (j : Int) = if j = i then true else rdOf false b (j : Int) := fun j hj => by
    rw [rb_at _ _ (by rw [List.length_set]; omega), List.getElem_set]
    by_cases c : j = i
    · rw [if_pos c.symm, if_pos c]
    · rw [if_neg (fun e => c e.symm), if_neg c, rb_at b j (by omega)]
  have hn : ∀ j : Nat, j < E.length → rd (n.set i v) (j : Int) = if j = i then v else rd n (j : Int) := fun j hj => by
    rw [rd_at _ _ (by rw [List.length_set]; omega), List.getElem_set]
    by_cases c : j = i
    · rw [if_pos c.symm, if_pos c]
    · rw [if_neg (fun e => c e.symm), if_neg c, rd_at n j (by omega)]
  refine ⟨by rw [List.length_set]; exact h1, by rw [List.length_set]; exact h2, fun j hj => ?_, fun j hj hj2 => ?_⟩
  · rw [hb j (by omega), hn j (by omega)]
    rcases Nat.lt_succ_iff_lt_or_eq.1 hj with hj | rfl
    · rw [if_neg (by omega), if_neg (by omega)]; exact h3 j hj
    · rw [if_pos rfl, if_pos rfl, hk]; exact ⟨rfl, fun _ => rfl⟩
  · rw [hb j hj2, if_neg (by omega)]; exact h4 j (by omega) hj2
theorem l17_go {E : List SE} (hL : Low E) (d : Nat) : ∀ (i : Nat) (n : List Int) (b : List Bool), i + d = E.length → Told E i n b → ∃ n' b', spec_l17Known.go (E.drop i) i n b = some (n', b') ∧ Told E E.length n' b' := by
  induction d with
  | zero =>
    intro i n b hi h
    rw [List.drop_eq_nil_of_le (by omega)]
    have : i = E.length := by omega
    subst this
    exact ⟨n, b, rfl, h⟩
  | succ d ih =>
    intro i n b hi h
    rw [drop_E E i (by omega)]
    unfold spec_l17Known.go
    have hK := K_eq hL i (by omega)
    have nx : ((i + 1 : Nat) : Int) = (i : Int) + 1 := by omega
    have skip : ∀ {p}, spec_l17Known.st (rE E (i : Int)) i n b = some p → p = (n, b) → (K E i).2 = false → ∃ n' b', ((spec_l17Known.st (rE E (i : Int)) i n b).bind fun p => spec_l17Known.go (E.drop (i + 1)) ((i : Int) + 1) p.1 p.2) = some (n', b') ∧ Told E E.length n' b' := fun {p} e1 e2 e3 => by
      rw [e1, Option.bind_some, e2, ← nx]
      exact ih (i + 1) n b (by omega) (h.skip (by omega) e3)
    have put : ∀ (v : Int), spec_l17Known.st (rE E (i : Int)) i n b = some (n.set i v, b.set i true) → K E i = (v, true) → ∃ n' b', ((spec_l17Known.st (rE E (i : Int)) i n b).bind fun p => spec_l17Known.go (E.drop (i + 1)) ((i : Int) + 1) p.1 p.2) = some (n', b') ∧ Told E E.length n' b' := fun v e1 e2 => by
      rw [e1, Option.bind_some, ← nx]
      exact ih (i + 1) _ _ (by omega) (h.put (by omega) v e2)
    by_cases k1 : (rE E (i : Int)).f0 = 1
    · rw [if_pos k1] at hK
      exact put _ (by unfold spec_l17Known.st; rw [if_pos k1, Int.toNat_natCast]) hK
    rw [if_neg k1] at hK
    by_cases c : isOp (rE E (i : Int))
    case neg =>
      rw [if_neg c] at hK
      exact skip (by unfold spec_l17Known.st; rw [if_neg k1, if_neg (show ¬ (6 ≤ (rE E (i : Int)).f0 ∧ (rE E (i : Int)).f0 ≤ 8) from c)]) rfl (by rw [hK])
    rw [if_pos c] at hK
    obtain ⟨⟨a0, a1⟩, b0, b1⟩ := hL i (by omega) c
    obtain ⟨h1, h2, h3, h4⟩ := h
    obtain ⟨x4, y4⟩ := h3 (rE E (i : Int)).f4.toNat (by omega)
    obtain ⟨x5, y5⟩ := h3 (rE E (i : Int)).f5.toNat (by omega)
    rw [Int.toNat_of_nonneg a0] at x4 y4
    rw [Int.toNat_of_nonneg b0] at x5 y5
    have st : spec_l17Known.st (rE E (i : Int)) i n b = (if rdOf false b (rE E (i : Int)).f4 = true then (if rdOf false b (rE E (i : Int)).f5 = true then (if inN (rd n (rE E (i : Int)).f4) = true then (if inN (rd n (rE E (i : Int)).f5) = true then
        (if inN (vl (rE E (i : Int)).f0 (rd n (rE E (i : Int)).f4) (rd n (rE E (i : Int)).f5)) = true then some (n.set i (vl (rE E (i : Int)).f0 (rd n (rE E (i : Int)).f4) (rd n (rE E (i : Int)).f5)), b.set i true) else some (n, b)) else some (n, b)) else some (n, b)) else some (n, b)) else some (n, b)) := by
      unfold spec_l17Known.st
      rw [if_neg k1, if_pos (show 6 ≤ (rE E (i : Int)).f0 ∧ (rE E (i : Int)).f0 ≤ 8 from c), if_pos (show spec_l17Known.okI n (rE E (i : Int)).f4 ∧ spec_l17Known.okI n (rE E (i : Int)).f5 from ⟨⟨a0, by rw [h1]; omega⟩, b0, by rw [h1]; omega⟩), Int.toNat_natCast]
      rfl
    cases p4 : (K E (rE E (i : Int)).f4).2 with
    | false =>
      rw [p4, if_neg (by decide)] at hK
      exact skip (by rw [st, x4, p4, if_neg (by decide)]) rfl (by rw [hK])
    | true =>
    cases p5 : (K E (rE E (i : Int)).f5).2 with
    | false =>
      rw [p4, if_pos rfl, p5, if_neg (by decide)] at hK
      exact skip (by rw [st, x4, p4, if_pos rfl, x5, p5, if_neg (by decide)]) rfl (by rw [hK])
    | true =>
    rw [p4, if_pos rfl, p5, if_pos rfl] at hK
    rw [x4, p4, if_pos rfl, x5, p5, if_pos rfl, y4 p4, y5 p5] at st
    cases q4 : inN (K E (rE E (i : Int)).f4).1 with
    | false =>
      rw [q4, if_neg (by decide)] at hK st
      exact skip st rfl (by rw [hK])
    | true =>
    cases q5 : inN (K E (rE E (i : Int)).f5).1 with
    | false =>
      rw [q4, if_pos rfl, q5, if_neg (by decide)] at hK st
      exact skip st rfl (by rw [hK])
    | true =>
    rw [q4, if_pos rfl, q5, if_pos rfl] at hK st
    cases q6 : inN (vl (rE E (i : Int)).f0 (K E (rE E (i : Int)).f4).1 (K E (rE E (i : Int)).f5).1) with
    | false =>
      rw [q6, if_neg (by decide)] at hK st
      exact skip st rfl (by rw [hK])
    | true =>
      rw [q6, if_pos rfl] at hK st
      exact put _ st hK
/- The text of a program that can be written: there is one, not too long; where a statement stands in it, it is not empty. -/
def Fine (m : Nat) (o : Option ByteArray) : Prop := ∃ s, o = some s ∧ s.data.size ≤ m ∧ 0 < s.data.size
theorem fine_some {m : Nat} {s : ByteArray} (h : s.data.size ≤ m) (h0 : 0 < s.data.size) : Fine m (some s) := ⟨s, rfl, h, h0⟩
theorem fine_ite {m : Nat} {c : Prop} [Decidable c] {a b : Option ByteArray} (h1 : Fine m a) (h2 : Fine m b) : Fine m (if c then a else b) := by
  by_cases h : c
  · rw [if_pos h]; exact h1
  · rw [if_neg h]; exact h2
theorem fine_guard {m : Nat} {c : Prop} [Decidable c] {a : Option ByteArray} (h : c) (h1 : Fine m a) : Fine m (if c then a else none) := by rw [if_pos h]; exact h1
theorem fine_bind {m n : Nat} {o : Option ByteArray} {f : ByteArray → Option ByteArray} (h : ∃ s, o = some s ∧ s.data.size ≤ n) (h1 : ∀ s, s.data.size ≤ n → Fine m (f s)) : Fine m (o.bind f) := by
  obtain ⟨s, rfl, hs⟩ := h
  exact h1 s hs
theorem app_sz (a b : ByteArray) : (a ++ b).data.size = a.data.size + b.data.size := by
  have := ByteArray.size_append (a := a) (b := b); exact this
theorem asText_ok (a b : ByteArray) (ha : a.data.size ≤ 1048576) (hb : b.data.size ≤ 1048576) : ∃ s, impl_asText.f a b = some s ∧ s.data.size ≤ 2100000 := by
  unfold impl_asText.f
  by_cases h : a.toList = b.toList
  · rw [if_pos h]; exact ⟨a, rfl, by omega⟩
  · rw [if_neg h, if_pos (by show a.data.size + 4 ≤ _; omega), if_pos (by show (a ++ _).data.size + b.data.size ≤ _; rw [app_sz]; show a.data.size + 4 + _ ≤ _; omega)]
    exact ⟨_, rfl, by rw [app_sz, app_sz]; show a.data.size + 4 + _ ≤ _; omega⟩
theorem impText_ok (a b c : ByteArray) (ha : a.data.size ≤ 1048576) (hb : b.data.size ≤ 1048576) (hc : c.data.size ≤ 1048576) : Fine 4000000 (impl_impText.f a b c) := by
  unfold impl_impText.f
  repeat' first
    | (refine fine_guard (by simp only [ByteArray.size, app_sz, List.size_toArray, List.length_cons, List.length_nil]; omega) ?_)
    | (refine fine_bind (asText_ok _ _ (by assumption) (by assumption)) (fun s hs => ?_))
    | (refine fine_some (by simp only [app_sz, List.size_toArray, List.length_cons, List.length_nil]; omega) (by simp only [app_sz, List.size_toArray, List.length_cons, List.length_nil]; omega))
    | refine fine_ite ?_ ?_
theorem expText_ok (k : Int) (a b c : ByteArray) (ha : a.data.size ≤ 1048576) (hb : b.data.size ≤ 1048576) (hc : c.data.size ≤ 1048576) : Fine 4000000 (impl_expText.f k a b c) := by
  unfold impl_expText.f
  repeat' first
    | (refine fine_guard (by simp only [ByteArray.size, app_sz, List.size_toArray, List.length_cons, List.length_nil]; omega) ?_)
    | (refine fine_bind (asText_ok _ _ (by assumption) (by assumption)) (fun s hs => ?_))
    | (refine fine_some (by simp only [app_sz, List.size_toArray, List.length_cons, List.length_nil]; omega) (by simp only [app_sz, List.size_toArray, List.length_cons, List.length_nil]; omega))
    | refine fine_ite ?_ ?_
theorem cat_ok (a b : ByteArray) (h : a.data.size + b.data.size ≤ 9223372036854775807) : impl_exprText.cat a b = some (a ++ b) := by
  unfold impl_exprText.cat
  exact if_pos h
theorem br_ok (m : Bool) (s : ByteArray) (h : s.data.size ≤ 4611686018427387904) : ∃ t, impl_exprText.br m s = some t ∧ t.data.size ≤ s.data.size + 2 := by
  cases m with
  | false => exact ⟨s, rfl, by omega⟩
  | true =>
    unfold impl_exprText.br
    rw [if_pos rfl, cat_ok _ _ (by show 1 + s.data.size ≤ _; omega), Option.bind_some, cat_ok _ _ (by rw [app_sz]; show 1 + s.data.size + 1 ≤ _; omega)]
    exact ⟨_, rfl, by rw [app_sz, app_sz]; show 1 + s.data.size + 1 ≤ _; omega⟩
theorem two_ok {f : Nat → Int → Option ByteArray} {a b : Int} {x y : ByteArray} (m n : Bool) (t : ByteArray) (ht : t.data.size = 3) (ea : Ev (fun k => f k a) x) (eb : Ev (fun k => f k b) y) (hx : x.data.size ≤ 1000000000000000000) (hy : y.data.size ≤ 1000000000000000000) :
    ∃ s, Ev (fun k => impl_exprText.two (f k) a b m n t) s ∧ s.data.size ≤ x.data.size + y.data.size + 7 := by
  obtain ⟨x', e1, l1⟩ := br_ok m x (by omega)
  obtain ⟨y', e2, l2⟩ := br_ok n y (by omega)
  refine ⟨x' ++ t ++ y', ?_, by rw [app_sz, app_sz]; omega⟩
  unfold impl_exprText.two
  refine Ev_call ea ?_
  simp only [e1, Option.bind_some, cat_ok x' t (by omega)]
  refine Ev_call eb ?_
  simp only [e2, Option.bind_some]
  rw [cat_ok _ _ (by rw [app_sz]; omega)]
  exact Ev.now _
theorem dec_ok (n : Int) (h0 : -9223372036854775808 ≤ n) (h1 : n ≤ 9223372036854775807) : ∃ s, impl_Dec.f n = some s ∧ s.data.size ≤ 21 := by
  unfold impl_Dec.f strconv_Itoa.f
  rw [if_pos ⟨h0, h1⟩]
  exact ⟨_, rfl, by show (Lib.itoa n).toArray.size ≤ 21; rw [List.size_toArray]; exact Lib.itoa_length_le n h0 h1⟩
def Sz (E : List SE) : Prop := ∀ i : Nat, i < E.length → (rE E (i : Int)).f2.data.size ≤ 1048576 ∧ (rE E (i : Int)).f3.data.size ≤ 1048576 ∧ -9223372036854775808 ≤ (rE E (i : Int)).f1 ∧ (rE E (i : Int)).f1 ≤ 9223372036854775807
theorem expr_ok (A : List ByteArray) (B : List S78) (C : List S80) (D : List SS) {E : List SE} (hL : Low E) (hS : Sz E) (d : Nat) : ∀ i : Nat, i < d → i < E.length → W E i ≤ 100000000000000000 → ∃ s, Ev (fun k => impl_exprText.f k A B C D E (i : Int)) s ∧ (s.data.size : Int) ≤ W E i := by
  induction d with
  | zero => intro i h; omega
  | succ d ih =>
    intro i hd hi hW
    have hWo := W_op hL i hi
    have hco : (co (rE E (i : Int)) : Int) = (rE E (i : Int)).f2.data.size + (rE E (i : Int)).f3.data.size + 40 := by unfold co; push_cast; rfl
    obtain ⟨z2, z3, z0, z1⟩ := hS i hi
    have ok : impl_exprText.ok E (i : Int) := ⟨by omega, by omega⟩
    have lift : ∀ s, Ev (fun k => impl_exprText.g (fun j => impl_exprText.f k A B C D E j) E (rE E (i : Int))) s → Ev (fun k => impl_exprText.f k A B C D E (i : Int)) s := fun s e => by
      refine Ev_succ ?_
      simp only [impl_exprText.f, if_pos ok]
      exact e
    by_cases c : isOp (rE E (i : Int))
    case neg =>
      rw [if_neg c] at hWo
      have nc : ¬ (6 ≤ (rE E (i : Int)).f0 ∧ (rE E (i : Int)).f0 ≤ 8) := c
      obtain ⟨s, e, l⟩ : ∃ s, (∀ k, impl_exprText.g (fun j => impl_exprText.f k A B C D E j) E (rE E (i : Int)) = some s) ∧ (s.data.size : Int) ≤ W E i := by
        unfold impl_exprText.g
        by_cases k1 : (rE E (i : Int)).f0 = 1
        · obtain ⟨s, e, l⟩ := dec_ok _ z0 z1
          exact ⟨s, fun k => by rw [if_pos k1]; exact e, by omega⟩
        by_cases k2 : (rE E (i : Int)).f0 = 2
        · exact ⟨_, fun k => by rw [if_neg k1, if_pos k2], by omega⟩
        by_cases k3 : (rE E (i : Int)).f0 = 3
        · exact ⟨_, fun k => by rw [if_neg k1, if_neg k2, if_pos k3]; exact cat_ok _ _ (by show _ + 2 ≤ _; omega), by rw [app_sz]; show ((_ + 2 : Nat) : Int) ≤ _; omega⟩
        by_cases k4 : (rE E (i : Int)).f0 = 4
        · refine ⟨_, fun k => by rw [if_neg k1, if_neg k2, if_neg k3, if_pos k4, cat_ok _ _ (by show _ + 1 ≤ _; omega), Option.bind_some, cat_ok _ _ (by rw [app_sz]; show _ + 1 + _ ≤ _; omega)], ?_⟩
          rw [app_sz, app_sz]; show ((_ + 1 + _ : Nat) : Int) ≤ _; omega
        by_cases k5 : (rE E (i : Int)).f0 = 5
        · refine ⟨_, fun k => by rw [if_neg k1, if_neg k2, if_neg k3, if_neg k4, if_pos k5, cat_ok _ _ (by show _ + 1 ≤ _; omega), Option.bind_some, cat_ok _ _ (by rw [app_sz]; show _ + 1 + _ ≤ _; omega), Option.bind_some, cat_ok _ _ (by rw [app_sz, app_sz]; show _ + 1 + _ + 2 ≤ _; omega)], ?_⟩
          rw [app_sz, app_sz, app_sz]; show ((_ + 1 + _ + 2 : Nat) : Int) ≤ _; omega
        · exact ⟨_, fun k => by rw [if_neg k1, if_neg k2, if_neg k3, if_neg k4, if_neg k5, if_neg (by omega), if_neg (by omega), if_neg (by omega)], by show ((0 : Nat) : Int) ≤ _; omega⟩
      exact ⟨s, lift s (by simp only [e]; exact Ev.now _), l⟩
    rw [if_pos c] at hWo
    obtain ⟨⟨a0, a1⟩, b0, b1⟩ := hL i hi c
    have w4 := W_pos E (rE E (i : Int)).f4
    have w5 := W_pos E (rE E (i : Int)).f5
    obtain ⟨x, ex, lx⟩ := ih (rE E (i : Int)).f4.toNat (by omega) (by omega) (by rw [Int.toNat_of_nonneg a0]; omega)
    obtain ⟨y, ey, ly⟩ := ih (rE E (i : Int)).f5.toNat (by omega) (by omega) (by rw [Int.toNat_of_nonneg b0]; omega)
    rw [Int.toNat_of_nonneg a0] at ex lx
    rw [Int.toNat_of_nonneg b0] at ey ly
    have o4 : impl_exprText.ok E (rE E (i : Int)).f4 := ⟨a0, by omega⟩
    have o5 : impl_exprText.ok E (rE E (i : Int)).f5 := ⟨b0, by omega⟩
    have oc : 6 ≤ (rE E (i : Int)).f0 ∧ (rE E (i : Int)).f0 ≤ 8 := c
    have key : ∀ (m n : Bool) (t : ByteArray), t.data.size = 3 → ∃ s, Ev (fun k => impl_exprText.two (fun j => impl_exprText.f k A B C D E j) (rE E (i : Int)).f4 (rE E (i : Int)).f5 m n t) s ∧ (s.data.size : Int) ≤ W E i := fun m n t ht => by
      obtain ⟨s, e, l⟩ := two_ok (f := fun k j => impl_exprText.f k A B C D E j) m n t ht ex ey (by omega) (by omega)
      exact ⟨s, e, by omega⟩
    by_cases k6 : (rE E (i : Int)).f0 = 6
    · obtain ⟨s, e, l⟩ := key false (impl_exprText.sum (rE E (rE E (i : Int)).f5)) (⟨#[32, 43, 32]⟩ : ByteArray) rfl
      refine ⟨s, lift s ?_, l⟩
      simp only [impl_exprText.g, if_pos k6, if_pos o5, if_neg (show ¬ (rE E (i : Int)).f0 = 1 by omega), if_neg (show ¬ (rE E (i : Int)).f0 = 2 by omega), if_neg (show ¬ (rE E (i : Int)).f0 = 3 by omega), if_neg (show ¬ (rE E (i : Int)).f0 = 4 by omega), if_neg (show ¬ (rE E (i : Int)).f0 = 5 by omega)]
      exact e
    by_cases k7 : (rE E (i : Int)).f0 = 7
    · obtain ⟨s, e, l⟩ := key false (impl_exprText.sum (rE E (rE E (i : Int)).f5)) (⟨#[32, 45, 32]⟩ : ByteArray) rfl
      refine ⟨s, lift s ?_, l⟩
      simp only [impl_exprText.g, if_neg k6, if_pos k7, if_pos o5, if_neg (show ¬ (rE E (i : Int)).f0 = 1 by omega), if_neg (show ¬ (rE E (i : Int)).f0 = 2 by omega), if_neg (show ¬ (rE E (i : Int)).f0 = 3 by omega), if_neg (show ¬ (rE E (i : Int)).f0 = 4 by omega), if_neg (show ¬ (rE E (i : Int)).f0 = 5 by omega)]
      exact e
    · have k8 : (rE E (i : Int)).f0 = 8 := by omega
      obtain ⟨s, e, l⟩ := key (impl_exprText.sum (rE E (rE E (i : Int)).f4)) (impl_exprText.op (rE E (rE E (i : Int)).f5)) (⟨#[32, 42, 32]⟩ : ByteArray) rfl
      refine ⟨s, lift s ?_, l⟩
      have o45 : impl_exprText.ok E (rE E (i : Int)).f4 ∧ impl_exprText.ok E (rE E (i : Int)).f5 := ⟨o4, o5⟩
      simp only [impl_exprText.g, if_neg k6, if_neg k7, if_pos k8, if_pos o45, if_neg (show ¬ (rE E (i : Int)).f0 = 1 by omega), if_neg (show ¬ (rE E (i : Int)).f0 = 2 by omega), if_neg (show ¬ (rE E (i : Int)).f0 = 3 by omega), if_neg (show ¬ (rE E (i : Int)).f0 = 4 by omega), if_neg (show ¬ (rE E (i : Int)).f0 = 5 by omega)]
      exact e
theorem behind_ok (a b : ByteArray) (h : a.data.size ≤ 100) (hb : b.data.size ≤ 2250000000000) : ∃ s, impl_behind.f a b = some s ∧ s.data.size ≤ 2250000000101 := by
  unfold impl_behind.f
  rw [if_pos (by show a.data.size + 1 ≤ _; omega), if_pos (by show (a ++ _).data.size + b.data.size ≤ _; rw [app_sz]; show a.data.size + 1 + _ ≤ _; omega)]
  exact ⟨_, rfl, by rw [app_sz, app_sz]; show a.data.size + 1 + _ ≤ _; omega⟩
theorem stmt_j (t : ByteArray) (ht : t.data.size ≤ 2250000000000) (x : Bool) (n : Int) (m : ByteArray) (hm : m.data.size ≤ 1048576) (e : Int) : ∃ s, Ev (fun k => impl_stmtText.j0 k t x n m e) s ∧ s.data.size ≤ 2260000000000 ∧ 0 < s.data.size := by
  have h : ∃ o, (∀ k, impl_stmtText.j0 (k + 1) t x n m e = o) ∧ Fine 2260000000000 o := by
    refine ⟨_, fun k => by rw [impl_stmtText.j0], ?_⟩
    repeat' first
      | (refine fine_guard (by simp only [ByteArray.size, app_sz, List.size_toArray, List.length_cons, List.length_nil]; omega) ?_)
      | (refine fine_bind (behind_ok _ _ (by decide) (by assumption)) (fun s hs => ?_))
      | (refine fine_some (by simp only [app_sz, List.size_toArray, List.length_cons, List.length_nil]; omega) (by simp only [app_sz, List.size_toArray, List.length_cons, List.length_nil]; omega))
      | refine fine_ite ?_ ?_
  obtain ⟨o, h1, s, rfl, h2, h3⟩ := h
  refine ⟨s, Ev_succ ?_, h2, h3⟩
  simp only [h1]; exact Ev.now _
theorem stmt_ok (A : List ByteArray) (B : List S78) (C : List S80) (D : List SS) {E : List SE} (hL : Low E) (hS : Sz E) (n : Int) (m : ByteArray) (hm : m.data.size ≤ 1048576) (e : Int) (e0 : 0 ≤ e) (e1 : e < E.length) (hW : W E e ≤ 2250000000000) :
    ∃ s, Ev (fun k => impl_stmtText.f k A B C D E n m e) s ∧ s.data.size ≤ 2260000000000 ∧ 0 < s.data.size := by
  obtain ⟨q, rfl⟩ : ∃ q : Nat, e = q := ⟨e.toNat, by omega⟩
  obtain ⟨t, ex, lt⟩ := expr_ok A B C D hL hS (q + 1) q (by omega) (by omega) (by omega)
  by_cases c : n = 1
  · obtain ⟨s, es, l⟩ := stmt_j t (by omega) (m.toList == ([42, 100, 101, 102, 97, 117, 108, 116] : List UInt8)) n m hm q
    refine ⟨s, ?_, l⟩
    unfold impl_stmtText.f
    refine Ev_call ex ?_
    simp only [if_pos c]
    exact es
  · obtain ⟨s, es, l⟩ := stmt_j t (by omega) false n m hm q
    refine ⟨s, ?_, l⟩
    unfold impl_stmtText.f
    refine Ev_call ex ?_
    simp only [if_neg c]
    exact es
section
variable (A : List ByteArray) (B : List S78) (C : List S80) (D : List SS) (E : List SE)
theorem print_l3 {E : List SE} (hL : Low E) (hS : Sz E) (hD : D.length ≤ 1048576) (hs : ∀ s ∈ D, s.f1.data.size ≤ 1048576 ∧ 0 ≤ s.f2 ∧ s.f2 < E.length ∧ W E s.f2 ≤ 2250000000000) (d : Nat) : ∀ (i : Nat) (o : ByteArray), i + d = D.length → o.data.size ≤ 13000000000000 + 2260000000000 * i → ∃ s, Ev (fun k => impl_Print.l3 k o D (D.length : Int) i A B C D E) s ∧ o.data.size ≤ s.data.size ∧ (0 < d → 0 < s.data.size) := by
  induction d with
  | zero =>
    intro i o hi ho
    refine ⟨o, Ev_succ ?_, Nat.le_refl _, fun h => by omega⟩
    simp (disch := omega) only [impl_Print.l3, if_neg]; exact Ev.now _
  | succ d ih =>
    intro i o hi ho
    have c0 : (i : Int) < (D.length : Int) := by omega
    have c1 : 0 ≤ (i : Int) := by omega
    have hn : wrap64 ((i : Int) + 1) = ((i + 1 : Nat) : Int) := by rw [w64 (by omega) (by omega)]; omega
    have hm : rS D (i : Int) ∈ D := by rw [rS_at D i (by omega)]; exact List.getElem_mem _
    obtain ⟨h1, h2, h3, h4⟩ := hs _ hm
    obtain ⟨t, et, l1, l2⟩ := stmt_ok A B C D hL hS (rS D (i : Int)).f0 (rS D (i : Int)).f1 h1 (rS D (i : Int)).f2 h2 h3 h4
    obtain ⟨s, es, m1, m2⟩ := ih (i + 1) (o ++ t) (by omega) (by rw [app_sz]; omega)
    rw [app_sz] at m1
    refine ⟨s, Ev_succ ?_, by omega, fun _ => by omega⟩
    simp only [impl_Print.l3, if_pos c0, if_pos c1, hn]
    refine Ev_call et ?_
    have cs : o.size + t.size ≤ 9223372036854775807 := by show o.data.size + t.data.size ≤ _; omega
    simp only [if_pos cs]
    exact es
theorem print_l2 {E : List SE} (hL : Low E) (hS : Sz E) (hD : D.length ≤ 1048576) (hs : ∀ s ∈ D, s.f1.data.size ≤ 1048576 ∧ 0 ≤ s.f2 ∧ s.f2 < E.length ∧ W E s.f2 ≤ 2250000000000) (hC : C.length ≤ 1048576) (hc : ∀ x ∈ C, x.f1.data.size ≤ 1048576 ∧ x.f2.data.size ≤ 1048576 ∧ x.f3.data.size ≤ 1048576) (d : Nat) : ∀ (i : Nat) (o : ByteArray), i + d = C.length → o.data.size ≤ 8600000000000 + 4000000 * i → ∃ s, Ev (fun k => impl_Print.l2 k o C (C.length : Int) i A B C D E) s ∧ (0 < D.length → 0 < s.data.size) := by
  induction d with
  | zero =>
    intro i o hi ho
    obtain ⟨s, es, _, m2⟩ := print_l3 A B C D hL hS hD hs D.length 0 o (by omega) (by omega)
    refine ⟨s, Ev_succ ?_, m2⟩
    simp (disch := omega) only [impl_Print.l2, if_neg]; exact es
  | succ d ih =>
    intro i o hi ho
    have c0 : (i : Int) < (C.length : Int) := by omega
    have c1 : 0 ≤ (i : Int) := by omega
    have hn : wrap64 ((i : Int) + 1) = ((i + 1 : Nat) : Int) := by rw [w64 (by omega) (by omega)]; omega
    have hm : rd_T80 C (i : Int) ∈ C := by
      have : rd_T80 C (i : Int) = C[i] := by show C.getD _ _ = _; exact getD_at C _ i (by omega)
      rw [this]; exact List.getElem_mem _
    obtain ⟨h1, h2, h3⟩ := hc _ hm
    by_cases c : (rd_T80 C (i : Int)).f2.toList = ([42, 100, 101, 102, 97, 117, 108, 116] : List UInt8)
    · obtain ⟨s, es, m⟩ := ih (i + 1) o (by omega) (by omega)
      refine ⟨s, Ev_succ ?_, m⟩
      simp only [impl_Print.l2, if_pos c0, if_pos c1, hn, if_pos c]
      exact es
    · obtain ⟨t, et, l1, l2⟩ := expText_ok (rd_T80 C (i : Int)).f0 _ _ _ h1 h2 h3
      obtain ⟨s, es, m⟩ := ih (i + 1) (o ++ t) (by omega) (by rw [app_sz]; omega)
      refine ⟨s, Ev_succ ?_, m⟩
      have cs : o.size + t.size ≤ 9223372036854775807 := by show o.data.size + t.data.size ≤ _; omega
      simp only [impl_Print.l2, if_pos c0, if_pos c1, hn, if_neg c, et, Option.bind_some, if_pos cs]
      exact es
theorem print_l1 {E : List SE} (hL : Low E) (hS : Sz E) (hD : D.length ≤ 1048576) (hs : ∀ s ∈ D, s.f1.data.size ≤ 1048576 ∧ 0 ≤ s.f2 ∧ s.f2 < E.length ∧ W E s.f2 ≤ 2250000000000) (hC : C.length ≤ 1048576) (hc : ∀ x ∈ C, x.f1.data.size ≤ 1048576 ∧ x.f2.data.size ≤ 1048576 ∧ x.f3.data.size ≤ 1048576)
    (hB : B.length ≤ 1048576) (hb : ∀ x ∈ B, x.f0.data.size ≤ 1048576 ∧ x.f1.data.size ≤ 1048576 ∧ x.f2.data.size ≤ 1048576) (d : Nat) : ∀ (i : Nat) (o : ByteArray), i + d = B.length → o.data.size ≤ 4300000000000 + 4000000 * i → ∃ s, Ev (fun k => impl_Print.l1 k o B (B.length : Int) i A B C D E) s ∧ (0 < D.length → 0 < s.data.size) := by
  induction d with
  | zero =>
    intro i o hi ho
    obtain ⟨s, es, m⟩ := print_l2 A B C D hL hS hD hs hC hc C.length 0 o (by omega) (by omega)
    refine ⟨s, Ev_succ ?_, m⟩
    simp (disch := omega) only [impl_Print.l1, if_neg]; exact es
  | succ d ih =>
    intro i o hi ho
    have c0 : (i : Int) < (B.length : Int) := by omega
    have c1 : 0 ≤ (i : Int) := by omega
    have hn : wrap64 ((i : Int) + 1) = ((i + 1 : Nat) : Int) := by rw [w64 (by omega) (by omega)]; omega
    have hm : rd_T78 B (i : Int) ∈ B := by
      have : rd_T78 B (i : Int) = B[i] := by show B.getD _ _ = _; exact getD_at B _ i (by omega)
      rw [this]; exact List.getElem_mem _
    obtain ⟨h1, h2, h3⟩ := hb _ hm
    obtain ⟨t, et, l1, l2⟩ := impText_ok _ _ _ h1 h2 h3
    obtain ⟨s, es, m⟩ := ih (i + 1) (o ++ t) (by omega) (by rw [app_sz]; omega)
    refine ⟨s, Ev_succ ?_, m⟩
    have cs : o.size + t.size ≤ 9223372036854775807 := by show o.data.size + t.data.size ≤ _; omega
    simp only [impl_Print.l1, if_pos c0, if_pos c1, hn, et, Option.bind_some, if_pos cs]
    exact es
theorem print_l0 {E : List SE} (hL : Low E) (hS : Sz E) (hD : D.length ≤ 1048576) (hs : ∀ s ∈ D, s.f1.data.size ≤ 1048576 ∧ 0 ≤ s.f2 ∧ s.f2 < E.length ∧ W E s.f2 ≤ 2250000000000) (hC : C.length ≤ 1048576) (hc : ∀ x ∈ C, x.f1.data.size ≤ 1048576 ∧ x.f2.data.size ≤ 1048576 ∧ x.f3.data.size ≤ 1048576)
    (hB : B.length ≤ 1048576) (hb : ∀ x ∈ B, x.f0.data.size ≤ 1048576 ∧ x.f1.data.size ≤ 1048576 ∧ x.f2.data.size ≤ 1048576) (hA : A.length ≤ 1048576) (ha : ∀ x ∈ A, x.data.size ≤ 1048576) (d : Nat) : ∀ (i : Nat) (o : ByteArray), i + d = A.length → o.data.size ≤ 4000000 * i → ∃ s, Ev (fun k => impl_Print.l0 k o A (A.length : Int) i A B C D E) s ∧ (0 < D.length → 0 < s.data.size) := by
  induction d with
  | zero =>
    intro i o hi ho
    obtain ⟨s, es, m⟩ := print_l1 A B C D hL hS hD hs hC hc hB hb B.length 0 o (by omega) (by omega)
    refine ⟨s, Ev_succ ?_, m⟩
    simp (disch := omega) only [impl_Print.l0, if_neg]; exact es
  | succ d ih =>
    intro i o hi ho
    have c0 : (i : Int) < (A.length : Int) := by omega
    have c1 : 0 ≤ (i : Int) := by omega
    have hn : wrap64 ((i : Int) + 1) = ((i + 1 : Nat) : Int) := by rw [w64 (by omega) (by omega)]; omega
    have hm : rdOf ByteArray.empty A (i : Int) ∈ A := by
      have : rdOf ByteArray.empty A (i : Int) = A[i] := by show A.getD _ _ = _; exact getD_at A _ i (by omega)
      rw [this]; exact List.getElem_mem _
    have h1 := ha _ hm
    have z : (((⟨#[105, 109, 112, 111, 114, 116, 32, 34]⟩ : ByteArray) ++ rdOf ByteArray.empty A (i : Int)) ++ (⟨#[34, 59, 10]⟩ : ByteArray)).data.size = 8 + (rdOf ByteArray.empty A (i : Int)).data.size + 3 := by rw [app_sz, app_sz]; rfl
    obtain ⟨s, es, m⟩ := ih (i + 1) (o ++ (((⟨#[105, 109, 112, 111, 114, 116, 32, 34]⟩ : ByteArray) ++ rdOf ByteArray.empty A (i : Int)) ++ (⟨#[34, 59, 10]⟩ : ByteArray))) (by omega) (by rw [app_sz, z]; omega)
    refine ⟨s, Ev_succ ?_, m⟩
    have g1 : 8 + (rdOf ByteArray.empty A (i : Int)).size ≤ 9223372036854775807 := by show 8 + (rdOf ByteArray.empty A (i : Int)).data.size ≤ _; omega
    have g2 : ((⟨#[105, 109, 112, 111, 114, 116, 32, 34]⟩ : ByteArray) ++ rdOf ByteArray.empty A (i : Int)).size + 3 ≤ 9223372036854775807 := by show ((⟨#[105, 109, 112, 111, 114, 116, 32, 34]⟩ : ByteArray) ++ _).data.size + 3 ≤ _; rw [app_sz]; show 8 + _ + 3 ≤ _; omega
    have g3 : o.size + (((⟨#[105, 109, 112, 111, 114, 116, 32, 34]⟩ : ByteArray) ++ rdOf ByteArray.empty A (i : Int)) ++ (⟨#[34, 59, 10]⟩ : ByteArray)).size ≤ 9223372036854775807 := by
      show o.data.size + (((⟨#[105, 109, 112, 111, 114, 116, 32, 34]⟩ : ByteArray) ++ rdOf ByteArray.empty A (i : Int)) ++ (⟨#[34, 59, 10]⟩ : ByteArray)).data.size ≤ _
      rw [z]; omega
    simp only [impl_Print.l0, if_pos c0, if_pos c1, hn, if_pos g1, if_pos g2, if_pos g3]
    exact es
end
/-- What both answer. -/
def ans (D : List SS) (E : List SE) (a : Int) : Int × Bool := if impl_printable.b D E = true ∧ 0 ≤ a ∧ a < E.length then K E a else (0, false)
theorem K_false {E : List SE} (i : Int) (h : (K E i).2 = false) : K E i = (0, false) := by
  unfold K at *
  rw [kv] at *
  repeat' first
    | rfl
    | (split at h)
  all_goals first | (simp_all; done) | skip
theorem spec_j (A : List ByteArray) (B : List S78) (C : List S80) (D : List SS) (E : List SE) (a : Int) : Ev (fun k => spec_Known.j0 k a true A B C D E) (0, false) := by
  refine Ev_succ ?_
  simp only [spec_Known.j0, if_true]; exact Ev.now _
theorem known_spec (A : List ByteArray) (B : List S78) (C : List S80) (D : List SS) (E : List SE) (a : Int) (hD : D.length ≤ 1048576) (hE : E.length ≤ 1048576) : Ev (fun k => spec_Known.f k A B C D E a) (ans D E a) := by
  unfold spec_Known.f ans
  refine Ev_call (tree_spec A B C D E hD hE) ?_
  cases hb : impl_printable.b D E with
  | false =>
    rw [if_neg (fun h => by cases h.1)]
    simp only [Bool.false_eq_true, if_false]
    exact spec_j A B C D E a
  | true =>
  simp only [if_true]
  by_cases c0 : a < 0
  · rw [if_neg (fun h => by omega)]
    simp only [if_pos c0]
    exact spec_j A B C D E a
  simp only [if_neg c0]
  by_cases c1 : a ≥ (E.length : Int)
  · rw [if_neg (fun h => by omega)]
    simp only [decide_eq_true c1]
    exact spec_j A B C D E a
  rw [if_pos ⟨trivial, by omega, by omega⟩]
  have hL := tree_low hb
  obtain ⟨q, rfl⟩ : ∃ q : Nat, a = q := ⟨a.toNat, by omega⟩
  have r0 : ∀ j : Nat, j < E.length → rdOf false (List.replicate E.length false) (j : Int) = false := fun j hj => by
    rw [rb_at _ _ (by rw [List.length_replicate]; exact hj), List.getElem_replicate]
  obtain ⟨n, b, hg, h1, h2, h3, _⟩ := l17_go hL E.length 0 (List.replicate E.length 0) (List.replicate E.length false) (by omega) ⟨List.length_replicate, List.length_replicate, fun j hj => by omega, fun j _ hj => r0 j hj⟩
  rw [List.drop_zero] at hg
  have hf : spec_l17Known.f A B C D E = some (n, b) := by
    unfold spec_l17Known.f
    rw [if_pos (by omega)]; exact hg
  obtain ⟨k1, k2⟩ := h3 q (by omega)
  refine Ev_succ ?_
  have d0 : 0 ≤ (q : Int) := by omega
  have d1 : (q : Int) < (b.length : Int) := by omega
  have d2 : (q : Int) < (n.length : Int) := by omega
  simp only [spec_Known.j0, decide_eq_false c1, Bool.false_eq_true, if_false, hf, Option.bind_some, if_pos d0, if_pos d1, if_pos d2, k1]
  cases hk : (K E (q : Int)).2 with
  | false => simp only [Bool.false_eq_true, if_false]; rw [K_false _ hk]; exact Ev.now _
  | true =>
    simp only [if_true]
    rw [k2 hk]
    have : K E (q : Int) = ((K E (q : Int)).1, true) := by rw [← hk]
    rw [this]; exact Ev.now _
theorem nil_of (s : ByteArray) (h : s.toList = []) : s.data.size = 0 := by
  have := congrArg List.length h
  rw [toList_data s] at this
  simpa using this
theorem known_prog (A : List ByteArray) (B : List S78) (C : List S80) (D : List SS) (E : List SE) (a : Int) (hD : D.length ≤ 1048576) (hE : E.length ≤ 1048576) (hS : Sz E) (hd : ∀ s ∈ D, s.f1.data.size ≤ 1048576) (hC : C.length ≤ 1048576) (hc : ∀ x ∈ C, x.f1.data.size ≤ 1048576 ∧ x.f2.data.size ≤ 1048576 ∧ x.f3.data.size ≤ 1048576)
    (hB : B.length ≤ 1048576) (hb : ∀ x ∈ B, x.f0.data.size ≤ 1048576 ∧ x.f1.data.size ≤ 1048576 ∧ x.f2.data.size ≤ 1048576) (hA : A.length ≤ 1048576) (ha : ∀ x ∈ A, x.data.size ≤ 1048576) : Ev (fun k => impl_Known.f k A B C D E a) (ans D E a) := by
  have hp : impl_printable.f A B C D E = some (impl_printable.b D E) := by
    unfold impl_printable.f
    rw [if_pos ⟨by omega, by omega⟩]
  unfold impl_Known.f ans
  cases htb : impl_printable.b D E with
  | false =>
    rw [if_neg (fun h => by cases h.1)]
    have e : Ev (fun k => impl_Print.f k A B C D E true) (⟨#[]⟩ : ByteArray) := by
      unfold impl_Print.f
      rw [hp, htb]
      simp only [Option.bind_some, Bool.false_eq_true, if_false]; exact Ev.now _
    refine Ev_call e ?_
    have te : (⟨#[]⟩ : ByteArray).toList = [] := toList_data _
    simp only [if_pos te]
    exact Ev.now _
  | true =>
  have hL := tree_low htb
  obtain ⟨hs, hsum⟩ := tree_sum hD hE htb
  have hco : ∀ j : Nat, j < E.length → (co (rE E (j : Int)) : Int) ≤ 2100000 := fun j hj => by
    obtain ⟨z2, z3, _⟩ := hS j hj
    have h2 : (rE E (j : Int)).f2.size ≤ 1048576 := z2
    have h3 : (rE E (j : Int)).f3.size ≤ 1048576 := z3
    unfold co; omega
  have hle := S0_le (f := fun j => (co (rE E (j : Int)) : Int)) 2100000 E.length hco
  have hW : ∀ s ∈ D, W E s.f2 ≤ 2250000000000 := fun s hm => by have := SD_mem (E := E) hm; omega
  obtain ⟨s, es, hpos⟩ := print_l0 A B C D hL hS hD (fun s hm => ⟨hd s hm, (hs s hm).1, (hs s hm).2, hW s hm⟩) hC hc hB hb hA ha A.length 0 (⟨#[]⟩ : ByteArray) (by omega) (by show 0 ≤ _; omega)
  have e : Ev (fun k => impl_Print.f k A B C D E true) s := by
    unfold impl_Print.f
    rw [hp, htb]
    simp only [Option.bind_some, if_true]; exact es
  refine Ev_call e ?_
  have hone : 0 ≤ a ∧ a < (E.length : Int) → 0 < s.data.size := fun h => by
    refine hpos ?_
    have h1 := S0_pos (f := fun j => (co (rE E (j : Int)) : Int)) E.length (by omega) (fun j _ => by unfold co; omega)
    cases D with
    | nil => rw [show SD E [] = 0 from rfl] at hsum; omega
    | cons x r => simp
  by_cases c : s.toList = []
  · have := nil_of s c
    rw [if_neg (fun h => by have := hone h.2; omega)]
    simp only [if_pos c]
    exact Ev.now _
  simp only [if_neg c]
  have hw : wrap64 ((E.length : Int) - 1) = (E.length : Int) - 1 := w64 (by omega) (by omega)
  simp only [hw, in_f, Option.bind_some]
  by_cases c2 : 0 ≤ a ∧ a < (E.length : Int)
  · rw [if_pos ⟨trivial, c2⟩]
    simp only [decide_eq_true (show 0 ≤ a ∧ a ≤ (E.length : Int) - 1 by omega), if_true]
    obtain ⟨q, rfl⟩ : ∃ q : Nat, a = q := ⟨a.toNat, by omega⟩
    refine Ev_call (known_impl A B C D hL (q + 1) q (by omega) (by omega)) ?_
    exact Ev.now _
  · rw [if_neg (fun h => c2 h.2)]
    simp only [decide_eq_false (show ¬ (0 ≤ a ∧ a ≤ (E.length : Int) - 1) by omega), Bool.false_eq_true, if_false]; exact Ev.now _
theorem Known_good (l0 : List ByteArray) (l1 : List S65) (l2 : List S68) (l3 : List S71) (l4 : List S74) (a : Int)
    (h0 : l0.length ≤ 1048576) (h1 : l1.length ≤ 1048576) (h2 : l2.length ≤ 1048576) (h3 : l3.length ≤ 1048576) (h4 : l4.length ≤ 1048576)
    (g0 : ∀ x ∈ l0, x.size ≤ 1048576) (g1 : ∀ x ∈ l1, x.f0.size ≤ 1048576 ∧ x.f1.size ≤ 1048576 ∧ x.f2.size ≤ 1048576) (g2 : ∀ x ∈ l2, x.f1.size ≤ 1048576 ∧ x.f2.size ≤ 1048576 ∧ x.f3.size ≤ 1048576)
    (g3 : ∀ x ∈ l3, x.f1.size ≤ 1048576) (g4 : ∀ x ∈ l4, x.f2.size ≤ 1048576 ∧ x.f3.size ≤ 1048576 ∧ -9223372036854775808 ≤ x.f1 ∧ x.f1 ≤ 9223372036854775807) (t : Int) (ht : ¬ t < 0)
    (e : Ev (fun k => laws_szMod.f k l0 l1 l2 l3 l4 1048576) t) : Ev (fun k => laws_FnExactKnown.f k l0 l1 l2 l3 l4 a) true := by
  have m1 : (l1.map cvImp).length ≤ 1048576 := by rw [List.length_map]; exact h1
  have m2 : (l2.map cvExp).length ≤ 1048576 := by rw [List.length_map]; exact h2
  have m3 : (l3.map cvStmt).length ≤ 1048576 := by rw [List.length_map]; exact h3
  have m4 : (l4.map cvExpr).length ≤ 1048576 := by rw [List.length_map]; exact h4
  have et := toMod_ev l0 l1 l2 l3 l4 h0 h1 h2 h3 h4
  have n1 : ∀ x ∈ l1.map cvImp, x.f0.data.size ≤ 1048576 ∧ x.f1.data.size ≤ 1048576 ∧ x.f2.data.size ≤ 1048576 := fun x hx => by
    obtain ⟨y, hy, rfl⟩ := List.mem_map.1 hx
    exact g1 y hy
  have n2 : ∀ x ∈ l2.map cvExp, x.f1.data.size ≤ 1048576 ∧ x.f2.data.size ≤ 1048576 ∧ x.f3.data.size ≤ 1048576 := fun x hx => by
    obtain ⟨y, hy, rfl⟩ := List.mem_map.1 hx
    exact g2 y hy
  have n3 : ∀ x ∈ l3.map cvStmt, x.f1.data.size ≤ 1048576 := fun x hx => by
    obtain ⟨y, hy, rfl⟩ := List.mem_map.1 hx
    exact g3 y hy
  have n4 : Sz (l4.map cvExpr) := fun i hi => by
    rw [rE_at _ i hi]
    obtain ⟨y, hy, hy2⟩ := List.mem_map.1 (List.getElem_mem hi)
    rw [← hy2]
    exact g4 y hy
  generalize l1.map cvImp = B at et m1 n1
  generalize l2.map cvExp = C at et m2 n2
  generalize l3.map cvStmt = D at et m3 n3
  generalize l4.map cvExpr = E at et m4 n4
  have es := known_spec l0 B C D E a m3 m4
  have ei := known_prog l0 B C D E a m3 m4 n4 n3 m2 n2 m1 n1 h0 g0
  generalize ans D E a = r at es ei
  obtain ⟨v, b⟩ := r
  have q := eqMod_ev l0 B C D E h0 m1 m2 m3 m4
  unfold laws_FnExactKnown.f
  refine Ev_call e ?_
  simp only [if_neg ht]
  refine Ev_call et (Ev_call es (Ev_call et (Ev_call ei ?_)))
  simp only [if_true, bne_self_eq_false]
  refine Ev_succ ?_
  simp only [laws_FnExactKnown.j0, Bool.false_eq_true, if_false]
  refine Ev_call et (Ev_call q ?_)
  simp only [if_true]
  exact Ev.now _
theorem Known_over (l0 : List ByteArray) (l1 : List S65) (l2 : List S68) (l3 : List S71) (l4 : List S74) (a : Int) (t : Int) (ht : t < 0)
    (e : Ev (fun k => laws_szMod.f k l0 l1 l2 l3 l4 1048576) t) : Ev (fun k => laws_FnExactKnown.f k l0 l1 l2 l3 l4 a) true := by
  unfold laws_FnExactKnown.f
  refine Ev_call e ?_
  simp only [if_pos ht]
  exact Ev.now _
theorem FnExactKnown : laws_FnExactKnown.Say := by
  intro l0 l1 l2 l3 l4 a h0 h1 h2 h3 h4 ha
  simp only [maxLen] at h0 h1 h2 h3 h4
  apply Ev.rounds
  obtain ⟨t, e, hf⟩ := szMod_ev l0 l1 l2 l3 l4 h0 h1 ⟨h2.1, fun x hx => (h2.2 x hx).2⟩ ⟨h3.1, fun x hx => (h3.2 x hx).2.1⟩ ⟨h4.1, fun x hx => ⟨(h4.2 x hx).2.2.1, (h4.2 x hx).2.2.2.1⟩⟩ 1048576 (by omega) (by omega)
  by_cases hn : t < 0
  · exact Known_over l0 l1 l2 l3 l4 a t hn e
  obtain ⟨_, ⟨g0, k0⟩, ⟨g1, k1⟩, ⟨g2, k2⟩, ⟨g3, k3⟩, ⟨g4, k4⟩⟩ := hf (by omega)
  refine Known_good l0 l1 l2 l3 l4 a (by omega) (by omega) (by omega) (by omega) (by omega) (fun x hx => by have := k0 x hx; omega) (fun x hx => by have := k1 x hx; omega) (fun x hx => by have := k2 x hx; omega) (fun x hx => by have := k3 x hx; omega) (fun x hx => ?_) t hn e
  have := k4 x hx
  have hw := wf_i64 (h4.2 x hx).2.1
  exact ⟨by omega, by omega, hw.1, by omega⟩


end Go.Proofs.YtnakdhpefkllmaaDoor.Pure

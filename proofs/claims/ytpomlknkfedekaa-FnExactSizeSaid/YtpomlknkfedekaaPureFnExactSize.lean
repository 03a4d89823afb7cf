import Derived.Test.YtpomlknkfedekaaSayFnExactSize
import Derived.Test.YtpomlknkfedekaaKit
/- FnExactSize: the program's Size and the reference's are the same sum, for every program. -/
namespace Go.Proofs.Ytpomlknkfedekaa.Pure
open Go.RowKit Go.Proofs.Ytpomlknkfedekaa.PFnExactSize Go.Proofs.YtpomlknkfedekaaW.PrintWords Go.Proofs.YtpomlknkfedekaaW.PrintLast Go.Proofs.YtpomlknkfedekaaW.PrintMore Go.Proofs.Ytpomlknkfedekaa.Kit
set_option linter.unusedSimpArgs false
set_option linter.unusedVariables false

theorem szStringS_loop (l : List ByteArray) (hs : ∀ x ∈ l, x.size ≤ 9223372036854775807) (hl : l.length ≤ 1048576) (d : Nat) : ∀ (i : Nat) (left : Int), i + d = l.length → 0 ≤ left → left ≤ 1048576 →
    ∃ t, Ev (fun k => laws_szStringS.l0 k l left i) t ∧ t ≤ left ∧ -1 ≤ t ∧ (0 ≤ t → ∀ j, i ≤ j → j < l.length → ((l.getD j ByteArray.empty).size : Int) ≤ left) := by
  induction d with
  | zero =>
    intro i left hi h0 h1
    refine ⟨left, Ev_succ ?_, by omega, by omega, fun _ j hj hj2 => absurd hj2 (by omega)⟩
    simp (disch := omega) only [laws_szStringS.l0, if_neg]; exact Ev.now _
  | succ d ih =>
    intro i left hi h0 h1
    have hx := hs (l.getD i ByteArray.empty) (by rw [getD_at l _ i (by omega)]; exact List.getElem_mem _)
    by_cases hn : left - (l.getD i ByteArray.empty).size < 0
    · refine ⟨-1, Ev_succ ?_, by omega, by omega, fun h => absurd h (by omega)⟩
      simp (disch := omega) only [laws_szStringS.l0, if_pos, rdOf, Int.toNat_natCast, w64]; exact Ev.now _
    · obtain ⟨t2, e2, h2, h3, hf2⟩ := ih (i + 1) (left - (l.getD i ByteArray.empty).size) (by omega) (by omega) (by omega)
      refine ⟨t2, Ev_succ ?_, by omega, h3, fun h j hj hj2 => ?_⟩
      · simp (disch := omega) only [laws_szStringS.l0, if_pos, if_neg, rdOf, Int.toNat_natCast, w64]; exact e2
      · rcases Nat.eq_or_lt_of_le hj with hj | hj
        · subst hj; omega
        · have := hf2 h j hj hj2
          omega
theorem szStringS_ev (l : List ByteArray) (hl : l.length ≤ 9223372036854775807) (hs : ∀ x ∈ l, x.size ≤ 9223372036854775807) (left : Int) (h0 : 0 ≤ left) (h1 : left ≤ 1048576) :
    ∃ t, Ev (fun k => laws_szStringS.f k l left) t ∧ t ≤ left ∧ -1 ≤ t ∧ (0 ≤ t → (l.length : Int) ≤ left ∧ ∀ x ∈ l, (x.size : Int) ≤ left) := by
  by_cases c0 : left - l.length < 0
  · refine ⟨-1, ?_, by omega, by omega, fun h => absurd h (by omega)⟩
    simp (disch := omega) only [laws_szStringS.f, w64, if_pos]; exact Ev.now _
  · obtain ⟨t, e, h2, h3, hf⟩ := szStringS_loop l hs (by omega) l.length 0 (left - l.length) (by omega) (by omega) (by omega)
    refine ⟨t, ?_, by omega, h3, fun h => ⟨by omega, fun x hx => ?_⟩⟩
    · simp (disch := omega) only [laws_szStringS.f, w64, if_neg]; exact e
    · obtain ⟨j, hj, rfl⟩ := List.mem_iff_getElem.1 hx
      have := hf h j (by omega) hj
      rw [getD_at l _ j hj] at this
      omega
theorem szImp_some (b0 : ByteArray) (b1 : ByteArray) (b2 : ByteArray) (left : Int) (h0 : 0 ≤ left) (h1 : left ≤ 1048576) (hb0 : b0.size ≤ 9223372036854775807) (hb1 : b1.size ≤ 9223372036854775807) (hb2 : b2.size ≤ 9223372036854775807) :
    ∃ t, laws_szImp.f b0 b1 b2 left = some t ∧ t ≤ left ∧ -1 ≤ t ∧ (0 ≤ t → (b0.size : Int) ≤ left ∧ (b1.size : Int) ≤ left ∧ (b2.size : Int) ≤ left) := by
  by_cases c0 : left - b0.size < 0
  · exact ⟨-1, by simp (disch := omega) only [laws_szImp.f, w64, if_pos, if_neg], by omega, by omega, fun h => absurd h (by omega)⟩
  by_cases c1 : left - b0.size - b1.size < 0
  · exact ⟨-1, by simp (disch := omega) only [laws_szImp.f, w64, if_pos, if_neg], by omega, by omega, fun h => absurd h (by omega)⟩
  by_cases c2 : left - b0.size - b1.size - b2.size < 0
  · exact ⟨-1, by simp (disch := omega) only [laws_szImp.f, w64, if_pos, if_neg], by omega, by omega, fun h => absurd h (by omega)⟩
  exact ⟨left - b0.size - b1.size - b2.size, by simp (disch := omega) only [laws_szImp.f, w64, if_neg], by omega, by omega, fun _ => ⟨by omega, by omega, by omega⟩⟩
theorem szImpS_loop (l : List S85) (hs : ∀ x ∈ l, x.f0.size ≤ 9223372036854775807 ∧ x.f1.size ≤ 9223372036854775807 ∧ x.f2.size ≤ 9223372036854775807) (hl : l.length ≤ 1048576) (d : Nat) : ∀ (i : Nat) (left : Int), i + d = l.length → 0 ≤ left → left ≤ 1048576 →
    ∃ t, Ev (fun k => laws_szImpS.l0 k l left i) t ∧ t ≤ left ∧ -1 ≤ t ∧ (0 ≤ t → ∀ j, i ≤ j → j < l.length → ((l.getD j z85).f0.size : Int) ≤ left ∧ ((l.getD j z85).f1.size : Int) ≤ left ∧ ((l.getD j z85).f2.size : Int) ≤ left) := by
  induction d with
  | zero =>
    intro i left hi h0 h1
    refine ⟨left, Ev_succ ?_, by omega, by omega, fun _ j hj hj2 => absurd hj2 (by omega)⟩
    simp (disch := omega) only [laws_szImpS.l0, if_neg]; exact Ev.now _
  | succ d ih =>
    intro i left hi h0 h1
    have hx := hs (l.getD i z85) (by rw [getD_at l _ i (by omega)]; exact List.getElem_mem _)
    obtain ⟨t, e, ht, ht1, hf⟩ := szImp_some (l.getD i z85).f0 (l.getD i z85).f1 (l.getD i z85).f2 left h0 h1 hx.1 hx.2.1 hx.2.2
    by_cases hn : t < 0
    · refine ⟨-1, Ev_succ ?_, by omega, by omega, fun h => absurd h (by omega)⟩
      simp (disch := omega) only [laws_szImpS.l0, if_pos, rd_T85, Int.toNat_natCast, e, Option.bind_some]; exact Ev.now _
    · obtain ⟨t2, e2, h2, h3, hf2⟩ := ih (i + 1) t (by omega) (by omega) (by omega)
      refine ⟨t2, Ev_succ ?_, by omega, h3, fun h j hj hj2 => ?_⟩
      · simp (disch := omega) only [laws_szImpS.l0, if_pos, if_neg, rd_T85, Int.toNat_natCast, e, Option.bind_some, w64]; exact e2
      · rcases Nat.eq_or_lt_of_le hj with hj | hj
        · subst hj; exact hf (by omega)
        · have := hf2 h j hj hj2
          exact ⟨by omega, by omega, by omega⟩
theorem szImpS_ev (l : List S85) (hl : l.length ≤ 9223372036854775807) (hs : ∀ x ∈ l, x.f0.size ≤ 9223372036854775807 ∧ x.f1.size ≤ 9223372036854775807 ∧ x.f2.size ≤ 9223372036854775807) (left : Int) (h0 : 0 ≤ left) (h1 : left ≤ 1048576) :
    ∃ t, Ev (fun k => laws_szImpS.f k l left) t ∧ t ≤ left ∧ -1 ≤ t ∧ (0 ≤ t → (l.length : Int) ≤ left ∧ ∀ x ∈ l, (x.f0.size : Int) ≤ left ∧ (x.f1.size : Int) ≤ left ∧ (x.f2.size : Int) ≤ left) := by
  by_cases c0 : left - l.length < 0
  · refine ⟨-1, ?_, by omega, by omega, fun h => absurd h (by omega)⟩
    simp (disch := omega) only [laws_szImpS.f, w64, if_pos]; exact Ev.now _
  · obtain ⟨t, e, h2, h3, hf⟩ := szImpS_loop l hs (by omega) l.length 0 (left - l.length) (by omega) (by omega) (by omega)
    refine ⟨t, ?_, by omega, h3, fun h => ⟨by omega, fun x hx => ?_⟩⟩
    · simp (disch := omega) only [laws_szImpS.f, w64, if_neg]; exact e
    · obtain ⟨j, hj, rfl⟩ := List.mem_iff_getElem.1 hx
      have := hf h j (by omega) hj
      rw [getD_at l _ j hj] at this
      exact ⟨by omega, by omega, by omega⟩
theorem szExp_some (b0 : Int) (b1 : ByteArray) (b2 : ByteArray) (b3 : ByteArray) (left : Int) (h0 : 0 ≤ left) (h1 : left ≤ 1048576) (hb1 : b1.size ≤ 9223372036854775807) (hb2 : b2.size ≤ 9223372036854775807) (hb3 : b3.size ≤ 9223372036854775807) :
    ∃ t, laws_szExp.f b0 b1 b2 b3 left = some t ∧ t ≤ left ∧ -1 ≤ t ∧ (0 ≤ t → (b1.size : Int) ≤ left ∧ (b2.size : Int) ≤ left ∧ (b3.size : Int) ≤ left) := by
  by_cases c0 : left - b1.size < 0
  · exact ⟨-1, by simp (disch := omega) only [laws_szExp.f, w64, if_pos, if_neg], by omega, by omega, fun h => absurd h (by omega)⟩
  by_cases c1 : left - b1.size - b2.size < 0
  · exact ⟨-1, by simp (disch := omega) only [laws_szExp.f, w64, if_pos, if_neg], by omega, by omega, fun h => absurd h (by omega)⟩
  by_cases c2 : left - b1.size - b2.size - b3.size < 0
  · exact ⟨-1, by simp (disch := omega) only [laws_szExp.f, w64, if_pos, if_neg], by omega, by omega, fun h => absurd h (by omega)⟩
  exact ⟨left - b1.size - b2.size - b3.size, by simp (disch := omega) only [laws_szExp.f, w64, if_neg], by omega, by omega, fun _ => ⟨by omega, by omega, by omega⟩⟩
theorem szExpS_loop (l : List S88) (hs : ∀ x ∈ l, x.f1.size ≤ 9223372036854775807 ∧ x.f2.size ≤ 9223372036854775807 ∧ x.f3.size ≤ 9223372036854775807) (hl : l.length ≤ 1048576) (d : Nat) : ∀ (i : Nat) (left : Int), i + d = l.length → 0 ≤ left → left ≤ 1048576 →
    ∃ t, Ev (fun k => laws_szExpS.l0 k l left i) t ∧ t ≤ left ∧ -1 ≤ t ∧ (0 ≤ t → ∀ j, i ≤ j → j < l.length → ((l.getD j z88).f1.size : Int) ≤ left ∧ ((l.getD j z88).f2.size : Int) ≤ left ∧ ((l.getD j z88).f3.size : Int) ≤ left) := by
  induction d with
  | zero =>
    intro i left hi h0 h1
    refine ⟨left, Ev_succ ?_, by omega, by omega, fun _ j hj hj2 => absurd hj2 (by omega)⟩
    simp (disch := omega) only [laws_szExpS.l0, if_neg]; exact Ev.now _
  | succ d ih =>
    intro i left hi h0 h1
    have hx := hs (l.getD i z88) (by rw [getD_at l _ i (by omega)]; exact List.getElem_mem _)
    obtain ⟨t, e, ht, ht1, hf⟩ := szExp_some (l.getD i z88).f0 (l.getD i z88).f1 (l.getD i z88).f2 (l.getD i z88).f3 left h0 h1 hx.1 hx.2.1 hx.2.2
    by_cases hn : t < 0
    · refine ⟨-1, Ev_succ ?_, by omega, by omega, fun h => absurd h (by omega)⟩
      simp (disch := omega) only [laws_szExpS.l0, if_pos, rd_T88, Int.toNat_natCast, e, Option.bind_some]; exact Ev.now _
    · obtain ⟨t2, e2, h2, h3, hf2⟩ := ih (i + 1) t (by omega) (by omega) (by omega)
      refine ⟨t2, Ev_succ ?_, by omega, h3, fun h j hj hj2 => ?_⟩
      · simp (disch := omega) only [laws_szExpS.l0, if_pos, if_neg, rd_T88, Int.toNat_natCast, e, Option.bind_some, w64]; exact e2
      · rcases Nat.eq_or_lt_of_le hj with hj | hj
        · subst hj; exact hf (by omega)
        · have := hf2 h j hj hj2
          exact ⟨by omega, by omega, by omega⟩
theorem szExpS_ev (l : List S88) (hl : l.length ≤ 9223372036854775807) (hs : ∀ x ∈ l, x.f1.size ≤ 9223372036854775807 ∧ x.f2.size ≤ 9223372036854775807 ∧ x.f3.size ≤ 9223372036854775807) (left : Int) (h0 : 0 ≤ left) (h1 : left ≤ 1048576) :
    ∃ t, Ev (fun k => laws_szExpS.f k l left) t ∧ t ≤ left ∧ -1 ≤ t ∧ (0 ≤ t → (l.length : Int) ≤ left ∧ ∀ x ∈ l, (x.f1.size : Int) ≤ left ∧ (x.f2.size : Int) ≤ left ∧ (x.f3.size : Int) ≤ left) := by
  by_cases c0 : left - l.length < 0
  · refine ⟨-1, ?_, by omega, by omega, fun h => absurd h (by omega)⟩
    simp (disch := omega) only [laws_szExpS.f, w64, if_pos]; exact Ev.now _
  · obtain ⟨t, e, h2, h3, hf⟩ := szExpS_loop l hs (by omega) l.length 0 (left - l.length) (by omega) (by omega) (by omega)
    refine ⟨t, ?_, by omega, h3, fun h => ⟨by omega, fun x hx => ?_⟩⟩
    · simp (disch := omega) only [laws_szExpS.f, w64, if_neg]; exact e
    · obtain ⟨j, hj, rfl⟩ := List.mem_iff_getElem.1 hx
      have := hf h j (by omega) hj
      rw [getD_at l _ j hj] at this
      exact ⟨by omega, by omega, by omega⟩
theorem szStmt_some (b0 : Int) (b1 : ByteArray) (b2 : Int) (left : Int) (h0 : 0 ≤ left) (h1 : left ≤ 1048576) (hb1 : b1.size ≤ 9223372036854775807) :
    ∃ t, laws_szStmt.f b0 b1 b2 left = some t ∧ t ≤ left ∧ -1 ≤ t ∧ (0 ≤ t → (b1.size : Int) ≤ left) := by
  by_cases c0 : left - b1.size < 0
  · exact ⟨-1, by simp (disch := omega) only [laws_szStmt.f, w64, if_pos, if_neg], by omega, by omega, fun h => absurd h (by omega)⟩
  exact ⟨left - b1.size, by simp (disch := omega) only [laws_szStmt.f, w64, if_neg], by omega, by omega, fun _ => by omega⟩
theorem szStmtS_loop (l : List S91) (hs : ∀ x ∈ l, x.f1.size ≤ 9223372036854775807) (hl : l.length ≤ 1048576) (d : Nat) : ∀ (i : Nat) (left : Int), i + d = l.length → 0 ≤ left → left ≤ 1048576 →
    ∃ t, Ev (fun k => laws_szStmtS.l0 k l left i) t ∧ t ≤ left ∧ -1 ≤ t ∧ (0 ≤ t → ∀ j, i ≤ j → j < l.length → ((l.getD j z91).f1.size : Int) ≤ left) := by
  induction d with
  | zero =>
    intro i left hi h0 h1
    refine ⟨left, Ev_succ ?_, by omega, by omega, fun _ j hj hj2 => absurd hj2 (by omega)⟩
    simp (disch := omega) only [laws_szStmtS.l0, if_neg]; exact Ev.now _
  | succ d ih =>
    intro i left hi h0 h1
    have hx := hs (l.getD i z91) (by rw [getD_at l _ i (by omega)]; exact List.getElem_mem _)
    obtain ⟨t, e, ht, ht1, hf⟩ := szStmt_some (l.getD i z91).f0 (l.getD i z91).f1 (l.getD i z91).f2 left h0 h1 hx
    by_cases hn : t < 0
    · refine ⟨-1, Ev_succ ?_, by omega, by omega, fun h => absurd h (by omega)⟩
      simp (disch := omega) only [laws_szStmtS.l0, if_pos, rd_T91, Int.toNat_natCast, e, Option.bind_some]; exact Ev.now _
    · obtain ⟨t2, e2, h2, h3, hf2⟩ := ih (i + 1) t (by omega) (by omega) (by omega)
      refine ⟨t2, Ev_succ ?_, by omega, h3, fun h j hj hj2 => ?_⟩
      · simp (disch := omega) only [laws_szStmtS.l0, if_pos, if_neg, rd_T91, Int.toNat_natCast, e, Option.bind_some, w64]; exact e2
      · rcases Nat.eq_or_lt_of_le hj with hj | hj
        · subst hj; exact hf (by omega)
        · have := hf2 h j hj hj2
          omega
theorem szStmtS_ev (l : List S91) (hl : l.length ≤ 9223372036854775807) (hs : ∀ x ∈ l, x.f1.size ≤ 9223372036854775807) (left : Int) (h0 : 0 ≤ left) (h1 : left ≤ 1048576) :
    ∃ t, Ev (fun k => laws_szStmtS.f k l left) t ∧ t ≤ left ∧ -1 ≤ t ∧ (0 ≤ t → (l.length : Int) ≤ left ∧ ∀ x ∈ l, (x.f1.size : Int) ≤ left) := by
  by_cases c0 : left - l.length < 0
  · refine ⟨-1, ?_, by omega, by omega, fun h => absurd h (by omega)⟩
    simp (disch := omega) only [laws_szStmtS.f, w64, if_pos]; exact Ev.now _
  · obtain ⟨t, e, h2, h3, hf⟩ := szStmtS_loop l hs (by omega) l.length 0 (left - l.length) (by omega) (by omega) (by omega)
    refine ⟨t, ?_, by omega, h3, fun h => ⟨by omega, fun x hx => ?_⟩⟩
    · simp (disch := omega) only [laws_szStmtS.f, w64, if_neg]; exact e
    · obtain ⟨j, hj, rfl⟩ := List.mem_iff_getElem.1 hx
      have := hf h j (by omega) hj
      rw [getD_at l _ j hj] at this
      omega
theorem szExpr_some (b0 : Int) (b1 : Int) (b2 : ByteArray) (b3 : ByteArray) (b4 : Int) (b5 : Int) (left : Int) (h0 : 0 ≤ left) (h1 : left ≤ 1048576) (hb2 : b2.size ≤ 9223372036854775807) (hb3 : b3.size ≤ 9223372036854775807) :
    ∃ t, laws_szExpr.f b0 b1 b2 b3 b4 b5 left = some t ∧ t ≤ left ∧ -1 ≤ t ∧ (0 ≤ t → (b2.size : Int) ≤ left ∧ (b3.size : Int) ≤ left) := by
  by_cases c0 : left - b2.size < 0
  · exact ⟨-1, by simp (disch := omega) only [laws_szExpr.f, w64, if_pos, if_neg], by omega, by omega, fun h => absurd h (by omega)⟩
  by_cases c1 : left - b2.size - b3.size < 0
  · exact ⟨-1, by simp (disch := omega) only [laws_szExpr.f, w64, if_pos, if_neg], by omega, by omega, fun h => absurd h (by omega)⟩
  exact ⟨left - b2.size - b3.size, by simp (disch := omega) only [laws_szExpr.f, w64, if_neg], by omega, by omega, fun _ => ⟨by omega, by omega⟩⟩
theorem szExprS_loop (l : List S94) (hs : ∀ x ∈ l, x.f2.size ≤ 9223372036854775807 ∧ x.f3.size ≤ 9223372036854775807) (hl : l.length ≤ 1048576) (d : Nat) : ∀ (i : Nat) (left : Int), i + d = l.length → 0 ≤ left → left ≤ 1048576 →
    ∃ t, Ev (fun k => laws_szExprS.l0 k l left i) t ∧ t ≤ left ∧ -1 ≤ t ∧ (0 ≤ t → ∀ j, i ≤ j → j < l.length → ((l.getD j z94).f2.size : Int) ≤ left ∧ ((l.getD j z94).f3.size : Int) ≤ left) := by
  induction d with
  | zero =>
    intro i left hi h0 h1
    refine ⟨left, Ev_succ ?_, by omega, by omega, fun _ j hj hj2 => absurd hj2 (by omega)⟩
    simp (disch := omega) only [laws_szExprS.l0, if_neg]; exact Ev.now _
  | succ d ih =>
    intro i left hi h0 h1
    have hx := hs (l.getD i z94) (by rw [getD_at l _ i (by omega)]; exact List.getElem_mem _)
    obtain ⟨t, e, ht, ht1, hf⟩ := szExpr_some (l.getD i z94).f0 (l.getD i z94).f1 (l.getD i z94).f2 (l.getD i z94).f3 (l.getD i z94).f4 (l.getD i z94).f5 left h0 h1 hx.1 hx.2
    by_cases hn : t < 0
    · refine ⟨-1, Ev_succ ?_, by omega, by omega, fun h => absurd h (by omega)⟩
      simp (disch := omega) only [laws_szExprS.l0, if_pos, rd_T94, Int.toNat_natCast, e, Option.bind_some]; exact Ev.now _
    · obtain ⟨t2, e2, h2, h3, hf2⟩ := ih (i + 1) t (by omega) (by omega) (by omega)
      refine ⟨t2, Ev_succ ?_, by omega, h3, fun h j hj hj2 => ?_⟩
      · simp (disch := omega) only [laws_szExprS.l0, if_pos, if_neg, rd_T94, Int.toNat_natCast, e, Option.bind_some, w64]; exact e2
      · rcases Nat.eq_or_lt_of_le hj with hj | hj
        · subst hj; exact hf (by omega)
        · have := hf2 h j hj hj2
          exact ⟨by omega, by omega⟩
theorem szExprS_ev (l : List S94) (hl : l.length ≤ 9223372036854775807) (hs : ∀ x ∈ l, x.f2.size ≤ 9223372036854775807 ∧ x.f3.size ≤ 9223372036854775807) (left : Int) (h0 : 0 ≤ left) (h1 : left ≤ 1048576) :
    ∃ t, Ev (fun k => laws_szExprS.f k l left) t ∧ t ≤ left ∧ -1 ≤ t ∧ (0 ≤ t → (l.length : Int) ≤ left ∧ ∀ x ∈ l, (x.f2.size : Int) ≤ left ∧ (x.f3.size : Int) ≤ left) := by
  by_cases c0 : left - l.length < 0
  · refine ⟨-1, ?_, by omega, by omega, fun h => absurd h (by omega)⟩
    simp (disch := omega) only [laws_szExprS.f, w64, if_pos]; exact Ev.now _
  · obtain ⟨t, e, h2, h3, hf⟩ := szExprS_loop l hs (by omega) l.length 0 (left - l.length) (by omega) (by omega) (by omega)
    refine ⟨t, ?_, by omega, h3, fun h => ⟨by omega, fun x hx => ?_⟩⟩
    · simp (disch := omega) only [laws_szExprS.f, w64, if_neg]; exact e
    · obtain ⟨j, hj, rfl⟩ := List.mem_iff_getElem.1 hx
      have := hf h j (by omega) hj
      rw [getD_at l _ j hj] at this
      exact ⟨by omega, by omega⟩
theorem toStringS_loop (l : List ByteArray) (hl : l.length ≤ 1048576) (d : Nat) : ∀ i : Nat, i + d = l.length → Ev (fun k => laws_toStringS.l0 k l ((l.take i).map (fun x => x) ++ List.replicate d (⟨#[]⟩ : ByteArray)) i) (l.map (fun x => x)) := by
  induction d with
  | zero =>
    intro i hi
    refine Ev_succ ?_
    simp (disch := omega) only [laws_toStringS.l0, if_neg]
    exact Ev_some (fill_done l (fun x => x) (⟨#[]⟩ : ByteArray) i (by omega))
  | succ d ih =>
    intro i hi
    have e := set_step l (fun x => x) (⟨#[]⟩ : ByteArray) ByteArray.empty i d hi
    have e2 := ih (i + 1) (by omega)
    rw [← e] at e2
    refine Ev_succ ?_
    simp (disch := (first | omega | (simp only [List.length_append, List.length_map, List.length_take, List.length_replicate]; omega))) only [laws_toStringS.l0, if_pos, rdOf, Int.toNat_natCast, w64]
    exact e2
theorem toStringS_ev (l : List ByteArray) (hl : l.length ≤ 1048576) : Ev (fun k => laws_toStringS.f k l) (l) := by
  have e := toStringS_loop l hl l.length 0 (by omega)
  simp only [List.take_zero, List.map_nil, List.nil_append] at e
  simp (disch := (first | omega | (simp only [Int.toNat_natCast]; omega))) only [laws_toStringS.f, if_pos, Int.toNat_natCast]
  simp only [List.map_id'] at e
  exact e
def cvImp (x : S85) : S95 := ⟨x.f0, x.f1, x.f2⟩
theorem toImpS_loop (l : List S85) (hl : l.length ≤ 1048576) (d : Nat) : ∀ i : Nat, i + d = l.length → Ev (fun k => laws_toImpS.l0 k l ((l.take i).map cvImp ++ List.replicate d z95) i) (l.map cvImp) := by
  induction d with
  | zero =>
    intro i hi
    refine Ev_succ ?_
    simp (disch := omega) only [laws_toImpS.l0, if_neg]
    exact Ev_some (fill_done l cvImp z95 i (by omega))
  | succ d ih =>
    intro i hi
    have e := set_step l cvImp z95 z85 i d hi
    have e2 := ih (i + 1) (by omega)
    rw [← e] at e2
    refine Ev_succ ?_
    simp (disch := (first | omega | (simp only [List.length_append, List.length_map, List.length_take, List.length_replicate]; omega))) only [laws_toImpS.l0, if_pos, rd_T85, laws_toImp.f, Option.bind_some, Int.toNat_natCast, w64]
    exact e2
theorem toImpS_ev (l : List S85) (hl : l.length ≤ 1048576) : Ev (fun k => laws_toImpS.f k l) (l.map cvImp) := by
  have e := toImpS_loop l hl l.length 0 (by omega)
  simp only [List.take_zero, List.map_nil, List.nil_append] at e
  simp (disch := (first | omega | (simp only [Int.toNat_natCast]; omega))) only [laws_toImpS.f, if_pos, Int.toNat_natCast]
  exact e
def cvExp (x : S88) : S97 := ⟨x.f0, x.f1, x.f2, x.f3⟩
theorem toExpS_loop (l : List S88) (hl : l.length ≤ 1048576) (d : Nat) : ∀ i : Nat, i + d = l.length → Ev (fun k => laws_toExpS.l0 k l ((l.take i).map cvExp ++ List.replicate d z97) i) (l.map cvExp) := by
  induction d with
  | zero =>
    intro i hi
    refine Ev_succ ?_
    simp (disch := omega) only [laws_toExpS.l0, if_neg]
    exact Ev_some (fill_done l cvExp z97 i (by omega))
  | succ d ih =>
    intro i hi
    have e := set_step l cvExp z97 z88 i d hi
    have e2 := ih (i + 1) (by omega)
    rw [← e] at e2
    refine Ev_succ ?_
    simp (disch := (first | omega | (simp only [List.length_append, List.length_map, List.length_take, List.length_replicate]; omega))) only [laws_toExpS.l0, if_pos, rd_T88, laws_toExp.f, Option.bind_some, Int.toNat_natCast, w64]
    exact e2
theorem toExpS_ev (l : List S88) (hl : l.length ≤ 1048576) : Ev (fun k => laws_toExpS.f k l) (l.map cvExp) := by
  have e := toExpS_loop l hl l.length 0 (by omega)
  simp only [List.take_zero, List.map_nil, List.nil_append] at e
  simp (disch := (first | omega | (simp only [Int.toNat_natCast]; omega))) only [laws_toExpS.f, if_pos, Int.toNat_natCast]
  exact e
def cvStmt (x : S91) : S99 := ⟨x.f0, x.f1, x.f2⟩
theorem toStmtS_loop (l : List S91) (hl : l.length ≤ 1048576) (d : Nat) : ∀ i : Nat, i + d = l.length → Ev (fun k => laws_toStmtS.l0 k l ((l.take i).map cvStmt ++ List.replicate d z99) i) (l.map cvStmt) := by
  induction d with
  | zero =>
    intro i hi
    refine Ev_succ ?_
    simp (disch := omega) only [laws_toStmtS.l0, if_neg]
    exact Ev_some (fill_done l cvStmt z99 i (by omega))
  | succ d ih =>
    intro i hi
    have e := set_step l cvStmt z99 z91 i d hi
    have e2 := ih (i + 1) (by omega)
    rw [← e] at e2
    refine Ev_succ ?_
    simp (disch := (first | omega | (simp only [List.length_append, List.length_map, List.length_take, List.length_replicate]; omega))) only [laws_toStmtS.l0, if_pos, rd_T91, laws_toStmt.f, Option.bind_some, Int.toNat_natCast, w64]
    exact e2
theorem toStmtS_ev (l : List S91) (hl : l.length ≤ 1048576) : Ev (fun k => laws_toStmtS.f k l) (l.map cvStmt) := by
  have e := toStmtS_loop l hl l.length 0 (by omega)
  simp only [List.take_zero, List.map_nil, List.nil_append] at e
  simp (disch := (first | omega | (simp only [Int.toNat_natCast]; omega))) only [laws_toStmtS.f, if_pos, Int.toNat_natCast]
  exact e
def cvExpr (x : S94) : S101 := ⟨x.f0, x.f1, x.f2, x.f3, x.f4, x.f5⟩
theorem toExprS_loop (l : List S94) (hl : l.length ≤ 1048576) (d : Nat) : ∀ i : Nat, i + d = l.length → Ev (fun k => laws_toExprS.l0 k l ((l.take i).map cvExpr ++ List.replicate d z101) i) (l.map cvExpr) := by
  induction d with
  | zero =>
    intro i hi
    refine Ev_succ ?_
    simp (disch := omega) only [laws_toExprS.l0, if_neg]
    exact Ev_some (fill_done l cvExpr z101 i (by omega))
  | succ d ih =>
    intro i hi
    have e := set_step l cvExpr z101 z94 i d hi
    have e2 := ih (i + 1) (by omega)
    rw [← e] at e2
    refine Ev_succ ?_
    simp (disch := (first | omega | (simp only [List.length_append, List.length_map, List.length_take, List.length_replicate]; omega))) only [laws_toExprS.l0, if_pos, rd_T94, laws_toExpr.f, Option.bind_some, Int.toNat_natCast, w64]
    exact e2
theorem toExprS_ev (l : List S94) (hl : l.length ≤ 1048576) : Ev (fun k => laws_toExprS.f k l) (l.map cvExpr) := by
  have e := toExprS_loop l hl l.length 0 (by omega)
  simp only [List.take_zero, List.map_nil, List.nil_append] at e
  simp (disch := (first | omega | (simp only [Int.toNat_natCast]; omega))) only [laws_toExprS.f, if_pos, Int.toNat_natCast]
  exact e
theorem eqStringS_loop (l : List ByteArray) (hl : l.length ≤ 1048576) (d : Nat) : ∀ i : Nat, i + d = l.length → Ev (fun k => laws_eqStringS.l0 k l l i) true := by
  induction d with
  | zero =>
    intro i hi
    refine Ev_succ ?_
    simp (disch := omega) only [laws_eqStringS.l0, if_neg]; exact Ev.now _
  | succ d ih =>
    intro i hi
    have e := ih (i + 1) (by omega)
    refine Ev_succ ?_
    simp (disch := omega) only [laws_eqStringS.l0, if_pos, if_true, w64]
    exact e
theorem eqStringS_ev (l : List ByteArray) (hl : l.length ≤ 1048576) : Ev (fun k => laws_eqStringS.f k l l) true := by
  have e := eqStringS_loop l hl l.length 0 (by omega)
  simp only [laws_eqStringS.f, if_true]
  exact e
theorem eqImpS_loop (l : List S95) (hl : l.length ≤ 1048576) (d : Nat) : ∀ i : Nat, i + d = l.length → Ev (fun k => laws_eqImpS.l0 k l l i) true := by
  induction d with
  | zero =>
    intro i hi
    refine Ev_succ ?_
    simp (disch := omega) only [laws_eqImpS.l0, if_neg]; exact Ev.now _
  | succ d ih =>
    intro i hi
    have e := ih (i + 1) (by omega)
    refine Ev_succ ?_
    simp (disch := omega) only [laws_eqImpS.l0, if_pos, if_true, laws_eqImp.f, Option.bind_some, w64]
    exact e
theorem eqImpS_ev (l : List S95) (hl : l.length ≤ 1048576) : Ev (fun k => laws_eqImpS.f k l l) true := by
  have e := eqImpS_loop l hl l.length 0 (by omega)
  simp only [laws_eqImpS.f, if_true]
  exact e
theorem eqExpS_loop (l : List S97) (hl : l.length ≤ 1048576) (d : Nat) : ∀ i : Nat, i + d = l.length → Ev (fun k => laws_eqExpS.l0 k l l i) true := by
  induction d with
  | zero =>
    intro i hi
    refine Ev_succ ?_
    simp (disch := omega) only [laws_eqExpS.l0, if_neg]; exact Ev.now _
  | succ d ih =>
    intro i hi
    have e := ih (i + 1) (by omega)
    refine Ev_succ ?_
    simp (disch := omega) only [laws_eqExpS.l0, if_pos, if_true, laws_eqExp.f, Option.bind_some, w64]
    exact e
theorem eqExpS_ev (l : List S97) (hl : l.length ≤ 1048576) : Ev (fun k => laws_eqExpS.f k l l) true := by
  have e := eqExpS_loop l hl l.length 0 (by omega)
  simp only [laws_eqExpS.f, if_true]
  exact e
theorem eqStmtS_loop (l : List S99) (hl : l.length ≤ 1048576) (d : Nat) : ∀ i : Nat, i + d = l.length → Ev (fun k => laws_eqStmtS.l0 k l l i) true := by
  induction d with
  | zero =>
    intro i hi
    refine Ev_succ ?_
    simp (disch := omega) only [laws_eqStmtS.l0, if_neg]; exact Ev.now _
  | succ d ih =>
    intro i hi
    have e := ih (i + 1) (by omega)
    refine Ev_succ ?_
    simp (disch := omega) only [laws_eqStmtS.l0, if_pos, if_true, laws_eqStmt.f, Option.bind_some, w64]
    exact e
theorem eqStmtS_ev (l : List S99) (hl : l.length ≤ 1048576) : Ev (fun k => laws_eqStmtS.f k l l) true := by
  have e := eqStmtS_loop l hl l.length 0 (by omega)
  simp only [laws_eqStmtS.f, if_true]
  exact e
theorem eqExprS_loop (l : List S101) (hl : l.length ≤ 1048576) (d : Nat) : ∀ i : Nat, i + d = l.length → Ev (fun k => laws_eqExprS.l0 k l l i) true := by
  induction d with
  | zero =>
    intro i hi
    refine Ev_succ ?_
    simp (disch := omega) only [laws_eqExprS.l0, if_neg]; exact Ev.now _
  | succ d ih =>
    intro i hi
    have e := ih (i + 1) (by omega)
    refine Ev_succ ?_
    simp (disch := omega) only [laws_eqExprS.l0, if_pos, if_true, laws_eqExpr.f, Option.bind_some, w64]
    exact e
theorem eqExprS_ev (l : List S101) (hl : l.length ≤ 1048576) : Ev (fun k => laws_eqExprS.f k l l) true := by
  have e := eqExprS_loop l hl l.length 0 (by omega)
  simp only [laws_eqExprS.f, if_true]
  exact e
theorem szMod_ev (l0 : List ByteArray) (l1 : List S85) (l2 : List S88) (l3 : List S91) (l4 : List S94)
    (h0 : l0.length ≤ 9223372036854775807 ∧ ∀ x ∈ l0, x.size ≤ 9223372036854775807)
    (h1 : l1.length ≤ 9223372036854775807 ∧ ∀ x ∈ l1, x.f0.size ≤ 9223372036854775807 ∧ x.f1.size ≤ 9223372036854775807 ∧ x.f2.size ≤ 9223372036854775807)
    (h2 : l2.length ≤ 9223372036854775807 ∧ ∀ x ∈ l2, x.f1.size ≤ 9223372036854775807 ∧ x.f2.size ≤ 9223372036854775807 ∧ x.f3.size ≤ 9223372036854775807)
    (h3 : l3.length ≤ 9223372036854775807 ∧ ∀ x ∈ l3, x.f1.size ≤ 9223372036854775807)
    (h4 : l4.length ≤ 9223372036854775807 ∧ ∀ x ∈ l4, x.f2.size ≤ 9223372036854775807 ∧ x.f3.size ≤ 9223372036854775807)
    (left : Int) (p0 : 0 ≤ left) (p1 : left ≤ 1048576) : ∃ t, Ev (fun k => laws_szMod.f k l0 l1 l2 l3 l4 left) t ∧ (0 ≤ t → t ≤ left ∧
      ((l0.length : Int) ≤ left ∧ ∀ x ∈ l0, (x.size : Int) ≤ left) ∧ ((l1.length : Int) ≤ left ∧ ∀ x ∈ l1, (x.f0.size : Int) ≤ left ∧ (x.f1.size : Int) ≤ left ∧ (x.f2.size : Int) ≤ left) ∧
      ((l2.length : Int) ≤ left ∧ ∀ x ∈ l2, (x.f1.size : Int) ≤ left ∧ (x.f2.size : Int) ≤ left ∧ (x.f3.size : Int) ≤ left) ∧ ((l3.length : Int) ≤ left ∧ ∀ x ∈ l3, (x.f1.size : Int) ≤ left) ∧
      ((l4.length : Int) ≤ left ∧ ∀ x ∈ l4, (x.f2.size : Int) ≤ left ∧ (x.f3.size : Int) ≤ left)) := by
  simp only [laws_szMod.f]
  obtain ⟨t0, e0, a0, b0, f0⟩ := szStringS_ev l0 h0.1 h0.2 left p0 p1
  by_cases n0 : t0 < 0
  · exact ⟨-1, Ev_call e0 (by simp only [if_pos n0]; exact Ev.now _), fun h => absurd h (by omega)⟩
  obtain ⟨t1, e1, a1, b1, f1⟩ := szImpS_ev l1 h1.1 h1.2 t0 (by omega) (by omega)
  by_cases n1 : t1 < 0
  · exact ⟨-1, Ev_call e0 (by simp only [if_neg n0]; exact Ev_call e1 (by simp only [if_pos n1]; exact Ev.now _)), fun h => absurd h (by omega)⟩
  obtain ⟨t2, e2, a2, b2, f2⟩ := szExpS_ev l2 h2.1 h2.2 t1 (by omega) (by omega)
  by_cases n2 : t2 < 0
  · exact ⟨-1, Ev_call e0 (by simp only [if_neg n0]; exact Ev_call e1 (by simp only [if_neg n1]; exact Ev_call e2 (by simp only [if_pos n2]; exact Ev.now _))), fun h => absurd h (by omega)⟩
  obtain ⟨t3, e3, a3, b3, f3⟩ := szStmtS_ev l3 h3.1 h3.2 t2 (by omega) (by omega)
  by_cases n3 : t3 < 0
  · exact ⟨-1, Ev_call e0 (by simp only [if_neg n0]; exact Ev_call e1 (by simp only [if_neg n1]; exact Ev_call e2 (by simp only [if_neg n2]; exact Ev_call e3 (by simp only [if_pos n3]; exact Ev.now _)))), fun h => absurd h (by omega)⟩
  obtain ⟨t4, e4, a4, b4, f4⟩ := szExprS_ev l4 h4.1 h4.2 t3 (by omega) (by omega)
  by_cases n4 : t4 < 0
  · exact ⟨-1, Ev_call e0 (by simp only [if_neg n0]; exact Ev_call e1 (by simp only [if_neg n1]; exact Ev_call e2 (by simp only [if_neg n2]; exact Ev_call e3 (by simp only [if_neg n3]; exact Ev_call e4 (by simp only [if_pos n4]; exact Ev.now _))))), fun h => absurd h (by omega)⟩
  refine ⟨t4, Ev_call e0 (by simp only [if_neg n0]; exact Ev_call e1 (by simp only [if_neg n1]; exact Ev_call e2 (by simp only [if_neg n2]; exact Ev_call e3 (by simp only [if_neg n3]; exact Ev_call e4 (by simp only [if_neg n4]; exact Ev.now _))))), fun _ => ?_⟩
  obtain ⟨g0, g0'⟩ := f0 (by omega); obtain ⟨g1, g1'⟩ := f1 (by omega); obtain ⟨g2, g2'⟩ := f2 (by omega); obtain ⟨g3, g3'⟩ := f3 (by omega); obtain ⟨g4, g4'⟩ := f4 (by omega)
  refine ⟨by omega, ⟨by omega, fun x hx => g0' x hx⟩, ⟨by omega, fun x hx => ?_⟩, ⟨by omega, fun x hx => ?_⟩, ⟨by omega, fun x hx => ?_⟩, ⟨by omega, fun x hx => ?_⟩⟩
  · have := g1' x hx; exact ⟨by omega, by omega, by omega⟩
  · have := g2' x hx; exact ⟨by omega, by omega, by omega⟩
  · have := g3' x hx; omega
  · have := g4' x hx; exact ⟨by omega, by omega⟩
theorem toMod_ev (l0 : List ByteArray) (l1 : List S85) (l2 : List S88) (l3 : List S91) (l4 : List S94)
    (h0 : l0.length ≤ 1048576) (h1 : l1.length ≤ 1048576) (h2 : l2.length ≤ 1048576) (h3 : l3.length ≤ 1048576) (h4 : l4.length ≤ 1048576) :
    Ev (fun k => laws_toMod.f k l0 l1 l2 l3 l4) (l0, l1.map cvImp, l2.map cvExp, l3.map cvStmt, l4.map cvExpr) := by
  simp only [laws_toMod.f]
  exact Ev_call (toStringS_ev l0 h0) (Ev_call (toImpS_ev l1 h1) (Ev_call (toExpS_ev l2 h2) (Ev_call (toStmtS_ev l3 h3) (Ev_call (toExprS_ev l4 h4) (Ev.now _)))))
theorem eqMod_ev (l0 : List ByteArray) (l1 : List S95) (l2 : List S97) (l3 : List S99) (l4 : List S101)
    (h0 : l0.length ≤ 1048576) (h1 : l1.length ≤ 1048576) (h2 : l2.length ≤ 1048576) (h3 : l3.length ≤ 1048576) (h4 : l4.length ≤ 1048576) :
    Ev (fun k => laws_eqMod.f k l0 l1 l2 l3 l4 l0 l1 l2 l3 l4) true := by
  simp only [laws_eqMod.f]
  refine Ev_call (eqStringS_ev l0 h0) ?_
  simp only [if_true]
  refine Ev_call (eqImpS_ev l1 h1) ?_
  simp only [if_true]
  refine Ev_call (eqExpS_ev l2 h2) ?_
  simp only [if_true]
  refine Ev_call (eqStmtS_ev l3 h3) ?_
  simp only [if_true]
  refine Ev_call (eqExprS_ev l4 h4) ?_
  simp only [if_true]
  exact Ev.now _
theorem same_Size (a : List ByteArray) (b : List S95) (c : List S97) (d : List S99) (e : List S101) : ∃ s, spec_Size.f a b c d e = some s ∧ impl_Size.f a b c d e = some s := by
  refine ⟨wrap64 ((e.length : Int) + (d.length : Int)), ?_, ?_⟩
  · simp only [spec_Size.f]
  · simp only [impl_Size.f]
theorem Size_good (l0 : List ByteArray) (l1 : List S85) (l2 : List S88) (l3 : List S91) (l4 : List S94)
    (h0 : l0.length ≤ 1048576) (h1 : l1.length ≤ 1048576) (h2 : l2.length ≤ 1048576) (h3 : l3.length ≤ 1048576) (h4 : l4.length ≤ 1048576) (t : Int) (ht : ¬ t < 0)
    (e : Ev (fun k => laws_szMod.f k l0 l1 l2 l3 l4 1048576) t) : Ev (fun k => laws_FnExactSize.f k l0 l1 l2 l3 l4) true := by
  unfold laws_FnExactSize.f
  have et := toMod_ev l0 l1 l2 l3 l4 h0 h1 h2 h3 h4
  obtain ⟨s, hs, hi⟩ := same_Size l0 (l1.map cvImp) (l2.map cvExp) (l3.map cvStmt) (l4.map cvExpr)
  refine Ev_call e ?_
  simp only [if_neg ht]
  refine Ev_call et ?_
  simp only [hs, Option.bind_some]
  refine Ev_call et ?_
  simp only [hi, Option.bind_some, if_true]
  have q := eqMod_ev l0 (l1.map cvImp) (l2.map cvExp) (l3.map cvStmt) (l4.map cvExpr) h0 (by rw [List.length_map]; exact h1) (by rw [List.length_map]; exact h2) (by rw [List.length_map]; exact h3) (by rw [List.length_map]; exact h4)
  refine Ev_call et (Ev_call q ?_)
  simp only [if_true]
  exact Ev.now _
theorem Size_over (l0 : List ByteArray) (l1 : List S85) (l2 : List S88) (l3 : List S91) (l4 : List S94) (t : Int) (ht : t < 0)
    (e : Ev (fun k => laws_szMod.f k l0 l1 l2 l3 l4 1048576) t) : Ev (fun k => laws_FnExactSize.f k l0 l1 l2 l3 l4) true := by
  unfold laws_FnExactSize.f
  refine Ev_call e ?_
  simp only [if_pos ht]
  exact Ev.now _
theorem FnExactSize : laws_FnExactSize.Say := by
  intro l0 l1 l2 l3 l4 h0 h1 h2 h3 h4
  simp only [maxLen] at h0 h1 h2 h3 h4
  apply Ev.rounds
  obtain ⟨t, e, hf⟩ := szMod_ev l0 l1 l2 l3 l4 h0 h1 ⟨h2.1, fun x hx => (h2.2 x hx).2⟩ ⟨h3.1, fun x hx => (h3.2 x hx).2.1⟩ ⟨h4.1, fun x hx => ⟨(h4.2 x hx).2.2.1, (h4.2 x hx).2.2.2.1⟩⟩ 1048576 (by omega) (by omega)
  by_cases hn : t < 0
  · exact Size_over l0 l1 l2 l3 l4 t hn e
  obtain ⟨_, ⟨g0, _⟩, ⟨g1, _⟩, ⟨g2, _⟩, ⟨g3, _⟩, ⟨g4, _⟩⟩ := hf (by omega)
  exact Size_good l0 l1 l2 l3 l4 (by omega) (by omega) (by omega) (by omega) (by omega) t hn e

end Go.Proofs.Ytpomlknkfedekaa.Pure

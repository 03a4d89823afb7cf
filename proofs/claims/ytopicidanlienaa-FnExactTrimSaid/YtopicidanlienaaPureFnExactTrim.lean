import Derived.Test.YtopicidanlienaaSayFnExactTrim
import Derived.Test.YtopicidanlienaaRiseL
import Derived.Test.YtopicidanlienaaKit
/- FnExactTrim: both take the imports that nobody uses out of a program, and answer alike; for every program. -/
namespace Go.Proofs.Ytopicidanlienaa.Pure
open Go.RowKit Go.Proofs.Ytopicidanlienaa.PFnExactTrim Go.Proofs.YtopicidanlienaaW.PrintWords Go.Proofs.YtopicidanlienaaW.PrintLast Go.Proofs.YtopicidanlienaaW.PrintMore Go.Proofs.Ytopicidanlienaa.Kit
set_option linter.unusedSimpArgs false
set_option linter.unusedVariables false

theorem szStringS_loop (l : List ByteArray) (hs : ∀ x ∈ l, x.size ≤ 9223372036854775807) (hl : l.length ≤ 1048576) (d : Nat) : ∀ (i : Nat) (left : Int), i + d = l.length → 0 ≤ left → left ≤ 1048576 →
  ∃ t, Ev (fun k => laws_szStringS.l0 k l left i) t ∧ t ≤ left ∧ -1 ≤ t ∧ (0 ≤ t → ∀ j, i ≤ j → j < l.length → ((l.getD j ByteArray.empty).size : Int) ≤ left) := by
 induction d with
 | zero =>
  intro i left hi h0 h1
  refine ⟨left, Ev_succ ?_, by omega, by omega, fun _ j hj hj2 => absurd hj2 (by omega)⟩
  simp (disch := omega) only [laws_szStringS.l0, if_neg]; exact Ev.now _
 | succ d ih =>
  intro i left hi h0 h1
  have hx := hs (l.getD i ByteArray.empty) (by rw [getD_at l _ i (by omega)]; exact List.getElem_mem _)
  by_cases hn : left - (l.getD i ByteArray.empty).size < 0
  ·refine ⟨-1, Ev_succ ?_, by omega, by omega, fun h => absurd h (by omega)⟩
   simp (disch := omega) only [laws_szStringS.l0, if_pos, rdOf, Int.toNat_natCast, w64]; exact Ev.now _
  ·obtain ⟨t2, e2, h2, h3, hf2⟩ := ih (i + 1) (left - (l.getD i ByteArray.empty).size) (by omega) (by omega) (by omega)
   refine ⟨t2, Ev_succ ?_, by omega, h3, fun h j hj hj2 => ?_⟩
   ·simp (disch := omega) only [laws_szStringS.l0, if_pos, if_neg, rdOf, Int.toNat_natCast, w64]; exact e2
   ·rcases Nat.eq_or_lt_of_le hj with hj | hj
    ·subst hj; omega
    ·have := hf2 h j hj hj2
     omega
theorem szStringS_ev (l : List ByteArray) (hl : l.length ≤ 9223372036854775807) (hs : ∀ x ∈ l, x.size ≤ 9223372036854775807) (left : Int) (h0 : 0 ≤ left) (h1 : left ≤ 1048576) :
  ∃ t, Ev (fun k => laws_szStringS.f k l left) t ∧ t ≤ left ∧ -1 ≤ t ∧ (0 ≤ t → (l.length : Int) ≤ left ∧ ∀ x ∈ l, (x.size : Int) ≤ left) := by
 by_cases c0 : left - l.length < 0
 ·refine ⟨-1, ?_, by omega, by omega, fun h => absurd h (by omega)⟩
  simp (disch := omega) only [laws_szStringS.f, w64, if_pos]; exact Ev.now _
 ·obtain ⟨t, e, h2, h3, hf⟩ := szStringS_loop l hs (by omega) l.length 0 (left - l.length) (by omega) (by omega) (by omega)
  refine ⟨t, ?_, by omega, h3, fun h => ⟨by omega, fun x hx => ?_⟩⟩
  ·simp (disch := omega) only [laws_szStringS.f, w64, if_neg]; exact e
  ·obtain ⟨j, hj, rfl⟩ := List.mem_iff_getElem.1 hx
   have := hf h j (by omega) hj
   rw [getD_at l _ j hj] at this
   omega
theorem szImp_some (b0 : ByteArray) (b1 : ByteArray) (b2 : ByteArray) (left : Int) (h0 : 0 ≤ left) (h1 : left ≤ 1048576) (hb0 : b0.size ≤ 9223372036854775807) (hb1 : b1.size ≤ 9223372036854775807) (hb2 : b2.size ≤ 9223372036854775807) :
  ∃ t, laws_szImp.f b0 b1 b2 left = some t ∧ t ≤ left ∧ -1 ≤ t ∧ (0 ≤ t → (b0.size : Int) ≤ left ∧ (b1.size : Int) ≤ left ∧ (b2.size : Int) ≤ left) := by
 by_cases c0 : left - b0.size < 0
 ·exact ⟨-1, by simp (disch := omega) only [laws_szImp.f, w64, if_pos, if_neg], by omega, by omega, fun h => absurd h (by omega)⟩
 by_cases c1 : left - b0.size - b1.size < 0
 ·exact ⟨-1, by simp (disch := omega) only [laws_szImp.f, w64, if_pos, if_neg], by omega, by omega, fun h => absurd h (by omega)⟩
 by_cases c2 : left - b0.size - b1.size - b2.size < 0
 ·exact ⟨-1, by simp (disch := omega) only [laws_szImp.f, w64, if_pos, if_neg], by omega, by omega, fun h => absurd h (by omega)⟩
 exact ⟨left - b0.size - b1.size - b2.size, by simp (disch := omega) only [laws_szImp.f, w64, if_neg], by omega, by omega, fun _ => ⟨by omega, by omega, by omega⟩⟩
theorem szImpS_loop (l : List S77) (hs : ∀ x ∈ l, x.f0.size ≤ 9223372036854775807 ∧ x.f1.size ≤ 9223372036854775807 ∧ x.f2.size ≤ 9223372036854775807) (hl : l.length ≤ 1048576) (d : Nat) : ∀ (i : Nat) (left : Int), i + d = l.length → 0 ≤ left → left ≤ 1048576 →
  ∃ t, Ev (fun k => laws_szImpS.l0 k l left i) t ∧ t ≤ left ∧ -1 ≤ t ∧ (0 ≤ t → ∀ j, i ≤ j → j < l.length → ((l.getD j z77).f0.size : Int) ≤ left ∧ ((l.getD j z77).f1.size : Int) ≤ left ∧ ((l.getD j z77).f2.size : Int) ≤ left) := by
 induction d with
 | zero =>
  intro i left hi h0 h1
  refine ⟨left, Ev_succ ?_, by omega, by omega, fun _ j hj hj2 => absurd hj2 (by omega)⟩
  simp (disch := omega) only [laws_szImpS.l0, if_neg]; exact Ev.now _
 | succ d ih =>
  intro i left hi h0 h1
  have hx := hs (l.getD i z77) (by rw [getD_at l _ i (by omega)]; exact List.getElem_mem _)
  obtain ⟨t, e, ht, ht1, hf⟩ := szImp_some (l.getD i z77).f0 (l.getD i z77).f1 (l.getD i z77).f2 left h0 h1 hx.1 hx.2.1 hx.2.2
  by_cases hn : t < 0
  ·refine ⟨-1, Ev_succ ?_, by omega, by omega, fun h => absurd h (by omega)⟩
   simp (disch := omega) only [laws_szImpS.l0, if_pos, rd_T77, Int.toNat_natCast, e, Option.bind_some]; exact Ev.now _
  ·obtain ⟨t2, e2, h2, h3, hf2⟩ := ih (i + 1) t (by omega) (by omega) (by omega)
   refine ⟨t2, Ev_succ ?_, by omega, h3, fun h j hj hj2 => ?_⟩
   ·simp (disch := omega) only [laws_szImpS.l0, if_pos, if_neg, rd_T77, Int.toNat_natCast, e, Option.bind_some, w64]; exact e2
   ·rcases Nat.eq_or_lt_of_le hj with hj | hj
    ·subst hj; exact hf (by omega)
    ·have := hf2 h j hj hj2
     exact ⟨by omega, by omega, by omega⟩
theorem szImpS_ev (l : List S77) (hl : l.length ≤ 9223372036854775807) (hs : ∀ x ∈ l, x.f0.size ≤ 9223372036854775807 ∧ x.f1.size ≤ 9223372036854775807 ∧ x.f2.size ≤ 9223372036854775807) (left : Int) (h0 : 0 ≤ left) (h1 : left ≤ 1048576) :
  ∃ t, Ev (fun k => laws_szImpS.f k l left) t ∧ t ≤ left ∧ -1 ≤ t ∧ (0 ≤ t → (l.length : Int) ≤ left ∧ ∀ x ∈ l, (x.f0.size : Int) ≤ left ∧ (x.f1.size : Int) ≤ left ∧ (x.f2.size : Int) ≤ left) := by
 by_cases c0 : left - l.length < 0
 ·refine ⟨-1, ?_, by omega, by omega, fun h => absurd h (by omega)⟩
  simp (disch := omega) only [laws_szImpS.f, w64, if_pos]; exact Ev.now _
 ·obtain ⟨t, e, h2, h3, hf⟩ := szImpS_loop l hs (by omega) l.length 0 (left - l.length) (by omega) (by omega) (by omega)
  refine ⟨t, ?_, by omega, h3, fun h => ⟨by omega, fun x hx => ?_⟩⟩
  ·simp (disch := omega) only [laws_szImpS.f, w64, if_neg]; exact e
  ·obtain ⟨j, hj, rfl⟩ := List.mem_iff_getElem.1 hx
   have := hf h j (by omega) hj
   rw [getD_at l _ j hj] at this
   exact ⟨by omega, by omega, by omega⟩
theorem szExp_some (b0 : Int) (b1 : ByteArray) (b2 : ByteArray) (b3 : ByteArray) (left : Int) (h0 : 0 ≤ left) (h1 : left ≤ 1048576) (hb1 : b1.size ≤ 9223372036854775807) (hb2 : b2.size ≤ 9223372036854775807) (hb3 : b3.size ≤ 9223372036854775807) :
  ∃ t, laws_szExp.f b0 b1 b2 b3 left = some t ∧ t ≤ left ∧ -1 ≤ t ∧ (0 ≤ t → (b1.size : Int) ≤ left ∧ (b2.size : Int) ≤ left ∧ (b3.size : Int) ≤ left) := by
 by_cases c0 : left - b1.size < 0
 ·exact ⟨-1, by simp (disch := omega) only [laws_szExp.f, w64, if_pos, if_neg], by omega, by omega, fun h => absurd h (by omega)⟩
 by_cases c1 : left - b1.size - b2.size < 0
 ·exact ⟨-1, by simp (disch := omega) only [laws_szExp.f, w64, if_pos, if_neg], by omega, by omega, fun h => absurd h (by omega)⟩
 by_cases c2 : left - b1.size - b2.size - b3.size < 0
 ·exact ⟨-1, by simp (disch := omega) only [laws_szExp.f, w64, if_pos, if_neg], by omega, by omega, fun h => absurd h (by omega)⟩
 exact ⟨left - b1.size - b2.size - b3.size, by simp (disch := omega) only [laws_szExp.f, w64, if_neg], by omega, by omega, fun _ => ⟨by omega, by omega, by omega⟩⟩
theorem szExpS_loop (l : List S79) (hs : ∀ x ∈ l, x.f1.size ≤ 9223372036854775807 ∧ x.f2.size ≤ 9223372036854775807 ∧ x.f3.size ≤ 9223372036854775807) (hl : l.length ≤ 1048576) (d : Nat) : ∀ (i : Nat) (left : Int), i + d = l.length → 0 ≤ left → left ≤ 1048576 →
  ∃ t, Ev (fun k => laws_szExpS.l0 k l left i) t ∧ t ≤ left ∧ -1 ≤ t ∧ (0 ≤ t → ∀ j, i ≤ j → j < l.length → ((l.getD j z79).f1.size : Int) ≤ left ∧ ((l.getD j z79).f2.size : Int) ≤ left ∧ ((l.getD j z79).f3.size : Int) ≤ left) := by
 induction d with
 | zero =>
  intro i left hi h0 h1
  refine ⟨left, Ev_succ ?_, by omega, by omega, fun _ j hj hj2 => absurd hj2 (by omega)⟩
  simp (disch := omega) only [laws_szExpS.l0, if_neg]; exact Ev.now _
 | succ d ih =>
  intro i left hi h0 h1
  have hx := hs (l.getD i z79) (by rw [getD_at l _ i (by omega)]; exact List.getElem_mem _)
  obtain ⟨t, e, ht, ht1, hf⟩ := szExp_some (l.getD i z79).f0 (l.getD i z79).f1 (l.getD i z79).f2 (l.getD i z79).f3 left h0 h1 hx.1 hx.2.1 hx.2.2
  by_cases hn : t < 0
  ·refine ⟨-1, Ev_succ ?_, by omega, by omega, fun h => absurd h (by omega)⟩
   simp (disch := omega) only [laws_szExpS.l0, if_pos, rd_T79, Int.toNat_natCast, e, Option.bind_some]; exact Ev.now _
  ·obtain ⟨t2, e2, h2, h3, hf2⟩ := ih (i + 1) t (by omega) (by omega) (by omega)
   refine ⟨t2, Ev_succ ?_, by omega, h3, fun h j hj hj2 => ?_⟩
   ·simp (disch := omega) only [laws_szExpS.l0, if_pos, if_neg, rd_T79, Int.toNat_natCast, e, Option.bind_some, w64]; exact e2
   ·rcases Nat.eq_or_lt_of_le hj with hj | hj
    ·subst hj; exact hf (by omega)
    ·have := hf2 h j hj hj2
     exact ⟨by omega, by omega, by omega⟩
theorem szExpS_ev (l : List S79) (hl : l.length ≤ 9223372036854775807) (hs : ∀ x ∈ l, x.f1.size ≤ 9223372036854775807 ∧ x.f2.size ≤ 9223372036854775807 ∧ x.f3.size ≤ 9223372036854775807) (left : Int) (h0 : 0 ≤ left) (h1 : left ≤ 1048576) :
  ∃ t, Ev (fun k => laws_szExpS.f k l left) t ∧ t ≤ left ∧ -1 ≤ t ∧ (0 ≤ t → (l.length : Int) ≤ left ∧ ∀ x ∈ l, (x.f1.size : Int) ≤ left ∧ (x.f2.size : Int) ≤ left ∧ (x.f3.size : Int) ≤ left) := by
 by_cases c0 : left - l.length < 0
 ·refine ⟨-1, ?_, by omega, by omega, fun h => absurd h (by omega)⟩
  simp (disch := omega) only [laws_szExpS.f, w64, if_pos]; exact Ev.now _
 ·obtain ⟨t, e, h2, h3, hf⟩ := szExpS_loop l hs (by omega) l.length 0 (left - l.length) (by omega) (by omega) (by omega)
  refine ⟨t, ?_, by omega, h3, fun h => ⟨by omega, fun x hx => ?_⟩⟩
  ·simp (disch := omega) only [laws_szExpS.f, w64, if_neg]; exact e
  ·obtain ⟨j, hj, rfl⟩ := List.mem_iff_getElem.1 hx
   have := hf h j (by omega) hj
   rw [getD_at l _ j hj] at this
   exact ⟨by omega, by omega, by omega⟩
theorem szStmt_some (b0 : Int) (b1 : ByteArray) (b2 : Int) (left : Int) (h0 : 0 ≤ left) (h1 : left ≤ 1048576) (hb1 : b1.size ≤ 9223372036854775807) :
  ∃ t, laws_szStmt.f b0 b1 b2 left = some t ∧ t ≤ left ∧ -1 ≤ t ∧ (0 ≤ t → (b1.size : Int) ≤ left) := by
 by_cases c0 : left - b1.size < 0
 ·exact ⟨-1, by simp (disch := omega) only [laws_szStmt.f, w64, if_pos, if_neg], by omega, by omega, fun h => absurd h (by omega)⟩
 exact ⟨left - b1.size, by simp (disch := omega) only [laws_szStmt.f, w64, if_neg], by omega, by omega, fun _ => by omega⟩
theorem szStmtS_loop (l : List S81) (hs : ∀ x ∈ l, x.f1.size ≤ 9223372036854775807) (hl : l.length ≤ 1048576) (d : Nat) : ∀ (i : Nat) (left : Int), i + d = l.length → 0 ≤ left → left ≤ 1048576 →
  ∃ t, Ev (fun k => laws_szStmtS.l0 k l left i) t ∧ t ≤ left ∧ -1 ≤ t ∧ (0 ≤ t → ∀ j, i ≤ j → j < l.length → ((l.getD j z81).f1.size : Int) ≤ left) := by
 induction d with
 | zero =>
  intro i left hi h0 h1
  refine ⟨left, Ev_succ ?_, by omega, by omega, fun _ j hj hj2 => absurd hj2 (by omega)⟩
  simp (disch := omega) only [laws_szStmtS.l0, if_neg]; exact Ev.now _
 | succ d ih =>
  intro i left hi h0 h1
  have hx := hs (l.getD i z81) (by rw [getD_at l _ i (by omega)]; exact List.getElem_mem _)
  obtain ⟨t, e, ht, ht1, hf⟩ := szStmt_some (l.getD i z81).f0 (l.getD i z81).f1 (l.getD i z81).f2 left h0 h1 hx
  by_cases hn : t < 0
  ·refine ⟨-1, Ev_succ ?_, by omega, by omega, fun h => absurd h (by omega)⟩
   simp (disch := omega) only [laws_szStmtS.l0, if_pos, rd_T81, Int.toNat_natCast, e, Option.bind_some]; exact Ev.now _
  ·obtain ⟨t2, e2, h2, h3, hf2⟩ := ih (i + 1) t (by omega) (by omega) (by omega)
   refine ⟨t2, Ev_succ ?_, by omega, h3, fun h j hj hj2 => ?_⟩
   ·simp (disch := omega) only [laws_szStmtS.l0, if_pos, if_neg, rd_T81, Int.toNat_natCast, e, Option.bind_some, w64]; exact e2
   ·rcases Nat.eq_or_lt_of_le hj with hj | hj
    ·subst hj; exact hf (by omega)
    ·have := hf2 h j hj hj2
     omega
theorem szStmtS_ev (l : List S81) (hl : l.length ≤ 9223372036854775807) (hs : ∀ x ∈ l, x.f1.size ≤ 9223372036854775807) (left : Int) (h0 : 0 ≤ left) (h1 : left ≤ 1048576) :
  ∃ t, Ev (fun k => laws_szStmtS.f k l left) t ∧ t ≤ left ∧ -1 ≤ t ∧ (0 ≤ t → (l.length : Int) ≤ left ∧ ∀ x ∈ l, (x.f1.size : Int) ≤ left) := by
 by_cases c0 : left - l.length < 0
 ·refine ⟨-1, ?_, by omega, by omega, fun h => absurd h (by omega)⟩
  simp (disch := omega) only [laws_szStmtS.f, w64, if_pos]; exact Ev.now _
 ·obtain ⟨t, e, h2, h3, hf⟩ := szStmtS_loop l hs (by omega) l.length 0 (left - l.length) (by omega) (by omega) (by omega)
  refine ⟨t, ?_, by omega, h3, fun h => ⟨by omega, fun x hx => ?_⟩⟩
  ·simp (disch := omega) only [laws_szStmtS.f, w64, if_neg]; exact e
  ·obtain ⟨j, hj, rfl⟩ := List.mem_iff_getElem.1 hx
   have := hf h j (by omega) hj
   rw [getD_at l _ j hj] at this
   omega
theorem szExpr_some (b0 : Int) (b1 : Int) (b2 : ByteArray) (b3 : ByteArray) (b4 : Int) (b5 : Int) (left : Int) (h0 : 0 ≤ left) (h1 : left ≤ 1048576) (hb2 : b2.size ≤ 9223372036854775807) (hb3 : b3.size ≤ 9223372036854775807) :
  ∃ t, laws_szExpr.f b0 b1 b2 b3 b4 b5 left = some t ∧ t ≤ left ∧ -1 ≤ t ∧ (0 ≤ t → (b2.size : Int) ≤ left ∧ (b3.size : Int) ≤ left) := by
 by_cases c0 : left - b2.size < 0
 ·exact ⟨-1, by simp (disch := omega) only [laws_szExpr.f, w64, if_pos, if_neg], by omega, by omega, fun h => absurd h (by omega)⟩
 by_cases c1 : left - b2.size - b3.size < 0
 ·exact ⟨-1, by simp (disch := omega) only [laws_szExpr.f, w64, if_pos, if_neg], by omega, by omega, fun h => absurd h (by omega)⟩
 exact ⟨left - b2.size - b3.size, by simp (disch := omega) only [laws_szExpr.f, w64, if_neg], by omega, by omega, fun _ => ⟨by omega, by omega⟩⟩
theorem szExprS_loop (l : List S83) (hs : ∀ x ∈ l, x.f2.size ≤ 9223372036854775807 ∧ x.f3.size ≤ 9223372036854775807) (hl : l.length ≤ 1048576) (d : Nat) : ∀ (i : Nat) (left : Int), i + d = l.length → 0 ≤ left → left ≤ 1048576 →
  ∃ t, Ev (fun k => laws_szExprS.l0 k l left i) t ∧ t ≤ left ∧ -1 ≤ t ∧ (0 ≤ t → ∀ j, i ≤ j → j < l.length → ((l.getD j z83).f2.size : Int) ≤ left ∧ ((l.getD j z83).f3.size : Int) ≤ left) := by
 induction d with
 | zero =>
  intro i left hi h0 h1
  refine ⟨left, Ev_succ ?_, by omega, by omega, fun _ j hj hj2 => absurd hj2 (by omega)⟩
  simp (disch := omega) only [laws_szExprS.l0, if_neg]; exact Ev.now _
 | succ d ih =>
  intro i left hi h0 h1
  have hx := hs (l.getD i z83) (by rw [getD_at l _ i (by omega)]; exact List.getElem_mem _)
  obtain ⟨t, e, ht, ht1, hf⟩ := szExpr_some (l.getD i z83).f0 (l.getD i z83).f1 (l.getD i z83).f2 (l.getD i z83).f3 (l.getD i z83).f4 (l.getD i z83).f5 left h0 h1 hx.1 hx.2
  by_cases hn : t < 0
  ·refine ⟨-1, Ev_succ ?_, by omega, by omega, fun h => absurd h (by omega)⟩
   simp (disch := omega) only [laws_szExprS.l0, if_pos, rd_T83, Int.toNat_natCast, e, Option.bind_some]; exact Ev.now _
  ·obtain ⟨t2, e2, h2, h3, hf2⟩ := ih (i + 1) t (by omega) (by omega) (by omega)
   refine ⟨t2, Ev_succ ?_, by omega, h3, fun h j hj hj2 => ?_⟩
   ·simp (disch := omega) only [laws_szExprS.l0, if_pos, if_neg, rd_T83, Int.toNat_natCast, e, Option.bind_some, w64]; exact e2
   ·rcases Nat.eq_or_lt_of_le hj with hj | hj
    ·subst hj; exact hf (by omega)
    ·have := hf2 h j hj hj2
     exact ⟨by omega, by omega⟩
theorem szExprS_ev (l : List S83) (hl : l.length ≤ 9223372036854775807) (hs : ∀ x ∈ l, x.f2.size ≤ 9223372036854775807 ∧ x.f3.size ≤ 9223372036854775807) (left : Int) (h0 : 0 ≤ left) (h1 : left ≤ 1048576) :
  ∃ t, Ev (fun k => laws_szExprS.f k l left) t ∧ t ≤ left ∧ -1 ≤ t ∧ (0 ≤ t → (l.length : Int) ≤ left ∧ ∀ x ∈ l, (x.f2.size : Int) ≤ left ∧ (x.f3.size : Int) ≤ left) := by
 by_cases c0 : left - l.length < 0
 ·refine ⟨-1, ?_, by omega, by omega, fun h => absurd h (by omega)⟩
  simp (disch := omega) only [laws_szExprS.f, w64, if_pos]; exact Ev.now _
 ·obtain ⟨t, e, h2, h3, hf⟩ := szExprS_loop l hs (by omega) l.length 0 (left - l.length) (by omega) (by omega) (by omega)
  refine ⟨t, ?_, by omega, h3, fun h => ⟨by omega, fun x hx => ?_⟩⟩
  ·simp (disch := omega) only [laws_szExprS.f, w64, if_neg]; exact e
  ·obtain ⟨j, hj, rfl⟩ := List.mem_iff_getElem.1 hx
   have := hf h j (by omega) hj
   rw [getD_at l _ j hj] at this
   exact ⟨by omega, by omega⟩
theorem toStringS_loop (l : List ByteArray) (hl : l.length ≤ 1048576) (d : Nat) : ∀ i : Nat, i + d = l.length → Ev (fun k => laws_toStringS.l0 k l ((l.take i).map (fun x => x) ++ List.replicate d (⟨#[]⟩ : ByteArray)) i) (l.map (fun x => x)) := by
 induction d with
 | zero =>
  intro i hi
  refine Ev_succ ?_
  simp (disch := omega) only [laws_toStringS.l0, if_neg]
  exact Ev_some (fill_done l (fun x => x) (⟨#[]⟩ : ByteArray) i (by omega))
 | succ d ih =>
  intro i hi
  have e := set_step l (fun x => x) (⟨#[]⟩ : ByteArray) ByteArray.empty i d hi
  have e2 := ih (i + 1) (by omega)
  rw [← e] at e2
  refine Ev_succ ?_
  simp (disch := (first | omega | (simp only [List.length_append, List.length_map, List.length_take, List.length_replicate]; omega))) only [laws_toStringS.l0, if_pos, rdOf, Int.toNat_natCast, w64]
  exact e2
theorem toStringS_ev (l : List ByteArray) (hl : l.length ≤ 1048576) : Ev (fun k => laws_toStringS.f k l) (l) := by
 have e := toStringS_loop l hl l.length 0 (by omega)
 simp only [List.take_zero, List.map_nil, List.nil_append] at e
 simp (disch := (first | omega | (simp only [Int.toNat_natCast]; omega))) only [laws_toStringS.f, if_pos, Int.toNat_natCast]
 simp only [List.map_id'] at e
 exact e
def cvImp (x : S77) : S73 := ⟨x.f0, x.f1, x.f2⟩
theorem toImpS_loop (l : List S77) (hl : l.length ≤ 1048576) (d : Nat) : ∀ i : Nat, i + d = l.length → Ev (fun k => laws_toImpS.l0 k l ((l.take i).map cvImp ++ List.replicate d z73) i) (l.map cvImp) := by
 induction d with
 | zero =>
  intro i hi
  refine Ev_succ ?_
  simp (disch := omega) only [laws_toImpS.l0, if_neg]
  exact Ev_some (fill_done l cvImp z73 i (by omega))
 | succ d ih =>
  intro i hi
  have e := set_step l cvImp z73 z77 i d hi
  have e2 := ih (i + 1) (by omega)
  rw [← e] at e2
  refine Ev_succ ?_
  simp (disch := (first | omega | (simp only [List.length_append, List.length_map, List.length_take, List.length_replicate]; omega))) only [laws_toImpS.l0, if_pos, rd_T77, laws_toImp.f, Option.bind_some, Int.toNat_natCast, w64]
  exact e2
theorem toImpS_ev (l : List S77) (hl : l.length ≤ 1048576) : Ev (fun k => laws_toImpS.f k l) (l.map cvImp) := by
 have e := toImpS_loop l hl l.length 0 (by omega)
 simp only [List.take_zero, List.map_nil, List.nil_append] at e
 simp (disch := (first | omega | (simp only [Int.toNat_natCast]; omega))) only [laws_toImpS.f, if_pos, Int.toNat_natCast]
 exact e
def cvExp (x : S79) : S55 := ⟨x.f0, x.f1, x.f2, x.f3⟩
theorem toExpS_loop (l : List S79) (hl : l.length ≤ 1048576) (d : Nat) : ∀ i : Nat, i + d = l.length → Ev (fun k => laws_toExpS.l0 k l ((l.take i).map cvExp ++ List.replicate d z55) i) (l.map cvExp) := by
 induction d with
 | zero =>
  intro i hi
  refine Ev_succ ?_
  simp (disch := omega) only [laws_toExpS.l0, if_neg]
  exact Ev_some (fill_done l cvExp z55 i (by omega))
 | succ d ih =>
  intro i hi
  have e := set_step l cvExp z55 z79 i d hi
  have e2 := ih (i + 1) (by omega)
  rw [← e] at e2
  refine Ev_succ ?_
  simp (disch := (first | omega | (simp only [List.length_append, List.length_map, List.length_take, List.length_replicate]; omega))) only [laws_toExpS.l0, if_pos, rd_T79, laws_toExp.f, Option.bind_some, Int.toNat_natCast, w64]
  exact e2
theorem toExpS_ev (l : List S79) (hl : l.length ≤ 1048576) : Ev (fun k => laws_toExpS.f k l) (l.map cvExp) := by
 have e := toExpS_loop l hl l.length 0 (by omega)
 simp only [List.take_zero, List.map_nil, List.nil_append] at e
 simp (disch := (first | omega | (simp only [Int.toNat_natCast]; omega))) only [laws_toExpS.f, if_pos, Int.toNat_natCast]
 exact e
def cvStmt (x : S81) : S53 := ⟨x.f0, x.f1, x.f2⟩
theorem toStmtS_loop (l : List S81) (hl : l.length ≤ 1048576) (d : Nat) : ∀ i : Nat, i + d = l.length → Ev (fun k => laws_toStmtS.l0 k l ((l.take i).map cvStmt ++ List.replicate d z53) i) (l.map cvStmt) := by
 induction d with
 | zero =>
  intro i hi
  refine Ev_succ ?_
  simp (disch := omega) only [laws_toStmtS.l0, if_neg]
  exact Ev_some (fill_done l cvStmt z53 i (by omega))
 | succ d ih =>
  intro i hi
  have e := set_step l cvStmt z53 z81 i d hi
  have e2 := ih (i + 1) (by omega)
  rw [← e] at e2
  refine Ev_succ ?_
  simp (disch := (first | omega | (simp only [List.length_append, List.length_map, List.length_take, List.length_replicate]; omega))) only [laws_toStmtS.l0, if_pos, rd_T81, laws_toStmt.f, Option.bind_some, Int.toNat_natCast, w64]
  exact e2
theorem toStmtS_ev (l : List S81) (hl : l.length ≤ 1048576) : Ev (fun k => laws_toStmtS.f k l) (l.map cvStmt) := by
 have e := toStmtS_loop l hl l.length 0 (by omega)
 simp only [List.take_zero, List.map_nil, List.nil_append] at e
 simp (disch := (first | omega | (simp only [Int.toNat_natCast]; omega))) only [laws_toStmtS.f, if_pos, Int.toNat_natCast]
 exact e
def cvExpr (x : S83) : S50 := ⟨x.f0, x.f1, x.f2, x.f3, x.f4, x.f5⟩
theorem toExprS_loop (l : List S83) (hl : l.length ≤ 1048576) (d : Nat) : ∀ i : Nat, i + d = l.length → Ev (fun k => laws_toExprS.l0 k l ((l.take i).map cvExpr ++ List.replicate d z50) i) (l.map cvExpr) := by
 induction d with
 | zero =>
  intro i hi
  refine Ev_succ ?_
  simp (disch := omega) only [laws_toExprS.l0, if_neg]
  exact Ev_some (fill_done l cvExpr z50 i (by omega))
 | succ d ih =>
  intro i hi
  have e := set_step l cvExpr z50 z83 i d hi
  have e2 := ih (i + 1) (by omega)
  rw [← e] at e2
  refine Ev_succ ?_
  simp (disch := (first | omega | (simp only [List.length_append, List.length_map, List.length_take, List.length_replicate]; omega))) only [laws_toExprS.l0, if_pos, rd_T83, laws_toExpr.f, Option.bind_some, Int.toNat_natCast, w64]
  exact e2
theorem toExprS_ev (l : List S83) (hl : l.length ≤ 1048576) : Ev (fun k => laws_toExprS.f k l) (l.map cvExpr) := by
 have e := toExprS_loop l hl l.length 0 (by omega)
 simp only [List.take_zero, List.map_nil, List.nil_append] at e
 simp (disch := (first | omega | (simp only [Int.toNat_natCast]; omega))) only [laws_toExprS.f, if_pos, Int.toNat_natCast]
 exact e
theorem eqStringS_loop (l : List ByteArray) (hl : l.length ≤ 4194304) (d : Nat) : ∀ i : Nat, i + d = l.length → Ev (fun k => laws_eqStringS.l0 k l l i) true := by
 induction d with
 | zero =>
  intro i hi
  refine Ev_succ ?_
  simp (disch := omega) only [laws_eqStringS.l0, if_neg]; exact Ev.now _
 | succ d ih =>
  intro i hi
  have e := ih (i + 1) (by omega)
  refine Ev_succ ?_
  simp (disch := omega) only [laws_eqStringS.l0, if_pos, if_true, w64]
  exact e
theorem eqStringS_ev (l : List ByteArray) (hl : l.length ≤ 4194304) : Ev (fun k => laws_eqStringS.f k l l) true := by
 have e := eqStringS_loop l hl l.length 0 (by omega)
 simp only [laws_eqStringS.f, if_true]
 exact e
theorem eqImpS_loop (l : List S73) (hl : l.length ≤ 1048576) (d : Nat) : ∀ i : Nat, i + d = l.length → Ev (fun k => laws_eqImpS.l0 k l l i) true := by
 induction d with
 | zero =>
  intro i hi
  refine Ev_succ ?_
  simp (disch := omega) only [laws_eqImpS.l0, if_neg]; exact Ev.now _
 | succ d ih =>
  intro i hi
  have e := ih (i + 1) (by omega)
  refine Ev_succ ?_
  simp (disch := omega) only [laws_eqImpS.l0, if_pos, if_true, laws_eqImp.f, Option.bind_some, w64]
  exact e
theorem eqImpS_ev (l : List S73) (hl : l.length ≤ 1048576) : Ev (fun k => laws_eqImpS.f k l l) true := by
 have e := eqImpS_loop l hl l.length 0 (by omega)
 simp only [laws_eqImpS.f, if_true]
 exact e
theorem eqExpS_loop (l : List S55) (hl : l.length ≤ 1048576) (d : Nat) : ∀ i : Nat, i + d = l.length → Ev (fun k => laws_eqExpS.l0 k l l i) true := by
 induction d with
 | zero =>
  intro i hi
  refine Ev_succ ?_
  simp (disch := omega) only [laws_eqExpS.l0, if_neg]; exact Ev.now _
 | succ d ih =>
  intro i hi
  have e := ih (i + 1) (by omega)
  refine Ev_succ ?_
  simp (disch := omega) only [laws_eqExpS.l0, if_pos, if_true, laws_eqExp.f, Option.bind_some, w64]
  exact e
theorem eqExpS_ev (l : List S55) (hl : l.length ≤ 1048576) : Ev (fun k => laws_eqExpS.f k l l) true := by
 have e := eqExpS_loop l hl l.length 0 (by omega)
 simp only [laws_eqExpS.f, if_true]
 exact e
theorem eqStmtS_loop (l : List S53) (hl : l.length ≤ 1048576) (d : Nat) : ∀ i : Nat, i + d = l.length → Ev (fun k => laws_eqStmtS.l0 k l l i) true := by
 induction d with
 | zero =>
  intro i hi
  refine Ev_succ ?_
  simp (disch := omega) only [laws_eqStmtS.l0, if_neg]; exact Ev.now _
 | succ d ih =>
  intro i hi
  have e := ih (i + 1) (by omega)
  refine Ev_succ ?_
  simp (disch := omega) only [laws_eqStmtS.l0, if_pos, if_true, laws_eqStmt.f, Option.bind_some, w64]
  exact e
theorem eqStmtS_ev (l : List S53) (hl : l.length ≤ 1048576) : Ev (fun k => laws_eqStmtS.f k l l) true := by
 have e := eqStmtS_loop l hl l.length 0 (by omega)
 simp only [laws_eqStmtS.f, if_true]
 exact e
theorem eqExprS_loop (l : List S50) (hl : l.length ≤ 1048576) (d : Nat) : ∀ i : Nat, i + d = l.length → Ev (fun k => laws_eqExprS.l0 k l l i) true := by
 induction d with
 | zero =>
  intro i hi
  refine Ev_succ ?_
  simp (disch := omega) only [laws_eqExprS.l0, if_neg]; exact Ev.now _
 | succ d ih =>
  intro i hi
  have e := ih (i + 1) (by omega)
  refine Ev_succ ?_
  simp (disch := omega) only [laws_eqExprS.l0, if_pos, if_true, laws_eqExpr.f, Option.bind_some, w64]
  exact e
theorem eqExprS_ev (l : List S50) (hl : l.length ≤ 1048576) : Ev (fun k => laws_eqExprS.f k l l) true := by
 have e := eqExprS_loop l hl l.length 0 (by omega)
 simp only [laws_eqExprS.f, if_true]
 exact e
theorem szMod_ev (l0 : List ByteArray) (l1 : List S77) (l2 : List S79) (l3 : List S81) (l4 : List S83)
  (h0 : l0.length ≤ 9223372036854775807 ∧ ∀ x ∈ l0, x.size ≤ 9223372036854775807)
  (h1 : l1.length ≤ 9223372036854775807 ∧ ∀ x ∈ l1, x.f0.size ≤ 9223372036854775807 ∧ x.f1.size ≤ 9223372036854775807 ∧ x.f2.size ≤ 9223372036854775807)
  (h2 : l2.length ≤ 9223372036854775807 ∧ ∀ x ∈ l2, x.f1.size ≤ 9223372036854775807 ∧ x.f2.size ≤ 9223372036854775807 ∧ x.f3.size ≤ 9223372036854775807)
  (h3 : l3.length ≤ 9223372036854775807 ∧ ∀ x ∈ l3, x.f1.size ≤ 9223372036854775807)
  (h4 : l4.length ≤ 9223372036854775807 ∧ ∀ x ∈ l4, x.f2.size ≤ 9223372036854775807 ∧ x.f3.size ≤ 9223372036854775807)
  (left : Int) (p0 : 0 ≤ left) (p1 : left ≤ 1048576) : ∃ t, Ev (fun k => laws_szMod.f k l0 l1 l2 l3 l4 left) t ∧ (0 ≤ t → t ≤ left ∧
   ((l0.length : Int) ≤ left ∧ ∀ x ∈ l0, (x.size : Int) ≤ left) ∧ ((l1.length : Int) ≤ left ∧ ∀ x ∈ l1, (x.f0.size : Int) ≤ left ∧ (x.f1.size : Int) ≤ left ∧ (x.f2.size : Int) ≤ left) ∧
   ((l2.length : Int) ≤ left ∧ ∀ x ∈ l2, (x.f1.size : Int) ≤ left ∧ (x.f2.size : Int) ≤ left ∧ (x.f3.size : Int) ≤ left) ∧ ((l3.length : Int) ≤ left ∧ ∀ x ∈ l3, (x.f1.size : Int) ≤ left) ∧
   ((l4.length : Int) ≤ left ∧ ∀ x ∈ l4, (x.f2.size : Int) ≤ left ∧ (x.f3.size : Int) ≤ left)) := by
 simp only [laws_szMod.f]
 obtain ⟨t0, e0, a0, b0, f0⟩ := szStringS_ev l0 h0.1 h0.2 left p0 p1
 by_cases n0 : t0 < 0
 ·exact ⟨-1, Ev_call e0 (by simp only [if_pos n0]; exact Ev.now _), fun h => absurd h (by omega)⟩
 obtain ⟨t1, e1, a1, b1, f1⟩ := szImpS_ev l1 h1.1 h1.2 t0 (by omega) (by omega)
 by_cases n1 : t1 < 0
 ·exact ⟨-1, Ev_call e0 (by simp only [if_neg n0]; exact Ev_call e1 (by simp only [if_pos n1]; exact Ev.now _)), fun h => absurd h (by omega)⟩
 obtain ⟨t2, e2, a2, b2, f2⟩ := szExpS_ev l2 h2.1 h2.2 t1 (by omega) (by omega)
 by_cases n2 : t2 < 0
 ·exact ⟨-1, Ev_call e0 (by simp only [if_neg n0]; exact Ev_call e1 (by simp only [if_neg n1]; exact Ev_call e2 (by simp only [if_pos n2]; exact Ev.now _))), fun h => absurd h (by omega)⟩
 obtain ⟨t3, e3, a3, b3, f3⟩ := szStmtS_ev l3 h3.1 h3.2 t2 (by omega) (by omega)
 by_cases n3 : t3 < 0
 ·exact ⟨-1, Ev_call e0 (by simp only [if_neg n0]; exact Ev_call e1 (by simp only [if_neg n1]; exact Ev_call e2 (by simp only [if_neg n2]; exact Ev_call e3 (by simp only [if_pos n3]; exact Ev.now _)))), fun h => absurd h (by omega)⟩
 obtain ⟨t4, e4, a4, b4, f4⟩ := szExprS_ev l4 h4.1 h4.2 t3 (by omega) (by omega)
 by_cases n4 : t4 < 0
 ·exact ⟨-1, Ev_call e0 (by simp only [if_neg n0]; exact Ev_call e1 (by simp only [if_neg n1]; exact Ev_call e2 (by simp only [if_neg n2]; exact Ev_call e3 (by simp only [if_neg n3]; exact Ev_call e4 (by simp only [if_pos n4]; exact Ev.now _))))), fun h => absurd h (by omega)⟩
 refine ⟨t4, Ev_call e0 (by simp only [if_neg n0]; exact Ev_call e1 (by simp only [if_neg n1]; exact Ev_call e2 (by simp only [if_neg n2]; exact Ev_call e3 (by simp only [if_neg n3]; exact Ev_call e4 (by simp only [if_neg n4]; exact Ev.now _))))), fun _ => ?_⟩
 obtain ⟨g0, g0'⟩ := f0 (by omega); obtain ⟨g1, g1'⟩ := f1 (by omega); obtain ⟨g2, g2'⟩ := f2 (by omega); obtain ⟨g3, g3'⟩ := f3 (by omega); obtain ⟨g4, g4'⟩ := f4 (by omega)
 refine ⟨by omega, ⟨by omega, fun x hx => g0' x hx⟩, ⟨by omega, fun x hx => ?_⟩, ⟨by omega, fun x hx => ?_⟩, ⟨by omega, fun x hx => ?_⟩, ⟨by omega, fun x hx => ?_⟩⟩
 ·have := g1' x hx; exact ⟨by omega, by omega, by omega⟩
 ·have := g2' x hx; exact ⟨by omega, by omega, by omega⟩
 ·have := g3' x hx; omega
 ·have := g4' x hx; exact ⟨by omega, by omega⟩
theorem toMod_ev (l0 : List ByteArray) (l1 : List S77) (l2 : List S79) (l3 : List S81) (l4 : List S83)
  (h0 : l0.length ≤ 1048576) (h1 : l1.length ≤ 1048576) (h2 : l2.length ≤ 1048576) (h3 : l3.length ≤ 1048576) (h4 : l4.length ≤ 1048576) :
  Ev (fun k => laws_toMod.f k l0 l1 l2 l3 l4) (l0, l1.map cvImp, l2.map cvExp, l3.map cvStmt, l4.map cvExpr) := by
 simp only [laws_toMod.f]
 exact Ev_call (toStringS_ev l0 h0) (Ev_call (toImpS_ev l1 h1) (Ev_call (toExpS_ev l2 h2) (Ev_call (toStmtS_ev l3 h3) (Ev_call (toExprS_ev l4 h4) (Ev.now _)))))
theorem eqMod_ev (l0 : List ByteArray) (l1 : List S73) (l2 : List S55) (l3 : List S53) (l4 : List S50)
  (h0 : l0.length ≤ 1048576) (h1 : l1.length ≤ 1048576) (h2 : l2.length ≤ 1048576) (h3 : l3.length ≤ 1048576) (h4 : l4.length ≤ 1048576) :
  Ev (fun k => laws_eqMod.f k l0 l1 l2 l3 l4 l0 l1 l2 l3 l4) true := by
 simp only [laws_eqMod.f]
 refine Ev_call (eqStringS_ev l0 (by omega)) ?_
 simp only [if_true]
 refine Ev_call (eqImpS_ev l1 h1) ?_
 simp only [if_true]
 refine Ev_call (eqExpS_ev l2 h2) ?_
 simp only [if_true]
 refine Ev_call (eqStmtS_ev l3 h3) ?_
 simp only [if_true]
 refine Ev_call (eqExprS_ev l4 h4) ?_
 simp only [if_true]
 exact Ev.now _
theorem markText_loop (d : Nat) : ∀ (x : Int) (acc : ByteArray), 0 ≤ x → x.toNat ≤ d → x < 9223372036854775808 → acc.size + d ≤ 9223372036854775000 → ∃ t, Ev (fun k => laws_markText.l0 k x acc) t := by
 induction d with
 | zero =>
  intro x acc h0 hd h1 hs
  refine ⟨⟨#[109]⟩ ++ acc, Ev_succ ?_⟩
  simp (disch := omega) only [laws_markText.l0, if_neg, if_pos]; exact Ev.now _
 | succ d ih =>
  intro x acc h0 hd h1 hs
  by_cases hx : x > 0
  ·have e1 : (strOfNums [(48 + x % 10) % 256]).size = 1 := by rw [strOfNums_size]; rfl
   obtain ⟨t, e⟩ := ih (x / 10) (strOfNums [(48 + x % 10) % 256] ++ acc) (by omega) (by omega) (by omega) (by rw [size_app]; omega)
   refine ⟨t, Ev_succ ?_⟩
   simp (disch := omega) only [laws_markText.l0, if_pos, w64, tmod_nn, tdiv_nn, Option.bind_some]; exact e
  ·refine ⟨⟨#[109]⟩ ++ acc, Ev_succ ?_⟩
   simp (disch := omega) only [laws_markText.l0, if_neg, if_pos]; exact Ev.now _
theorem markText_any (x : Int) (h0 : 0 ≤ x) (h1 : x ≤ 1000000000000) : ∃ t, Ev (fun k => laws_markText.f k x) t := by
 by_cases hx : x ≤ 0
 ·exact ⟨_, by simp only [laws_markText.f, if_pos hx]; exact Ev.now _⟩
 ·obtain ⟨t, e⟩ := markText_loop x.toNat x ⟨#[]⟩ h0 (Nat.le_refl _) (by omega) (by show 0 + x.toNat ≤ _; omega)
  exact ⟨t, by simp only [laws_markText.f, if_neg hx]; exact e⟩
open Classical in
noncomputable def mt (x : Int) : ByteArray := if h : ∃ t, Ev (fun k => laws_markText.f k x) t then Classical.choose h else ⟨#[]⟩
theorem mt_ev (x : Int) (h0 : 0 ≤ x) (h1 : x ≤ 1000000000000) : Ev (fun k => laws_markText.f k x) (mt x) := by
 have h := markText_any x h0 h1
 unfold mt
 rw [dif_pos h]
 exact Classical.choose_spec h
noncomputable def mkStringS : Nat → Int → List ByteArray
 | 0, _ => []
 | n + 1, x => mt (x) :: mkStringS n (x + 1)
theorem markStringS_loop : ∀ (R P : List ByteArray) (x : Int), 1 ≤ x → x + 1 * R.length ≤ 1000000000000 → (P.length : Int) + R.length ≤ 1048576 → Ev (fun k => laws_markStringS.l0 k (P ++ R) x P.length) (x + 1 * R.length, P ++ mkStringS R.length x) := by
 intro R
 induction R with
 | nil =>
  intro P x h1 h2 h3
  refine Ev_succ ?_
  simp (disch := (simp only [List.append_nil]; omega)) only [laws_markStringS.l0, if_neg]
  exact Ev_some (by simp [mkStringS])
 | cons a R ih =>
  intro P x h1 h2 h3
  simp only [List.length_cons] at h2 h3
  have e := ih (P ++ [mt (x)]) (x + 1) (by omega) (by omega) (by simp only [List.length_append, List.length_cons, List.length_nil]; omega)
  have e1 : (P ++ [mt (x)]) ++ R = P ++ mt (x) :: R := by simp
  have e2 : ((P ++ [mt (x)]).length : Int) = (P.length : Int) + 1 := by simp
  rw [e1, e2] at e
  refine Ev_succ ?_
  simp (disch := (first | omega | (simp only [len_mid]; omega))) only [laws_markStringS.l0, if_pos, Option.bind_some, w64, set_mid]
  refine Ev_call (mt_ev (x) (by omega) (by omega)) ?_
  try simp (disch := (first | omega | (simp only [len_mid]; omega))) only [if_pos, Option.bind_some, w64, set_mid]
  have e3 : (P ++ [mt (x)]) ++ mkStringS R.length (x + 1) = P ++ mkStringS (R.length + 1) x := by simp [mkStringS]
  have e4 : x + 1 + 1 * (R.length : Int) = x + 1 * ((a :: R).length : Int) := by simp only [List.length_cons]; omega
  rw [e3, e4] at e
  exact e
theorem markStringS_ev (l : List ByteArray) (x : Int) (h1 : 1 ≤ x) (h2 : x + 1 * l.length ≤ 1000000000000) (h3 : l.length ≤ 1048576) : Ev (fun k => laws_markStringS.f k l x) (x + 1 * l.length, mkStringS l.length x) := by
 have e := markStringS_loop l [] x h1 h2 (by simp; omega)
 simp only [List.nil_append] at e
 simp only [laws_markStringS.f]
 exact e
theorem mkStringS_len : ∀ (n : Nat) (x : Int), (mkStringS n x).length = n
 | 0, _ => rfl
 | n + 1, x => by simp only [mkStringS, List.length_cons, mkStringS_len n]
theorem heldStringS_loop : ∀ (n : Nat) (P : List ByteArray) (x : Int), 1 ≤ x → x + 1 * n ≤ 1000000000000 → (P.length : Int) + n ≤ 1048576 → Ev (fun k => laws_heldStringS.l0 k (P ++ mkStringS n x) x P.length) (x + 1 * n) := by
 intro n
 induction n with
 | zero =>
  intro P x h1 h2 h3
  refine Ev_succ ?_
  simp (disch := (simp only [mkStringS, List.append_nil]; omega)) only [laws_heldStringS.l0, if_neg]
  exact Ev_some (by simp)
 | succ n ih =>
  intro P x h1 h2 h3
  have hl := mkStringS_len n (x + 1)
  have e := ih (P ++ [mt (x)]) (x + 1) (by omega) (by omega) (by simp only [List.length_append, List.length_cons, List.length_nil]; omega)
  have e1 : (P ++ [mt (x)]) ++ mkStringS n (x + 1) = P ++ mt (x) :: mkStringS n (x + 1) := by simp
  have e2 : ((P ++ [mt (x)]).length : Int) = (P.length : Int) + 1 := by simp
  have e4 : x + 1 + 1 * (n : Int) = x + 1 * ((n + 1 : Nat) : Int) := by omega
  rw [e1, e2, e4] at e
  refine Ev_succ ?_
  simp only [mkStringS]
  simp (disch := (first | omega | (simp only [len_mid]; omega))) only [laws_heldStringS.l0, if_pos, if_true, Option.bind_some, w64, rdOf, getD_mid]
  refine Ev_call (mt_ev (x) (by omega) (by omega)) ?_
  try simp (disch := (first | omega | (simp only [len_mid]; omega))) only [if_pos, if_true, Option.bind_some, w64, rdOf, getD_mid]
  exact e
theorem heldStringS_ev (n : Nat) (x : Int) (h1 : 1 ≤ x) (h2 : x + 1 * n ≤ 1000000000000) (h3 : n ≤ 1048576) : Ev (fun k => laws_heldStringS.f k (mkStringS n x) x) (x + 1 * n) := by
 have e := heldStringS_loop n [] x h1 h2 (by simp; omega)
 simp only [List.nil_append] at e
 simp only [laws_heldStringS.f]
 exact e
noncomputable def mkImpS : Nat → Int → List S73
 | 0, _ => []
 | n + 1, x => (⟨mt (x), mt (x + 1), mt (x + 1 + 1)⟩ : S73) :: mkImpS n (x + 1 + 1 + 1)
theorem markImpS_loop : ∀ (R P : List S73) (x : Int), 1 ≤ x → x + 3 * R.length ≤ 1000000000000 → (P.length : Int) + R.length ≤ 1048576 → Ev (fun k => laws_markImpS.l0 k (P ++ R) x P.length) (x + 3 * R.length, P ++ mkImpS R.length x) := by
 intro R
 induction R with
 | nil =>
  intro P x h1 h2 h3
  refine Ev_succ ?_
  simp (disch := (simp only [List.append_nil]; omega)) only [laws_markImpS.l0, if_neg]
  exact Ev_some (by simp [mkImpS])
 | cons a R ih =>
  intro P x h1 h2 h3
  simp only [List.length_cons] at h2 h3
  have e := ih (P ++ [(⟨mt (x), mt (x + 1), mt (x + 1 + 1)⟩ : S73)]) (x + 1 + 1 + 1) (by omega) (by omega) (by simp only [List.length_append, List.length_cons, List.length_nil]; omega)
  have e1 : (P ++ [(⟨mt (x), mt (x + 1), mt (x + 1 + 1)⟩ : S73)]) ++ R = P ++ (⟨mt (x), mt (x + 1), mt (x + 1 + 1)⟩ : S73) :: R := by simp
  have e2 : ((P ++ [(⟨mt (x), mt (x + 1), mt (x + 1 + 1)⟩ : S73)]).length : Int) = (P.length : Int) + 1 := by simp
  rw [e1, e2] at e
  refine Ev_succ ?_
  simp (disch := (first | omega | (simp only [len_mid]; omega))) only [laws_markImpS.l0, if_pos, Option.bind_some, w64, set_mid, rd_T73, getD_mid]
  refine Ev_call (mt_ev (x) (by omega) (by omega)) ?_
  try simp (disch := (first | omega | (simp only [len_mid]; omega))) only [if_pos, Option.bind_some, w64, set_mid, rd_T73, getD_mid]
  refine Ev_call (mt_ev (x + 1) (by omega) (by omega)) ?_
  try simp (disch := (first | omega | (simp only [len_mid]; omega))) only [if_pos, Option.bind_some, w64, set_mid, rd_T73, getD_mid]
  refine Ev_call (mt_ev (x + 1 + 1) (by omega) (by omega)) ?_
  try simp (disch := (first | omega | (simp only [len_mid]; omega))) only [if_pos, Option.bind_some, w64, set_mid, rd_T73, getD_mid]
  have e3 : (P ++ [(⟨mt (x), mt (x + 1), mt (x + 1 + 1)⟩ : S73)]) ++ mkImpS R.length (x + 1 + 1 + 1) = P ++ mkImpS (R.length + 1) x := by simp [mkImpS]
  have e4 : x + 1 + 1 + 1 + 3 * (R.length : Int) = x + 3 * ((a :: R).length : Int) := by simp only [List.length_cons]; omega
  rw [e3, e4] at e
  exact e
theorem markImpS_ev (l : List S73) (x : Int) (h1 : 1 ≤ x) (h2 : x + 3 * l.length ≤ 1000000000000) (h3 : l.length ≤ 1048576) : Ev (fun k => laws_markImpS.f k l x) (x + 3 * l.length, mkImpS l.length x) := by
 have e := markImpS_loop l [] x h1 h2 (by simp; omega)
 simp only [List.nil_append] at e
 simp only [laws_markImpS.f]
 exact e
theorem mkImpS_len : ∀ (n : Nat) (x : Int), (mkImpS n x).length = n
 | 0, _ => rfl
 | n + 1, x => by simp only [mkImpS, List.length_cons, mkImpS_len n]
theorem heldImpS_loop : ∀ (n : Nat) (P : List S73) (x : Int), 1 ≤ x → x + 3 * n ≤ 1000000000000 → (P.length : Int) + n ≤ 1048576 → Ev (fun k => laws_heldImpS.l0 k (P ++ mkImpS n x) x P.length) (x + 3 * n) := by
 intro n
 induction n with
 | zero =>
  intro P x h1 h2 h3
  refine Ev_succ ?_
  simp (disch := (simp only [mkImpS, List.append_nil]; omega)) only [laws_heldImpS.l0, if_neg]
  exact Ev_some (by simp)
 | succ n ih =>
  intro P x h1 h2 h3
  have hl := mkImpS_len n (x + 1 + 1 + 1)
  have e := ih (P ++ [(⟨mt (x), mt (x + 1), mt (x + 1 + 1)⟩ : S73)]) (x + 1 + 1 + 1) (by omega) (by omega) (by simp only [List.length_append, List.length_cons, List.length_nil]; omega)
  have e1 : (P ++ [(⟨mt (x), mt (x + 1), mt (x + 1 + 1)⟩ : S73)]) ++ mkImpS n (x + 1 + 1 + 1) = P ++ (⟨mt (x), mt (x + 1), mt (x + 1 + 1)⟩ : S73) :: mkImpS n (x + 1 + 1 + 1) := by simp
  have e2 : ((P ++ [(⟨mt (x), mt (x + 1), mt (x + 1 + 1)⟩ : S73)]).length : Int) = (P.length : Int) + 1 := by simp
  have e4 : x + 1 + 1 + 1 + 3 * (n : Int) = x + 3 * ((n + 1 : Nat) : Int) := by omega
  rw [e1, e2, e4] at e
  refine Ev_succ ?_
  simp only [mkImpS]
  simp (disch := (first | omega | (simp only [len_mid]; omega))) only [laws_heldImpS.l0, if_pos, if_true, Option.bind_some, w64, rd_T73, getD_mid]
  refine Ev_call (mt_ev (x) (by omega) (by omega)) ?_
  try simp (disch := (first | omega | (simp only [len_mid]; omega))) only [if_pos, if_true, Option.bind_some, w64, rd_T73, getD_mid]
  refine Ev_call (mt_ev (x + 1) (by omega) (by omega)) ?_
  try simp (disch := (first | omega | (simp only [len_mid]; omega))) only [if_pos, if_true, Option.bind_some, w64, rd_T73, getD_mid]
  refine Ev_call (mt_ev (x + 1 + 1) (by omega) (by omega)) ?_
  try simp (disch := (first | omega | (simp only [len_mid]; omega))) only [if_pos, if_true, Option.bind_some, w64, rd_T73, getD_mid]
  exact e
theorem heldImpS_ev (n : Nat) (x : Int) (h1 : 1 ≤ x) (h2 : x + 3 * n ≤ 1000000000000) (h3 : n ≤ 1048576) : Ev (fun k => laws_heldImpS.f k (mkImpS n x) x) (x + 3 * n) := by
 have e := heldImpS_loop n [] x h1 h2 (by simp; omega)
 simp only [List.nil_append] at e
 simp only [laws_heldImpS.f]
 exact e
noncomputable def mkExpS : Nat → Int → List S55
 | 0, _ => []
 | n + 1, x => (⟨x, mt (x + 1), mt (x + 1 + 1), mt (x + 1 + 1 + 1)⟩ : S55) :: mkExpS n (x + 1 + 1 + 1 + 1)
theorem markExpS_loop : ∀ (R P : List S55) (x : Int), 1 ≤ x → x + 4 * R.length ≤ 1000000000000 → (P.length : Int) + R.length ≤ 1048576 → Ev (fun k => laws_markExpS.l0 k (P ++ R) x P.length) (x + 4 * R.length, P ++ mkExpS R.length x) := by
 intro R
 induction R with
 | nil =>
  intro P x h1 h2 h3
  refine Ev_succ ?_
  simp (disch := (simp only [List.append_nil]; omega)) only [laws_markExpS.l0, if_neg]
  exact Ev_some (by simp [mkExpS])
 | cons a R ih =>
  intro P x h1 h2 h3
  simp only [List.length_cons] at h2 h3
  have e := ih (P ++ [(⟨x, mt (x + 1), mt (x + 1 + 1), mt (x + 1 + 1 + 1)⟩ : S55)]) (x + 1 + 1 + 1 + 1) (by omega) (by omega) (by simp only [List.length_append, List.length_cons, List.length_nil]; omega)
  have e1 : (P ++ [(⟨x, mt (x + 1), mt (x + 1 + 1), mt (x + 1 + 1 + 1)⟩ : S55)]) ++ R = P ++ (⟨x, mt (x + 1), mt (x + 1 + 1), mt (x + 1 + 1 + 1)⟩ : S55) :: R := by simp
  have e2 : ((P ++ [(⟨x, mt (x + 1), mt (x + 1 + 1), mt (x + 1 + 1 + 1)⟩ : S55)]).length : Int) = (P.length : Int) + 1 := by simp
  rw [e1, e2] at e
  refine Ev_succ ?_
  simp (disch := (first | omega | (simp only [len_mid]; omega))) only [laws_markExpS.l0, if_pos, Option.bind_some, w64, set_mid, rd_T55, getD_mid]
  refine Ev_call (mt_ev (x + 1) (by omega) (by omega)) ?_
  try simp (disch := (first | omega | (simp only [len_mid]; omega))) only [if_pos, Option.bind_some, w64, set_mid, rd_T55, getD_mid]
  refine Ev_call (mt_ev (x + 1 + 1) (by omega) (by omega)) ?_
  try simp (disch := (first | omega | (simp only [len_mid]; omega))) only [if_pos, Option.bind_some, w64, set_mid, rd_T55, getD_mid]
  refine Ev_call (mt_ev (x + 1 + 1 + 1) (by omega) (by omega)) ?_
  try simp (disch := (first | omega | (simp only [len_mid]; omega))) only [if_pos, Option.bind_some, w64, set_mid, rd_T55, getD_mid]
  have e3 : (P ++ [(⟨x, mt (x + 1), mt (x + 1 + 1), mt (x + 1 + 1 + 1)⟩ : S55)]) ++ mkExpS R.length (x + 1 + 1 + 1 + 1) = P ++ mkExpS (R.length + 1) x := by simp [mkExpS]
  have e4 : x + 1 + 1 + 1 + 1 + 4 * (R.length : Int) = x + 4 * ((a :: R).length : Int) := by simp only [List.length_cons]; omega
  rw [e3, e4] at e
  exact e
theorem markExpS_ev (l : List S55) (x : Int) (h1 : 1 ≤ x) (h2 : x + 4 * l.length ≤ 1000000000000) (h3 : l.length ≤ 1048576) : Ev (fun k => laws_markExpS.f k l x) (x + 4 * l.length, mkExpS l.length x) := by
 have e := markExpS_loop l [] x h1 h2 (by simp; omega)
 simp only [List.nil_append] at e
 simp only [laws_markExpS.f]
 exact e
theorem mkExpS_len : ∀ (n : Nat) (x : Int), (mkExpS n x).length = n
 | 0, _ => rfl
 | n + 1, x => by simp only [mkExpS, List.length_cons, mkExpS_len n]
theorem heldExpS_loop : ∀ (n : Nat) (P : List S55) (x : Int), 1 ≤ x → x + 4 * n ≤ 1000000000000 → (P.length : Int) + n ≤ 1048576 → Ev (fun k => laws_heldExpS.l0 k (P ++ mkExpS n x) x P.length) (x + 4 * n) := by
 intro n
 induction n with
 | zero =>
  intro P x h1 h2 h3
  refine Ev_succ ?_
  simp (disch := (simp only [mkExpS, List.append_nil]; omega)) only [laws_heldExpS.l0, if_neg]
  exact Ev_some (by simp)
 | succ n ih =>
  intro P x h1 h2 h3
  have hl := mkExpS_len n (x + 1 + 1 + 1 + 1)
  have e := ih (P ++ [(⟨x, mt (x + 1), mt (x + 1 + 1), mt (x + 1 + 1 + 1)⟩ : S55)]) (x + 1 + 1 + 1 + 1) (by omega) (by omega) (by simp only [List.length_append, List.length_cons, List.length_nil]; omega)
  have e1 : (P ++ [(⟨x, mt (x + 1), mt (x + 1 + 1), mt (x + 1 + 1 + 1)⟩ : S55)]) ++ mkExpS n (x + 1 + 1 + 1 + 1) = P ++ (⟨x, mt (x + 1), mt (x + 1 + 1), mt (x + 1 + 1 + 1)⟩ : S55) :: mkExpS n (x + 1 + 1 + 1 + 1) := by simp
  have e2 : ((P ++ [(⟨x, mt (x + 1), mt (x + 1 + 1), mt (x + 1 + 1 + 1)⟩ : S55)]).length : Int) = (P.length : Int) + 1 := by simp
  have e4 : x + 1 + 1 + 1 + 1 + 4 * (n : Int) = x + 4 * ((n + 1 : Nat) : Int) := by omega
  rw [e1, e2, e4] at e
  refine Ev_succ ?_
  simp only [mkExpS]
  simp (disch := (first | omega | (simp only [len_mid]; omega))) only [laws_heldExpS.l0, if_pos, if_true, Option.bind_some, w64, rd_T55, getD_mid]
  refine Ev_call (mt_ev (x + 1) (by omega) (by omega)) ?_
  try simp (disch := (first | omega | (simp only [len_mid]; omega))) only [if_pos, if_true, Option.bind_some, w64, rd_T55, getD_mid]
  refine Ev_call (mt_ev (x + 1 + 1) (by omega) (by omega)) ?_
  try simp (disch := (first | omega | (simp only [len_mid]; omega))) only [if_pos, if_true, Option.bind_some, w64, rd_T55, getD_mid]
  refine Ev_call (mt_ev (x + 1 + 1 + 1) (by omega) (by omega)) ?_
  try simp (disch := (first | omega | (simp only [len_mid]; omega))) only [if_pos, if_true, Option.bind_some, w64, rd_T55, getD_mid]
  exact e
theorem heldExpS_ev (n : Nat) (x : Int) (h1 : 1 ≤ x) (h2 : x + 4 * n ≤ 1000000000000) (h3 : n ≤ 1048576) : Ev (fun k => laws_heldExpS.f k (mkExpS n x) x) (x + 4 * n) := by
 have e := heldExpS_loop n [] x h1 h2 (by simp; omega)
 simp only [List.nil_append] at e
 simp only [laws_heldExpS.f]
 exact e
noncomputable def mkStmtS : Nat → Int → List S53
 | 0, _ => []
 | n + 1, x => (⟨x, mt (x + 1), x + 1 + 1⟩ : S53) :: mkStmtS n (x + 1 + 1 + 1)
theorem markStmtS_loop : ∀ (R P : List S53) (x : Int), 1 ≤ x → x + 3 * R.length ≤ 1000000000000 → (P.length : Int) + R.length ≤ 1048576 → Ev (fun k => laws_markStmtS.l0 k (P ++ R) x P.length) (x + 3 * R.length, P ++ mkStmtS R.length x) := by
 intro R
 induction R with
 | nil =>
  intro P x h1 h2 h3
  refine Ev_succ ?_
  simp (disch := (simp only [List.append_nil]; omega)) only [laws_markStmtS.l0, if_neg]
  exact Ev_some (by simp [mkStmtS])
 | cons a R ih =>
  intro P x h1 h2 h3
  simp only [List.length_cons] at h2 h3
  have e := ih (P ++ [(⟨x, mt (x + 1), x + 1 + 1⟩ : S53)]) (x + 1 + 1 + 1) (by omega) (by omega) (by simp only [List.length_append, List.length_cons, List.length_nil]; omega)
  have e1 : (P ++ [(⟨x, mt (x + 1), x + 1 + 1⟩ : S53)]) ++ R = P ++ (⟨x, mt (x + 1), x + 1 + 1⟩ : S53) :: R := by simp
  have e2 : ((P ++ [(⟨x, mt (x + 1), x + 1 + 1⟩ : S53)]).length : Int) = (P.length : Int) + 1 := by simp
  rw [e1, e2] at e
  refine Ev_succ ?_
  simp (disch := (first | omega | (simp only [len_mid]; omega))) only [laws_markStmtS.l0, if_pos, Option.bind_some, w64, set_mid, rd_T53, getD_mid]
  refine Ev_call (mt_ev (x + 1) (by omega) (by omega)) ?_
  try simp (disch := (first | omega | (simp only [len_mid]; omega))) only [if_pos, Option.bind_some, w64, set_mid, rd_T53, getD_mid]
  have e3 : (P ++ [(⟨x, mt (x + 1), x + 1 + 1⟩ : S53)]) ++ mkStmtS R.length (x + 1 + 1 + 1) = P ++ mkStmtS (R.length + 1) x := by simp [mkStmtS]
  have e4 : x + 1 + 1 + 1 + 3 * (R.length : Int) = x + 3 * ((a :: R).length : Int) := by simp only [List.length_cons]; omega
  rw [e3, e4] at e
  exact e
theorem markStmtS_ev (l : List S53) (x : Int) (h1 : 1 ≤ x) (h2 : x + 3 * l.length ≤ 1000000000000) (h3 : l.length ≤ 1048576) : Ev (fun k => laws_markStmtS.f k l x) (x + 3 * l.length, mkStmtS l.length x) := by
 have e := markStmtS_loop l [] x h1 h2 (by simp; omega)
 simp only [List.nil_append] at e
 simp only [laws_markStmtS.f]
 exact e
theorem mkStmtS_len : ∀ (n : Nat) (x : Int), (mkStmtS n x).length = n
 | 0, _ => rfl
 | n + 1, x => by simp only [mkStmtS, List.length_cons, mkStmtS_len n]
theorem heldStmtS_loop : ∀ (n : Nat) (P : List S53) (x : Int), 1 ≤ x → x + 3 * n ≤ 1000000000000 → (P.length : Int) + n ≤ 1048576 → Ev (fun k => laws_heldStmtS.l0 k (P ++ mkStmtS n x) x P.length) (x + 3 * n) := by
 intro n
 induction n with
 | zero =>
  intro P x h1 h2 h3
  refine Ev_succ ?_
  simp (disch := (simp only [mkStmtS, List.append_nil]; omega)) only [laws_heldStmtS.l0, if_neg]
  exact Ev_some (by simp)
 | succ n ih =>
  intro P x h1 h2 h3
  have hl := mkStmtS_len n (x + 1 + 1 + 1)
  have e := ih (P ++ [(⟨x, mt (x + 1), x + 1 + 1⟩ : S53)]) (x + 1 + 1 + 1) (by omega) (by omega) (by simp only [List.length_append, List.length_cons, List.length_nil]; omega)
  have e1 : (P ++ [(⟨x, mt (x + 1), x + 1 + 1⟩ : S53)]) ++ mkStmtS n (x + 1 + 1 + 1) = P ++ (⟨x, mt (x + 1), x + 1 + 1⟩ : S53) :: mkStmtS n (x + 1 + 1 + 1) := by simp
  have e2 : ((P ++ [(⟨x, mt (x + 1), x + 1 + 1⟩ : S53)]).length : Int) = (P.length : Int) + 1 := by simp
  have e4 : x + 1 + 1 + 1 + 3 * (n : Int) = x + 3 * ((n + 1 : Nat) : Int) := by omega
  rw [e1, e2, e4] at e
  refine Ev_succ ?_
  simp only [mkStmtS]
  simp (disch := (first | omega | (simp only [len_mid]; omega))) only [laws_heldStmtS.l0, if_pos, if_true, Option.bind_some, w64, rd_T53, getD_mid]
  refine Ev_call (mt_ev (x + 1) (by omega) (by omega)) ?_
  try simp (disch := (first | omega | (simp only [len_mid]; omega))) only [if_pos, if_true, Option.bind_some, w64, rd_T53, getD_mid]
  exact e
theorem heldStmtS_ev (n : Nat) (x : Int) (h1 : 1 ≤ x) (h2 : x + 3 * n ≤ 1000000000000) (h3 : n ≤ 1048576) : Ev (fun k => laws_heldStmtS.f k (mkStmtS n x) x) (x + 3 * n) := by
 have e := heldStmtS_loop n [] x h1 h2 (by simp; omega)
 simp only [List.nil_append] at e
 simp only [laws_heldStmtS.f]
 exact e
noncomputable def mkExprS : Nat → Int → List S50
 | 0, _ => []
 | n + 1, x => (⟨x, x + 1, mt (x + 1 + 1), mt (x + 1 + 1 + 1), x + 1 + 1 + 1 + 1, x + 1 + 1 + 1 + 1 + 1⟩ : S50) :: mkExprS n (x + 1 + 1 + 1 + 1 + 1 + 1)
theorem markExprS_loop : ∀ (R P : List S50) (x : Int), 1 ≤ x → x + 6 * R.length ≤ 1000000000000 → (P.length : Int) + R.length ≤ 1048576 → Ev (fun k => laws_markExprS.l0 k (P ++ R) x P.length) (x + 6 * R.length, P ++ mkExprS R.length x) := by
 intro R
 induction R with
 | nil =>
  intro P x h1 h2 h3
  refine Ev_succ ?_
  simp (disch := (simp only [List.append_nil]; omega)) only [laws_markExprS.l0, if_neg]
  exact Ev_some (by simp [mkExprS])
 | cons a R ih =>
  intro P x h1 h2 h3
  simp only [List.length_cons] at h2 h3
  have e := ih (P ++ [(⟨x, x + 1, mt (x + 1 + 1), mt (x + 1 + 1 + 1), x + 1 + 1 + 1 + 1, x + 1 + 1 + 1 + 1 + 1⟩ : S50)]) (x + 1 + 1 + 1 + 1 + 1 + 1) (by omega) (by omega) (by simp only [List.length_append, List.length_cons, List.length_nil]; omega)
  have e1 : (P ++ [(⟨x, x + 1, mt (x + 1 + 1), mt (x + 1 + 1 + 1), x + 1 + 1 + 1 + 1, x + 1 + 1 + 1 + 1 + 1⟩ : S50)]) ++ R = P ++ (⟨x, x + 1, mt (x + 1 + 1), mt (x + 1 + 1 + 1), x + 1 + 1 + 1 + 1, x + 1 + 1 + 1 + 1 + 1⟩ : S50) :: R := by simp
  have e2 : ((P ++ [(⟨x, x + 1, mt (x + 1 + 1), mt (x + 1 + 1 + 1), x + 1 + 1 + 1 + 1, x + 1 + 1 + 1 + 1 + 1⟩ : S50)]).length : Int) = (P.length : Int) + 1 := by simp
  rw [e1, e2] at e
  refine Ev_succ ?_
  simp (disch := (first | omega | (simp only [len_mid]; omega))) only [laws_markExprS.l0, if_pos, Option.bind_some, w64, set_mid, rd_T50, getD_mid]
  refine Ev_call (mt_ev (x + 1 + 1) (by omega) (by omega)) ?_
  try simp (disch := (first | omega | (simp only [len_mid]; omega))) only [if_pos, Option.bind_some, w64, set_mid, rd_T50, getD_mid]
  refine Ev_call (mt_ev (x + 1 + 1 + 1) (by omega) (by omega)) ?_
  try simp (disch := (first | omega | (simp only [len_mid]; omega))) only [if_pos, Option.bind_some, w64, set_mid, rd_T50, getD_mid]
  have e3 : (P ++ [(⟨x, x + 1, mt (x + 1 + 1), mt (x + 1 + 1 + 1), x + 1 + 1 + 1 + 1, x + 1 + 1 + 1 + 1 + 1⟩ : S50)]) ++ mkExprS R.length (x + 1 + 1 + 1 + 1 + 1 + 1) = P ++ mkExprS (R.length + 1) x := by simp [mkExprS]
  have e4 : x + 1 + 1 + 1 + 1 + 1 + 1 + 6 * (R.length : Int) = x + 6 * ((a :: R).length : Int) := by simp only [List.length_cons]; omega
  rw [e3, e4] at e
  exact e
theorem markExprS_ev (l : List S50) (x : Int) (h1 : 1 ≤ x) (h2 : x + 6 * l.length ≤ 1000000000000) (h3 : l.length ≤ 1048576) : Ev (fun k => laws_markExprS.f k l x) (x + 6 * l.length, mkExprS l.length x) := by
 have e := markExprS_loop l [] x h1 h2 (by simp; omega)
 simp only [List.nil_append] at e
 simp only [laws_markExprS.f]
 exact e
theorem mkExprS_len : ∀ (n : Nat) (x : Int), (mkExprS n x).length = n
 | 0, _ => rfl
 | n + 1, x => by simp only [mkExprS, List.length_cons, mkExprS_len n]
theorem heldExprS_loop : ∀ (n : Nat) (P : List S50) (x : Int), 1 ≤ x → x + 6 * n ≤ 1000000000000 → (P.length : Int) + n ≤ 1048576 → Ev (fun k => laws_heldExprS.l0 k (P ++ mkExprS n x) x P.length) (x + 6 * n) := by
 intro n
 induction n with
 | zero =>
  intro P x h1 h2 h3
  refine Ev_succ ?_
  simp (disch := (simp only [mkExprS, List.append_nil]; omega)) only [laws_heldExprS.l0, if_neg]
  exact Ev_some (by simp)
 | succ n ih =>
  intro P x h1 h2 h3
  have hl := mkExprS_len n (x + 1 + 1 + 1 + 1 + 1 + 1)
  have e := ih (P ++ [(⟨x, x + 1, mt (x + 1 + 1), mt (x + 1 + 1 + 1), x + 1 + 1 + 1 + 1, x + 1 + 1 + 1 + 1 + 1⟩ : S50)]) (x + 1 + 1 + 1 + 1 + 1 + 1) (by omega) (by omega) (by simp only [List.length_append, List.length_cons, List.length_nil]; omega)
  have e1 : (P ++ [(⟨x, x + 1, mt (x + 1 + 1), mt (x + 1 + 1 + 1), x + 1 + 1 + 1 + 1, x + 1 + 1 + 1 + 1 + 1⟩ : S50)]) ++ mkExprS n (x + 1 + 1 + 1 + 1 + 1 + 1) = P ++ (⟨x, x + 1, mt (x + 1 + 1), mt (x + 1 + 1 + 1), x + 1 + 1 + 1 + 1, x + 1 + 1 + 1 + 1 + 1⟩ : S50) :: mkExprS n (x + 1 + 1 + 1 + 1 + 1 + 1) := by simp
  have e2 : ((P ++ [(⟨x, x + 1, mt (x + 1 + 1), mt (x + 1 + 1 + 1), x + 1 + 1 + 1 + 1, x + 1 + 1 + 1 + 1 + 1⟩ : S50)]).length : Int) = (P.length : Int) + 1 := by simp
  have e4 : x + 1 + 1 + 1 + 1 + 1 + 1 + 6 * (n : Int) = x + 6 * ((n + 1 : Nat) : Int) := by omega
  rw [e1, e2, e4] at e
  refine Ev_succ ?_
  simp only [mkExprS]
  simp (disch := (first | omega | (simp only [len_mid]; omega))) only [laws_heldExprS.l0, if_pos, if_true, Option.bind_some, w64, rd_T50, getD_mid]
  refine Ev_call (mt_ev (x + 1 + 1) (by omega) (by omega)) ?_
  try simp (disch := (first | omega | (simp only [len_mid]; omega))) only [if_pos, if_true, Option.bind_some, w64, rd_T50, getD_mid]
  refine Ev_call (mt_ev (x + 1 + 1 + 1) (by omega) (by omega)) ?_
  try simp (disch := (first | omega | (simp only [len_mid]; omega))) only [if_pos, if_true, Option.bind_some, w64, rd_T50, getD_mid]
  exact e
theorem heldExprS_ev (n : Nat) (x : Int) (h1 : 1 ≤ x) (h2 : x + 6 * n ≤ 1000000000000) (h3 : n ≤ 1048576) : Ev (fun k => laws_heldExprS.f k (mkExprS n x) x) (x + 6 * n) := by
 have e := heldExprS_loop n [] x h1 h2 (by simp; omega)
 simp only [List.nil_append] at e
 simp only [laws_heldExprS.f]
 exact e
theorem insB_len (s : ByteArray) : ∀ l, (insB s l).length = l.length + 1
 | [] => rfl
 | x :: r => by
  rw [insB]
  split
  ·simp
  ·simp only [List.length_cons, insB_len s r]
theorem putB_len (o : List ByteArray) (s : ByteArray) : (putB o s).length ≤ o.length + 1 := by
 unfold putB
 split
 ·omega
 ·rw [insB_len]; omega
theorem in_loop (l : List ByteArray) (hl : l.length ≤ 8388608) (s : ByteArray) (d : Nat) : ∀ i : Nat, i + d = l.length → Ev (fun k => spec_l6In.l0 k l s i) (inB (l.drop i) s) := by
 induction d with
 | zero =>
  intro i hi
  have hd : l.drop i = [] := List.drop_eq_nil_of_le (by omega)
  rw [hd]
  refine Ev_succ ?_
  simp (disch := omega) only [spec_l6In.l0, if_neg]; exact Ev.now _
 | succ d ih =>
  intro i hi
  have e0 : rdOf ByteArray.empty l (i : Int) = l[i]'(by omega) := by
   show l.getD i _ = _; exact getD_at l _ i (by omega)
  have hn : wrap64 ((i : Int) + 1) = ((i + 1 : Nat) : Int) := by rw [w64 (by omega) (by omega)]; omega
  have c0 : (i : Int) < (l.length : Int) := by omega
  have c1 : 0 ≤ (i : Int) := by omega
  rw [List.drop_eq_getElem_cons (by omega), show ∀ (x : ByteArray) (r : List ByteArray), inB (x :: r) s = ((x.toList == s.toList) || inB r s) from fun _ _ => rfl]
  refine Ev_succ ?_
  simp only [spec_l6In.l0, if_pos c0, if_pos c1, hn, e0]
  by_cases h : (l[i]'(by omega)).toList = s.toList
  ·have hp : ((l[i]'(by omega)).toList == s.toList) = true := beq_iff_eq.2 h
   rw [hp, Bool.true_or]
   simp only [if_pos h]; exact Ev.now _
  ·have hp : ((l[i]'(by omega)).toList == s.toList) = false := beq_eq_false_iff_ne.2 h
   rw [hp, Bool.false_or]
   simp only [if_neg h]; exact ih (i + 1) (by omega)
theorem in_spec (l : List ByteArray) (hl : l.length ≤ 8388608) (s : ByteArray) : Ev (fun k => spec_l6In.f k l s) (inB l s) := by
 simp only [spec_l6In.f]
 exact in_loop l hl s l.length 0 (by omega)
theorem put_behind (l : List ByteArray) (hl : l.length ≤ 8388608) (s : ByteArray) (d : Nat) : ∀ (i : Nat) (o : List ByteArray), i + d = l.length → o.length ≤ i + 1 → Ev (fun k => spec_l8Put.l0 k l s o true i) (o ++ l.drop i) := by
 induction d with
 | zero =>
  intro i o hi ho
  rw [List.drop_eq_nil_of_le (by omega), List.append_nil]
  refine Ev_succ ?_
  simp (disch := omega) only [spec_l8Put.l0, if_neg, if_true]; exact Ev.now _
 | succ d ih =>
  intro i o hi ho
  have e0 : rdOf ByteArray.empty l (i : Int) = l[i]'(by omega) := by
   show l.getD i _ = _; exact getD_at l _ i (by omega)
  have hn : wrap64 ((i : Int) + 1) = ((i + 1 : Nat) : Int) := by rw [w64 (by omega) (by omega)]; omega
  have c0 : (i : Int) < (l.length : Int) := by omega
  have c1 : 0 ≤ (i : Int) := by omega
  have c2 : o.length < 8796093022208 := by omega
  have e := ih (i + 1) (o ++ [l[i]'(by omega)]) (by omega) (by simp; omega)
  rw [List.append_assoc, List.singleton_append, ← List.drop_eq_getElem_cons] at e
  refine Ev_succ ?_
  simp only [spec_l8Put.l0, if_pos c0, if_pos c1, if_pos c2, hn, e0, if_true]; exact e
theorem put_ahead (l : List ByteArray) (hl : l.length ≤ 8388608) (s : ByteArray) (d : Nat) : ∀ (i : Nat) (o : List ByteArray), i + d = l.length → o.length ≤ i → Ev (fun k => spec_l8Put.l0 k l s o false i) (o ++ insB s (l.drop i)) := by
 induction d with
 | zero =>
  intro i o hi ho
  rw [List.drop_eq_nil_of_le (by omega), insB]
  have c2 : o.length < 8796093022208 := by omega
  refine Ev_succ ?_
  simp (disch := omega) only [spec_l8Put.l0, if_neg, Bool.false_eq_true, if_false, if_pos c2]; exact Ev.now _
 | succ d ih =>
  intro i o hi ho
  have e0 : rdOf ByteArray.empty l (i : Int) = l[i]'(by omega) := by
   show l.getD i _ = _; exact getD_at l _ i (by omega)
  have hn : wrap64 ((i : Int) + 1) = ((i + 1 : Nat) : Int) := by rw [w64 (by omega) (by omega)]; omega
  have c0 : (i : Int) < (l.length : Int) := by omega
  have c1 : 0 ≤ (i : Int) := by omega
  have c2 : o.length < 8796093022208 := by omega
  have c3 : (o ++ [s]).length < 8796093022208 := by simp; omega
  rw [List.drop_eq_getElem_cons (by omega), insB]
  refine Ev_succ ?_
  simp only [spec_l8Put.l0, if_pos c0, if_pos c1, if_pos c2, hn, e0, Bool.false_eq_true, if_false]
  by_cases h : Op.bytesLess s.toList (l[i]'(by omega)).toList = true
  ·simp only [if_pos h, Option.bind_some, if_pos c3]
   have e := put_behind l hl s d (i + 1) (o ++ [s] ++ [l[i]'(by omega)]) (by omega) (by simp; omega)
   have e2 : o ++ [s] ++ [l[i]'(by omega)] ++ l.drop (i + 1) = o ++ s :: l[i]'(by omega) :: l.drop (i + 1) := by simp
   rw [e2] at e
   exact e
  ·simp only [if_neg h]
   have e := ih (i + 1) (o ++ [l[i]'(by omega)]) (by omega) (by simp; omega)
   rw [List.append_assoc, List.singleton_append] at e
   exact e
theorem put_ev (l : List ByteArray) (s : ByteArray) (hl : l.length ≤ 8388608) : Ev (fun k => spec_l8Put.f k l s) (putB l s) := by
 simp only [spec_l8Put.f]
 refine Ev_call (in_spec l hl s) ?_
 unfold putB
 by_cases c : inB l s = true
 ·simp only [if_pos c]; exact Ev.now _
 ·simp only [if_neg c]
  have e := put_ahead l hl s l.length 0 [] (by omega) (by simp)
  rw [List.drop_zero, List.nil_append] at e
  exact e
abbrev SE := S50
abbrev SS := S53
abbrev SX := S55
abbrev SI := S73
theorem drop_E (l : List SE) (i : Nat) (h : i < l.length) : l.drop i = rd_T50 l (i : Int) :: l.drop (i + 1) := by
 rw [List.drop_eq_getElem_cons h]; congr 1; exact (getD_at l _ i h).symm
theorem drop_S (l : List SS) (i : Nat) (h : i < l.length) : l.drop i = rd_T53 l (i : Int) :: l.drop (i + 1) := by
 rw [List.drop_eq_getElem_cons h]; congr 1; exact (getD_at l _ i h).symm
theorem drop_X (l : List SX) (i : Nat) (h : i < l.length) : l.drop i = rd_T55 l (i : Int) :: l.drop (i + 1) := by
 rw [List.drop_eq_getElem_cons h]; congr 1; exact (getD_at l _ i h).symm
def k2 (a b : Int) (x : SE) : Bool := decide (x.f0 = a) || decide (x.f0 = b)
def exB (x : SE) : Bool := k2 2 3 x || k2 4 5 x
def U0 (p : SE → Bool) (l : List SE) : List ByteArray := (l.filter p).map (·.f2)
def U1 (l : List SS) : List ByteArray := (l.filter fun x => decide (x.f0 = 3)).map (·.f1)
def U2 (l : List SX) : List ByteArray := (l.filter fun x => decide (x.f0 = 1)).map (·.f2)
theorem U0_cons (p : SE → Bool) (x : SE) (r : List SE) : U0 p (x :: r) = if p x = true then x.f2 :: U0 p r else U0 p r := by
 unfold U0; rw [List.filter_cons]; split <;> rfl
theorem U1_cons (x : SS) (r : List SS) : U1 (x :: r) = if x.f0 = 3 then x.f1 :: U1 r else U1 r := by
 unfold U1; rw [List.filter_cons]; simp only [decide_eq_true_eq]; split <;> rfl
theorem U2_cons (x : SX) (r : List SX) : U2 (x :: r) = if x.f0 = 1 then x.f2 :: U2 r else U2 r := by
 unfold U2; rw [List.filter_cons]; simp only [decide_eq_true_eq]; split <;> rfl
theorem U0_len (p : SE → Bool) (l : List SE) : (U0 p l).length ≤ l.length := by unfold U0; rw [List.length_map]; exact List.length_filter_le _ _
theorem U1_len (l : List SS) : (U1 l).length ≤ l.length := by unfold U1; rw [List.length_map]; exact List.length_filter_le _ _
theorem U2_len (l : List SX) : (U2 l).length ≤ l.length := by unfold U2; rw [List.length_map]; exact List.length_filter_le _ _
theorem named_some (x : SE) : spec_l16Named.f x.f0 = some (exB x) := by
 unfold spec_l16Named.f exB k2
 by_cases h2 : x.f0 = 2
 ·rw [if_pos h2, decide_eq_true h2]; rfl
 rw [if_neg h2, decide_eq_false h2]
 by_cases h3 : x.f0 = 3
 ·rw [if_pos h3, decide_eq_true h3]; rfl
 rw [if_neg h3, decide_eq_false h3]
 by_cases h4 : x.f0 = 4
 ·rw [if_pos h4, decide_eq_true h4]; rfl
 rw [if_neg h4, decide_eq_false h4]
 by_cases h5 : x.f0 = 5
 ·rw [decide_eq_true h5, beq_iff_eq.2 h5]; rfl
 ·rw [decide_eq_false h5, beq_eq_false_iff_ne.2 h5]; rfl
theorem uses_l2 (A : List ByteArray) (B : List SI) (C : List SX) (D : List SS) (E : List SE) (hC : C.length ≤ 1048576) (d : Nat) : ∀ (i : Nat) (o : List ByteArray), i + d = C.length → o.length + d ≤ 8388608 → Ev (fun k => spec_Uses.l2 k o i A B C D E) ((U2 (C.drop i)).foldl putB o) := by
 induction d with
 | zero =>
  intro i o hi ho
  rw [List.drop_eq_nil_of_le (by omega)]
  refine Ev_succ ?_
  simp (disch := omega) only [spec_Uses.l2, if_neg]; exact Ev.now _
 | succ d ih =>
  intro i o hi ho
  have hn : wrap64 ((i : Int) + 1) = ((i + 1 : Nat) : Int) := by rw [w64 (by omega) (by omega)]; omega
  have c0 : (i : Int) < (C.length : Int) := by omega
  have c1 : 0 ≤ (i : Int) := by omega
  rw [drop_X C i (by omega), U2_cons]
  refine Ev_succ ?_
  simp only [spec_Uses.l2, if_pos c0, if_pos c1, hn]
  by_cases c : (rd_T55 C (i : Int)).f0 = 1
  ·simp only [if_pos c]
   have := putB_len o (rd_T55 C (i : Int)).f2
   exact Ev_call (put_ev o _ (by omega)) (ih (i + 1) _ (by omega) (by omega))
  ·simp only [if_neg c]
   exact ih (i + 1) o (by omega) (by omega)
theorem puts_len : ∀ (L o : List ByteArray), (L.foldl putB o).length ≤ o.length + L.length
 | [], o => Nat.le_refl _
 | x :: r, o => by
  rw [List.foldl_cons, List.length_cons]
  have := puts_len r (putB o x); have := putB_len o x; omega
theorem uses_l1 (A : List ByteArray) (B : List SI) (C : List SX) (D : List SS) (E : List SE) (hC : C.length ≤ 1048576) (hD : D.length ≤ 1048576) (d : Nat) : ∀ (i : Nat) (o : List ByteArray), i + d = D.length → o.length + d ≤ 4194304 → Ev (fun k => spec_Uses.l1 k o i A B C D E) ((U2 C).foldl putB ((U1 (D.drop i)).foldl putB o)) := by
 induction d with
 | zero =>
  intro i o hi ho
  rw [List.drop_eq_nil_of_le (by omega)]
  refine Ev_succ ?_
  simp (disch := omega) only [spec_Uses.l1, if_neg]
  have e := uses_l2 A B C D E hC C.length 0 o (by omega) (by omega)
  rw [List.drop_zero] at e
  exact e
 | succ d ih =>
  intro i o hi ho
  have hn : wrap64 ((i : Int) + 1) = ((i + 1 : Nat) : Int) := by rw [w64 (by omega) (by omega)]; omega
  have c0 : (i : Int) < (D.length : Int) := by omega
  have c1 : 0 ≤ (i : Int) := by omega
  rw [drop_S D i (by omega), U1_cons]
  refine Ev_succ ?_
  simp only [spec_Uses.l1, if_pos c0, if_pos c1, hn]
  by_cases c : (rd_T53 D (i : Int)).f0 = 3
  ·simp only [if_pos c]
   have := putB_len o (rd_T53 D (i : Int)).f1
   exact Ev_call (put_ev o _ (by omega)) (ih (i + 1) _ (by omega) (by omega))
  ·simp only [if_neg c]
   exact ih (i + 1) o (by omega) (by omega)
theorem uses_l0 (A : List ByteArray) (B : List SI) (C : List SX) (D : List SS) (E : List SE) (hC : C.length ≤ 1048576) (hD : D.length ≤ 1048576) (hE : E.length ≤ 1048576) (d : Nat) : ∀ (i : Nat) (o : List ByteArray), i + d = E.length → o.length + d ≤ 2097152 → Ev (fun k => spec_Uses.l0 k o i A B C D E) ((U2 C).foldl putB ((U1 D).foldl putB ((U0 exB (E.drop i)).foldl putB o))) := by
 induction d with
 | zero =>
  intro i o hi ho
  rw [List.drop_eq_nil_of_le (by omega)]
  refine Ev_succ ?_
  simp (disch := omega) only [spec_Uses.l0, if_neg]
  have e := uses_l1 A B C D E hC hD D.length 0 o (by omega) (by omega)
  rw [List.drop_zero] at e
  exact e
 | succ d ih =>
  intro i o hi ho
  have hn : wrap64 ((i : Int) + 1) = ((i + 1 : Nat) : Int) := by rw [w64 (by omega) (by omega)]; omega
  have c0 : (i : Int) < (E.length : Int) := by omega
  have c1 : 0 ≤ (i : Int) := by omega
  rw [drop_E E i (by omega), U0_cons]
  refine Ev_succ ?_
  simp only [spec_Uses.l0, if_pos c0, if_pos c1, hn, named_some, Option.bind_some]
  by_cases c : exB (rd_T50 E (i : Int)) = true
  ·simp only [if_pos c]
   have := putB_len o (rd_T50 E (i : Int)).f2
   exact Ev_call (put_ev o _ (by omega)) (ih (i + 1) _ (by omega) (by omega))
  ·simp only [if_neg c]
   exact ih (i + 1) o (by omega) (by omega)
def usesTo (C : List SX) (D : List SS) (E : List SE) : List ByteArray := (U0 exB E ++ U1 D ++ U2 C).foldl putB []
theorem uses_spec (A : List ByteArray) (B : List SI) (C : List SX) (D : List SS) (E : List SE) (hC : C.length ≤ 1048576) (hD : D.length ≤ 1048576) (hE : E.length ≤ 1048576) : Ev (fun k => spec_Uses.f k A B C D E) (usesTo C D E) := by
 have e := uses_l0 A B C D E hC hD hE E.length 0 [] (by omega) (by simp; omega)
 rw [List.drop_zero, ← List.foldl_append, ← List.foldl_append, ← List.append_assoc] at e
 simp only [spec_Uses.f]
 exact e
theorem plain_l1 (D : List SS) (hD : D.length ≤ 1048576) (d : Nat) : ∀ (i : Nat) (o : List ByteArray), i + d = D.length → o.length + d ≤ 4194304 → Ev (fun k => impl_plainUses.l1 k o D (D.length : Int) i) (o ++ U1 (D.drop i)) := by
 induction d with
 | zero =>
  intro i o hi ho
  rw [List.drop_eq_nil_of_le (by omega)]
  refine Ev_succ ?_
  simp (disch := omega) only [impl_plainUses.l1, if_neg]
  exact Ev_some (by simp [U1])
 | succ d ih =>
  intro i o hi ho
  have hn : wrap64 ((i : Int) + 1) = ((i + 1 : Nat) : Int) := by rw [w64 (by omega) (by omega)]; omega
  have c0 : (i : Int) < (D.length : Int) := by omega
  have c1 : 0 ≤ (i : Int) := by omega
  have c2 : o.length < 8796093022208 := by omega
  rw [drop_S D i (by omega), U1_cons]
  refine Ev_succ ?_
  simp only [impl_plainUses.l1, if_pos c0, if_pos c1, if_pos c2, hn]
  by_cases c : (rd_T53 D (i : Int)).f0 = 3
  ·simp only [if_pos c]
   have e := ih (i + 1) (o ++ [(rd_T53 D (i : Int)).f1]) (by omega) (by simp; omega)
   rw [List.append_assoc, List.singleton_append] at e
   exact e
  ·simp only [if_neg c]
   exact ih (i + 1) o (by omega) (by omega)
theorem plain_l0 (A : List ByteArray) (B : List SI) (C : List SX) (D : List SS) (E : List SE) (hD : D.length ≤ 1048576) (hE : E.length ≤ 1048576) (d : Nat) : ∀ (i : Nat) (o : List ByteArray), i + d = E.length → o.length + d ≤ 2097152 → Ev (fun k => impl_plainUses.l0 k o E (E.length : Int) i A B C D E) (o ++ U0 (k2 2 3) (E.drop i) ++ U1 D) := by
 induction d with
 | zero =>
  intro i o hi ho
  rw [List.drop_eq_nil_of_le (by omega)]
  refine Ev_succ ?_
  simp (disch := omega) only [impl_plainUses.l0, if_neg]
  have e := plain_l1 D hD D.length 0 o (by omega) (by omega)
  rw [List.drop_zero] at e
  have e2 : o ++ U0 (k2 2 3) [] ++ U1 D = o ++ U1 D := by simp [U0]
  rw [e2]
  exact e
 | succ d ih =>
  intro i o hi ho
  have hn : wrap64 ((i : Int) + 1) = ((i + 1 : Nat) : Int) := by rw [w64 (by omega) (by omega)]; omega
  have c0 : (i : Int) < (E.length : Int) := by omega
  have c1 : 0 ≤ (i : Int) := by omega
  have c2 : o.length < 8796093022208 := by omega
  rw [drop_E E i (by omega), U0_cons]
  have e := ih (i + 1) (o ++ [(rd_T50 E (i : Int)).f2]) (by omega) (by simp; omega)
  rw [List.append_assoc o, List.singleton_append] at e
  refine Ev_succ ?_
  simp only [impl_plainUses.l0, if_pos c0, if_pos c1, if_pos c2, hn]
  by_cases c : (rd_T50 E (i : Int)).f0 = 2
  ·have hk : k2 2 3 (rd_T50 E (i : Int)) = true := by unfold k2; rw [decide_eq_true c]; rfl
   simp only [if_pos c, if_pos hk]
   exact e
  ·by_cases c3 : (rd_T50 E (i : Int)).f0 = 3
   ·have hk : k2 2 3 (rd_T50 E (i : Int)) = true := by unfold k2; rw [decide_eq_true c3, Bool.or_true]
    simp only [if_neg c, if_pos c3, if_pos hk]
    exact e
   ·have hk : ¬ k2 2 3 (rd_T50 E (i : Int)) = true := by unfold k2; rw [decide_eq_false c, decide_eq_false c3]; simp
    simp only [if_neg c, if_neg c3, if_neg hk]
    exact ih (i + 1) o (by omega) (by omega)
theorem member_l0 (E : List SE) (hE : E.length ≤ 1048576) (d : Nat) : ∀ (i : Nat) (o : List ByteArray), i + d = E.length → o.length + d ≤ 2097152 → Ev (fun k => impl_memberUses.l0 k o E (E.length : Int) i) (o ++ U0 (k2 4 5) (E.drop i)) := by
 induction d with
 | zero =>
  intro i o hi ho
  rw [List.drop_eq_nil_of_le (by omega)]
  refine Ev_succ ?_
  simp (disch := omega) only [impl_memberUses.l0, if_neg]
  exact Ev_some (by simp [U0])
 | succ d ih =>
  intro i o hi ho
  have hn : wrap64 ((i : Int) + 1) = ((i + 1 : Nat) : Int) := by rw [w64 (by omega) (by omega)]; omega
  have c0 : (i : Int) < (E.length : Int) := by omega
  have c1 : 0 ≤ (i : Int) := by omega
  have c2 : o.length < 8796093022208 := by omega
  rw [drop_E E i (by omega), U0_cons]
  have e := ih (i + 1) (o ++ [(rd_T50 E (i : Int)).f2]) (by omega) (by simp; omega)
  rw [List.append_assoc o, List.singleton_append] at e
  refine Ev_succ ?_
  simp only [impl_memberUses.l0, if_pos c0, if_pos c1, if_pos c2, hn]
  by_cases c : (rd_T50 E (i : Int)).f0 = 4
  ·have hk : k2 4 5 (rd_T50 E (i : Int)) = true := by unfold k2; rw [decide_eq_true c]; rfl
   simp only [if_pos c, if_pos hk]
   exact e
  ·by_cases c3 : (rd_T50 E (i : Int)).f0 = 5
   ·have hk : k2 4 5 (rd_T50 E (i : Int)) = true := by unfold k2; rw [decide_eq_true c3, Bool.or_true]
    simp only [if_neg c, if_pos c3, if_pos hk]
    exact e
   ·have hk : ¬ k2 4 5 (rd_T50 E (i : Int)) = true := by unfold k2; rw [decide_eq_false c, decide_eq_false c3]; simp
    simp only [if_neg c, if_neg c3, if_neg hk]
    exact ih (i + 1) o (by omega) (by omega)
theorem local_l0 (C : List SX) (hC : C.length ≤ 1048576) (d : Nat) : ∀ (i : Nat) (o : List ByteArray), i + d = C.length → o.length + d ≤ 2097152 → Ev (fun k => impl_localExps.l0 k o C (C.length : Int) i) (o ++ U2 (C.drop i)) := by
 induction d with
 | zero =>
  intro i o hi ho
  rw [List.drop_eq_nil_of_le (by omega)]
  refine Ev_succ ?_
  simp (disch := omega) only [impl_localExps.l0, if_neg]
  exact Ev_some (by simp [U2])
 | succ d ih =>
  intro i o hi ho
  have hn : wrap64 ((i : Int) + 1) = ((i + 1 : Nat) : Int) := by rw [w64 (by omega) (by omega)]; omega
  have c0 : (i : Int) < (C.length : Int) := by omega
  have c1 : 0 ≤ (i : Int) := by omega
  have c2 : o.length < 8796093022208 := by omega
  rw [drop_X C i (by omega), U2_cons]
  refine Ev_succ ?_
  simp only [impl_localExps.l0, if_pos c0, if_pos c1, if_pos c2, hn]
  by_cases c : (rd_T55 C (i : Int)).f0 = 1
  ·simp only [if_pos c]
   have e := ih (i + 1) (o ++ [(rd_T55 C (i : Int)).f2]) (by omega) (by simp; omega)
   rw [List.append_assoc, List.singleton_append] at e
   exact e
  ·simp only [if_neg c]
   exact ih (i + 1) o (by omega) (by omega)
theorem U0_mem (p : SE → Bool) (l : List SE) (y : ByteArray) : y ∈ U0 p l ↔ ∃ x ∈ l, p x = true ∧ x.f2 = y := by
 unfold U0; simp only [List.mem_map, List.mem_filter, and_assoc]
theorem uses_impl (A : List ByteArray) (B : List SI) (C : List SX) (D : List SS) (E : List SE) (hC : C.length ≤ 1048576) (hD : D.length ≤ 1048576) (hE : E.length ≤ 1048576) : Ev (fun k => impl_Uses.f k A B C D E) (usesTo C D E) := by
 have e1 : Ev (fun k => impl_plainUses.f k A B C D E) (U0 (k2 2 3) E ++ U1 D) := by
  have e := plain_l0 A B C D E hD hE E.length 0 [] (by omega) (by simp; omega)
  rw [List.drop_zero, List.nil_append] at e
  simp only [impl_plainUses.f]; exact e
 have e2 : Ev (fun k => impl_memberUses.f k A B C D E) (U0 (k2 4 5) E) := by
  have e := member_l0 E hE E.length 0 [] (by omega) (by simp; omega)
  rw [List.drop_zero, List.nil_append] at e
  simp only [impl_memberUses.f]; exact e
 have e3 : Ev (fun k => impl_localExps.f k A B C D E) (U2 C) := by
  have e := local_l0 C hC C.length 0 [] (by omega) (by simp; omega)
  rw [List.drop_zero, List.nil_append] at e
  simp only [impl_localExps.f]; exact e
 simp only [impl_Uses.f]
 refine Ev_call e1 (Ev_call e2 (Ev_call e3 ?_))
 have hl : [U0 (k2 2 3) E ++ U1 D, U0 (k2 4 5) E, U2 C].flatten.length ≤ 4398046511104 := by
  have := U0_len (k2 2 3) E; have := U0_len (k2 4 5) E; have := U1_len D; have := U2_len C
  simp only [List.flatten_cons, List.flatten_nil, List.length_append, List.length_nil]
  omega
 rw [if_pos hl]
 unfold Ytopicidanlienaa.RisingL.rising.f
 rw [if_pos (by omega)]
 unfold Ytopicidanlienaa.RisingL.rising.srt
 rw [rise_puts]
 refine Ev_some ?_
 obtain ⟨p1, p2⟩ := puts_asc [U0 (k2 2 3) E ++ U1 D, U0 (k2 4 5) E, U2 C].flatten [] List.Pairwise.nil
 obtain ⟨q1, q2⟩ := puts_asc (U0 exB E ++ U1 D ++ U2 C) [] List.Pairwise.nil
 refine ascB_ext p1 q1 fun x => ?_
 rw [show usesTo C D E = (U0 exB E ++ U1 D ++ U2 C).foldl putB [] from rfl, p2 x, q2 x]
 simp only [List.flatten_cons, List.flatten_nil, List.append_nil, List.mem_append, U0_mem, List.not_mem_nil, or_false, exB, Bool.or_eq_true]
 constructor
 ·rintro ((⟨z, hz, hk, e⟩ | h) | ⟨z, hz, hk, e⟩ | h)
  ·exact .inl (.inl ⟨z, hz, .inl hk, e⟩)
  ·exact .inl (.inr h)
  ·exact .inl (.inl ⟨z, hz, .inr hk, e⟩)
  ·exact .inr h
 ·rintro ((⟨z, hz, hk | hk, e⟩ | h) | h)
  ·exact .inl (.inl ⟨z, hz, hk, e⟩)
  ·exact .inr (.inl ⟨z, hz, hk, e⟩)
  ·exact .inl (.inr h)
  ·exact .inr (.inr h)
theorem usesTo_len (C : List SX) (D : List SS) (E : List SE) : (usesTo C D E).length ≤ E.length + D.length + C.length := by
 unfold usesTo
 have h := puts_len (U0 exB E ++ U1 D ++ U2 C) []
 have := U0_len exB E; have := U1_len D; have := U2_len C
 simp only [List.length_append, List.length_nil] at h
 omega
theorem contains_loop (l : List ByteArray) (hl : l.length ≤ 8388608) (s : ByteArray) (d : Nat) : ∀ i : Nat, i + d = l.length → ∃ j : Int, Ev (fun k => slices_Index_string_string.l0 k l s (l.length : Int) i) j ∧ decide (j ≥ 0) = inB (l.drop i) s := by
 induction d with
 | zero =>
  intro i hi
  have hd : l.drop i = [] := List.drop_eq_nil_of_le (by omega)
  rw [hd]
  refine ⟨-1, Ev_succ ?_, rfl⟩
  simp (disch := omega) only [slices_Index_string_string.l0, if_neg]; exact Ev.now _
 | succ d ih =>
  intro i hi
  have e0 : rdOf ByteArray.empty l (i : Int) = l[i]'(by omega) := by
   show l.getD i _ = _; exact getD_at l _ i (by omega)
  have hn : wrap64 ((i : Int) + 1) = ((i + 1 : Nat) : Int) := by rw [w64 (by omega) (by omega)]; omega
  have c0 : (i : Int) < (l.length : Int) := by omega
  have c1 : 0 ≤ (i : Int) := by omega
  rw [List.drop_eq_getElem_cons (by omega), show ∀ (x : ByteArray) (r : List ByteArray), inB (x :: r) s = ((x.toList == s.toList) || inB r s) from fun _ _ => rfl]
  by_cases h : s.toList = (l[i]'(by omega)).toList
  ·have hp : ((l[i]'(by omega)).toList == s.toList) = true := beq_iff_eq.2 h.symm
   refine ⟨i, Ev_succ ?_, by rw [hp, Bool.true_or]; exact decide_eq_true c1⟩
   simp only [slices_Index_string_string.l0, if_pos c0, if_pos c1, e0, if_pos h]; exact Ev.now _
  ·have hp : ((l[i]'(by omega)).toList == s.toList) = false := beq_eq_false_iff_ne.2 (fun e => h e.symm)
   obtain ⟨j, e, hj⟩ := ih (i + 1) (by omega)
   refine ⟨j, Ev_succ ?_, by rw [hp, Bool.false_or]; exact hj⟩
   simp only [slices_Index_string_string.l0, if_pos c0, if_pos c1, hn, e0, if_neg h]; exact e
theorem contains_impl (l : List ByteArray) (hl : l.length ≤ 8388608) (s : ByteArray) : Ev (fun k => slices_Contains_string_string.f k l s) (inB l s) := by
 obtain ⟨j, e, hj⟩ := contains_loop l hl s l.length 0 (by omega)
 rw [List.drop_zero] at hj
 rw [← hj]
 simp only [slices_Contains_string_string.f]
 refine Ev_call (a := j) ?_ (Ev.now _)
 simp only [slices_Index_string_string.f]
 exact e
theorem drop_I (l : List SI) (i : Nat) (h : i < l.length) : l.drop i = rd_T73 l (i : Int) :: l.drop (i + 1) := by
 rw [List.drop_eq_getElem_cons h]; congr 1; exact (getD_at l _ i h).symm
def V0 (u : List ByteArray) (l : List SI) : List ByteArray := (l.filter fun x => !inB u x.f2).map (·.f2)
theorem V0_cons (u : List ByteArray) (x : SI) (r : List SI) : V0 u (x :: r) = if inB u x.f2 = true then V0 u r else x.f2 :: V0 u r := by
 unfold V0; rw [List.filter_cons]
 cases inB u x.f2 <;> rfl
theorem V0_len (u : List ByteArray) (l : List SI) : (V0 u l).length ≤ l.length := by unfold V0; rw [List.length_map]; exact List.length_filter_le _ _
def unusedTo (B : List SI) (C : List SX) (D : List SS) (E : List SE) : List ByteArray := (V0 (usesTo C D E) B).foldl putB []
theorem unused_l0 (A : List ByteArray) (B : List SI) (C : List SX) (D : List SS) (E : List SE) (u : List ByteArray) (hu : u.length ≤ 8388608) (hB : B.length ≤ 1048576) (d : Nat) : ∀ (i : Nat) (o : List ByteArray), i + d = B.length → o.length + d ≤ 8388608 → Ev (fun k => spec_Unused.l0 k u o i A B C D E) ((V0 u (B.drop i)).foldl putB o) := by
 induction d with
 | zero =>
  intro i o hi ho
  rw [List.drop_eq_nil_of_le (by omega)]
  refine Ev_succ ?_
  simp (disch := omega) only [spec_Unused.l0, if_neg]; exact Ev.now _
 | succ d ih =>
  intro i o hi ho
  have hn : wrap64 ((i : Int) + 1) = ((i + 1 : Nat) : Int) := by rw [w64 (by omega) (by omega)]; omega
  have c0 : (i : Int) < (B.length : Int) := by omega
  have c1 : 0 ≤ (i : Int) := by omega
  rw [drop_I B i (by omega), V0_cons]
  refine Ev_succ ?_
  simp only [spec_Unused.l0, if_pos c0, if_pos c1, hn]
  refine Ev_call (in_spec u hu _) ?_
  by_cases c : inB u (rd_T73 B (i : Int)).f2 = true
  ·simp only [if_pos c]
   exact ih (i + 1) o (by omega) (by omega)
  ·simp only [if_neg c]
   have := putB_len o (rd_T73 B (i : Int)).f2
   exact Ev_call (put_ev o _ (by omega)) (ih (i + 1) _ (by omega) (by omega))
theorem unused_spec (A : List ByteArray) (B : List SI) (C : List SX) (D : List SS) (E : List SE) (hB : B.length ≤ 1048576) (hC : C.length ≤ 1048576) (hD : D.length ≤ 1048576) (hE : E.length ≤ 1048576) : Ev (fun k => spec_Unused.f k A B C D E) (unusedTo B C D E) := by
 have hu := usesTo_len C D E
 have e := unused_l0 A B C D E (usesTo C D E) (by omega) hB B.length 0 [] (by omega) (by simp; omega)
 rw [List.drop_zero] at e
 simp only [spec_Unused.f]
 exact Ev_call (uses_spec A B C D E hC hD hE) e
theorem rising_some (o : List ByteArray) (h : o.length ≤ 140737488355328) : impl_rising.f o = some (o.foldl putB []) := by
 unfold impl_rising.f Ytopicidanlienaa.RisingL.rising.f
 rw [if_pos h]
 unfold Ytopicidanlienaa.RisingL.rising.srt
 rw [rise_puts]
theorem unused_i0 (B : List SI) (u : List ByteArray) (hu : u.length ≤ 8388608) (hB : B.length ≤ 1048576) (d : Nat) : ∀ (i : Nat) (o : List ByteArray), i + d = B.length → o.length ≤ i → Ev (fun k => impl_Unused.l0 k u o B (B.length : Int) i) ((o ++ V0 u (B.drop i)).foldl putB []) := by
 induction d with
 | zero =>
  intro i o hi ho
  rw [List.drop_eq_nil_of_le (by omega)]
  have e2 : o ++ V0 u [] = o := by simp [V0]
  rw [e2]
  refine Ev_succ ?_
  simp (disch := omega) only [impl_Unused.l0, if_neg, rising_some o (by omega), Option.bind_some]
  exact Ev.now _
 | succ d ih =>
  intro i o hi ho
  have hn : wrap64 ((i : Int) + 1) = ((i + 1 : Nat) : Int) := by rw [w64 (by omega) (by omega)]; omega
  have c0 : (i : Int) < (B.length : Int) := by omega
  have c1 : 0 ≤ (i : Int) := by omega
  have c2 : o.length < 8796093022208 := by omega
  rw [drop_I B i (by omega), V0_cons]
  refine Ev_succ ?_
  simp only [impl_Unused.l0, if_pos c0, if_pos c1, if_pos c2, hn]
  refine Ev_call (contains_impl u hu _) ?_
  by_cases c : inB u (rd_T73 B (i : Int)).f2 = true
  ·simp only [if_pos c]
   exact ih (i + 1) o (by omega) (by omega)
  ·simp only [if_neg c]
   have e := ih (i + 1) (o ++ [(rd_T73 B (i : Int)).f2]) (by omega) (by simp; omega)
   rw [List.append_assoc, List.singleton_append] at e
   exact e
theorem unused_impl (A : List ByteArray) (B : List SI) (C : List SX) (D : List SS) (E : List SE) (hB : B.length ≤ 1048576) (hC : C.length ≤ 1048576) (hD : D.length ≤ 1048576) (hE : E.length ≤ 1048576) : Ev (fun k => impl_Unused.f k A B C D E) (unusedTo B C D E) := by
 have hu := usesTo_len C D E
 have e := unused_i0 B (usesTo C D E) (by omega) hB B.length 0 [] (by omega) (by simp)
 rw [List.drop_zero, List.nil_append] at e
 simp only [impl_Unused.f]
 exact Ev_call (uses_impl A B C D E hC hD hE) e
theorem unusedTo_len (B : List SI) (C : List SX) (D : List SS) (E : List SE) : (unusedTo B C D E).length ≤ B.length := by
 unfold unusedTo
 have h := puts_len (V0 (usesTo C D E) B) []
 have := V0_len (usesTo C D E) B
 simp only [List.length_nil] at h
 omega
theorem markMod_at (l0 : List ByteArray) (l1 : List S73) (l2 : List S55) (l3 : List S53) (l4 : List S50)
  (h0 : l0.length ≤ 1048576) (h1 : l1.length ≤ 1048576) (h2 : l2.length ≤ 1048576) (h3 : l3.length ≤ 1048576) (h4 : l4.length ≤ 1048576) : ∃ m : Int, ∃ a0 a1 a2 a3 a4, Ev (fun k => laws_markMod.f k l0 l1 l2 l3 l4 1) (m, a0, a1, a2, a3, a4) ∧ 1 ≤ m ∧ m ≤ 100000000 ∧ Ev (fun k => laws_heldMod.f k a0 a1 a2 a3 a4 1) m := by
 have e0 := markStringS_ev l0 1 (by omega) (by omega) (by omega)
 have e1 := markImpS_ev l1 (1 + 1 * l0.length) (by omega) (by omega) h1
 have e2 := markExpS_ev l2 (1 + 1 * l0.length + 3 * l1.length) (by omega) (by omega) h2
 have e3 := markStmtS_ev l3 (1 + 1 * l0.length + 3 * l1.length + 4 * l2.length) (by omega) (by omega) h3
 have e4 := markExprS_ev l4 (1 + 1 * l0.length + 3 * l1.length + 4 * l2.length + 3 * l3.length) (by omega) (by omega) h4
 have g0 := heldStringS_ev l0.length 1 (by omega) (by omega) (by omega)
 have g1 := heldImpS_ev l1.length (1 + 1 * l0.length) (by omega) (by omega) h1
 have g2 := heldExpS_ev l2.length (1 + 1 * l0.length + 3 * l1.length) (by omega) (by omega) h2
 have g3 := heldStmtS_ev l3.length (1 + 1 * l0.length + 3 * l1.length + 4 * l2.length) (by omega) (by omega) h3
 have g4 := heldExprS_ev l4.length (1 + 1 * l0.length + 3 * l1.length + 4 * l2.length + 3 * l3.length) (by omega) (by omega) h4
 refine ⟨1 + 1 * l0.length + 3 * l1.length + 4 * l2.length + 3 * l3.length + 6 * l4.length, mkStringS l0.length 1, mkImpS l1.length (1 + 1 * l0.length), mkExpS l2.length (1 + 1 * l0.length + 3 * l1.length), mkStmtS l3.length (1 + 1 * l0.length + 3 * l1.length + 4 * l2.length), mkExprS l4.length (1 + 1 * l0.length + 3 * l1.length + 4 * l2.length + 3 * l3.length), ?_, by omega, by omega, ?_⟩
 ·simp only [laws_markMod.f]
  exact Ev_call e0 (Ev_call e1 (Ev_call e2 (Ev_call e3 (Ev_call e4 (Ev.now _)))))
 ·simp only [laws_heldMod.f]
  refine Ev_call g0 ?_
  simp (disch := omega) only [if_neg]
  refine Ev_call g1 ?_
  simp (disch := omega) only [if_neg]
  refine Ev_call g2 ?_
  simp (disch := omega) only [if_neg]
  refine Ev_call g3 ?_
  simp (disch := omega) only [if_neg]
  refine Ev_call g4 ?_
  simp (disch := omega) only [if_neg]
  exact Ev.now _
def F0 (u : List ByteArray) (l : List SI) : List SI := l.filter fun x => !inB u x.f2
theorem F0_cons (u : List ByteArray) (x : SI) (r : List SI) : F0 u (x :: r) = if inB u x.f2 = true then F0 u r else x :: F0 u r := by
 unfold F0; rw [List.filter_cons]
 cases inB u x.f2 <;> rfl
theorem F0_len (u : List ByteArray) (l : List SI) : (F0 u l).length ≤ l.length := List.length_filter_le _ _
theorem trim_l0 (A : List ByteArray) (B : List SI) (C : List SX) (D : List SS) (E : List SE) (u : List ByteArray) (hu : u.length ≤ 8388608) (hB : B.length ≤ 1048576) (d : Nat) : ∀ (i : Nat) (o : List SI), i + d = B.length → o.length + d ≤ 8388608 → Ev (fun k => spec_Trim.l0 k u i A B C D E A o C D E) (A, o ++ F0 u (B.drop i), C, D, E) := by
 induction d with
 | zero =>
  intro i o hi ho
  rw [List.drop_eq_nil_of_le (by omega)]
  refine Ev_succ ?_
  simp (disch := omega) only [spec_Trim.l0, if_neg]
  have e2 : o ++ F0 u [] = o := by simp [F0]
  rw [e2]; exact Ev.now _
 | succ d ih =>
  intro i o hi ho
  have hn : wrap64 ((i : Int) + 1) = ((i + 1 : Nat) : Int) := by rw [w64 (by omega) (by omega)]; omega
  have c0 : (i : Int) < (B.length : Int) := by omega
  have c1 : 0 ≤ (i : Int) := by omega
  have c2 : o.length < 2932031007402 := by omega
  rw [drop_I B i (by omega), F0_cons]
  refine Ev_succ ?_
  simp only [spec_Trim.l0, if_pos c0, if_pos c1, hn]
  refine Ev_call (in_spec u hu _) ?_
  by_cases c : inB u (rd_T73 B (i : Int)).f2 = true
  ·simp only [if_pos c]
   exact ih (i + 1) o (by omega) (by omega)
  ·simp only [if_neg c, if_pos c2]
   have e := ih (i + 1) (o ++ [rd_T73 B (i : Int)]) (by omega) (by simp; omega)
   rw [List.append_assoc, List.singleton_append] at e
   exact e
theorem trim_spec (A : List ByteArray) (B : List SI) (C : List SX) (D : List SS) (E : List SE) (hA : A.length ≤ 1048576) (hB : B.length ≤ 1048576) (hC : C.length ≤ 1048576) (hD : D.length ≤ 1048576) (hE : E.length ≤ 1048576) : Ev (fun k => spec_Trim.f k A B C D E) (A, F0 (unusedTo B C D E) B, C, D, E) := by
 have hu := unusedTo_len B C D E
 have e := trim_l0 A B C D E (unusedTo B C D E) (by omega) hB B.length 0 [] (by omega) (by simp; omega)
 rw [List.drop_zero, List.nil_append] at e
 simp only [spec_Trim.f, spec_l14Copy.f]
 rw [if_pos ⟨by omega, by omega, by omega, by omega, by omega⟩]
 simp only [Option.bind_some]
 exact Ev_call (unused_spec A B C D E hB hC hD hE) e
theorem hasB_in (u : List ByteArray) (s : ByteArray) : impl_Trim.hasB u s = inB u s := by
 unfold impl_Trim.hasB inB
 congr 1
 funext y
 exact Bool.eq_iff_iff.2 (by rw [beq_iff_eq, beq_iff_eq]; exact ⟨Eq.symm, Eq.symm⟩)
theorem trim_impl (A : List ByteArray) (B : List SI) (C : List SX) (D : List SS) (E : List SE) (hA : A.length ≤ 1048576) (hB : B.length ≤ 1048576) (hC : C.length ≤ 1048576) (hD : D.length ≤ 1048576) (hE : E.length ≤ 1048576) : Ev (fun k => impl_Trim.f k A B C D E) (A, F0 (unusedTo B C D E) B, C, D, E) := by
 have hu := unusedTo_len B C D E
 have e : impl_cloneMod.f A B C D E = some (A, B, C, D, E) := by
  simp (disch := omega) only [impl_cloneMod.f, slices_Clone_string_string.f, impl_Imp.f, impl_Exp.f, impl_Stmt.f, impl_Expr.f, if_pos, Option.bind_some]
 simp only [impl_Trim.f, e, Option.bind_some]
 refine Ev_call (unused_impl A B C D E hB hC hD hE) ?_
 rw [if_pos (by omega)]
 simp only [hasB_in]
 exact Ev.now _
theorem Trim_good (l0 : List ByteArray) (l1 : List S77) (l2 : List S79) (l3 : List S81) (l4 : List S83)
  (h0 : l0.length ≤ 1048576) (h1 : l1.length ≤ 1048576) (h2 : l2.length ≤ 1048576) (h3 : l3.length ≤ 1048576) (h4 : l4.length ≤ 1048576) (t : Int) (ht : ¬ t < 0)
  (e : Ev (fun k => laws_szMod.f k l0 l1 l2 l3 l4 1048576) t) : Ev (fun k => laws_FnExactTrim.f k l0 l1 l2 l3 l4) true := by
 have m1 : (l1.map cvImp).length ≤ 1048576 := by rw [List.length_map]; exact h1
 have m2 : (l2.map cvExp).length ≤ 1048576 := by rw [List.length_map]; exact h2
 have m3 : (l3.map cvStmt).length ≤ 1048576 := by rw [List.length_map]; exact h3
 have m4 : (l4.map cvExpr).length ≤ 1048576 := by rw [List.length_map]; exact h4
 have et := toMod_ev l0 l1 l2 l3 l4 h0 h1 h2 h3 h4
 generalize l1.map cvImp = B at et m1
 generalize l2.map cvExp = C at et m2
 generalize l3.map cvStmt = D at et m3
 generalize l4.map cvExpr = E at et m4
 have es := trim_spec l0 B C D E h0 m1 m2 m3 m4
 have ei := trim_impl l0 B C D E h0 m1 m2 m3 m4
 have hr := F0_len (unusedTo B C D E) B
 generalize F0 (unusedTo B C D E) B = F at es ei hr
 have q := eqMod_ev l0 B C D E h0 m1 m2 m3 m4
 have qr := eqMod_ev l0 F C D E h0 (by omega) m2 m3 m4
 obtain ⟨m, a0, a1, a2, a3, a4, em, hm, _⟩ := markMod_at l0 B C D E h0 m1 m2 m3 m4
 obtain ⟨n, b0, b1, b2, b3, b4, en, hn, _, eh⟩ := markMod_at l0 F C D E h0 (by omega) m2 m3 m4
 unfold laws_FnExactTrim.f
 refine Ev_call e ?_
 simp only [if_neg ht]
 refine Ev_call et (Ev_call es (Ev_call et (Ev_call ei (Ev_call qr ?_))))
 simp only [if_true]
 refine Ev_call et (Ev_call q ?_)
 simp only [if_true]
 refine Ev_call em ?_
 simp (disch := omega) only [if_neg]
 refine Ev_call qr ?_
 refine Ev_succ ?_
 simp only [laws_FnExactTrim.j0, Bool.not_true, Bool.false_eq_true, if_false]
 refine Ev_call en (Ev_call eh ?_)
 simp (disch := omega) only [if_neg, if_true]
 refine Ev_call et (Ev_call ei (Ev_call qr ?_))
 simp only [if_true]
 refine Ev_call eh ?_
 simp (disch := omega) only [if_neg, if_true]
 exact Ev.now _
theorem Trim_over (l0 : List ByteArray) (l1 : List S77) (l2 : List S79) (l3 : List S81) (l4 : List S83) (t : Int) (ht : t < 0)
  (e : Ev (fun k => laws_szMod.f k l0 l1 l2 l3 l4 1048576) t) : Ev (fun k => laws_FnExactTrim.f k l0 l1 l2 l3 l4) true := by
 unfold laws_FnExactTrim.f
 refine Ev_call e ?_
 simp only [if_pos ht]
 exact Ev.now _
theorem FnExactTrim : laws_FnExactTrim.Say := by
 intro l0 l1 l2 l3 l4 h0 h1 h2 h3 h4
 simp only [maxLen] at h0 h1 h2 h3 h4
 apply Ev.rounds
 obtain ⟨t, e, hf⟩ := szMod_ev l0 l1 l2 l3 l4 h0 h1 ⟨h2.1, fun x hx => (h2.2 x hx).2⟩ ⟨h3.1, fun x hx => (h3.2 x hx).2.1⟩ ⟨h4.1, fun x hx => ⟨(h4.2 x hx).2.2.1, (h4.2 x hx).2.2.2.1⟩⟩ 1048576 (by omega) (by omega)
 by_cases hn : t < 0
 ·exact Trim_over l0 l1 l2 l3 l4 t hn e
 obtain ⟨_, ⟨g0, _⟩, ⟨g1, _⟩, ⟨g2, _⟩, ⟨g3, _⟩, ⟨g4, _⟩⟩ := hf (by omega)
 exact Trim_good l0 l1 l2 l3 l4 (by omega) (by omega) (by omega) (by omega) (by omega) t hn e


end Go.Proofs.Ytopicidanlienaa.Pure

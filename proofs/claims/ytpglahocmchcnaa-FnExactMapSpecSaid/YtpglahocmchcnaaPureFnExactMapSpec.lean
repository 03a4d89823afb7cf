import Derived.Test.YtpglahocmchcnaaSayFnExactMapSpec
import Derived.Test.YtpglahocmchcnaaKit
/- FnExactMapSpec: the program's MapSpec and the reference's keep the same best rule round by round, for every list of rules and every spec. -/
namespace Go.Proofs.Ytpglahocmchcnaa.Pure
open Go.RowKit Go.Proofs.Ytpglahocmchcnaa.PFnExactMapSpec Go.Proofs.YtpglahocmchcnaaW.PrintWords Go.Proofs.YtpglahocmchcnaaW.PrintLast Go.Proofs.YtpglahocmchcnaaW.PrintMore Go.Proofs.Ytpglahocmchcnaa.Kit
set_option linter.unusedSimpArgs false
set_option linter.unusedVariables false

theorem szRule_some (b0 : ByteArray) (b1 : ByteArray) (left : Int) (h0 : 0 ≤ left) (h1 : left ≤ 1048576) (hb0 : b0.size ≤ 9223372036854775807) (hb1 : b1.size ≤ 9223372036854775807) :
    ∃ t, laws_szRule.f b0 b1 left = some t ∧ t ≤ left ∧ -1 ≤ t ∧ (0 ≤ t → (b0.size : Int) ≤ left ∧ (b1.size : Int) ≤ left) := by
  by_cases c0 : left - b0.size < 0
  · exact ⟨-1, by simp (disch := omega) only [laws_szRule.f, w64, if_pos, if_neg], by omega, by omega, fun h => absurd h (by omega)⟩
  by_cases c1 : left - b0.size - b1.size < 0
  · exact ⟨-1, by simp (disch := omega) only [laws_szRule.f, w64, if_pos, if_neg], by omega, by omega, fun h => absurd h (by omega)⟩
  exact ⟨left - b0.size - b1.size, by simp (disch := omega) only [laws_szRule.f, w64, if_neg], by omega, by omega, fun _ => ⟨by omega, by omega⟩⟩
theorem szRuleS_loop (l : List S74) (hs : ∀ x ∈ l, x.f0.size ≤ 9223372036854775807 ∧ x.f1.size ≤ 9223372036854775807) (hl : l.length ≤ 1048576) (d : Nat) : ∀ (i : Nat) (left : Int), i + d = l.length → 0 ≤ left → left ≤ 1048576 →
    ∃ t, Ev (fun k => laws_szRuleS.l0 k l left i) t ∧ t ≤ left ∧ -1 ≤ t ∧ (0 ≤ t → ∀ j, i ≤ j → j < l.length → ((l.getD j z74).f0.size : Int) ≤ left ∧ ((l.getD j z74).f1.size : Int) ≤ left) := by
  induction d with
  | zero =>
    intro i left hi h0 h1
    refine ⟨left, Ev_succ ?_, by omega, by omega, fun _ j hj hj2 => absurd hj2 (by omega)⟩
    simp (disch := omega) only [laws_szRuleS.l0, if_neg]; exact Ev.now _
  | succ d ih =>
    intro i left hi h0 h1
    have hx := hs (l.getD i z74) (by rw [getD_at l _ i (by omega)]; exact List.getElem_mem _)
    obtain ⟨t, e, ht, ht1, hf⟩ := szRule_some (l.getD i z74).f0 (l.getD i z74).f1 left h0 h1 hx.1 hx.2
    by_cases hn : t < 0
    · refine ⟨-1, Ev_succ ?_, by omega, by omega, fun h => absurd h (by omega)⟩
      simp (disch := omega) only [laws_szRuleS.l0, if_pos, rd_T74, Int.toNat_natCast, e, Option.bind_some]; exact Ev.now _
    · obtain ⟨t2, e2, h2, h3, hf2⟩ := ih (i + 1) t (by omega) (by omega) (by omega)
      refine ⟨t2, Ev_succ ?_, by omega, h3, fun h j hj hj2 => ?_⟩
      · simp (disch := omega) only [laws_szRuleS.l0, if_pos, if_neg, rd_T74, Int.toNat_natCast, e, Option.bind_some, w64]; exact e2
      · rcases Nat.eq_or_lt_of_le hj with hj | hj
        · subst hj; exact hf (by omega)
        · have := hf2 h j hj hj2
          exact ⟨by omega, by omega⟩
theorem szRuleS_ev (l : List S74) (hl : l.length ≤ 9223372036854775807) (hs : ∀ x ∈ l, x.f0.size ≤ 9223372036854775807 ∧ x.f1.size ≤ 9223372036854775807) (left : Int) (h0 : 0 ≤ left) (h1 : left ≤ 1048576) :
    ∃ t, Ev (fun k => laws_szRuleS.f k l left) t ∧ t ≤ left ∧ -1 ≤ t ∧ (0 ≤ t → (l.length : Int) ≤ left ∧ ∀ x ∈ l, (x.f0.size : Int) ≤ left ∧ (x.f1.size : Int) ≤ left) := by
  by_cases c0 : left - l.length < 0
  · refine ⟨-1, ?_, by omega, by omega, fun h => absurd h (by omega)⟩
    simp (disch := omega) only [laws_szRuleS.f, w64, if_pos]; exact Ev.now _
  · obtain ⟨t, e, h2, h3, hf⟩ := szRuleS_loop l hs (by omega) l.length 0 (left - l.length) (by omega) (by omega) (by omega)
    refine ⟨t, ?_, by omega, h3, fun h => ⟨by omega, fun x hx => ?_⟩⟩
    · simp (disch := omega) only [laws_szRuleS.f, w64, if_neg]; exact e
    · obtain ⟨j, hj, rfl⟩ := List.mem_iff_getElem.1 hx
      have := hf h j (by omega) hj
      rw [getD_at l _ j hj] at this
      exact ⟨by omega, by omega⟩
def cvRule (x : S74) : S75 := ⟨x.f0, x.f1⟩
theorem toRuleS_loop (l : List S74) (hl : l.length ≤ 1048576) (d : Nat) : ∀ i : Nat, i + d = l.length → Ev (fun k => laws_toRuleS.l0 k l ((l.take i).map cvRule ++ List.replicate d z75) i) (l.map cvRule) := by
  induction d with
  | zero =>
    intro i hi
    refine Ev_succ ?_
    simp (disch := omega) only [laws_toRuleS.l0, if_neg]
    exact Ev_some (fill_done l cvRule z75 i (by omega))
  | succ d ih =>
    intro i hi
    have e := set_step l cvRule z75 z74 i d hi
    have e2 := ih (i + 1) (by omega)
    rw [← e] at e2
    refine Ev_succ ?_
    simp (disch := (first | omega | (simp only [List.length_append, List.length_map, List.length_take, List.length_replicate]; omega))) only [laws_toRuleS.l0, if_pos, rd_T74, laws_toRule.f, Option.bind_some, Int.toNat_natCast, w64]
    exact e2
theorem toRuleS_ev (l : List S74) (hl : l.length ≤ 1048576) : Ev (fun k => laws_toRuleS.f k l) (l.map cvRule) := by
  have e := toRuleS_loop l hl l.length 0 (by omega)
  simp only [List.take_zero, List.map_nil, List.nil_append] at e
  simp (disch := (first | omega | (simp only [Int.toNat_natCast]; omega))) only [laws_toRuleS.f, if_pos, Int.toNat_natCast]
  exact e
theorem eqRuleS_loop (l : List S75) (hl : l.length ≤ 1048576) (d : Nat) : ∀ i : Nat, i + d = l.length → Ev (fun k => laws_eqRuleS.l0 k l l i) true := by
  induction d with
  | zero =>
    intro i hi
    refine Ev_succ ?_
    simp (disch := omega) only [laws_eqRuleS.l0, if_neg]; exact Ev.now _
  | succ d ih =>
    intro i hi
    have e := ih (i + 1) (by omega)
    refine Ev_succ ?_
    simp (disch := omega) only [laws_eqRuleS.l0, if_pos, if_true, laws_eqRule.f, Option.bind_some, w64]
    exact e
theorem eqRuleS_ev (l : List S75) (hl : l.length ≤ 1048576) : Ev (fun k => laws_eqRuleS.f k l l) true := by
  have e := eqRuleS_loop l hl l.length 0 (by omega)
  simp only [laws_eqRuleS.f, if_true]
  exact e
theorem text_ok_loop (s : ByteArray) (hz : s.size ≤ 9223372036854775807) (d : Nat) : ∀ i : Int, 0 ≤ i → i + d = s.size →
    ∃ b : Bool, Ev (fun k => spec_l14Str.l0 k s i) b ∧ Ev (fun k => impl_ruleText.l0 k s s.size i) (b && decide ((s.size : Int) ≤ 40)) := by
  induction d with
  | zero =>
    intro i h0 hi
    refine ⟨true, Ev_succ ?_, Ev_succ ?_⟩
    · simp (disch := omega) only [spec_l14Str.l0, if_neg]; exact Ev.now _
    · simp (disch := omega) only [impl_ruleText.l0, if_neg]; exact Ev_some (by simp)
  | succ d ih =>
    intro i h0 hi
    have hb := bt_range s i
    by_cases c0 : bt s i < 32
    · refine ⟨false, Ev_succ ?_, Ev_succ ?_⟩
      · simp (disch := omega) only [spec_l14Str.l0, if_pos]; exact Ev.now _
      · simp (disch := omega) only [impl_ruleText.l0, impl_in.f, if_pos, if_neg, w64, Option.bind_some, Bool.false_eq_true, if_false]; exact Ev_some (by simp)
    by_cases c1 : bt s i > 126
    · refine ⟨false, Ev_succ ?_, Ev_succ ?_⟩
      · simp (disch := omega) only [spec_l14Str.l0, if_pos, if_neg]; exact Ev.now _
      · simp (disch := omega) only [impl_ruleText.l0, impl_in.f, if_pos, if_neg, w64, Option.bind_some, decide_eq_false (show ¬ bt s i ≤ 126 by omega), Bool.false_eq_true, if_false]; exact Ev_some (by simp)
    by_cases c2 : bt s i = 34
    · refine ⟨false, Ev_succ ?_, Ev_succ ?_⟩
      · simp (disch := omega) only [spec_l14Str.l0, if_pos, if_neg]; exact Ev.now _
      · simp (disch := omega) only [impl_ruleText.l0, impl_in.f, if_pos, if_neg, w64, Option.bind_some, decide_eq_true (show bt s i ≤ 126 by omega)]; exact Ev_some (by simp)
    by_cases c3 : bt s i = 92
    · refine ⟨false, Ev_succ ?_, Ev_succ ?_⟩
      · simp (disch := omega) only [spec_l14Str.l0, if_pos, if_neg]; exact Ev.now _
      · simp (disch := omega) only [impl_ruleText.l0, impl_in.f, if_pos, if_neg, w64, Option.bind_some, decide_eq_true (show bt s i ≤ 126 by omega)]; exact Ev_some (by simp)
    obtain ⟨b, e1, e2⟩ := ih (i + 1) (by omega) (by omega)
    refine ⟨b, Ev_succ ?_, Ev_succ ?_⟩
    · simp (disch := omega) only [spec_l14Str.l0, if_pos, if_neg, w64]; exact e1
    · simp (disch := omega) only [impl_ruleText.l0, impl_in.f, if_pos, if_neg, w64, Option.bind_some, decide_eq_true (show bt s i ≤ 126 by omega)]; exact e2
theorem text_ok (s : ByteArray) (hz : s.size ≤ 9223372036854775807) : ∃ b : Bool, Ev (fun k => spec_l14Str.f k s) b ∧ Ev (fun k => impl_ruleText.f k s) b ∧ (b = true → s.size ≤ 40) := by
  obtain ⟨b, e1, e2⟩ := text_ok_loop s hz s.size 0 (by omega) (by omega)
  by_cases h : (s.size : Int) ≤ 40
  · refine ⟨b, ?_, ?_, fun _ => by omega⟩
    · simp (disch := omega) only [spec_l14Str.f, if_neg]; exact e1
    · simp only [decide_eq_true h, Bool.and_true] at e2
      simp only [impl_ruleText.f]; exact e2
  · refine ⟨false, ?_, ?_, fun h => by cases h⟩
    · simp (disch := omega) only [spec_l14Str.f, if_pos]; exact Ev.now _
    · simp only [decide_eq_false h, Bool.and_false] at e2
      simp only [impl_ruleText.f]; exact e2
theorem rules_loop (L : List S75) (hl : L.length ≤ 1048576) (hs : ∀ x ∈ L, x.f0.size ≤ 9223372036854775807 ∧ x.f1.size ≤ 9223372036854775807) (d : Nat) : ∀ i : Nat, i + d = L.length →
    ∃ b : Bool, Ev (fun k => spec_RulesOk.l0 k L i) b ∧ Ev (fun k => impl_RulesOk.l0 k L L L.length i) (b && decide ((L.length : Int) ≤ 8)) ∧
      (b = true → ∀ j, i ≤ j → j < L.length → 0 < (L.getD j z75).f0.size ∧ (L.getD j z75).f0.size ≤ 40 ∧ (L.getD j z75).f1.size ≤ 40) := by
  induction d with
  | zero =>
    intro i hi
    refine ⟨true, Ev_succ ?_, Ev_succ ?_, fun _ j h1 h2 => absurd h2 (by omega)⟩
    · simp (disch := omega) only [spec_RulesOk.l0, if_neg]; exact Ev.now _
    · simp (disch := omega) only [impl_RulesOk.l0, if_neg]; exact Ev_some (by simp)
  | succ d ih =>
    intro i hi
    have hx := hs (L.getD i z75) (by rw [getD_at L _ i (by omega)]; exact List.getElem_mem _)
    obtain ⟨b0, s0, p0, q0⟩ := text_ok (L.getD i z75).f0 hx.1
    obtain ⟨b1, s1, p1, q1⟩ := text_ok (L.getD i z75).f1 hx.2
    by_cases c0 : (L.getD i z75).f0.toList = []
    · refine ⟨false, Ev_succ ?_, Ev_succ ?_, fun h => by cases h⟩
      · simp (disch := omega) only [spec_RulesOk.l0, if_pos, rd_T75, Int.toNat_natCast, c0, if_true]; exact Ev.now _
      · simp (disch := omega) only [impl_RulesOk.l0, if_pos, rd_T75, Int.toNat_natCast, c0, if_true]; exact Ev_some (by simp)
    cases b0 with
    | false =>
      refine ⟨false, Ev_succ ?_, Ev_succ ?_, fun h => by cases h⟩
      · simp (disch := omega) only [spec_RulesOk.l0, if_pos, rd_T75, Int.toNat_natCast, c0, if_false]
        refine Ev_call s0 ?_
        simp only [Bool.false_eq_true, if_false]; exact Ev.now _
      · simp (disch := omega) only [impl_RulesOk.l0, if_pos, rd_T75, Int.toNat_natCast, c0, if_false]
        refine Ev_call p0 ?_
        simp only [Bool.false_eq_true, if_false]; exact Ev_some (by simp)
    | true =>
    cases b1 with
    | false =>
      refine ⟨false, Ev_succ ?_, Ev_succ ?_, fun h => by cases h⟩
      · simp (disch := omega) only [spec_RulesOk.l0, if_pos, rd_T75, Int.toNat_natCast, c0, if_false]
        refine Ev_call s0 ?_
        simp only [if_true]
        refine Ev_call s1 ?_
        simp only [Bool.false_eq_true, if_false]; exact Ev.now _
      · simp (disch := omega) only [impl_RulesOk.l0, if_pos, rd_T75, Int.toNat_natCast, c0, if_false]
        refine Ev_call p0 ?_
        simp only [if_true]
        refine Ev_call p1 ?_
        simp only [Bool.false_eq_true, if_false]; exact Ev_some (by simp)
    | true =>
    have hp : 0 < (L.getD i z75).f0.size := by
      rcases Nat.eq_zero_or_pos (L.getD i z75).f0.size with h | h
      · exfalso
        apply c0
        rw [toList_data]
        exact List.eq_nil_of_length_eq_zero (by rw [Array.length_toList]; exact h)
      · exact h
    obtain ⟨b, e1, e2, ef⟩ := ih (i + 1) (by omega)
    have hf : b = true → ∀ j, i ≤ j → j < L.length → 0 < (L.getD j z75).f0.size ∧ (L.getD j z75).f0.size ≤ 40 ∧ (L.getD j z75).f1.size ≤ 40 := by
      intro hb j h1 h2
      rcases Nat.eq_or_lt_of_le h1 with h1 | h1
      · subst h1; exact ⟨hp, q0 rfl, q1 rfl⟩
      · exact ef hb j h1 h2
    by_cases ci : (i : Int) > 0
    · have e3 : ((i : Int) - 1).toNat = i - 1 := by omega
      by_cases cl : Op.bytesLess ((L.getD (i - 1) z75).f0.toList) ((L.getD i z75).f0.toList) = true
      · refine ⟨b, Ev_succ ?_, Ev_succ ?_, hf⟩
        · simp (disch := omega) only [spec_RulesOk.l0, if_pos, rd_T75, Int.toNat_natCast, c0, if_false]
          refine Ev_call s0 ?_
          simp only [if_true]
          refine Ev_call s1 ?_
          simp (disch := omega) only [if_true, if_pos ci, if_pos, w64, e3, cl, if_true]; exact e1
        · simp (disch := omega) only [impl_RulesOk.l0, if_pos, rd_T75, Int.toNat_natCast, c0, if_false]
          refine Ev_call p0 ?_
          simp only [if_true]
          refine Ev_call p1 ?_
          simp (disch := omega) only [if_true, if_pos ci, if_pos, w64, e3, cl, if_true]; exact e2
      · refine ⟨false, Ev_succ ?_, Ev_succ ?_, fun h => by cases h⟩
        · simp (disch := omega) only [spec_RulesOk.l0, if_pos, rd_T75, Int.toNat_natCast, c0, if_false]
          refine Ev_call s0 ?_
          simp only [if_true]
          refine Ev_call s1 ?_
          simp (disch := omega) only [if_true, if_pos ci, if_pos, w64, e3, cl, if_false, Bool.false_eq_true]; exact Ev.now _
        · simp (disch := omega) only [impl_RulesOk.l0, if_pos, rd_T75, Int.toNat_natCast, c0, if_false]
          refine Ev_call p0 ?_
          simp only [if_true]
          refine Ev_call p1 ?_
          simp (disch := omega) only [if_true, if_pos ci, if_pos, w64, e3, cl, if_false, Bool.false_eq_true]; exact Ev_some (by simp)
    · refine ⟨b, Ev_succ ?_, Ev_succ ?_, hf⟩
      · simp (disch := omega) only [spec_RulesOk.l0, if_pos, rd_T75, Int.toNat_natCast, c0, if_false]
        refine Ev_call s0 ?_
        simp only [if_true]
        refine Ev_call s1 ?_
        simp (disch := omega) only [if_true, if_neg ci, w64]; exact e1
      · simp (disch := omega) only [impl_RulesOk.l0, if_pos, rd_T75, Int.toNat_natCast, c0, if_false]
        refine Ev_call p0 ?_
        simp only [if_true]
        refine Ev_call p1 ?_
        simp (disch := omega) only [if_true, if_neg ci, w64]; exact e2
theorem rules_both (L : List S75) (hl : L.length ≤ 1048576) (hs : ∀ x ∈ L, x.f0.size ≤ 9223372036854775807 ∧ x.f1.size ≤ 9223372036854775807) :
    ∃ b : Bool, Ev (fun k => spec_RulesOk.f k L) b ∧ Ev (fun k => impl_RulesOk.f k L) b ∧ (b = true → L.length ≤ 8 ∧ ∀ j, j < L.length → 0 < (L.getD j z75).f0.size ∧ (L.getD j z75).f0.size ≤ 40 ∧ (L.getD j z75).f1.size ≤ 40) := by
  obtain ⟨b, e1, e2, hf⟩ := rules_loop L hl hs L.length 0 (by omega)
  by_cases h : (L.length : Int) ≤ 8
  · refine ⟨b, ?_, ?_, fun hb => ⟨by omega, fun j hj => hf hb j (by omega) hj⟩⟩
    · simp (disch := omega) only [spec_RulesOk.f, if_neg]; exact e1
    · simp only [decide_eq_true h, Bool.and_true] at e2
      simp only [impl_RulesOk.f]; exact e2
  · refine ⟨false, ?_, ?_, fun h => by cases h⟩
    · simp (disch := omega) only [spec_RulesOk.f, if_pos]; exact Ev.now _
    · simp only [decide_eq_false h, Bool.and_false] at e2
      simp only [impl_RulesOk.f]; exact e2
theorem rdR (L : List S75) (i : Nat) : rd_T75 L (i : Int) = L.getD i z75 := by
  unfold rd_T75; rw [Int.toNat_natCast]
theorem toList_nil {s : ByteArray} : s.toList = ([] : List UInt8) ↔ s.size = 0 := by
  rw [toList_data]
  constructor
  · intro h
    have := congrArg List.length h
    rw [Array.length_toList] at this
    exact this
  · intro h
    exact List.eq_nil_of_length_eq_zero (by rw [Array.length_toList]; exact h)
theorem ext_size (s : ByteArray) (i j : Nat) (hj : j ≤ s.size) : (s.extract i j).size = j - i := by
  rw [← B_len, B_ext, List.length_drop, List.length_take, B_len]; omega
theorem last_slash (p : ByteArray) (hp : 0 < p.size) : ((p.extract (p.size - 1) p.size).toList == (⟨#[47]⟩ : ByteArray).toList) = decide (bt p ((p.size : Int) - 1) = 47) := by
  have hl : (bytesOf p).length = p.size := B_len p
  have e : bt p ((p.size : Int) - 1) = (bytesOf p)[p.size - 1]'(by omega) := by
    rw [bt_B, getD_at _ _ _ (by omega)]
    congr 1; omega
  have e1 : bytesOf (p.extract (p.size - 1) p.size) = [bt p ((p.size : Int) - 1)] := by
    rw [B_ext, List.take_of_length_le (by omega), e]
    rw [List.drop_eq_getElem_cons (by omega), List.drop_of_length_le (by omega)]
  have e2 : bytesOf (⟨#[47]⟩ : ByteArray) = [47] := rfl
  rw [Bool.eq_iff_iff, beq_iff_eq, toList_B, e1, e2, decide_eq_true_eq]
  simp
theorem suf_slash (p : ByteArray) (hp : 0 < p.size) (hz : p.size ≤ 1048576) : strings_HasSuffix.f p (⟨#[47]⟩ : ByteArray) = some (decide (bt p ((p.size : Int) - 1) = 47)) := by
  have e1 : ((⟨#[47]⟩ : ByteArray).size : Int) = 1 := rfl
  have e2 : ((p.size : Int) - 1).toNat = p.size - 1 := by omega
  have ws : wrap64 ((p.size : Int) - 1) = (p.size : Int) - 1 := w64 (by omega) (by omega)
  simp only [strings_HasSuffix.f, stringslite_HasSuffix.f, e1, ws, Option.bind_some, e2]
  rw [last_slash p hp, if_pos (by omega), if_pos (by omega), if_pos (by omega)]
  rfl
theorem pre_begins (x p : ByteArray) : strings_HasPrefix.f x p = spec_l2Begins.f p x := by
  by_cases hs : p.size ≤ x.size
  · simp (disch := omega) only [strings_HasPrefix.f, stringslite_HasPrefix.f, spec_l2Begins.f, if_pos, Option.bind_some]
  · simp (disch := omega) only [strings_HasPrefix.f, stringslite_HasPrefix.f, spec_l2Begins.f, if_neg]
    rfl
theorem begins_ev (p x : ByteArray) : spec_l2Begins.f p x = some (decide (p.size ≤ x.size) && ((x.extract 0 p.size).toList == p.toList)) := by
  by_cases hs : p.size ≤ x.size
  · rw [decide_eq_true hs, Bool.true_and]
    simp (disch := omega) only [spec_l2Begins.f, if_pos, Int.toNat_natCast]
  · rw [decide_eq_false hs, Bool.false_and]
    simp (disch := omega) only [spec_l2Begins.f, if_neg]
def Rel (L : List S75) (x1 : ByteArray) (best : Int) (P Q : ByteArray) : Prop :=
  (best = -1 ∧ P = ⟨#[]⟩ ∧ Q = ⟨#[]⟩) ∨ ∃ b : Nat, best = b ∧ b < L.length ∧ P = (L.getD b z75).f0 ∧ Q = (L.getD b z75).f1 ∧ P.size ≤ x1.size
theorem size0 : (⟨#[]⟩ : ByteArray).size = 0 := rfl
theorem ms_loop (L : List S75) (x1 : ByteArray) (hL : L.length ≤ 8) (hx : x1.size ≤ 1048576) (hR : Ev (fun k => spec_RulesOk.f k L) true)
    (hp : ∀ j, j < L.length → 0 < (L.getD j z75).f0.size ∧ (L.getD j z75).f0.size ≤ 40 ∧ (L.getD j z75).f1.size ≤ 40) (d : Nat) :
    ∀ (i : Nat) (best : Int) (P Q : ByteArray), i + d = L.length → Rel L x1 best P Q → ∃ r, Ev (fun k => spec_MapSpec.l0 k L x1 best i) r ∧ Ev (fun k => impl_MapSpec.l0 k x1 L L.length i P Q) r := by
  induction d with
  | zero =>
    intro i best P Q hi hr
    rcases hr with ⟨rfl, rfl, rfl⟩ | ⟨b, rfl, hb, rfl, rfl, hP⟩
    · refine ⟨x1, Ev_succ ?_, Ev_succ ?_⟩
      · simp (disch := omega) only [spec_MapSpec.l0, if_neg]
        refine Ev_succ ?_
        simp (disch := omega) only [spec_MapSpec.j1, Bool.false_eq_true, if_false, if_pos]; exact Ev.now _
      · have e0 : (⟨#[]⟩ : ByteArray).toList = ([] : List UInt8) := toList_nil.2 rfl
        have e1 : ((⟨#[]⟩ : ByteArray).size : Int) = 0 := rfl
        have e2 := ext_size x1 0 x1.size (Nat.le_refl _)
        have e3 : (⟨#[]⟩ : ByteArray).size = 0 := rfl
        simp (disch := omega) only [impl_MapSpec.l0, if_neg, e1, if_pos, Int.toNat_zero, e0, if_true]; exact Ev.now _
    · obtain ⟨h0, h40, hq40⟩ := hp b hb
      have e2 := ext_size x1 (L.getD b z75).f0.size x1.size (Nat.le_refl _)
      have e3 := size_app (L.getD b z75).f1 (x1.extract (L.getD b z75).f0.size x1.size)
      have e0 : ¬ (L.getD b z75).f0.toList = ([] : List UInt8) := fun h => by have := toList_nil.1 h; omega
      by_cases hg : ((L.getD b z75).f1.size : Int) + x1.size - (L.getD b z75).f0.size > 40
      · refine ⟨x1, Ev_succ ?_, Ev_succ ?_⟩
        · simp (disch := omega) only [spec_MapSpec.l0, if_neg]
          refine Ev_succ ?_
          simp (disch := omega) only [spec_MapSpec.j1, Bool.false_eq_true, if_false, if_neg, if_pos, rdR, Int.toNat_natCast, w64]; exact Ev.now _
        · simp (disch := omega) only [impl_MapSpec.l0, if_neg, if_pos, Int.toNat_natCast, e0, if_false]; exact Ev.now _
      · refine ⟨(L.getD b z75).f1 ++ x1.extract (L.getD b z75).f0.size x1.size, Ev_succ ?_, Ev_succ ?_⟩
        · simp (disch := omega) only [spec_MapSpec.l0, if_neg]
          refine Ev_succ ?_
          simp (disch := omega) only [spec_MapSpec.j1, Bool.false_eq_true, if_false, if_neg, if_pos, rdR, Int.toNat_natCast, w64]; exact Ev.now _
        · simp (disch := omega) only [impl_MapSpec.l0, if_neg, if_pos, Int.toNat_natCast, e0, if_false]; exact Ev.now _
  | succ d ih =>
    intro i best P Q hi hr
    obtain ⟨h0, h40, hq40⟩ := hp i (by omega)
    have keep := ih (i + 1) best P Q (by omega) hr
    have new := fun hsz : (L.getD i z75).f0.size ≤ x1.size => ih (i + 1) i (L.getD i z75).f0 (L.getD i z75).f1 (by omega) (.inr ⟨i, rfl, by omega, rfl, rfl, hsz⟩)
    have upd : (L.getD i z75).f0.size ≤ x1.size → ∃ r,
        Ev (fun k => if best < 0 then spec_MapSpec.l0 k L x1 i ((i : Int) + 1) else if best < (L.length : Int) then if ((L.getD i z75).f0.size : Int) > ((L.getD best.toNat z75).f0.size : Int) then spec_MapSpec.l0 k L x1 i ((i : Int) + 1) else spec_MapSpec.l0 k L x1 best ((i : Int) + 1) else none) r ∧
        Ev (fun k => if ((L.getD i z75).f0.size : Int) > (P.size : Int) then impl_MapSpec.l0 k x1 L L.length ((i : Int) + 1) (L.getD i z75).f0 (L.getD i z75).f1 else impl_MapSpec.l0 k x1 L L.length ((i : Int) + 1) P Q) r := by
      intro hsz
      rcases hr with ⟨rfl, rfl, rfl⟩ | ⟨b, rfl, hb, rfl, rfl, hP⟩
      · obtain ⟨r, e1, e2⟩ := new hsz
        refine ⟨r, ?_, ?_⟩
        · simp (disch := omega) only [if_pos]; exact e1
        · have e : ((⟨#[]⟩ : ByteArray).size : Int) = 0 := rfl
          simp (disch := omega) only [e, if_pos]; exact e2
      · by_cases hc : ((L.getD i z75).f0.size : Int) > ((L.getD b z75).f0.size : Int)
        · obtain ⟨r, e1, e2⟩ := new hsz
          refine ⟨r, ?_, ?_⟩
          · simp (disch := omega) only [if_pos, if_neg, Int.toNat_natCast]; exact e1
          · simp (disch := omega) only [if_pos]; exact e2
        · obtain ⟨r, e1, e2⟩ := keep
          refine ⟨r, ?_, ?_⟩
          · simp (disch := omega) only [if_pos, if_neg, Int.toNat_natCast]; exact e1
          · simp (disch := omega) only [if_neg]; exact e2
    have hsp : ∀ r, Ev (fun k => spec_MapSpec.j1 k L x1 best i true) r → Ev (fun k => spec_MapSpec.l0 k L x1 best i) r := fun r h => by
      refine Ev_succ ?_
      simp (disch := omega) only [spec_MapSpec.l0, if_pos]
      exact Ev_call hR h
    have w1 : wrap64 ((i : Int) + 1) = (i : Int) + 1 := w64 (by omega) (by omega)
    by_cases c : (L.getD i z75).f0.toList = x1.toList
    · have hsz : (L.getD i z75).f0.size ≤ x1.size := by rw [toList_inj.1 c]; exact Nat.le_refl _
      obtain ⟨r, e1, e2⟩ := upd hsz
      refine ⟨r, hsp r (Ev_succ ?_), Ev_succ ?_⟩
      · simp (disch := omega) only [spec_MapSpec.j1, if_true, if_pos, rdR, Int.toNat_natCast, c, w1]; exact e1
      · simp (disch := omega) only [impl_MapSpec.l0, if_pos, rdR, Int.toNat_natCast, c, if_true, w1]; exact e2
    · have ws : wrap64 (((L.getD i z75).f0.size : Int) - 1) = ((L.getD i z75).f0.size : Int) - 1 := w64 (by omega) (by omega)
      have hsuf := suf_slash (L.getD i z75).f0 h0 (by omega)
      have hpre := pre_begins x1 (L.getD i z75).f0
      have hbg0 := begins_ev (L.getD i z75).f0 x1
      by_cases c47 : bt (L.getD i z75).f0 (((L.getD i z75).f0.size : Int) - 1) = 47
      · cases hbv : (decide ((L.getD i z75).f0.size ≤ x1.size) && ((x1.extract 0 (L.getD i z75).f0.size).toList == (L.getD i z75).f0.toList)) with
        | true =>
          rw [hbv] at hbg0
          have hs : (L.getD i z75).f0.size ≤ x1.size := by
            have := (Bool.and_eq_true _ _).mp hbv
            exact of_decide_eq_true this.1
          obtain ⟨r, e1, e2⟩ := upd hs
          refine ⟨r, hsp r (Ev_succ ?_), Ev_succ ?_⟩
          · simp (disch := omega) only [spec_MapSpec.j1, if_true, if_pos, rdR, Int.toNat_natCast, c, if_false, ws, c47, hbg0, Option.bind_some, w1]; exact e1
          · simp (disch := omega) only [impl_MapSpec.l0, if_pos, rdR, Int.toNat_natCast, c, if_false, hsuf, hpre, hbg0, Option.bind_some, c47, decide_true, if_true, w1]; exact e2
        | false =>
          rw [hbv] at hbg0
          obtain ⟨r, e1, e2⟩ := keep
          refine ⟨r, hsp r (Ev_succ ?_), Ev_succ ?_⟩
          · simp (disch := omega) only [spec_MapSpec.j1, if_true, if_pos, rdR, Int.toNat_natCast, c, if_false, ws, c47, hbg0, Option.bind_some, w1, Bool.false_eq_true]; exact e1
          · simp (disch := omega) only [impl_MapSpec.l0, if_pos, rdR, Int.toNat_natCast, c, if_false, hsuf, hpre, hbg0, Option.bind_some, c47, decide_true, if_true, w1, Bool.false_eq_true]; exact e2
      · obtain ⟨r, e1, e2⟩ := keep
        refine ⟨r, hsp r (Ev_succ ?_), Ev_succ ?_⟩
        · simp (disch := omega) only [spec_MapSpec.j1, if_true, if_pos, rdR, Int.toNat_natCast, c, if_false, ws, c47, w1]; exact e1
        · simp (disch := omega) only [impl_MapSpec.l0, if_pos, rdR, Int.toNat_natCast, c, if_false, hsuf, Option.bind_some, c47, decide_false, Bool.false_eq_true, w1]; exact e2
theorem FnExactMapSpec : laws_FnExactMapSpec.Say := by
  intro l x1 hl _
  simp only [maxLen] at hl
  obtain ⟨hl, hs⟩ := hl
  apply Ev.rounds
  simp only [laws_FnExactMapSpec.f]
  by_cases hz : (x1.size : Int) > 1048576
  · simp only [if_pos hz]; exact Ev.now _
  simp only [if_neg hz]
  obtain ⟨t, e, h2, h3, hf⟩ := szRuleS_ev l hl hs 1048576 (by omega) (by omega)
  refine Ev_call e ?_
  by_cases hn : t < 0
  · simp only [if_pos hn]; exact Ev.now _
  · obtain ⟨hll, hsz⟩ := hf (by omega)
    have hll : l.length ≤ 1048576 := by omega
    simp only [if_neg hn]
    have et := toRuleS_ev l hll
    have hml : (l.map cvRule).length ≤ 1048576 := by simpa using hll
    obtain ⟨b, e1, e2, hb⟩ := rules_both (l.map cvRule) hml (by
      intro x hx
      obtain ⟨y, hy, rfl⟩ := List.mem_map.1 hx
      exact hs y hy)
    have both : ∃ r, Ev (fun k => spec_MapSpec.f k (l.map cvRule) x1) r ∧ Ev (fun k => impl_MapSpec.f k (l.map cvRule) x1) r := by
      cases b with
      | true =>
        obtain ⟨h8, hp⟩ := hb rfl
        obtain ⟨r, a1, a2⟩ := ms_loop (l.map cvRule) x1 h8 (by omega) e1 hp (l.map cvRule).length 0 (-1) ⟨#[]⟩ ⟨#[]⟩ (by omega) (.inl ⟨rfl, rfl, rfl⟩)
        refine ⟨r, ?_, ?_⟩
        · simp only [spec_MapSpec.f]; exact a1
        · simp only [impl_MapSpec.f]
          refine Ev_call e2 ?_
          simp only [if_true]; exact a2
      | false =>
        refine ⟨x1, ?_, ?_⟩
        · simp only [spec_MapSpec.f]
          refine Ev_succ ?_
          by_cases h0 : (0 : Int) < ((l.map cvRule).length : Int)
          · simp only [spec_MapSpec.l0, if_pos h0]
            refine Ev_call e1 (Ev_succ ?_)
            simp (disch := omega) only [spec_MapSpec.j1, Bool.false_eq_true, if_false, if_pos]; exact Ev.now _
          · simp only [spec_MapSpec.l0, if_neg h0]
            refine Ev_succ ?_
            simp (disch := omega) only [spec_MapSpec.j1, Bool.false_eq_true, if_false, if_pos]; exact Ev.now _
        · simp only [impl_MapSpec.f]
          refine Ev_call e2 ?_
          simp only [Bool.false_eq_true, if_false]; exact Ev.now _
    obtain ⟨r, a1, a2⟩ := both
    refine Ev_call et (Ev_call a1 (Ev_call et (Ev_call a2 ?_)))
    simp only [if_true]
    refine Ev_call et (Ev_call (eqRuleS_ev (l.map cvRule) hml) ?_)
    simp only [if_true]
    exact Ev.now _


end Go.Proofs.Ytpglahocmchcnaa.Pure

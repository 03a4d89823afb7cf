import Derived.Test.YtmpmfaaodjmpjaaDoorSayFnExactLex
import Derived.Test.YtmpmfaaodjmpjaaDoorKit
import Derived.Test.YtmpmfaaodjmpjaaDoorLexL
import Derived.Test.YtmpmfaaodjmpjaaDoorNumL
/- FnExactLex: both read the same tokens, on lists of bytes; for every text. -/
namespace Go.Proofs.YtmpmfaaodjmpjaaDoor.Pure
open Go.RowKit Go.Proofs.YtmpmfaaodjmpjaaDoor.PFnExactLex Go.Proofs.YtmpmfaaodjmpjaaDoorW.PrintWords Go.Proofs.YtmpmfaaodjmpjaaDoorW.PrintLast Go.Proofs.YtmpmfaaodjmpjaaDoorW.PrintMore Go.Proofs.YtmpmfaaodjmpjaaDoor.Kit
set_option linter.unusedSimpArgs false
set_option linter.unusedVariables false

/-! The reference's lexing, on lists -/
theorem drop_cons {L : List UInt8} {i : Nat} {c : UInt8} {r : List UInt8} (h : L.drop i = c :: r) : i < L.length ∧ L.drop (i + 1) = r := by
  have hi : i < L.length := by
    rcases Nat.lt_or_ge i L.length with h1 | h1
    · exact h1
    · rw [List.drop_eq_nil_of_le h1] at h; cases h
  refine ⟨hi, ?_⟩
  rw [List.drop_eq_getElem_cons hi] at h
  exact (List.cons.inj h).2
theorem drop_nil {L : List UInt8} {i : Nat} (h : L.drop i = []) : L.length ≤ i := by
  rcases Nat.lt_or_ge i L.length with h1 | h1
  · rw [List.drop_eq_getElem_cons h1] at h; cases h
  · exact h1
theorem lenL (s : ByteArray) : s.data.toList.length = s.size := by rw [Array.length_toList]; rfl
theorem btL (s : ByteArray) (i : Nat) (c : UInt8) (r : List UInt8) (h : s.data.toList.drop i = c :: r) : bt s (i : Int) = (c.toNat : Int) := by
  obtain ⟨hi, _⟩ := drop_cons h
  rw [bt_B, Int.toNat_natCast, List.getD_eq_getElem?_getD]
  have h2 : s.data.toList[i]? = some c := by
    rw [List.drop_eq_getElem_cons hi] at h
    rw [List.getElem?_eq_getElem hi, (List.cons.inj h).1]
  simp only [bytesOf, List.getElem?_map, h2, Option.map_some, Option.getD_some]
theorem b_eq (c : UInt8) (n : Nat) (h : n < 256) : ((c.toNat : Int) = (n : Int)) ↔ c = UInt8.ofNat n := by
  constructor
  · intro e
    apply UInt8.toNat_inj.1
    rw [UInt8.toNat_ofNat_of_lt' (by simpa using h)]
    omega
  · rintro rfl
    rw [UInt8.toNat_ofNat_of_lt' (by simpa using h)]
theorem letter_spec (c : UInt8) (b : Bool) : spec_l3Letter.f (c.toNat : Int) b = some (lLetter b c) := by
  have e95 : (c == 95) = decide ((c.toNat : Int) = 95) := by rw [Bool.eq_iff_iff, beq_iff_eq, decide_eq_true_eq]; exact (b_eq c 95 (by decide)).symm
  have e36 : (c == 36) = ((c.toNat : Int) == 36) := by rw [Bool.eq_iff_iff, beq_iff_eq, beq_iff_eq]; exact (b_eq c 36 (by decide)).symm
  unfold lLetter
  rw [e95, e36]
  have d1 : decide (97 ≤ c.toNat) = decide ((c.toNat : Int) ≥ 97) := decide_eq_decide.2 (by omega)
  have d2 : decide (c.toNat ≤ 122) = decide ((c.toNat : Int) ≤ 122) := decide_eq_decide.2 (by omega)
  have d3 : decide (65 ≤ c.toNat) = decide ((c.toNat : Int) ≥ 65) := decide_eq_decide.2 (by omega)
  have d4 : decide (c.toNat ≤ 90) = decide ((c.toNat : Int) ≤ 90) := decide_eq_decide.2 (by omega)
  rw [d1, d2, d3, d4]
  generalize (c.toNat : Int) = a
  unfold spec_l3Letter.f
  by_cases h1 : a ≥ 97 <;> by_cases h2 : a ≤ 122 <;> by_cases h3 : a ≥ 65 <;> by_cases h4 : a ≤ 90 <;> by_cases h5 : a = 95 <;> cases b <;> simp [h1, h2, h3, h4, h5] <;> omega
theorem digit_spec (c : UInt8) : spec_l3Digit.f (c.toNat : Int) = some (lDigit c) := by
  have d1 : decide (48 ≤ c.toNat) = decide ((c.toNat : Int) ≥ 48) := decide_eq_decide.2 (by omega)
  have d2 : decide (c.toNat ≤ 57) = decide ((c.toNat : Int) ≤ 57) := decide_eq_decide.2 (by omega)
  unfold lDigit spec_l3Digit.f
  rw [d1, d2]
  by_cases h1 : (c.toNat : Int) ≥ 48
  · rw [if_pos h1, decide_eq_true h1, Bool.true_and]
  · rw [if_neg h1, decide_eq_false h1, Bool.false_and]
theorem sign_loop (c : UInt8) (d : Nat) : ∀ i : Nat, i + d = 11 → Ev (fun k => spec_l3Sign.l0 k (c.toNat : Int) (⟨#[123, 125, 40, 41, 44, 59, 61, 46, 42, 43, 45]⟩ : ByteArray) (i : Int)) (([123, 125, 40, 41, 44, 59, 61, 46, 42, 43, (45 : UInt8)].drop i).contains c) := by
  induction d with
  | zero =>
    intro i hi
    obtain rfl : i = 11 := by omega
    refine Ev_succ ?_
    have hsz : ((⟨#[123, 125, 40, 41, 44, 59, 61, 46, 42, 43, 45]⟩ : ByteArray).size : Int) = 11 := rfl
    simp only [spec_l3Sign.l0, hsz]
    exact Ev.now _
  | succ d ih =>
    intro i hi
    have hsz : ((⟨#[123, 125, 40, 41, 44, 59, 61, 46, 42, 43, 45]⟩ : ByteArray).size : Int) = 11 := rfl
    have hlt : i < [123, 125, 40, 41, 44, 59, 61, 46, 42, 43, (45 : UInt8)].length := by show i < 11; omega
    have hd : [123, 125, 40, 41, 44, 59, 61, 46, 42, 43, (45 : UInt8)].drop i = [123, 125, 40, 41, 44, 59, 61, 46, 42, 43, (45 : UInt8)][i] :: [123, 125, 40, 41, 44, 59, 61, 46, 42, 43, (45 : UInt8)].drop (i + 1) := List.drop_eq_getElem_cons hlt
    have hb := btL (⟨#[123, 125, 40, 41, 44, 59, 61, 46, 42, 43, 45]⟩ : ByteArray) i _ _ hd
    rw [hd]
    generalize [123, 125, 40, 41, 44, 59, 61, 46, 42, 43, (45 : UInt8)][i] = x at hb ⊢
    have e := ih (i + 1) (by omega)
    refine Ev_succ ?_
    have h0 : (0 : Int) ≤ (i : Int) := by omega
    have h1 : (i : Int) < 11 := by omega
    simp only [spec_l3Sign.l0, hsz, if_pos h1, if_pos h0, hb, w64 (x := (i : Int) + 1) (by omega) (by omega)]
    rw [List.contains_cons]
    by_cases hx : (x.toNat : Int) = (c.toNat : Int)
    · have hxe : c = x := UInt8.toNat_inj.1 (by omega)
      simp only [if_pos hx]
      rw [beq_iff_eq.2 hxe, Bool.true_or]
      exact Ev.now _
    · have hxe : (c == x) = false := by
        rw [beq_eq_false_iff_ne]
        rintro rfl
        exact hx rfl
      simp only [if_neg hx]
      rw [hxe, Bool.false_or]
      exact e
theorem sign_spec (c : UInt8) : Ev (fun k => spec_l3Sign.f k (c.toNat : Int)) (lSign c) := sign_loop c 11 0 rfl
theorem skip_spec (s : ByteArray) (hs : s.size ≤ 1099511627776) : ∀ (R : List UInt8) (i : Nat), s.data.toList.drop i = R → i ≤ s.size →
    Ev (fun k => spec_l3Skip.l0 k s (i : Int)) ((i + skipS false R : Nat) : Int) ∧ Ev (fun k => spec_l3Skip.l1 k s (i : Int)) ((i + skipS true R : Nat) : Int) := by
  intro R
  induction R with
  | nil =>
    intro i h hi
    have hn := drop_nil h
    rw [lenL] at hn
    have c1 : ¬ (i : Int) < (s.size : Int) := by omega
    have e1 : Ev (fun k => spec_l3Skip.l0 k s (i : Int)) ((i + skipS false [] : Nat) : Int) := by
      refine Ev_succ ?_
      simp only [spec_l3Skip.l0, if_neg c1]
      exact Ev.now _
    refine ⟨e1, Ev_succ ?_⟩
    simp only [spec_l3Skip.l1, if_neg c1]
    exact e1
  | cons c r ih =>
    intro i h hi
    obtain ⟨hlt, hd⟩ := drop_cons h
    rw [lenL] at hlt
    have hb := btL s i c r h
    obtain ⟨i1, i2⟩ := ih (i + 1) hd (by omega)
    have c1 : (i : Int) < (s.size : Int) := by omega
    have c0 : (0 : Int) ≤ (i : Int) := by omega
    have hw : wrap64 ((i : Int) + 1) = ((i + 1 : Nat) : Int) := by rw [w64 (by omega) (by omega)]; omega
    have b9 := b_eq c 9 (by decide)
    have b10 := b_eq c 10 (by decide)
    have b13 := b_eq c 13 (by decide)
    have b32 := b_eq c 32 (by decide)
    have b47 := b_eq c 47 (by decide)
    have e2 : Ev (fun k => spec_l3Skip.l1 k s (i : Int)) ((i + skipS true (c :: r) : Nat) : Int) := by
      rw [skip_tru]
      refine Ev_succ ?_
      simp only [spec_l3Skip.l1, if_pos c1, if_pos c0, hb]
      by_cases h10 : c = 10
      · rw [if_pos h10]
        have h10' : (c.toNat : Int) = 10 := b10.2 h10
        simp only [if_pos h10']
        refine Ev_succ ?_
        have n9 : ¬ (c.toNat : Int) = 9 := by omega
        simp only [spec_l3Skip.l0, if_pos c1, if_pos c0, hb, if_neg n9, if_pos h10']
        refine Ev_succ ?_
        simp only [spec_l3Skip.j1, if_true, hw]
        rw [show i + (skipS false r + 1) = i + 1 + skipS false r by omega]
        exact i1
      · rw [if_neg h10]
        have h10' : ¬ (c.toNat : Int) = 10 := fun e => h10 (b10.1 e)
        simp only [if_neg h10', hw]
        rw [show i + (skipS true r + 1) = i + 1 + skipS true r by omega]
        exact i2
    refine ⟨?_, e2⟩
    rw [skip_false]
    have hblank : ∀ x : Bool, x = lBlank c → Ev (fun k => spec_l3Skip.j1 k s (i : Int) (c.toNat : Int) x) ((i + (if lBlank c = true then skipS false r + 1 else if c = 47 ∧ r.head? = some 47 then skipS true r + 1 else 0) : Nat) : Int) := by
      intro x hx
      refine Ev_succ ?_
      cases hl : lBlank c with
      | true =>
        rw [hl] at hx
        subst hx
        rw [if_pos rfl]
        simp only [spec_l3Skip.j1, if_true, hw]
        rw [show i + (skipS false r + 1) = i + 1 + skipS false r by omega]
        exact i1
      | false =>
        rw [hl] at hx
        subst hx
        rw [if_neg (by simp)]
        simp only [spec_l3Skip.j1, Bool.false_eq_true, if_false]
        by_cases h47 : c = 47
        · have h47' : (c.toNat : Int) = 47 := b47.2 h47
          simp only [if_pos h47', hw]
          cases r with
          | nil =>
            have hn := drop_nil hd
            rw [lenL] at hn
            have g1 : ((i + 1 : Nat) : Int) ≥ (s.size : Int) := by omega
            rw [if_neg (by simp)]
            simp only [if_pos g1]
            refine Ev_succ ?_
            simp only [spec_l3Skip.j2, if_true]
            exact Ev.now _
          | cons d r' =>
            obtain ⟨hlt2, _⟩ := drop_cons hd
            rw [lenL] at hlt2
            have hb2 := btL s (i + 1) d r' hd
            have g1 : ¬ ((i + 1 : Nat) : Int) ≥ (s.size : Int) := by omega
            have g2 : (0 : Int) ≤ ((i + 1 : Nat) : Int) := by omega
            have g3 : ((i + 1 : Nat) : Int) < (s.size : Int) := by omega
            have d47 := b_eq d 47 (by decide)
            simp only [if_neg g1, if_pos g2, if_pos g3, hb2]
            refine Ev_succ ?_
            by_cases hd47 : d = 47
            · have e47 : ((d.toNat : Int) != 47) = false := by rw [bne_eq_false_iff_eq]; exact d47.2 hd47
              rw [if_pos ⟨h47, by rw [hd47]; rfl⟩, e47]
              simp only [spec_l3Skip.j2, Bool.false_eq_true, if_false]
              have h10 : ¬ c = 10 := by rw [h47]; decide
              rw [skip_tru, if_neg h10] at e2
              exact e2
            · have e47 : ((d.toNat : Int) != 47) = true := by rw [bne_iff_ne]; exact fun e => hd47 (d47.1 e)
              rw [if_neg (fun h => hd47 (Option.some.inj (h.2 : some d = some 47))), e47]
              simp only [spec_l3Skip.j2, if_true]
              exact Ev.now _
        · have h47' : ¬ (c.toNat : Int) = 47 := fun e => h47 (b47.1 e)
          rw [if_neg (fun h => h47 h.1)]
          simp only [if_neg h47']
          refine Ev_succ ?_
          simp only [spec_l3Skip.j2, if_true]
          exact Ev.now _
    refine Ev_succ ?_
    simp only [spec_l3Skip.l0, if_pos c1, if_pos c0, hb]
    by_cases h9 : (c.toNat : Int) = 9
    · simp only [if_pos h9]
      exact hblank _ (by rw [b9.1 h9]; rfl)
    · simp only [if_neg h9]
      by_cases h10 : (c.toNat : Int) = 10
      · simp only [if_pos h10]
        exact hblank _ (by rw [b10.1 h10]; rfl)
      · simp only [if_neg h10]
        by_cases h13 : (c.toNat : Int) = 13
        · simp only [if_pos h13]
          exact hblank _ (by rw [b13.1 h13]; rfl)
        · simp only [if_neg h13]
          refine hblank _ ?_
          have n9 : (c == 9) = false := by rw [beq_eq_false_iff_ne]; exact fun e => h9 (b9.2 e)
          have n10 : (c == 10) = false := by rw [beq_eq_false_iff_ne]; exact fun e => h10 (b10.2 e)
          have n13 : (c == 13) = false := by rw [beq_eq_false_iff_ne]; exact fun e => h13 (b13.2 e)
          unfold lBlank
          rw [n9, n10, n13]
          simp only [Bool.false_or]
          rw [Bool.eq_iff_iff, beq_iff_eq, beq_iff_eq]
          exact b32
theorem word_spec (s : ByteArray) (b : Bool) (hs : s.size ≤ 1099511627776) : ∀ (R : List UInt8) (i : Nat), s.data.toList.drop i = R → i ≤ s.size →
    Ev (fun k => spec_l3Word.l0 k s (i : Int) b) ((i + runL (lWord b) R : Nat) : Int) := by
  intro R
  induction R with
  | nil =>
    intro i h hi
    have hn := drop_nil h
    rw [lenL] at hn
    have c1 : ¬ (i : Int) < (s.size : Int) := by omega
    refine Ev_succ ?_
    simp only [spec_l3Word.l0, if_neg c1]
    exact Ev.now _
  | cons c r ih =>
    intro i h hi
    obtain ⟨hlt, hd⟩ := drop_cons h
    rw [lenL] at hlt
    have hb := btL s i c r h
    have i1 := ih (i + 1) hd (by omega)
    have c1 : (i : Int) < (s.size : Int) := by omega
    have c0 : (0 : Int) ≤ (i : Int) := by omega
    have hw : wrap64 ((i : Int) + 1) = ((i + 1 : Nat) : Int) := by rw [w64 (by omega) (by omega)]; omega
    refine Ev_succ ?_
    simp only [spec_l3Word.l0, if_pos c1, if_pos c0, hb, letter_spec, digit_spec, Option.bind_some, hw]
    rw [runL]
    have ew : lWord b c = (lLetter b c || lDigit c) := rfl
    cases h1 : lLetter b c with
    | true =>
      rw [ew, h1, Bool.true_or, if_pos rfl, show i + (runL (lWord b) r + 1) = i + 1 + runL (lWord b) r by omega]
      simp only [if_true]
      exact i1
    | false =>
      rw [ew, h1, Bool.false_or]
      simp only [Bool.false_eq_true, if_false]
      cases h2 : lDigit c with
      | true =>
        rw [if_pos rfl, show i + (runL (lWord b) r + 1) = i + 1 + runL (lWord b) r by omega]
        simp only [if_true]
        exact i1
      | false =>
        rw [if_neg (by simp)]
        simp only [Bool.false_eq_true, if_false]
        exact Ev.now _
theorem runL_app (p : UInt8 → Bool) (R : List UInt8) : ∀ P : List UInt8, (∀ c ∈ P, p c = true) → runL p (P ++ R) = P.length + runL p R
  | [], _ => by simp
  | c :: P, h => by
    rw [List.cons_append, runL, if_pos (h c (.head _)), runL_app p R P (fun x hx => h x (.tail _ hx)), List.length_cons]; omega
theorem runL_stopc (p : UInt8 → Bool) (c : UInt8) (r : List UInt8) (h : p c = false) : runL p (c :: r) = 0 := by rw [runL, if_neg (by rw [h]; simp)]
theorem valN_snoc (P : List UInt8) (c : UInt8) : valN (P ++ [c]) = valN P * 10 + (c.toNat - 48) := by unfold valN; rw [List.foldl_append]; rfl
theorem valN_app (P Q : List UInt8) : valN P ≤ valN (P ++ Q) := by
  unfold valN
  rw [List.foldl_append]
  exact valA_ge Q _
def numR (s : Bool) (at_ : Nat) (D : List UInt8) : Int × Int := match numL s D with | some (v, n) => ((v : Int), ((at_ + n : Nat) : Int)) | none => (0, -1)
theorem num_spec (s : ByteArray) (b : Bool) (hs : s.size ≤ 1099511627776) (at_ : Nat) (D : List UInt8) (hD : s.data.toList.drop at_ = D) (hat : at_ ≤ s.size) : ∀ (R P : List UInt8), D = P ++ R → (∀ c ∈ P, lDigit c = true) → valN P ≤ 1000000 → (P.length ≤ 1 ∨ D.head? ≠ some 48) → (P = [] → ∃ c r, R = c :: r ∧ lDigit c = true) →
    Ev (fun k => spec_l3Num.l0 k s (at_ : Int) b (valN P : Int) ((at_ + P.length : Nat) : Int)) (numR b at_ D) := by
  intro R
  induction R with
  | nil =>
    intro P hP hdig hv h0 hne
    rw [List.append_nil] at hP
    subst hP
    have hl : at_ + D.length = s.size := by
      have := congrArg List.length hD
      rw [List.length_drop, lenL] at this
      omega
    have hDne : D ≠ [] := by
      intro e
      obtain ⟨c, r, h, _⟩ := hne e
      cases h
    have hr : runL lDigit D = D.length := by have := runL_app lDigit [] D hdig; rwa [List.append_nil, show runL lDigit [] = 0 from rfl, Nat.add_zero] at this
    have hn : numR b at_ D = ((valN D : Int), ((at_ + D.length : Nat) : Int)) := by
      unfold numR numL
      rw [hr, List.take_length, List.drop_length, if_pos]
      refine ⟨?_, hv, by simp⟩
      rcases h0 with h | h
      · left
        have := List.length_pos_iff.2 hDne
        omega
      · exact .inr h
    rw [hn]
    have c1 : ¬ ((at_ + D.length : Nat) : Int) < (s.size : Int) := by omega
    refine Ev_succ (Ev_succ ?_)
    simp only [spec_l3Num.l0, if_neg c1, spec_l3Num.j1, Bool.false_eq_true, if_false]
    exact Ev.now _
  | cons c r ih =>
    intro P hP hdig hv h0 hne
    have hdrop : s.data.toList.drop (at_ + P.length) = c :: r := by
      rw [← List.drop_drop, hD, hP, List.drop_left]
    obtain ⟨hlt, hd⟩ := drop_cons hdrop
    rw [lenL] at hlt
    have hb := btL s (at_ + P.length) c r hdrop
    have c1 : ((at_ + P.length : Nat) : Int) < (s.size : Int) := by omega
    have c0 : (0 : Int) ≤ ((at_ + P.length : Nat) : Int) := by omega
    have hw : wrap64 (((at_ + P.length : Nat) : Int) + 1) = ((at_ + (P ++ [c]).length : Nat) : Int) := by rw [w64 (by omega) (by omega), List.length_append, List.length_singleton]; omega
    cases hdc : lDigit c with
    | false =>
      have hPne : P ≠ [] := by
        intro e
        obtain ⟨x, y, h, h2⟩ := hne e
        injection h with h3 h4
        rw [h3, h2] at hdc; cases hdc
      have hr : runL lDigit D = P.length := by rw [hP, runL_app lDigit _ P hdig, runL_stopc _ _ _ hdc, Nat.add_zero]
      have hn : numR b at_ D = if lLetter b c = true then (0, -1) else ((valN P : Int), ((at_ + P.length : Nat) : Int)) := by
        unfold numR numL
        rw [hr, hP, List.take_left, List.drop_left, List.head?_cons, Option.any_some]
        have hc1 : P.length = 1 ∨ (P ++ c :: r).head? ≠ some 48 := by
          rw [← hP]
          rcases h0 with h | h
          · left
            have := List.length_pos_iff.2 hPne
            omega
          · exact .inr h
        by_cases hL : lLetter b c = true
        · rw [if_pos hL, if_neg (fun h => h.2.2 hL)]
        · rw [if_neg hL, if_pos ⟨hc1, hv, hL⟩]
      rw [hn]
      refine Ev_succ (Ev_succ ?_)
      simp only [spec_l3Num.l0, if_pos c1, if_pos c0, hb, digit_spec, hdc, Option.bind_some, spec_l3Num.j1, Bool.false_eq_true, if_false, letter_spec]
      cases lLetter b c with
      | true => simp only [if_true]; exact Ev.now _
      | false => simp only [Bool.false_eq_true, if_false]; exact Ev.now _
    | true =>
      have hrunge : P.length + 1 ≤ runL lDigit D := by rw [hP, runL_app lDigit _ P hdig, runL, if_pos hdc]; omega
      have htake : D.take (runL lDigit D) = (P ++ [c]) ++ (D.take (runL lDigit D)).drop (P.length + 1) := by
        have h1 : (D.take (runL lDigit D)).take (P.length + 1) = P ++ [c] := by
          rw [List.take_take, Nat.min_eq_left hrunge, hP]
          rw [show P ++ c :: r = (P ++ [c]) ++ r by simp, List.take_left' (by simp)]
        rw [← h1, List.take_append_drop]
      unfold lDigit at hdc
      simp only [Bool.and_eq_true, decide_eq_true_eq] at hdc
      have hdc' : lDigit c = true := by unfold lDigit; simp only [Bool.and_eq_true, decide_eq_true_eq]; exact hdc
      have hstep : wrap64 ((wrap64 ((valN P : Int) * 10)) + (((c.toNat : Int) - 48) % 256)) = ((valN (P ++ [c]) : Nat) : Int) := by
        rw [valN_snoc, w64 (x := (valN P : Int) * 10) (by omega) (by omega), w64 (by omega) (by omega)]; omega
      refine Ev_succ ?_
      simp only [spec_l3Num.l0, if_pos c1, if_pos c0, hb, digit_spec, hdc', Option.bind_some]
      refine Ev_succ ?_
      have hgo : (P.length ≤ 0 ∨ D.head? ≠ some 48) → Ev (fun k => spec_l3Num.j2 k s (at_ : Int) b (valN P : Int) ((at_ + P.length : Nat) : Int) false) (numR b at_ D) := by
        intro hcase
        refine Ev_succ ?_
        simp only [spec_l3Num.j2, Bool.false_eq_true, if_false, if_pos c0, if_pos c1, hb, hstep, hw]
        by_cases hbig : ((valN (P ++ [c]) : Nat) : Int) > 1000000
        · simp only [if_pos hbig]
          have hn : numR b at_ D = (0, -1) := by
            unfold numR numL
            rw [if_neg]
            rintro ⟨_, h2, _⟩
            rw [htake] at h2
            have := valN_app (P ++ [c]) ((D.take (runL lDigit D)).drop (P.length + 1))
            omega
          rw [hn]
          exact Ev.now _
        · simp only [if_neg hbig]
          exact ih (P ++ [c]) (by rw [hP]; simp) (by
            intro x hx
            rcases List.mem_append.1 hx with h | h
            · exact hdig x h
            · rw [List.mem_singleton] at h; rw [h]; exact hdc') (by omega) (by
            rcases hcase with h | h
            · left; rw [List.length_append, List.length_singleton]; omega
            · exact .inr h) (fun e => by simp at e)
      by_cases hg : ((at_ + P.length : Nat) : Int) > (at_ : Int)
      · have hP1 : 1 ≤ P.length := by omega
        obtain ⟨d, P', rfl⟩ : ∃ d P', P = d :: P' := by
          cases P with
          | nil => simp at hP1
          | cons d P' => exact ⟨d, P', rfl⟩
        have hb0 := btL s at_ d (P' ++ c :: r) (by rw [hD, hP]; rfl)
        have z0 : (0 : Int) ≤ (at_ : Int) := by omega
        have z1 : (at_ : Int) < (s.size : Int) := by omega
        simp only [spec_l3Num.j1, if_true, if_pos hg, if_pos z0, if_pos z1, hb0]
        by_cases h48 : d = 48
        · have e48 : ((d.toNat : Int) == 48) = true := by rw [beq_iff_eq]; exact (b_eq d 48 (by decide)).2 h48
          rw [e48]
          refine Ev_succ ?_
          simp only [spec_l3Num.j2, if_true]
          have hn : numR b at_ D = (0, -1) := by
            unfold numR numL
            rw [if_neg]
            rintro ⟨h1, _, _⟩
            rcases h1 with h1 | h1
            · simp only [List.length_cons] at hrunge; omega
            · apply h1; rw [hP, List.cons_append, List.head?_cons, h48]
          rw [hn]
          exact Ev.now _
        · have e48 : ((d.toNat : Int) == 48) = false := by rw [beq_eq_false_iff_ne]; exact fun e => h48 ((b_eq d 48 (by decide)).1 e)
          rw [e48]
          exact hgo (.inr (by rw [hP, List.cons_append, List.head?_cons]; exact fun e => h48 (Option.some.inj e)))
      · simp only [spec_l3Num.j1, if_true, if_neg hg]
        exact hgo (.inl (by omega))
theorem str_spec (s : ByteArray) (hs : s.size ≤ 1099511627776) (at_ : Nat) (r : List UInt8) (hr : s.data.toList.drop (at_ + 1) = r) (hat : at_ < s.size) : ∀ (R P : List UInt8), r = P ++ R → (∀ c ∈ P, lStr c = true) → P.length ≤ 41 →
    Ev (fun k => spec_l3Str.l0 k s (at_ : Int) ((at_ + 1 + P.length : Nat) : Int)) (match strL r with | some n => ((at_ + n + 2 : Nat) : Int) | none => -1) := by
  have hlim : wrap64 (wrap64 ((at_ : Int) + 1) + 40) = (at_ : Int) + 41 := by rw [w64 (x := (at_ : Int) + 1) (by omega) (by omega), w64 (by omega) (by omega)]; omega
  intro R
  induction R with
  | nil =>
    intro P hP hall hlen
    rw [List.append_nil] at hP
    subst hP
    have hrun : runL lStr r = r.length := by have := runL_app lStr [] r hall; rwa [List.append_nil, show runL lStr [] = 0 from rfl, Nat.add_zero] at this
    have hn : strL r = none := by unfold strL; rw [hrun, List.drop_length, if_neg (by simp)]
    have hl : at_ + 1 + r.length = s.size := by
      have := congrArg List.length hr
      rw [List.length_drop, lenL] at this
      omega
    rw [hn]
    have c1 : ¬ ((at_ + 1 + r.length : Nat) : Int) < (s.size : Int) := by omega
    refine Ev_succ (Ev_succ ?_)
    simp only [spec_l3Str.l0, if_neg c1, spec_l3Str.j1, Bool.false_eq_true, if_false]
    exact Ev.now _
  | cons c r' ih =>
    intro P hP hall hlen
    have hdrop : s.data.toList.drop (at_ + 1 + P.length) = c :: r' := by rw [← List.drop_drop, hr, hP, List.drop_left]
    obtain ⟨hlt, hd⟩ := drop_cons hdrop
    rw [lenL] at hlt
    have hb := btL s (at_ + 1 + P.length) c r' hdrop
    have c1 : ((at_ + 1 + P.length : Nat) : Int) < (s.size : Int) := by omega
    have c0 : (0 : Int) ≤ ((at_ + 1 + P.length : Nat) : Int) := by omega
    have hw : wrap64 (((at_ + 1 + P.length : Nat) : Int) + 1) = ((at_ + 1 + (P ++ [c]).length : Nat) : Int) := by rw [w64 (by omega) (by omega), List.length_append, List.length_singleton]; omega
    have hrun : runL lStr r = P.length + runL lStr (c :: r') := by rw [hP, runL_app lStr _ P hall]
    refine Ev_succ (Ev_succ ?_)
    by_cases h41 : P.length ≤ 40
    · have hdl : decide (((at_ + 1 + P.length : Nat) : Int) ≤ (at_ : Int) + 41) = true := decide_eq_true (by omega)
      simp only [spec_l3Str.l0, if_pos c1, hlim, hdl, spec_l3Str.j1, if_true, if_pos c0, hb]
      by_cases h34 : (c.toNat : Int) = 34
      · have hc : c = 34 := (b_eq c 34 (by decide)).1 h34
        have hst : lStr c = false := by rw [hc]; decide
        have hn : strL r = some P.length := by
          unfold strL
          rw [hrun, runL_stopc _ _ _ hst, Nat.add_zero, hP, List.drop_left, if_pos ⟨h41, by rw [List.head?_cons, hc]⟩]
        rw [hn]
        simp only [if_pos h34, hw]
        refine Ev_some ?_
        rw [List.length_append, List.length_singleton]; omega
      · simp only [if_neg h34]
        have hne34 : c ≠ 34 := fun e => h34 ((b_eq c 34 (by decide)).2 e)
        have hbad : lStr c = false → strL r = none := by
          intro hst
          unfold strL
          rw [hrun, runL_stopc _ _ _ hst, Nat.add_zero, hP, List.drop_left, if_neg]
          rintro ⟨_, h⟩
          rw [List.head?_cons] at h
          exact hne34 (Option.some.inj h)
        by_cases g1 : (c.toNat : Int) < 32
        · rw [hbad (by unfold lStr; rw [decide_eq_false (by omega)]; rfl)]
          simp only [if_pos g1]; exact Ev.now _
        · by_cases g2 : (c.toNat : Int) > 126
          · rw [hbad (by unfold lStr; rw [show decide (c.toNat ≤ 126) = false from decide_eq_false (by omega)]; simp)]
            simp only [if_neg g1, if_pos g2]; exact Ev.now _
          · by_cases g3 : (c.toNat : Int) = 92
            · rw [hbad (by unfold lStr; rw [show (c == 92) = true by rw [beq_iff_eq]; exact (b_eq c 92 (by decide)).1 g3]; simp)]
              simp only [if_neg g1, if_neg g2, if_pos g3]; exact Ev.now _
            · have hst : lStr c = true := by
                unfold lStr
                rw [decide_eq_true (by omega), decide_eq_true (by omega), show (c == 34) = false by rw [beq_eq_false_iff_ne]; exact hne34, show (c == 92) = false by rw [beq_eq_false_iff_ne]; exact fun e => g3 ((b_eq c 92 (by decide)).2 e)]
                rfl
              simp only [if_neg g1, if_neg g2, if_neg g3, hw]
              exact ih (P ++ [c]) (by rw [hP]; simp) (by
                intro x hx
                rcases List.mem_append.1 hx with h | h
                · exact hall x h
                · rw [List.mem_singleton] at h; rw [h]; exact hst) (by rw [List.length_append, List.length_singleton]; omega)
    · have hdl : decide (((at_ + 1 + P.length : Nat) : Int) ≤ (at_ : Int) + 41) = false := decide_eq_false (by omega)
      have hn : strL r = none := by unfold strL; rw [if_neg]; rintro ⟨h, _⟩; omega
      rw [hn]
      simp only [spec_l3Str.l0, if_pos c1, hlim, hdl, spec_l3Str.j1, Bool.false_eq_true, if_false]
      exact Ev.now _
/-! The reference's token; both loops -/
theorem extL (s : ByteArray) (i j : Nat) : (s.extract i j).data.toList = (s.data.toList.drop i).take (j - i) := by
  rw [ByteArray.data_extract, Array.toList_extract, List.extract_eq_take_drop]
def tokR (b : Bool) (i : Nat) (L : List UInt8) (r : Int × ByteArray × Int × Int × Int) : Prop :=
  match tokL b L with
  | some (k, x, v, n) => r = (k, ⟨x.toArray⟩, (v : Int), (i : Int), ((i + n : Nat) : Int))
  | none => r.2.2.2.2 = -1
theorem token_spec (s : ByteArray) (b : Bool) (hs : s.size ≤ 1099511627776) (i : Nat) (hi : i < s.size) : ∃ r, Ev (fun k => spec_l3Token.f k s (i : Int) b) r ∧ tokR b i (s.data.toList.drop i) r := by
  obtain ⟨c, r, h⟩ : ∃ c r, s.data.toList.drop i = c :: r := ⟨_, _, List.drop_eq_getElem_cons (by rw [lenL]; exact hi)⟩
  obtain ⟨_, hd⟩ := drop_cons h
  have hb := btL s i c r h
  have c1 : (i : Int) < (s.size : Int) := by omega
  have c0 : (0 : Int) ≤ (i : Int) := by omega
  have hlr : (c :: r).length = s.size - i := by rw [← h, List.length_drop, lenL]
  simp only [List.length_cons] at hlr
  simp only [spec_l3Token.f, if_pos c0, if_pos c1, hb, letter_spec, digit_spec, Option.bind_some]
  rw [h]
  cases h1 : lLetter b c with
  | true =>
    have e := word_spec s b hs _ i h (by omega)
    have hle := runL_le (lWord b) (c :: r)
    simp only [List.length_cons] at hle
    generalize hn : runL (lWord b) (c :: r) = n at e hle
    have g1 : (i : Int) ≤ ((i + n : Nat) : Int) := by omega
    have g2 : ((i + n : Nat) : Int) ≤ (s.size : Int) := by omega
    have ex : s.extract (i : Int).toNat (((i + n : Nat) : Int)).toNat = ⟨((c :: r).take n).toArray⟩ := data_inj (by rw [Int.toNat_natCast, Int.toNat_natCast, extL, h, Nat.add_sub_cancel_left])
    refine ⟨(1, ⟨((c :: r).take n).toArray⟩, 0, (i : Int), ((i + n : Nat) : Int)), ?_, ?_⟩
    · simp only [if_true]
      refine Ev_call e ?_
      simp only [if_pos g1, if_pos g2, ex]
      exact Ev.now _
    · unfold tokR
      rw [tokL, if_pos h1, hn]; rfl
  | false =>
    simp only [Bool.false_eq_true, if_false]
    cases h2 : lDigit c with
    | true =>
      have e := num_spec s b hs i (c :: r) h (by omega) (c :: r) [] rfl (by simp) (by unfold valN; simp) (.inl (by simp)) (fun _ => ⟨c, r, rfl, h2⟩)
      have e0 : ((valN [] : Nat) : Int) = 0 := rfl
      rw [e0, show i + ([] : List UInt8).length = i from rfl] at e
      refine ⟨(2, ⟨#[]⟩, (numR b i (c :: r)).1, (i : Int), (numR b i (c :: r)).2), ?_, ?_⟩
      · simp only [if_true]
        refine Ev_call e ?_
        exact Ev.now _
      · unfold tokR numR
        rw [tokL, if_neg (by rw [h1]; simp), if_pos h2]
        cases numL b (c :: r) with
        | none => rfl
        | some p => rfl
    | false =>
      simp only [Bool.false_eq_true, if_false]
      by_cases h3 : (c.toNat : Int) = 34
      · have hc : c = 34 := (b_eq c 34 (by decide)).1 h3
        have e := str_spec s hs i r hd hi r [] rfl (by simp) (by simp)
        have hw1 : wrap64 ((i : Int) + 1) = ((i + 1 : Nat) : Int) := by rw [w64 (by omega) (by omega)]; omega
        rw [show i + 1 + ([] : List UInt8).length = i + 1 from rfl, ← hw1] at e
        have e' : Ev (fun k => spec_l3Str.f k s (i : Int)) (match strL r with | some n => ((i + n + 2 : Nat) : Int) | none => -1) := e
        simp only [if_pos h3]
        cases hq : strL r with
        | none =>
          rw [hq] at e'
          refine ⟨(0, ⟨#[]⟩, 0, 0, -1), Ev_call e' ?_, ?_⟩
          · exact Ev.now _
          · unfold tokR
            rw [tokL, if_neg (by rw [h1]; simp), if_neg (by rw [h2]; simp), if_pos hc, hq]; rfl
        | some n =>
          rw [hq] at e'
          have hn : n + 1 ≤ r.length := by
            unfold strL at hq
            split at hq
            · next hh =>
              injection hq with hq
              rw [hq] at hh
              rcases Nat.lt_or_ge n r.length with q | q
              · omega
              · rw [List.drop_eq_nil_of_le q] at hh; simp at hh
            · cases hq
          have g0 : ¬ ((i + n + 2 : Nat) : Int) < 0 := by omega
          have gw : wrap64 (((i + n + 2 : Nat) : Int) - 1) = ((i + n + 1 : Nat) : Int) := by rw [w64 (by omega) (by omega)]; omega
          have g1 : (0 : Int) ≤ ((i + 1 : Nat) : Int) := by omega
          have g2 : ((i + 1 : Nat) : Int) ≤ ((i + n + 1 : Nat) : Int) := by omega
          have g3 : ((i + n + 1 : Nat) : Int) ≤ (s.size : Int) := by omega
          have ex : s.extract (((i + 1 : Nat) : Int)).toNat (((i + n + 1 : Nat) : Int)).toNat = ⟨(r.take n).toArray⟩ := data_inj (by
            rw [Int.toNat_natCast, Int.toNat_natCast, extL, hd, show i + n + 1 - (i + 1) = n by omega])
          refine ⟨(3, ⟨(r.take n).toArray⟩, 0, (i : Int), ((i + n + 2 : Nat) : Int)), Ev_call e' ?_, ?_⟩
          · simp only [if_neg g0, hw1, gw, if_pos g1, if_pos g2, if_pos g3, ex]
            exact Ev.now _
          · unfold tokR
            rw [tokL, if_neg (by rw [h1]; simp), if_neg (by rw [h2]; simp), if_pos hc, hq]; rfl
      · have hc : ¬ c = 34 := fun e => h3 ((b_eq c 34 (by decide)).2 e)
        simp only [if_neg h3]
        have e := sign_spec c
        cases h4 : lSign c with
        | true =>
          rw [h4] at e
          have hw1 : wrap64 ((i : Int) + 1) = ((i + 1 : Nat) : Int) := by rw [w64 (by omega) (by omega)]; omega
          have g2 : (i : Int) ≤ ((i + 1 : Nat) : Int) := by omega
          have g3 : ((i + 1 : Nat) : Int) ≤ (s.size : Int) := by omega
          have ex : s.extract (i : Int).toNat (((i + 1 : Nat) : Int)).toNat = ⟨[c].toArray⟩ := data_inj (by
            rw [Int.toNat_natCast, Int.toNat_natCast, extL, h, Nat.add_sub_cancel_left]; rfl)
          refine ⟨(4, ⟨[c].toArray⟩, 0, (i : Int), ((i + 1 : Nat) : Int)), Ev_call e ?_, ?_⟩
          · simp only [if_true, hw1, if_pos g2, if_pos g3, ex]
            exact Ev.now _
          · unfold tokR
            rw [tokL, if_neg (by rw [h1]; simp), if_neg (by rw [h2]; simp), if_neg hc, if_pos h4]; rfl
        | false =>
          rw [h4] at e
          refine ⟨(0, ⟨#[]⟩, 0, 0, -1), Ev_call e ?_, ?_⟩
          · simp only [Bool.false_eq_true, if_false]
            exact Ev.now _
          · unfold tokR
            rw [tokL, if_neg (by rw [h1]; simp), if_neg (by rw [h2]; simp), if_neg hc, if_neg (by rw [h4]; simp)]
abbrev TK := S70
/-- The tokens from a place on, behind those that were read. -/
def lexF (s : ByteArray) (b : Bool) : Nat → Nat → List TK → Option (List TK × Int)
  | 0, _, _ => none
  | f + 1, i, out => if i < s.size then
      (match tokL b (s.data.toList.drop i) with
        | none => some ([], (i : Int))
        | some (k, x, v, n) => if 4000 ≤ out.length then some ([], (i : Int)) else lexF s b f (i + n + skipS false (s.data.toList.drop (i + n))) (out ++ [⟨k, ⟨x.toArray⟩, (v : Int), (i : Int)⟩]))
    else some (out, -1)
theorem lexF_some (s : ByteArray) (b : Bool) : ∀ (f i : Nat) (out : List TK), s.size < i + f → i ≤ s.size → out.length ≤ 4000 → ∃ l e, lexF s b f i out = some (l, e) ∧ l.length ≤ 4000 := by
  intro f
  induction f with
  | zero =>
    intro i out h hi ho
    exfalso; omega
  | succ f ih =>
    intro i out h hi ho
    rw [lexF]
    by_cases c : i < s.size
    · rw [if_pos c]
      cases ht : tokL b (s.data.toList.drop i) with
      | none => exact ⟨_, _, rfl, by simp⟩
      | some p =>
        obtain ⟨k, x, v, n⟩ := p
        have hn := tokL_pos ht
        simp only
        by_cases c2 : 4000 ≤ out.length
        · rw [if_pos c2]; exact ⟨_, _, rfl, by simp⟩
        · rw [if_neg c2]
          rw [List.length_drop, lenL] at hn
          have hk := skipS_le false (s.data.toList.drop (i + n))
          rw [List.length_drop, lenL] at hk
          exact ih _ _ (by omega) (by omega) (by rw [List.length_append, List.length_singleton]; omega)
    · rw [if_neg c]; exact ⟨_, _, rfl, ho⟩
theorem lex_spec (s : ByteArray) (b : Bool) (hs : s.size ≤ 1099511627776) : ∀ (f i : Nat) (out : List TK) (r : List TK × Int), lexF s b f i out = some r → out.length ≤ 4000 → Ev (fun k => spec_Lex.l0 k s b out (i : Int)) r := by
  intro f
  induction f with
  | zero => intro i out r h; cases h
  | succ f ih =>
    intro i out r h ho
    rw [lexF] at h
    refine Ev_succ ?_
    by_cases c : i < s.size
    · rw [if_pos c] at h
      have c1 : (i : Int) < (s.size : Int) := by omega
      obtain ⟨q, e, hq⟩ := token_spec s b hs i c
      simp only [spec_Lex.l0, if_pos c1]
      refine Ev_call e ?_
      cases ht : tokL b (s.data.toList.drop i) with
      | none =>
        rw [ht] at h
        unfold tokR at hq
        rw [ht] at hq
        have hneg : q.2.2.2.2 < 0 := by have hq' : q.2.2.2.2 = -1 := hq; omega
        simp only [if_pos hneg]
        obtain rfl := Option.some.inj h
        exact Ev.now _
      | some p =>
        obtain ⟨k, x, v, n⟩ := p
        rw [ht] at h
        unfold tokR at hq
        rw [ht] at hq
        have hq' : q = (k, ⟨x.toArray⟩, (v : Int), (i : Int), ((i + n : Nat) : Int)) := hq
        subst hq'
        have hn := tokL_pos ht
        rw [List.length_drop, lenL] at hn
        have hneg : ¬ ((i + n : Nat) : Int) < 0 := by omega
        simp only [if_neg hneg] at h ⊢
        by_cases c2 : 4000 ≤ out.length
        · rw [if_pos c2] at h
          have c3 : (out.length : Int) ≥ 4000 := by omega
          simp only [if_pos c3]
          obtain rfl := Option.some.inj h
          exact Ev.now _
        · rw [if_neg c2] at h
          have c3 : ¬ (out.length : Int) ≥ 4000 := by omega
          have c4 : out.length < 3518437208883 := by omega
          simp only [if_neg c3, if_pos c4]
          refine Ev_call (skip_spec s hs _ (i + n) rfl (by omega)).1 ?_
          exact ih _ _ r h (by rw [List.length_append, List.length_singleton]; omega)
    · rw [if_neg c] at h
      have c1 : ¬ (i : Int) < (s.size : Int) := by omega
      simp only [spec_Lex.l0, if_neg c1]
      obtain rfl := Option.some.inj h
      exact Ev.now _
theorem lex_impl (s : ByteArray) (b : Bool) (hs : s.size ≤ 1099511627776) : ∀ (f i : Nat) (out : List TK) (r : List TK × Int), lexF s b f i out = some r → out.length ≤ 4000 → Ev (fun k => impl_Lex.l0 k s b out (i : Int)) r := by
  intro f
  induction f with
  | zero => intro i out r h; cases h
  | succ f ih =>
    intro i out r h ho
    rw [lexF] at h
    refine Ev_succ ?_
    by_cases c : i < s.size
    · rw [if_pos c] at h
      have c1 : (i : Int) < (s.size : Int) := by omega
      have c0 : (0 : Int) ≤ (i : Int) := by omega
      have c5 : (i : Int) ≤ (s.size : Int) := by omega
      have hsz : (s.extract i s.size).size = s.size - i := by rw [ByteArray.size_extract]; omega
      have hex : (s.extract i s.size).data.toList = s.data.toList.drop i := by
        rw [extL]
        exact List.take_of_length_le (by rw [List.length_drop, lenL]; exact Nat.le_refl _)
      have htok : impl_token.f (s.extract (i : Int).toNat s.size) b = some (match tokL b (s.data.toList.drop i) with | some (k, x, v, n) => (k, ⟨x.toArray⟩, (v : Int), 0, (n : Int), true) | none => (0, ⟨#[]⟩, 0, 0, 0, false)) := by
        unfold impl_token.f
        rw [Int.toNat_natCast, if_pos ⟨by omega, by omega⟩]
        unfold TokL.tokB
        rw [hex]
        cases tokL b (s.data.toList.drop i) <;> rfl
      simp only [impl_Lex.l0, if_pos c1, if_pos c0, if_pos c5, htok, Option.bind_some]
      cases ht : tokL b (s.data.toList.drop i) with
      | none =>
        rw [ht] at h
        simp only [Bool.false_eq_true, if_false]
        obtain rfl := Option.some.inj h
        exact Ev.now _
      | some p =>
        obtain ⟨k, x, v, n⟩ := p
        rw [ht] at h
        have hn := tokL_pos ht
        rw [List.length_drop, lenL] at hn
        simp only [if_true] at h ⊢
        by_cases c2 : 4000 ≤ out.length
        · rw [if_pos c2] at h
          have c3 : (out.length : Int) = 4000 := by omega
          simp only [if_pos c3]
          obtain rfl := Option.some.inj h
          exact Ev.now _
        · rw [if_neg c2] at h
          have c3 : ¬ (out.length : Int) = 4000 := by omega
          have c4 : out.length < 3518437208883 := by omega
          have hw : wrap64 ((i : Int) + (n : Int)) = ((i + n : Nat) : Int) := by rw [w64 (by omega) (by omega)]; omega
          have g1 : (0 : Int) ≤ ((i + n : Nat) : Int) := by omega
          have g2 : ((i + n : Nat) : Int) ≤ (s.size : Int) := by omega
          have hsz2 : (s.extract (i + n) s.size).size = s.size - (i + n) := by rw [ByteArray.size_extract]; omega
          have hex2 : (s.extract (i + n) s.size).data.toList = s.data.toList.drop (i + n) := by
            rw [extL]
            exact List.take_of_length_le (by rw [List.length_drop, lenL]; exact Nat.le_refl _)
          have hpass : impl_passed.f (s.extract (((i + n : Nat) : Int)).toNat s.size) = some ((skipS false (s.data.toList.drop (i + n)) : Nat) : Int) := by
            unfold impl_passed.f
            rw [Int.toNat_natCast, if_pos (by omega), hex2]
          have hle := skipS_le false (s.data.toList.drop (i + n))
          rw [List.length_drop, lenL] at hle
          have hw2 : wrap64 (((i + n : Nat) : Int) + ((skipS false (s.data.toList.drop (i + n)) : Nat) : Int)) = ((i + n + skipS false (s.data.toList.drop (i + n)) : Nat) : Int) := by rw [w64 (by omega) (by omega)]; omega
          simp only [if_neg c3, if_pos c4, hw, if_pos g1, if_pos g2, hpass, Option.bind_some, hw2]
          exact ih _ _ r h (by rw [List.length_append, List.length_singleton]; omega)
    · rw [if_neg c] at h
      have c1 : ¬ (i : Int) < (s.size : Int) := by omega
      simp only [impl_Lex.l0, if_neg c1]
      obtain rfl := Option.some.inj h
      exact Ev.now _
def lexR (s : ByteArray) (b : Bool) : Option (List TK × Int) := lexF s b (s.size + 1) (skipS false s.data.toList) []
theorem lex_both (s : ByteArray) (b : Bool) (hs : s.size ≤ 1099511627776) : ∃ l e, lexR s b = some (l, e) ∧ l.length ≤ 4000 ∧ Ev (fun k => spec_Lex.f k s b) (l, e) ∧ Ev (fun k => impl_Lex.f k s b) (l, e) := by
  obtain ⟨l, e, h, hl⟩ := lexF_some s b (s.size + 1) (skipS false s.data.toList) [] (by omega) (by have := skipS_le false s.data.toList; rw [lenL] at this; exact this) (by simp)
  refine ⟨l, e, h, hl, ?_, ?_⟩
  · have h0 := (skip_spec s hs _ 0 (List.drop_zero ..) (by omega)).1
    rw [Nat.zero_add] at h0
    exact Ev_call (g := fun k => spec_l3Skip.f k s 0) h0 (lex_spec s b hs _ _ _ _ h (by simp))
  · have hp : impl_passed.f s = some ((skipS false s.data.toList : Nat) : Int) := by unfold impl_passed.f; rw [if_pos (by omega)]
    simp only [impl_Lex.f, hp, Option.bind_some]
    exact lex_impl s b hs _ _ _ _ h (by simp)
theorem eqTokenS_loop (l : List S70) (hl : l.length ≤ 1048576) (d : Nat) : ∀ i : Nat, i + d = l.length → Ev (fun k => laws_eqTokenS.l0 k l l i) true := by
  induction d with
  | zero =>
    intro i hi
    refine Ev_succ ?_
    simp (disch := omega) only [laws_eqTokenS.l0, if_neg]; exact Ev.now _
  | succ d ih =>
    intro i hi
    have e := ih (i + 1) (by omega)
    refine Ev_succ ?_
    simp (disch := omega) only [laws_eqTokenS.l0, if_pos, if_true, laws_eqToken.f, Option.bind_some, w64]
    exact e
theorem eqTokenS_ev (l : List S70) (hl : l.length ≤ 1048576) : Ev (fun k => laws_eqTokenS.f k l l) true := by
  have e := eqTokenS_loop l hl l.length 0 (by omega)
  simp only [laws_eqTokenS.f, if_true]
  exact e
theorem markText_loop (d : Nat) : ∀ (x : Int) (acc : ByteArray), 0 ≤ x → x.toNat ≤ d → x < 9223372036854775808 → acc.size + d ≤ 9223372036854775000 → ∃ t, Ev (fun k => laws_markText.l0 k x acc) t := by
  induction d with
  | zero =>
    intro x acc h0 hd h1 hs
    refine ⟨⟨#[109]⟩ ++ acc, Ev_succ ?_⟩
    simp (disch := omega) only [laws_markText.l0, if_neg, if_pos]; exact Ev.now _
  | succ d ih =>
    intro x acc h0 hd h1 hs
    by_cases hx : x > 0
    · have e1 : (strOfNums [(48 + x % 10) % 256]).size = 1 := by rw [strOfNums_size]; rfl
      obtain ⟨t, e⟩ := ih (x / 10) (strOfNums [(48 + x % 10) % 256] ++ acc) (by omega) (by omega) (by omega) (by rw [size_app]; omega)
      refine ⟨t, Ev_succ ?_⟩
      simp (disch := omega) only [laws_markText.l0, if_pos, w64, tmod_nn, tdiv_nn, Option.bind_some]; exact e
    · refine ⟨⟨#[109]⟩ ++ acc, Ev_succ ?_⟩
      simp (disch := omega) only [laws_markText.l0, if_neg, if_pos]; exact Ev.now _
theorem markText_any (x : Int) (h0 : 0 ≤ x) (h1 : x ≤ 1000000000000) : ∃ t, Ev (fun k => laws_markText.f k x) t := by
  by_cases hx : x ≤ 0
  · exact ⟨_, by simp only [laws_markText.f, if_pos hx]; exact Ev.now _⟩
  · obtain ⟨t, e⟩ := markText_loop x.toNat x ⟨#[]⟩ h0 (Nat.le_refl _) (by omega) (by show 0 + x.toNat ≤ _; omega)
    exact ⟨t, by simp only [laws_markText.f, if_neg hx]; exact e⟩
open Classical in
noncomputable def mt (x : Int) : ByteArray := if h : ∃ t, Ev (fun k => laws_markText.f k x) t then Classical.choose h else ⟨#[]⟩
theorem mt_ev (x : Int) (h0 : 0 ≤ x) (h1 : x ≤ 1000000000000) : Ev (fun k => laws_markText.f k x) (mt x) := by
  have h := markText_any x h0 h1
  unfold mt
  rw [dif_pos h]
  exact Classical.choose_spec h
noncomputable def mkTokenS : Nat → Int → List S70
  | 0, _ => []
  | n + 1, x => (⟨x, mt (x + 1), x + 1 + 1, x + 1 + 1 + 1⟩ : S70) :: mkTokenS n (x + 1 + 1 + 1 + 1)
theorem markTokenS_loop : ∀ (R P : List S70) (x : Int), 1 ≤ x → x + 4 * R.length ≤ 1000000000000 → (P.length : Int) + R.length ≤ 1048576 → Ev (fun k => laws_markTokenS.l0 k (P ++ R) x P.length) (x + 4 * R.length, P ++ mkTokenS R.length x) := by
  intro R
  induction R with
  | nil =>
    intro P x h1 h2 h3
    refine Ev_succ ?_
    simp (disch := (simp only [List.append_nil]; omega)) only [laws_markTokenS.l0, if_neg]
    exact Ev_some (by simp [mkTokenS])
  | cons a R ih =>
    intro P x h1 h2 h3
    simp only [List.length_cons] at h2 h3
    have e := ih (P ++ [(⟨x, mt (x + 1), x + 1 + 1, x + 1 + 1 + 1⟩ : S70)]) (x + 1 + 1 + 1 + 1) (by omega) (by omega) (by simp only [List.length_append, List.length_cons, List.length_nil]; omega)
    have e1 : (P ++ [(⟨x, mt (x + 1), x + 1 + 1, x + 1 + 1 + 1⟩ : S70)]) ++ R = P ++ (⟨x, mt (x + 1), x + 1 + 1, x + 1 + 1 + 1⟩ : S70) :: R := by simp
    have e2 : ((P ++ [(⟨x, mt (x + 1), x + 1 + 1, x + 1 + 1 + 1⟩ : S70)]).length : Int) = (P.length : Int) + 1 := by simp
    rw [e1, e2] at e
    refine Ev_succ ?_
    simp (disch := (first | omega | (simp only [len_mid]; omega))) only [laws_markTokenS.l0, if_pos, Option.bind_some, w64, set_mid, rd_T70, getD_mid]
    refine Ev_call (mt_ev (x + 1) (by omega) (by omega)) ?_
    try simp (disch := (first | omega | (simp only [len_mid]; omega))) only [if_pos, Option.bind_some, w64, set_mid, rd_T70, getD_mid]
    have e3 : (P ++ [(⟨x, mt (x + 1), x + 1 + 1, x + 1 + 1 + 1⟩ : S70)]) ++ mkTokenS R.length (x + 1 + 1 + 1 + 1) = P ++ mkTokenS (R.length + 1) x := by simp [mkTokenS]
    have e4 : x + 1 + 1 + 1 + 1 + 4 * (R.length : Int) = x + 4 * ((a :: R).length : Int) := by simp only [List.length_cons]; omega
    rw [e3, e4] at e
    exact e
theorem markTokenS_ev (l : List S70) (x : Int) (h1 : 1 ≤ x) (h2 : x + 4 * l.length ≤ 1000000000000) (h3 : l.length ≤ 1048576) : Ev (fun k => laws_markTokenS.f k l x) (x + 4 * l.length, mkTokenS l.length x) := by
  have e := markTokenS_loop l [] x h1 h2 (by simp; omega)
  simp only [List.nil_append] at e
  simp only [laws_markTokenS.f]
  exact e
theorem mkTokenS_len : ∀ (n : Nat) (x : Int), (mkTokenS n x).length = n
  | 0, _ => rfl
  | n + 1, x => by simp only [mkTokenS, List.length_cons, mkTokenS_len n]
theorem heldTokenS_loop : ∀ (n : Nat) (P : List S70) (x : Int), 1 ≤ x → x + 4 * n ≤ 1000000000000 → (P.length : Int) + n ≤ 1048576 → Ev (fun k => laws_heldTokenS.l0 k (P ++ mkTokenS n x) x P.length) (x + 4 * n) := by
  intro n
  induction n with
  | zero =>
    intro P x h1 h2 h3
    refine Ev_succ ?_
    simp (disch := (simp only [mkTokenS, List.append_nil]; omega)) only [laws_heldTokenS.l0, if_neg]
    exact Ev_some (by simp)
  | succ n ih =>
    intro P x h1 h2 h3
    have hl := mkTokenS_len n (x + 1 + 1 + 1 + 1)
    have e := ih (P ++ [(⟨x, mt (x + 1), x + 1 + 1, x + 1 + 1 + 1⟩ : S70)]) (x + 1 + 1 + 1 + 1) (by omega) (by omega) (by simp only [List.length_append, List.length_cons, List.length_nil]; omega)
    have e1 : (P ++ [(⟨x, mt (x + 1), x + 1 + 1, x + 1 + 1 + 1⟩ : S70)]) ++ mkTokenS n (x + 1 + 1 + 1 + 1) = P ++ (⟨x, mt (x + 1), x + 1 + 1, x + 1 + 1 + 1⟩ : S70) :: mkTokenS n (x + 1 + 1 + 1 + 1) := by simp
    have e2 : ((P ++ [(⟨x, mt (x + 1), x + 1 + 1, x + 1 + 1 + 1⟩ : S70)]).length : Int) = (P.length : Int) + 1 := by simp
    have e4 : x + 1 + 1 + 1 + 1 + 4 * (n : Int) = x + 4 * ((n + 1 : Nat) : Int) := by omega
    rw [e1, e2, e4] at e
    refine Ev_succ ?_
    simp only [mkTokenS]
    simp (disch := (first | omega | (simp only [len_mid]; omega))) only [laws_heldTokenS.l0, if_pos, if_true, Option.bind_some, w64, rd_T70, getD_mid]
    refine Ev_call (mt_ev (x + 1) (by omega) (by omega)) ?_
    try simp (disch := (first | omega | (simp only [len_mid]; omega))) only [if_pos, if_true, Option.bind_some, w64, rd_T70, getD_mid]
    exact e
theorem heldTokenS_ev (n : Nat) (x : Int) (h1 : 1 ≤ x) (h2 : x + 4 * n ≤ 1000000000000) (h3 : n ≤ 1048576) : Ev (fun k => laws_heldTokenS.f k (mkTokenS n x) x) (x + 4 * n) := by
  have e := heldTokenS_loop n [] x h1 h2 (by simp; omega)
  simp only [List.nil_append] at e
  simp only [laws_heldTokenS.f]
  exact e
theorem FnExactLex : laws_FnExactLex.Say := by
  intro a b ha
  apply Ev.rounds
  simp only [laws_FnExactLex.f]
  by_cases h : (a.size : Int) > 1048576
  · simp only [if_pos h]; exact Ev.now _
  simp only [if_neg h]
  obtain ⟨l, e, _, hl, e1, e2⟩ := lex_both a b (by omega)
  have eq := eqTokenS_ev l (by omega)
  refine Ev_call e1 (Ev_call e2 (Ev_call eq ?_))
  simp only [if_true, bne_self_eq_false]
  refine Ev_succ ?_
  simp only [laws_FnExactLex.j0, Bool.false_eq_true, if_false]
  refine Ev_call (markTokenS_ev l 1 (by omega) (by omega) (by omega)) ?_
  have eh := heldTokenS_ev l.length 1 (by omega) (by omega) (by omega)
  refine Ev_call eh ?_
  simp (disch := omega) only [if_neg, if_true]
  refine Ev_call e2 (Ev_call eq ?_)
  simp only [if_true, bne_self_eq_false]
  refine Ev_succ ?_
  simp only [laws_FnExactLex.j1, Bool.false_eq_true, if_false]
  refine Ev_call eh ?_
  simp (disch := omega) only [if_neg, if_true]
  exact Ev.now _


end Go.Proofs.YtmpmfaaodjmpjaaDoor.Pure

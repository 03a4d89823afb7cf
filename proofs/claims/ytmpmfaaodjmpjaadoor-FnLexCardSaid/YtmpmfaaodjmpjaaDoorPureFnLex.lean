import Derived.Test.YtmpmfaaodjmpjaaDoorSayFnLex
import Derived.Test.YtmpmfaaodjmpjaaDoorKit
import Derived.Test.YtmpmfaaodjmpjaaDoorLexL
import Derived.Test.YtmpmfaaodjmpjaaDoorNumL
/- FnLex: the tokens stand in order, each where it says; with blanks at both ends there are the same ones; for every code. -/
namespace Go.Proofs.YtmpmfaaodjmpjaaDoor.Pure
open Go.RowKit Go.Proofs.YtmpmfaaodjmpjaaDoor.PFnLex Go.Proofs.YtmpmfaaodjmpjaaDoorW.PrintWords Go.Proofs.YtmpmfaaodjmpjaaDoorW.PrintLast Go.Proofs.YtmpmfaaodjmpjaaDoorW.PrintMore Go.Proofs.YtmpmfaaodjmpjaaDoor.Kit
set_option linter.unusedSimpArgs false
set_option linter.unusedVariables false

/-! The reference's lexing, on lists -/
theorem drop_cons {L : List UInt8} {i : Nat} {c : UInt8} {r : List UInt8} (h : L.drop i = c :: r) : i < L.length ∧ L.drop (i + 1) = r := by
  have hi : i < L.length := by
    rcases Nat.lt_or_ge i L.length with h1 | h1
    · exact h1
    · rw [List.drop_eq_nil_of_le h1] at h; cases h
  refine ⟨hi, ?_⟩
  rw [List.drop_eq_getElem_cons hi] at h
  exact (List.cons.inj h).2
theorem drop_nil {L : List UInt8} {i : Nat} (h : L.drop i = []) : L.length ≤ i := by
  rcases Nat.lt_or_ge i L.length with h1 | h1
  · rw [List.drop_eq_getElem_cons h1] at h; cases h
  · exact h1
theorem lenL (s : ByteArray) : s.data.toList.length = s.size := by rw [Array.length_toList]; rfl
theorem btL (s : ByteArray) (i : Nat) (c : UInt8) (r : List UInt8) (h : s.data.toList.drop i = c :: r) : bt s (i : Int) = (c.toNat : Int) := by
  obtain ⟨hi, _⟩ := drop_cons h
  rw [bt_B, Int.toNat_natCast, List.getD_eq_getElem?_getD]
  have h2 : s.data.toList[i]? = some c := by
    rw [List.drop_eq_getElem_cons hi] at h
    rw [List.getElem?_eq_getElem hi, (List.cons.inj h).1]
  simp only [bytesOf, List.getElem?_map, h2, Option.map_some, Option.getD_some]
theorem b_eq (c : UInt8) (n : Nat) (h : n < 256) : ((c.toNat : Int) = (n : Int)) ↔ c = UInt8.ofNat n := by
  constructor
  · intro e
    apply UInt8.toNat_inj.1
    rw [UInt8.toNat_ofNat_of_lt' (by simpa using h)]
    omega
  · rintro rfl
    rw [UInt8.toNat_ofNat_of_lt' (by simpa using h)]
theorem letter_spec (c : UInt8) (b : Bool) : spec_l3Letter.f (c.toNat : Int) b = some (lLetter b c) := by
  have e95 : (c == 95) = decide ((c.toNat : Int) = 95) := by rw [Bool.eq_iff_iff, beq_iff_eq, decide_eq_true_eq]; exact (b_eq c 95 (by decide)).symm
  have e36 : (c == 36) = ((c.toNat : Int) == 36) := by rw [Bool.eq_iff_iff, beq_iff_eq, beq_iff_eq]; exact (b_eq c 36 (by decide)).symm
  unfold lLetter
  rw [e95, e36]
  have d1 : decide (97 ≤ c.toNat) = decide ((c.toNat : Int) ≥ 97) := decide_eq_decide.2 (by omega)
  have d2 : decide (c.toNat ≤ 122) = decide ((c.toNat : Int) ≤ 122) := decide_eq_decide.2 (by omega)
  have d3 : decide (65 ≤ c.toNat) = decide ((c.toNat : Int) ≥ 65) := decide_eq_decide.2 (by omega)
  have d4 : decide (c.toNat ≤ 90) = decide ((c.toNat : Int) ≤ 90) := decide_eq_decide.2 (by omega)
  rw [d1, d2, d3, d4]
  generalize (c.toNat : Int) = a
  unfold spec_l3Letter.f
  by_cases h1 : a ≥ 97 <;> by_cases h2 : a ≤ 122 <;> by_cases h3 : a ≥ 65 <;> by_cases h4 : a ≤ 90 <;> by_cases h5 : a = 95 <;> cases b <;> simp [h1, h2, h3, h4, h5] <;> omega
theorem digit_spec (c : UInt8) : spec_l3Digit.f (c.toNat : Int) = some (lDigit c) := by
  have d1 : decide (48 ≤ c.toNat) = decide ((c.toNat : Int) ≥ 48) := decide_eq_decide.2 (by omega)
  have d2 : decide (c.toNat ≤ 57) = decide ((c.toNat : Int) ≤ 57) := decide_eq_decide.2 (by omega)
  unfold lDigit spec_l3Digit.f
  rw [d1, d2]
  by_cases h1 : (c.toNat : Int) ≥ 48
  · rw [if_pos h1, decide_eq_true h1, Bool.true_and]
  · rw [if_neg h1, decide_eq_false h1, Bool.false_and]
theorem sign_loop (c : UInt8) (d : Nat) : ∀ i : Nat, i + d = 11 → Ev (fun k => spec_l3Sign.l0 k (c.toNat : Int) (⟨#[123, 125, 40, 41, 44, 59, 61, 46, 42, 43, 45]⟩ : ByteArray) (i : Int)) (([123, 125, 40, 41, 44, 59, 61, 46, 42, 43, (45 : UInt8)].drop i).contains c) := by
  induction d with
  | zero =>
    intro i hi
    obtain rfl : i = 11 := by omega
    refine Ev_succ ?_
    have hsz : ((⟨#[123, 125, 40, 41, 44, 59, 61, 46, 42, 43, 45]⟩ : ByteArray).size : Int) = 11 := rfl
    simp only [spec_l3Sign.l0, hsz]
    exact Ev.now _
  | succ d ih =>
    intro i hi
    have hsz : ((⟨#[123, 125, 40, 41, 44, 59, 61, 46, 42, 43, 45]⟩ : ByteArray).size : Int) = 11 := rfl
    have hlt : i < [123, 125, 40, 41, 44, 59, 61, 46, 42, 43, (45 : UInt8)].length := by show i < 11; omega
    have hd : [123, 125, 40, 41, 44, 59, 61, 46, 42, 43, (45 : UInt8)].drop i = [123, 125, 40, 41, 44, 59, 61, 46, 42, 43, (45 : UInt8)][i] :: [123, 125, 40, 41, 44, 59, 61, 46, 42, 43, (45 : UInt8)].drop (i + 1) := List.drop_eq_getElem_cons hlt
    have hb := btL (⟨#[123, 125, 40, 41, 44, 59, 61, 46, 42, 43, 45]⟩ : ByteArray) i _ _ hd
    rw [hd]
    generalize [123, 125, 40, 41, 44, 59, 61, 46, 42, 43, (45 : UInt8)][i] = x at hb ⊢
    have e := ih (i + 1) (by omega)
    refine Ev_succ ?_
    have h0 : (0 : Int) ≤ (i : Int) := by omega
    have h1 : (i : Int) < 11 := by omega
    simp only [spec_l3Sign.l0, hsz, if_pos h1, if_pos h0, hb, w64 (x := (i : Int) + 1) (by omega) (by omega)]
    rw [List.contains_cons]
    by_cases hx : (x.toNat : Int) = (c.toNat : Int)
    · have hxe : c = x := UInt8.toNat_inj.1 (by omega)
      simp only [if_pos hx]
      rw [beq_iff_eq.2 hxe, Bool.true_or]
      exact Ev.now _
    · have hxe : (c == x) = false := by
        rw [beq_eq_false_iff_ne]
        rintro rfl
        exact hx rfl
      simp only [if_neg hx]
      rw [hxe, Bool.false_or]
      exact e
theorem sign_spec (c : UInt8) : Ev (fun k => spec_l3Sign.f k (c.toNat : Int)) (lSign c) := sign_loop c 11 0 rfl
theorem skip_spec (s : ByteArray) (hs : s.size ≤ 1099511627776) : ∀ (R : List UInt8) (i : Nat), s.data.toList.drop i = R → i ≤ s.size →
    Ev (fun k => spec_l3Skip.l0 k s (i : Int)) ((i + skipS false R : Nat) : Int) ∧ Ev (fun k => spec_l3Skip.l1 k s (i : Int)) ((i + skipS true R : Nat) : Int) := by
  intro R
  induction R with
  | nil =>
    intro i h hi
    have hn := drop_nil h
    rw [lenL] at hn
    have c1 : ¬ (i : Int) < (s.size : Int) := by omega
    have e1 : Ev (fun k => spec_l3Skip.l0 k s (i : Int)) ((i + skipS false [] : Nat) : Int) := by
      refine Ev_succ ?_
      simp only [spec_l3Skip.l0, if_neg c1]
      exact Ev.now _
    refine ⟨e1, Ev_succ ?_⟩
    simp only [spec_l3Skip.l1, if_neg c1]
    exact e1
  | cons c r ih =>
    intro i h hi
    obtain ⟨hlt, hd⟩ := drop_cons h
    rw [lenL] at hlt
    have hb := btL s i c r h
    obtain ⟨i1, i2⟩ := ih (i + 1) hd (by omega)
    have c1 : (i : Int) < (s.size : Int) := by omega
    have c0 : (0 : Int) ≤ (i : Int) := by omega
    have hw : wrap64 ((i : Int) + 1) = ((i + 1 : Nat) : Int) := by rw [w64 (by omega) (by omega)]; omega
    have b9 := b_eq c 9 (by decide)
    have b10 := b_eq c 10 (by decide)
    have b13 := b_eq c 13 (by decide)
    have b32 := b_eq c 32 (by decide)
    have b47 := b_eq c 47 (by decide)
    have e2 : Ev (fun k => spec_l3Skip.l1 k s (i : Int)) ((i + skipS true (c :: r) : Nat) : Int) := by
      rw [skip_tru]
      refine Ev_succ ?_
      simp only [spec_l3Skip.l1, if_pos c1, if_pos c0, hb]
      by_cases h10 : c = 10
      · rw [if_pos h10]
        have h10' : (c.toNat : Int) = 10 := b10.2 h10
        simp only [if_pos h10']
        refine Ev_succ ?_
        have n9 : ¬ (c.toNat : Int) = 9 := by omega
        simp only [spec_l3Skip.l0, if_pos c1, if_pos c0, hb, if_neg n9, if_pos h10']
        refine Ev_succ ?_
        simp only [spec_l3Skip.j1, if_true, hw]
        rw [show i + (skipS false r + 1) = i + 1 + skipS false r by omega]
        exact i1
      · rw [if_neg h10]
        have h10' : ¬ (c.toNat : Int) = 10 := fun e => h10 (b10.1 e)
        simp only [if_neg h10', hw]
        rw [show i + (skipS true r + 1) = i + 1 + skipS true r by omega]
        exact i2
    refine ⟨?_, e2⟩
    rw [skip_false]
    have hblank : ∀ x : Bool, x = lBlank c → Ev (fun k => spec_l3Skip.j1 k s (i : Int) (c.toNat : Int) x) ((i + (if lBlank c = true then skipS false r + 1 else if c = 47 ∧ r.head? = some 47 then skipS true r + 1 else 0) : Nat) : Int) := by
      intro x hx
      refine Ev_succ ?_
      cases hl : lBlank c with
      | true =>
        rw [hl] at hx
        subst hx
        rw [if_pos rfl]
        simp only [spec_l3Skip.j1, if_true, hw]
        rw [show i + (skipS false r + 1) = i + 1 + skipS false r by omega]
        exact i1
      | false =>
        rw [hl] at hx
        subst hx
        rw [if_neg (by simp)]
        simp only [spec_l3Skip.j1, Bool.false_eq_true, if_false]
        by_cases h47 : c = 47
        · have h47' : (c.toNat : Int) = 47 := b47.2 h47
          simp only [if_pos h47', hw]
          cases r with
          | nil =>
            have hn := drop_nil hd
            rw [lenL] at hn
            have g1 : ((i + 1 : Nat) : Int) ≥ (s.size : Int) := by omega
            rw [if_neg (by simp)]
            simp only [if_pos g1]
            refine Ev_succ ?_
            simp only [spec_l3Skip.j2, if_true]
            exact Ev.now _
          | cons d r' =>
            obtain ⟨hlt2, _⟩ := drop_cons hd
            rw [lenL] at hlt2
            have hb2 := btL s (i + 1) d r' hd
            have g1 : ¬ ((i + 1 : Nat) : Int) ≥ (s.size : Int) := by omega
            have g2 : (0 : Int) ≤ ((i + 1 : Nat) : Int) := by omega
            have g3 : ((i + 1 : Nat) : Int) < (s.size : Int) := by omega
            have d47 := b_eq d 47 (by decide)
            simp only [if_neg g1, if_pos g2, if_pos g3, hb2]
            refine Ev_succ ?_
            by_cases hd47 : d = 47
            · have e47 : ((d.toNat : Int) != 47) = false := by rw [bne_eq_false_iff_eq]; exact d47.2 hd47
              rw [if_pos ⟨h47, by rw [hd47]; rfl⟩, e47]
              simp only [spec_l3Skip.j2, Bool.false_eq_true, if_false]
              have h10 : ¬ c = 10 := by rw [h47]; decide
              rw [skip_tru, if_neg h10] at e2
              exact e2
            · have e47 : ((d.toNat : Int) != 47) = true := by rw [bne_iff_ne]; exact fun e => hd47 (d47.1 e)
              rw [if_neg (fun h => hd47 (Option.some.inj (h.2 : some d = some 47))), e47]
              simp only [spec_l3Skip.j2, if_true]
              exact Ev.now _
        · have h47' : ¬ (c.toNat : Int) = 47 := fun e => h47 (b47.1 e)
          rw [if_neg (fun h => h47 h.1)]
          simp only [if_neg h47']
          refine Ev_succ ?_
          simp only [spec_l3Skip.j2, if_true]
          exact Ev.now _
    refine Ev_succ ?_
    simp only [spec_l3Skip.l0, if_pos c1, if_pos c0, hb]
    by_cases h9 : (c.toNat : Int) = 9
    · simp only [if_pos h9]
      exact hblank _ (by rw [b9.1 h9]; rfl)
    · simp only [if_neg h9]
      by_cases h10 : (c.toNat : Int) = 10
      · simp only [if_pos h10]
        exact hblank _ (by rw [b10.1 h10]; rfl)
      · simp only [if_neg h10]
        by_cases h13 : (c.toNat : Int) = 13
        · simp only [if_pos h13]
          exact hblank _ (by rw [b13.1 h13]; rfl)
        · simp only [if_neg h13]
          refine hblank _ ?_
          have n9 : (c == 9) = false := by rw [beq_eq_false_iff_ne]; exact fun e => h9 (b9.2 e)
          have n10 : (c == 10) = false := by rw [beq_eq_false_iff_ne]; exact fun e => h10 (b10.2 e)
          have n13 : (c == 13) = false := by rw [beq_eq_false_iff_ne]; exact fun e => h13 (b13.2 e)
          unfold lBlank
          rw [n9, n10, n13]
          simp only [Bool.false_or]
          rw [Bool.eq_iff_iff, beq_iff_eq, beq_iff_eq]
          exact b32
theorem word_spec (s : ByteArray) (b : Bool) (hs : s.size ≤ 1099511627776) : ∀ (R : List UInt8) (i : Nat), s.data.toList.drop i = R → i ≤ s.size →
    Ev (fun k => spec_l3Word.l0 k s (i : Int) b) ((i + runL (lWord b) R : Nat) : Int) := by
  intro R
  induction R with
  | nil =>
    intro i h hi
    have hn := drop_nil h
    rw [lenL] at hn
    have c1 : ¬ (i : Int) < (s.size : Int) := by omega
    refine Ev_succ ?_
    simp only [spec_l3Word.l0, if_neg c1]
    exact Ev.now _
  | cons c r ih =>
    intro i h hi
    obtain ⟨hlt, hd⟩ := drop_cons h
    rw [lenL] at hlt
    have hb := btL s i c r h
    have i1 := ih (i + 1) hd (by omega)
    have c1 : (i : Int) < (s.size : Int) := by omega
    have c0 : (0 : Int) ≤ (i : Int) := by omega
    have hw : wrap64 ((i : Int) + 1) = ((i + 1 : Nat) : Int) := by rw [w64 (by omega) (by omega)]; omega
    refine Ev_succ ?_
    simp only [spec_l3Word.l0, if_pos c1, if_pos c0, hb, letter_spec, digit_spec, Option.bind_some, hw]
    rw [runL]
    have ew : lWord b c = (lLetter b c || lDigit c) := rfl
    cases h1 : lLetter b c with
    | true =>
      rw [ew, h1, Bool.true_or, if_pos rfl, show i + (runL (lWord b) r + 1) = i + 1 + runL (lWord b) r by omega]
      simp only [if_true]
      exact i1
    | false =>
      rw [ew, h1, Bool.false_or]
      simp only [Bool.false_eq_true, if_false]
      cases h2 : lDigit c with
      | true =>
        rw [if_pos rfl, show i + (runL (lWord b) r + 1) = i + 1 + runL (lWord b) r by omega]
        simp only [if_true]
        exact i1
      | false =>
        rw [if_neg (by simp)]
        simp only [Bool.false_eq_true, if_false]
        exact Ev.now _
theorem runL_app (p : UInt8 → Bool) (R : List UInt8) : ∀ P : List UInt8, (∀ c ∈ P, p c = true) → runL p (P ++ R) = P.length + runL p R
  | [], _ => by simp
  | c :: P, h => by
    rw [List.cons_append, runL, if_pos (h c (.head _)), runL_app p R P (fun x hx => h x (.tail _ hx)), List.length_cons]; omega
theorem runL_stopc (p : UInt8 → Bool) (c : UInt8) (r : List UInt8) (h : p c = false) : runL p (c :: r) = 0 := by rw [runL, if_neg (by rw [h]; simp)]
theorem valN_snoc (P : List UInt8) (c : UInt8) : valN (P ++ [c]) = valN P * 10 + (c.toNat - 48) := by unfold valN; rw [List.foldl_append]; rfl
theorem valN_app (P Q : List UInt8) : valN P ≤ valN (P ++ Q) := by
  unfold valN
  rw [List.foldl_append]
  exact valA_ge Q _
def numR (s : Bool) (at_ : Nat) (D : List UInt8) : Int × Int := match numL s D with | some (v, n) => ((v : Int), ((at_ + n : Nat) : Int)) | none => (0, -1)
theorem num_spec (s : ByteArray) (b : Bool) (hs : s.size ≤ 1099511627776) (at_ : Nat) (D : List UInt8) (hD : s.data.toList.drop at_ = D) (hat : at_ ≤ s.size) : ∀ (R P : List UInt8), D = P ++ R → (∀ c ∈ P, lDigit c = true) → valN P ≤ 1000000 → (P.length ≤ 1 ∨ D.head? ≠ some 48) → (P = [] → ∃ c r, R = c :: r ∧ lDigit c = true) →
    Ev (fun k => spec_l3Num.l0 k s (at_ : Int) b (valN P : Int) ((at_ + P.length : Nat) : Int)) (numR b at_ D) := by
  intro R
  induction R with
  | nil =>
    intro P hP hdig hv h0 hne
    rw [List.append_nil] at hP
    subst hP
    have hl : at_ + D.length = s.size := by
      have := congrArg List.length hD
      rw [List.length_drop, lenL] at this
      omega
    have hDne : D ≠ [] := by
      intro e
      obtain ⟨c, r, h, _⟩ := hne e
      cases h
    have hr : runL lDigit D = D.length := by have := runL_app lDigit [] D hdig; rwa [List.append_nil, show runL lDigit [] = 0 from rfl, Nat.add_zero] at this
    have hn : numR b at_ D = ((valN D : Int), ((at_ + D.length : Nat) : Int)) := by
      unfold numR numL
      rw [hr, List.take_length, List.drop_length, if_pos]
      refine ⟨?_, hv, by simp⟩
      rcases h0 with h | h
      · left
        have := List.length_pos_iff.2 hDne
        omega
      · exact .inr h
    rw [hn]
    have c1 : ¬ ((at_ + D.length : Nat) : Int) < (s.size : Int) := by omega
    refine Ev_succ (Ev_succ ?_)
    simp only [spec_l3Num.l0, if_neg c1, spec_l3Num.j1, Bool.false_eq_true, if_false]
    exact Ev.now _
  | cons c r ih =>
    intro P hP hdig hv h0 hne
    have hdrop : s.data.toList.drop (at_ + P.length) = c :: r := by
      rw [← List.drop_drop, hD, hP, List.drop_left]
    obtain ⟨hlt, hd⟩ := drop_cons hdrop
    rw [lenL] at hlt
    have hb := btL s (at_ + P.length) c r hdrop
    have c1 : ((at_ + P.length : Nat) : Int) < (s.size : Int) := by omega
    have c0 : (0 : Int) ≤ ((at_ + P.length : Nat) : Int) := by omega
    have hw : wrap64 (((at_ + P.length : Nat) : Int) + 1) = ((at_ + (P ++ [c]).length : Nat) : Int) := by rw [w64 (by omega) (by omega), List.length_append, List.length_singleton]; omega
    cases hdc : lDigit c with
    | false =>
      have hPne : P ≠ [] := by
        intro e
        obtain ⟨x, y, h, h2⟩ := hne e
        injection h with h3 h4
        rw [h3, h2] at hdc; cases hdc
      have hr : runL lDigit D = P.length := by rw [hP, runL_app lDigit _ P hdig, runL_stopc _ _ _ hdc, Nat.add_zero]
      have hn : numR b at_ D = if lLetter b c = true then (0, -1) else ((valN P : Int), ((at_ + P.length : Nat) : Int)) := by
        unfold numR numL
        rw [hr, hP, List.take_left, List.drop_left, List.head?_cons, Option.any_some]
        have hc1 : P.length = 1 ∨ (P ++ c :: r).head? ≠ some 48 := by
          rw [← hP]
          rcases h0 with h | h
          · left
            have := List.length_pos_iff.2 hPne
            omega
          · exact .inr h
        by_cases hL : lLetter b c = true
        · rw [if_pos hL, if_neg (fun h => h.2.2 hL)]
        · rw [if_neg hL, if_pos ⟨hc1, hv, hL⟩]
      rw [hn]
      refine Ev_succ (Ev_succ ?_)
      simp only [spec_l3Num.l0, if_pos c1, if_pos c0, hb, digit_spec, hdc, Option.bind_some, spec_l3Num.j1, Bool.false_eq_true, if_false, letter_spec]
      cases lLetter b c with
      | true => simp only [if_true]; exact Ev.now _
      | false => simp only [Bool.false_eq_true, if_false]; exact Ev.now _
    | true =>
      have hrunge : P.length + 1 ≤ runL lDigit D := by rw [hP, runL_app lDigit _ P hdig, runL, if_pos hdc]; omega
      have htake : D.take (runL lDigit D) = (P ++ [c]) ++ (D.take (runL lDigit D)).drop (P.length + 1) := by
        have h1 : (D.take (runL lDigit D)).take (P.length + 1) = P ++ [c] := by
          rw [List.take_take, Nat.min_eq_left hrunge, hP]
          rw [show P ++ c :: r = (P ++ [c]) ++ r by simp, List.take_left' (by simp)]
        rw [← h1, List.take_append_drop]
      unfold lDigit at hdc
      simp only [Bool.and_eq_true, decide_eq_true_eq] at hdc
      have hdc' : lDigit c = true := by unfold lDigit; simp only [Bool.and_eq_true, decide_eq_true_eq]; exact hdc
      have hstep : wrap64 ((wrap64 ((valN P : Int) * 10)) + (((c.toNat : Int) - 48) % 256)) = ((valN (P ++ [c]) : Nat) : Int) := by
        rw [valN_snoc, w64 (x := (valN P : Int) * 10) (by omega) (by omega), w64 (by omega) (by omega)]; omega
      refine Ev_succ ?_
      simp only [spec_l3Num.l0, if_pos c1, if_pos c0, hb, digit_spec, hdc', Option.bind_some]
      refine Ev_succ ?_
      have hgo : (P.length ≤ 0 ∨ D.head? ≠ some 48) → Ev (fun k => spec_l3Num.j2 k s (at_ : Int) b (valN P : Int) ((at_ + P.length : Nat) : Int) false) (numR b at_ D) := by
        intro hcase
        refine Ev_succ ?_
        simp only [spec_l3Num.j2, Bool.false_eq_true, if_false, if_pos c0, if_pos c1, hb, hstep, hw]
        by_cases hbig : ((valN (P ++ [c]) : Nat) : Int) > 1000000
        · simp only [if_pos hbig]
          have hn : numR b at_ D = (0, -1) := by
            unfold numR numL
            rw [if_neg]
            rintro ⟨_, h2, _⟩
            rw [htake] at h2
            have := valN_app (P ++ [c]) ((D.take (runL lDigit D)).drop (P.length + 1))
            omega
          rw [hn]
          exact Ev.now _
        · simp only [if_neg hbig]
          exact ih (P ++ [c]) (by rw [hP]; simp) (by
            intro x hx
            rcases List.mem_append.1 hx with h | h
            · exact hdig x h
            · rw [List.mem_singleton] at h; rw [h]; exact hdc') (by omega) (by
            rcases hcase with h | h
            · left; rw [List.length_append, List.length_singleton]; omega
            · exact .inr h) (fun e => by simp at e)
      by_cases hg : ((at_ + P.length : Nat) : Int) > (at_ : Int)
      · have hP1 : 1 ≤ P.length := by omega
        obtain ⟨d, P', rfl⟩ : ∃ d P', P = d :: P' := by
          cases P with
          | nil => simp at hP1
          | cons d P' => exact ⟨d, P', rfl⟩
        have hb0 := btL s at_ d (P' ++ c :: r) (by rw [hD, hP]; rfl)
        have z0 : (0 : Int) ≤ (at_ : Int) := by omega
        have z1 : (at_ : Int) < (s.size : Int) := by omega
        simp only [spec_l3Num.j1, if_true, if_pos hg, if_pos z0, if_pos z1, hb0]
        by_cases h48 : d = 48
        · have e48 : ((d.toNat : Int) == 48) = true := by rw [beq_iff_eq]; exact (b_eq d 48 (by decide)).2 h48
          rw [e48]
          refine Ev_succ ?_
          simp only [spec_l3Num.j2, if_true]
          have hn : numR b at_ D = (0, -1) := by
            unfold numR numL
            rw [if_neg]
            rintro ⟨h1, _, _⟩
            rcases h1 with h1 | h1
            · simp only [List.length_cons] at hrunge; omega
            · apply h1; rw [hP, List.cons_append, List.head?_cons, h48]
          rw [hn]
          exact Ev.now _
        · have e48 : ((d.toNat : Int) == 48) = false := by rw [beq_eq_false_iff_ne]; exact fun e => h48 ((b_eq d 48 (by decide)).1 e)
          rw [e48]
          exact hgo (.inr (by rw [hP, List.cons_append, List.head?_cons]; exact fun e => h48 (Option.some.inj e)))
      · simp only [spec_l3Num.j1, if_true, if_neg hg]
        exact hgo (.inl (by omega))
theorem str_spec (s : ByteArray) (hs : s.size ≤ 1099511627776) (at_ : Nat) (r : List UInt8) (hr : s.data.toList.drop (at_ + 1) = r) (hat : at_ < s.size) : ∀ (R P : List UInt8), r = P ++ R → (∀ c ∈ P, lStr c = true) → P.length ≤ 41 →
    Ev (fun k => spec_l3Str.l0 k s (at_ : Int) ((at_ + 1 + P.length : Nat) : Int)) (match strL r with | some n => ((at_ + n + 2 : Nat) : Int) | none => -1) := by
  have hlim : wrap64 (wrap64 ((at_ : Int) + 1) + 40) = (at_ : Int) + 41 := by rw [w64 (x := (at_ : Int) + 1) (by omega) (by omega), w64 (by omega) (by omega)]; omega
  intro R
  induction R with
  | nil =>
    intro P hP hall hlen
    rw [List.append_nil] at hP
    subst hP
    have hrun : runL lStr r = r.length := by have := runL_app lStr [] r hall; rwa [List.append_nil, show runL lStr [] = 0 from rfl, Nat.add_zero] at this
    have hn : strL r = none := by unfold strL; rw [hrun, List.drop_length, if_neg (by simp)]
    have hl : at_ + 1 + r.length = s.size := by
      have := congrArg List.length hr
      rw [List.length_drop, lenL] at this
      omega
    rw [hn]
    have c1 : ¬ ((at_ + 1 + r.length : Nat) : Int) < (s.size : Int) := by omega
    refine Ev_succ (Ev_succ ?_)
    simp only [spec_l3Str.l0, if_neg c1, spec_l3Str.j1, Bool.false_eq_true, if_false]
    exact Ev.now _
  | cons c r' ih =>
    intro P hP hall hlen
    have hdrop : s.data.toList.drop (at_ + 1 + P.length) = c :: r' := by rw [← List.drop_drop, hr, hP, List.drop_left]
    obtain ⟨hlt, hd⟩ := drop_cons hdrop
    rw [lenL] at hlt
    have hb := btL s (at_ + 1 + P.length) c r' hdrop
    have c1 : ((at_ + 1 + P.length : Nat) : Int) < (s.size : Int) := by omega
    have c0 : (0 : Int) ≤ ((at_ + 1 + P.length : Nat) : Int) := by omega
    have hw : wrap64 (((at_ + 1 + P.length : Nat) : Int) + 1) = ((at_ + 1 + (P ++ [c]).length : Nat) : Int) := by rw [w64 (by omega) (by omega), List.length_append, List.length_singleton]; omega
    have hrun : runL lStr r = P.length + runL lStr (c :: r') := by rw [hP, runL_app lStr _ P hall]
    refine Ev_succ (Ev_succ ?_)
    by_cases h41 : P.length ≤ 40
    · have hdl : decide (((at_ + 1 + P.length : Nat) : Int) ≤ (at_ : Int) + 41) = true := decide_eq_true (by omega)
      simp only [spec_l3Str.l0, if_pos c1, hlim, hdl, spec_l3Str.j1, if_true, if_pos c0, hb]
      by_cases h34 : (c.toNat : Int) = 34
      · have hc : c = 34 := (b_eq c 34 (by decide)).1 h34
        have hst : lStr c = false := by rw [hc]; decide
        have hn : strL r = some P.length := by
          unfold strL
          rw [hrun, runL_stopc _ _ _ hst, Nat.add_zero, hP, List.drop_left, if_pos ⟨h41, by rw [List.head?_cons, hc]⟩]
        rw [hn]
        simp only [if_pos h34, hw]
        refine Ev_some ?_
        rw [List.length_append, List.length_singleton]; omega
      · simp only [if_neg h34]
        have hne34 : c ≠ 34 := fun e => h34 ((b_eq c 34 (by decide)).2 e)
        have hbad : lStr c = false → strL r = none := by
          intro hst
          unfold strL
          rw [hrun, runL_stopc _ _ _ hst, Nat.add_zero, hP, List.drop_left, if_neg]
          rintro ⟨_, h⟩
          rw [List.head?_cons] at h
          exact hne34 (Option.some.inj h)
        by_cases g1 : (c.toNat : Int) < 32
        · rw [hbad (by unfold lStr; rw [decide_eq_false (by omega)]; rfl)]
          simp only [if_pos g1]; exact Ev.now _
        · by_cases g2 : (c.toNat : Int) > 126
          · rw [hbad (by unfold lStr; rw [show decide (c.toNat ≤ 126) = false from decide_eq_false (by omega)]; simp)]
            simp only [if_neg g1, if_pos g2]; exact Ev.now _
          · by_cases g3 : (c.toNat : Int) = 92
            · rw [hbad (by unfold lStr; rw [show (c == 92) = true by rw [beq_iff_eq]; exact (b_eq c 92 (by decide)).1 g3]; simp)]
              simp only [if_neg g1, if_neg g2, if_pos g3]; exact Ev.now _
            · have hst : lStr c = true := by
                unfold lStr
                rw [decide_eq_true (by omega), decide_eq_true (by omega), show (c == 34) = false by rw [beq_eq_false_iff_ne]; exact hne34, show (c == 92) = false by rw [beq_eq_false_iff_ne]; exact fun e => g3 ((b_eq c 92 (by decide)).2 e)]
                rfl
              simp only [if_neg g1, if_neg g2, if_neg g3, hw]
              exact ih (P ++ [c]) (by rw [hP]; simp) (by
                intro x hx
                rcases List.mem_append.1 hx with h | h
                · exact hall x h
                · rw [List.mem_singleton] at h; rw [h]; exact hst) (by rw [List.length_append, List.length_singleton]; omega)
    · have hdl : decide (((at_ + 1 + P.length : Nat) : Int) ≤ (at_ : Int) + 41) = false := decide_eq_false (by omega)
      have hn : strL r = none := by unfold strL; rw [if_neg]; rintro ⟨h, _⟩; omega
      rw [hn]
      simp only [spec_l3Str.l0, if_pos c1, hlim, hdl, spec_l3Str.j1, Bool.false_eq_true, if_false]
      exact Ev.now _
/-! The reference's token; both loops -/
theorem extL (s : ByteArray) (i j : Nat) : (s.extract i j).data.toList = (s.data.toList.drop i).take (j - i) := by
  rw [ByteArray.data_extract, Array.toList_extract, List.extract_eq_take_drop]
def tokR (b : Bool) (i : Nat) (L : List UInt8) (r : Int × ByteArray × Int × Int × Int) : Prop :=
  match tokL b L with
  | some (k, x, v, n) => r = (k, ⟨x.toArray⟩, (v : Int), (i : Int), ((i + n : Nat) : Int))
  | none => r.2.2.2.2 = -1
theorem token_spec (s : ByteArray) (b : Bool) (hs : s.size ≤ 1099511627776) (i : Nat) (hi : i < s.size) : ∃ r, Ev (fun k => spec_l3Token.f k s (i : Int) b) r ∧ tokR b i (s.data.toList.drop i) r := by
  obtain ⟨c, r, h⟩ : ∃ c r, s.data.toList.drop i = c :: r := ⟨_, _, List.drop_eq_getElem_cons (by rw [lenL]; exact hi)⟩
  obtain ⟨_, hd⟩ := drop_cons h
  have hb := btL s i c r h
  have c1 : (i : Int) < (s.size : Int) := by omega
  have c0 : (0 : Int) ≤ (i : Int) := by omega
  have hlr : (c :: r).length = s.size - i := by rw [← h, List.length_drop, lenL]
  simp only [List.length_cons] at hlr
  simp only [spec_l3Token.f, if_pos c0, if_pos c1, hb, letter_spec, digit_spec, Option.bind_some]
  rw [h]
  cases h1 : lLetter b c with
  | true =>
    have e := word_spec s b hs _ i h (by omega)
    have hle := runL_le (lWord b) (c :: r)
    simp only [List.length_cons] at hle
    generalize hn : runL (lWord b) (c :: r) = n at e hle
    have g1 : (i : Int) ≤ ((i + n : Nat) : Int) := by omega
    have g2 : ((i + n : Nat) : Int) ≤ (s.size : Int) := by omega
    have ex : s.extract (i : Int).toNat (((i + n : Nat) : Int)).toNat = ⟨((c :: r).take n).toArray⟩ := data_inj (by rw [Int.toNat_natCast, Int.toNat_natCast, extL, h, Nat.add_sub_cancel_left])
    refine ⟨(1, ⟨((c :: r).take n).toArray⟩, 0, (i : Int), ((i + n : Nat) : Int)), ?_, ?_⟩
    · simp only [if_true]
      refine Ev_call e ?_
      simp only [if_pos g1, if_pos g2, ex]
      exact Ev.now _
    · unfold tokR
      rw [tokL, if_pos h1, hn]; rfl
  | false =>
    simp only [Bool.false_eq_true, if_false]
    cases h2 : lDigit c with
    | true =>
      have e := num_spec s b hs i (c :: r) h (by omega) (c :: r) [] rfl (by simp) (by unfold valN; simp) (.inl (by simp)) (fun _ => ⟨c, r, rfl, h2⟩)
      have e0 : ((valN [] : Nat) : Int) = 0 := rfl
      rw [e0, show i + ([] : List UInt8).length = i from rfl] at e
      refine ⟨(2, ⟨#[]⟩, (numR b i (c :: r)).1, (i : Int), (numR b i (c :: r)).2), ?_, ?_⟩
      · simp only [if_true]
        refine Ev_call e ?_
        exact Ev.now _
      · unfold tokR numR
        rw [tokL, if_neg (by rw [h1]; simp), if_pos h2]
        cases numL b (c :: r) with
        | none => rfl
        | some p => rfl
    | false =>
      simp only [Bool.false_eq_true, if_false]
      by_cases h3 : (c.toNat : Int) = 34
      · have hc : c = 34 := (b_eq c 34 (by decide)).1 h3
        have e := str_spec s hs i r hd hi r [] rfl (by simp) (by simp)
        have hw1 : wrap64 ((i : Int) + 1) = ((i + 1 : Nat) : Int) := by rw [w64 (by omega) (by omega)]; omega
        rw [show i + 1 + ([] : List UInt8).length = i + 1 from rfl, ← hw1] at e
        have e' : Ev (fun k => spec_l3Str.f k s (i : Int)) (match strL r with | some n => ((i + n + 2 : Nat) : Int) | none => -1) := e
        simp only [if_pos h3]
        cases hq : strL r with
        | none =>
          rw [hq] at e'
          refine ⟨(0, ⟨#[]⟩, 0, 0, -1), Ev_call e' ?_, ?_⟩
          · exact Ev.now _
          · unfold tokR
            rw [tokL, if_neg (by rw [h1]; simp), if_neg (by rw [h2]; simp), if_pos hc, hq]; rfl
        | some n =>
          rw [hq] at e'
          have hn : n + 1 ≤ r.length := by
            unfold strL at hq
            split at hq
            · next hh =>
              injection hq with hq
              rw [hq] at hh
              rcases Nat.lt_or_ge n r.length with q | q
              · omega
              · rw [List.drop_eq_nil_of_le q] at hh; simp at hh
            · cases hq
          have g0 : ¬ ((i + n + 2 : Nat) : Int) < 0 := by omega
          have gw : wrap64 (((i + n + 2 : Nat) : Int) - 1) = ((i + n + 1 : Nat) : Int) := by rw [w64 (by omega) (by omega)]; omega
          have g1 : (0 : Int) ≤ ((i + 1 : Nat) : Int) := by omega
          have g2 : ((i + 1 : Nat) : Int) ≤ ((i + n + 1 : Nat) : Int) := by omega
          have g3 : ((i + n + 1 : Nat) : Int) ≤ (s.size : Int) := by omega
          have ex : s.extract (((i + 1 : Nat) : Int)).toNat (((i + n + 1 : Nat) : Int)).toNat = ⟨(r.take n).toArray⟩ := data_inj (by
            rw [Int.toNat_natCast, Int.toNat_natCast, extL, hd, show i + n + 1 - (i + 1) = n by omega])
          refine ⟨(3, ⟨(r.take n).toArray⟩, 0, (i : Int), ((i + n + 2 : Nat) : Int)), Ev_call e' ?_, ?_⟩
          · simp only [if_neg g0, hw1, gw, if_pos g1, if_pos g2, if_pos g3, ex]
            exact Ev.now _
          · unfold tokR
            rw [tokL, if_neg (by rw [h1]; simp), if_neg (by rw [h2]; simp), if_pos hc, hq]; rfl
      · have hc : ¬ c = 34 := fun e => h3 ((b_eq c 34 (by decide)).2 e)
        simp only [if_neg h3]
        have e := sign_spec c
        cases h4 : lSign c with
        | true =>
          rw [h4] at e
          have hw1 : wrap64 ((i : Int) + 1) = ((i + 1 : Nat) : Int) := by rw [w64 (by omega) (by omega)]; omega
          have g2 : (i : Int) ≤ ((i + 1 : Nat) : Int) := by omega
          have g3 : ((i + 1 : Nat) : Int) ≤ (s.size : Int) := by omega
          have ex : s.extract (i : Int).toNat (((i + 1 : Nat) : Int)).toNat = ⟨[c].toArray⟩ := data_inj (by
            rw [Int.toNat_natCast, Int.toNat_natCast, extL, h, Nat.add_sub_cancel_left]; rfl)
          refine ⟨(4, ⟨[c].toArray⟩, 0, (i : Int), ((i + 1 : Nat) : Int)), Ev_call e ?_, ?_⟩
          · simp only [if_true, hw1, if_pos g2, if_pos g3, ex]
            exact Ev.now _
          · unfold tokR
            rw [tokL, if_neg (by rw [h1]; simp), if_neg (by rw [h2]; simp), if_neg hc, if_pos h4]; rfl
        | false =>
          rw [h4] at e
          refine ⟨(0, ⟨#[]⟩, 0, 0, -1), Ev_call e ?_, ?_⟩
          · simp only [Bool.false_eq_true, if_false]
            exact Ev.now _
          · unfold tokR
            rw [tokL, if_neg (by rw [h1]; simp), if_neg (by rw [h2]; simp), if_neg hc, if_neg (by rw [h4]; simp)]
abbrev TK := S70
/-- The tokens from a place on, behind those that were read. -/
def lexF (s : ByteArray) (b : Bool) : Nat → Nat → List TK → Option (List TK × Int)
  | 0, _, _ => none
  | f + 1, i, out => if i < s.size then
      (match tokL b (s.data.toList.drop i) with
        | none => some ([], (i : Int))
        | some (k, x, v, n) => if 4000 ≤ out.length then some ([], (i : Int)) else lexF s b f (i + n + skipS false (s.data.toList.drop (i + n))) (out ++ [⟨k, ⟨x.toArray⟩, (v : Int), (i : Int)⟩]))
    else some (out, -1)
theorem lexF_some (s : ByteArray) (b : Bool) : ∀ (f i : Nat) (out : List TK), s.size < i + f → i ≤ s.size → out.length ≤ 4000 → ∃ l e, lexF s b f i out = some (l, e) ∧ l.length ≤ 4000 := by
  intro f
  induction f with
  | zero =>
    intro i out h hi ho
    exfalso; omega
  | succ f ih =>
    intro i out h hi ho
    rw [lexF]
    by_cases c : i < s.size
    · rw [if_pos c]
      cases ht : tokL b (s.data.toList.drop i) with
      | none => exact ⟨_, _, rfl, by simp⟩
      | some p =>
        obtain ⟨k, x, v, n⟩ := p
        have hn := tokL_pos ht
        simp only
        by_cases c2 : 4000 ≤ out.length
        · rw [if_pos c2]; exact ⟨_, _, rfl, by simp⟩
        · rw [if_neg c2]
          rw [List.length_drop, lenL] at hn
          have hk := skipS_le false (s.data.toList.drop (i + n))
          rw [List.length_drop, lenL] at hk
          exact ih _ _ (by omega) (by omega) (by rw [List.length_append, List.length_singleton]; omega)
    · rw [if_neg c]; exact ⟨_, _, rfl, ho⟩
theorem lex_spec (s : ByteArray) (b : Bool) (hs : s.size ≤ 1099511627776) : ∀ (f i : Nat) (out : List TK) (r : List TK × Int), lexF s b f i out = some r → out.length ≤ 4000 → Ev (fun k => spec_Lex.l0 k s b out (i : Int)) r := by
  intro f
  induction f with
  | zero => intro i out r h; cases h
  | succ f ih =>
    intro i out r h ho
    rw [lexF] at h
    refine Ev_succ ?_
    by_cases c : i < s.size
    · rw [if_pos c] at h
      have c1 : (i : Int) < (s.size : Int) := by omega
      obtain ⟨q, e, hq⟩ := token_spec s b hs i c
      simp only [spec_Lex.l0, if_pos c1]
      refine Ev_call e ?_
      cases ht : tokL b (s.data.toList.drop i) with
      | none =>
        rw [ht] at h
        unfold tokR at hq
        rw [ht] at hq
        have hneg : q.2.2.2.2 < 0 := by have hq' : q.2.2.2.2 = -1 := hq; omega
        simp only [if_pos hneg]
        obtain rfl := Option.some.inj h
        exact Ev.now _
      | some p =>
        obtain ⟨k, x, v, n⟩ := p
        rw [ht] at h
        unfold tokR at hq
        rw [ht] at hq
        have hq' : q = (k, ⟨x.toArray⟩, (v : Int), (i : Int), ((i + n : Nat) : Int)) := hq
        subst hq'
        have hn := tokL_pos ht
        rw [List.length_drop, lenL] at hn
        have hneg : ¬ ((i + n : Nat) : Int) < 0 := by omega
        simp only [if_neg hneg] at h ⊢
        by_cases c2 : 4000 ≤ out.length
        · rw [if_pos c2] at h
          have c3 : (out.length : Int) ≥ 4000 := by omega
          simp only [if_pos c3]
          obtain rfl := Option.some.inj h
          exact Ev.now _
        · rw [if_neg c2] at h
          have c3 : ¬ (out.length : Int) ≥ 4000 := by omega
          have c4 : out.length < 3518437208883 := by omega
          simp only [if_neg c3, if_pos c4]
          refine Ev_call (skip_spec s hs _ (i + n) rfl (by omega)).1 ?_
          exact ih _ _ r h (by rw [List.length_append, List.length_singleton]; omega)
    · rw [if_neg c] at h
      have c1 : ¬ (i : Int) < (s.size : Int) := by omega
      simp only [spec_Lex.l0, if_neg c1]
      obtain rfl := Option.some.inj h
      exact Ev.now _
theorem lex_impl (s : ByteArray) (b : Bool) (hs : s.size ≤ 1099511627776) : ∀ (f i : Nat) (out : List TK) (r : List TK × Int), lexF s b f i out = some r → out.length ≤ 4000 → Ev (fun k => impl_Lex.l0 k s b out (i : Int)) r := by
  intro f
  induction f with
  | zero => intro i out r h; cases h
  | succ f ih =>
    intro i out r h ho
    rw [lexF] at h
    refine Ev_succ ?_
    by_cases c : i < s.size
    · rw [if_pos c] at h
      have c1 : (i : Int) < (s.size : Int) := by omega
      have c0 : (0 : Int) ≤ (i : Int) := by omega
      have c5 : (i : Int) ≤ (s.size : Int) := by omega
      have hsz : (s.extract i s.size).size = s.size - i := by rw [ByteArray.size_extract]; omega
      have hex : (s.extract i s.size).data.toList = s.data.toList.drop i := by
        rw [extL]
        exact List.take_of_length_le (by rw [List.length_drop, lenL]; exact Nat.le_refl _)
      have htok : impl_token.f (s.extract (i : Int).toNat s.size) b = some (match tokL b (s.data.toList.drop i) with | some (k, x, v, n) => (k, ⟨x.toArray⟩, (v : Int), 0, (n : Int), true) | none => (0, ⟨#[]⟩, 0, 0, 0, false)) := by
        unfold impl_token.f
        rw [Int.toNat_natCast, if_pos ⟨by omega, by omega⟩]
        unfold TokL.tokB
        rw [hex]
        cases tokL b (s.data.toList.drop i) <;> rfl
      simp only [impl_Lex.l0, if_pos c1, if_pos c0, if_pos c5, htok, Option.bind_some]
      cases ht : tokL b (s.data.toList.drop i) with
      | none =>
        rw [ht] at h
        simp only [Bool.false_eq_true, if_false]
        obtain rfl := Option.some.inj h
        exact Ev.now _
      | some p =>
        obtain ⟨k, x, v, n⟩ := p
        rw [ht] at h
        have hn := tokL_pos ht
        rw [List.length_drop, lenL] at hn
        simp only [if_true] at h ⊢
        by_cases c2 : 4000 ≤ out.length
        · rw [if_pos c2] at h
          have c3 : (out.length : Int) = 4000 := by omega
          simp only [if_pos c3]
          obtain rfl := Option.some.inj h
          exact Ev.now _
        · rw [if_neg c2] at h
          have c3 : ¬ (out.length : Int) = 4000 := by omega
          have c4 : out.length < 3518437208883 := by omega
          have hw : wrap64 ((i : Int) + (n : Int)) = ((i + n : Nat) : Int) := by rw [w64 (by omega) (by omega)]; omega
          have g1 : (0 : Int) ≤ ((i + n : Nat) : Int) := by omega
          have g2 : ((i + n : Nat) : Int) ≤ (s.size : Int) := by omega
          have hsz2 : (s.extract (i + n) s.size).size = s.size - (i + n) := by rw [ByteArray.size_extract]; omega
          have hex2 : (s.extract (i + n) s.size).data.toList = s.data.toList.drop (i + n) := by
            rw [extL]
            exact List.take_of_length_le (by rw [List.length_drop, lenL]; exact Nat.le_refl _)
          have hpass : impl_passed.f (s.extract (((i + n : Nat) : Int)).toNat s.size) = some ((skipS false (s.data.toList.drop (i + n)) : Nat) : Int) := by
            unfold impl_passed.f
            rw [Int.toNat_natCast, if_pos (by omega), hex2]
          have hle := skipS_le false (s.data.toList.drop (i + n))
          rw [List.length_drop, lenL] at hle
          have hw2 : wrap64 (((i + n : Nat) : Int) + ((skipS false (s.data.toList.drop (i + n)) : Nat) : Int)) = ((i + n + skipS false (s.data.toList.drop (i + n)) : Nat) : Int) := by rw [w64 (by omega) (by omega)]; omega
          simp only [if_neg c3, if_pos c4, hw, if_pos g1, if_pos g2, hpass, Option.bind_some, hw2]
          exact ih _ _ r h (by rw [List.length_append, List.length_singleton]; omega)
    · rw [if_neg c] at h
      have c1 : ¬ (i : Int) < (s.size : Int) := by omega
      simp only [impl_Lex.l0, if_neg c1]
      obtain rfl := Option.some.inj h
      exact Ev.now _
def lexR (s : ByteArray) (b : Bool) : Option (List TK × Int) := lexF s b (s.size + 1) (skipS false s.data.toList) []
theorem lex_both (s : ByteArray) (b : Bool) (hs : s.size ≤ 1099511627776) : ∃ l e, lexR s b = some (l, e) ∧ l.length ≤ 4000 ∧ Ev (fun k => spec_Lex.f k s b) (l, e) ∧ Ev (fun k => impl_Lex.f k s b) (l, e) := by
  obtain ⟨l, e, h, hl⟩ := lexF_some s b (s.size + 1) (skipS false s.data.toList) [] (by omega) (by have := skipS_le false s.data.toList; rw [lenL] at this; exact this) (by simp)
  refine ⟨l, e, h, hl, ?_, ?_⟩
  · have h0 := (skip_spec s hs _ 0 (List.drop_zero ..) (by omega)).1
    rw [Nat.zero_add] at h0
    exact Ev_call (g := fun k => spec_l3Skip.f k s 0) h0 (lex_spec s b hs _ _ _ _ h (by simp))
  · have hp : impl_passed.f s = some ((skipS false s.data.toList : Nat) : Int) := by unfold impl_passed.f; rw [if_pos (by omega)]
    simp only [impl_Lex.f, hp, Option.bind_some]
    exact lex_impl s b hs _ _ _ _ h (by simp)
theorem and255 (x : Int) : 0 ≤ Go.bits .and .i64 x 255 ∧ Go.bits .and .i64 x 255 ≤ 255 := by
  have h : (BitVec.ofInt IntKind.i64.bits x &&& BitVec.ofInt IntKind.i64.bits 255).toNat ≤ 255 := by
    rw [BitVec.toNat_and]
    exact Nat.le_trans Nat.and_le_right (by decide)
  simp only [Go.bits]
  rw [wraps_i64 _ (by omega) (by omega)]
  omega
theorem byte_some (b : List Int) (hb : b.length ≤ 140737488355328) (i h : Int) (h0 : 0 ≤ i) (h1 : i ≤ b.length) : ∃ x i' h', spec_l1Byte.f b i h = some (x, i', h') ∧ 0 ≤ x ∧ x ≤ 255 ∧ 0 ≤ i' ∧ i' ≤ b.length := by
  by_cases c : i < (b.length : Int)
  · have e : wrap64 (i + 1) = i + 1 := w64 (by omega) (by omega)
    exact ⟨_, i + 1, _, by simp only [spec_l1Byte.f, if_pos c, if_pos h0, e]; rfl, (and255 _).1, (and255 _).2, by omega, by omega⟩
  · exact ⟨_, i, _, by simp only [spec_l1Byte.f, if_neg c]; rfl, (and255 _).1, (and255 _).2, h0, h1⟩
theorem below_some (b : List Int) (hb : b.length ≤ 140737488355328) (i h : Int) (h0 : 0 ≤ i) (h1 : i ≤ b.length) (n : Int) : ∃ x i' h', spec_l1Below.f b i h n = some (x, i', h') ∧ 0 ≤ x ∧ (0 < n → x < n) ∧ (n ≤ 0 → x = 0) ∧ 0 ≤ i' ∧ i' ≤ b.length := by
  by_cases c : n ≤ 0
  · exact ⟨0, i, h, by simp only [spec_l1Below.f, if_pos c], by omega, by omega, fun _ => rfl, h0, h1⟩
  · obtain ⟨x, i1, q1, e1, a1, b1, c1, d1⟩ := byte_some b hb i h h0 h1
    have hz : ¬ n = 0 := by omega
    by_cases c2 : n ≤ 256
    · refine ⟨Int.tmod x n, i1, q1, ?_, ?_, ?_, ?_, c1, d1⟩
      · simp only [spec_l1Below.f, if_neg c, if_pos c2, e1, Option.bind_some, if_neg hz]
      · rw [tmod_nn a1]; exact Int.emod_nonneg _ hz
      · intro _; rw [tmod_nn a1]; exact Int.emod_lt_of_pos _ (by omega)
      · intro h; exact absurd h c
    · obtain ⟨y, i2, q2, e2, a2, b2, c3, d2⟩ := byte_some b hb i1 q1 c1 d1
      obtain ⟨z, i3, q3, e3, a3, b3, c4, d3⟩ := byte_some b hb i2 q2 c3 d2
      obtain ⟨v, i4, q4, e4, a4, b4, c5, d4⟩ := byte_some b hb i3 q3 c4 d3
      have hw : wrap64 ((wrap64 ((wrap64 ((wrap64 (x * 16777216)) + (wrap64 (y * 65536)))) + (wrap64 (z * 256)))) + v) = x * 16777216 + y * 65536 + z * 256 + v := by
        rw [w64 (x := x * 16777216) (by omega) (by omega), w64 (x := y * 65536) (by omega) (by omega), w64 (x := z * 256) (by omega) (by omega), w64 (x := x * 16777216 + y * 65536) (by omega) (by omega), w64 (x := x * 16777216 + y * 65536 + z * 256) (by omega) (by omega), w64 (by omega) (by omega)]
      have hp : 0 ≤ x * 16777216 + y * 65536 + z * 256 + v := by omega
      refine ⟨Int.tmod (x * 16777216 + y * 65536 + z * 256 + v) n, i4, q4, ?_, ?_, ?_, ?_, c5, d4⟩
      · simp only [spec_l1Below.f, if_neg c, if_neg c2, e1, e2, e3, e4, Option.bind_some, if_neg hz, hw]
      · rw [tmod_nn hp]; exact Int.emod_nonneg _ hz
      · intro _; rw [tmod_nn hp]; exact Int.emod_lt_of_pos _ (by omega)
      · intro h; exact absurd h c
theorem once_some (b : List Int) (hb : b.length ≤ 140737488355328) (i h : Int) (h0 : 0 ≤ i) (h1 : i ≤ b.length) (n : Int) : ∃ x i' h', spec_l1Once.f b i h n = some (x, i', h') ∧ 0 ≤ i' ∧ i' ≤ b.length := by
  obtain ⟨x, i1, q1, e1, a1, b1, c1, d1, f1⟩ := below_some b hb i h h0 h1 n
  exact ⟨x == 0, i1, q1, by simp only [spec_l1Once.f, e1, Option.bind_some], d1, f1⟩
theorem pick_some (b : List Int) (hb : b.length ≤ 140737488355328) (i h : Int) (h0 : 0 ≤ i) (h1 : i ≤ b.length) (l : List ByteArray) (hl : 0 < l.length) : ∃ s i' h', spec_l1Pick.f b i h l = some (s, i', h') ∧ s ∈ l ∧ 0 ≤ i' ∧ i' ≤ b.length := by
  obtain ⟨x, i1, q1, e1, a1, b1, c1, d1, f1⟩ := below_some b hb i h h0 h1 l.length
  have hx : x < (l.length : Int) := b1 (by omega)
  refine ⟨rdOf ByteArray.empty l x, i1, q1, by simp only [spec_l1Pick.f, e1, Option.bind_some, if_pos a1, if_pos hx], ?_, d1, f1⟩
  rw [rdOf, getD_at l _ _ (by omega)]; exact List.getElem_mem _
theorem new_loop (l : List Int) (hl : l.length ≤ 140737488355328) (d : Nat) : ∀ (x3 x4 : Int), 0 ≤ x4 → x4 + d = l.length → ∃ h, Ev (fun k => spec_l1New.l0 k l x3 x4) (l, 0, h) := by
  induction d with
  | zero =>
    intro x3 x4 h0 h1
    refine ⟨x3, Ev_succ ?_⟩
    have c : ¬ x4 < (l.length : Int) := by omega
    simp only [spec_l1New.l0, if_neg c]; exact Ev.now _
  | succ d ih =>
    intro x3 x4 h0 h1
    by_cases c2 : x4 < 4000
    · obtain ⟨h, e⟩ := ih (Go.bits .and .i64 (wrap64 ((wrap64 ((wrap64 (x3 * 131)) + (wrap64 (rd l x4)))) + 7)) 1073741823) (x4 + 1) (by omega) (by omega)
      refine ⟨h, Ev_succ ?_⟩
      have c : x4 < (l.length : Int) := by omega
      have hw : wrap64 (x4 + 1) = x4 + 1 := w64 (by omega) (by omega)
      simp only [spec_l1New.l0, if_pos c, if_pos c2, if_pos h0, hw]; exact e
    · refine ⟨x3, Ev_succ ?_⟩
      have c : x4 < (l.length : Int) := by omega
      simp only [spec_l1New.l0, if_pos c, if_neg c2]; exact Ev.now _
theorem new_ev (l : List Int) (hl : l.length ≤ 140737488355328) : ∃ h, Ev (fun k => spec_l1New.f k l) (l, 0, h) := by
  simp only [spec_l1New.f]
  exact new_loop l hl l.length _ 0 (by omega) (by omega)
/-! What the law FnLex says of the tokens -/
theorem lexdraw_loop (b : List Int) (hb : b.length ≤ 140737488355328) (d : Nat) : ∀ (s : ByteArray) (n i h : Int), n = d → s.size + 8 * d ≤ 1000000 → 0 ≤ i → i ≤ b.length → ∃ t c, Ev (fun k => spec_DrawLex.l0 k s n b i h) (t, c) ∧ t.size ≤ s.size + 8 * d := by
  induction d with
  | zero =>
    intro s n i h hn hs h0 h1
    have c : ¬ n > 0 := by omega
    obtain ⟨o, i1, q1, e1, _, _⟩ := once_some b hb i h h0 h1 2
    refine ⟨s, o, Ev_succ ?_, by omega⟩
    simp only [spec_DrawLex.l0, if_neg c, e1, Option.bind_some]
    exact Ev.now _
  | succ d ih =>
    intro s n i h hn hs h0 h1
    have c : n > 0 := by omega
    have hw : wrap64 (n - 1) = n - 1 := w64 (by omega) (by omega)
    obtain ⟨t1, i1, q1, e1, m1, a1, b1⟩ := pick_some b hb i h h0 h1 ([(⟨#[97]⟩ : ByteArray), (⟨#[108, 101, 116]⟩ : ByteArray), (⟨#[120, 49]⟩ : ByteArray), (⟨#[95]⟩ : ByteArray), (⟨#[36]⟩ : ByteArray), (⟨#[97, 36, 49]⟩ : ByteArray), (⟨#[48]⟩ : ByteArray), (⟨#[55]⟩ : ByteArray), (⟨#[48, 49]⟩ : ByteArray), (⟨#[49, 48, 48, 48, 48, 48, 48]⟩ : ByteArray), (⟨#[49, 48, 48, 48, 48, 48, 49]⟩ : ByteArray), (⟨#[49, 50, 97]⟩ : ByteArray), (⟨#[34, 46, 47, 97, 34]⟩ : ByteArray), (⟨#[34]⟩ : ByteArray), (⟨#[34, 97, 92, 98, 34]⟩ : ByteArray), (⟨#[123]⟩ : ByteArray), (⟨#[125]⟩ : ByteArray), (⟨#[40]⟩ : ByteArray), (⟨#[41]⟩ : ByteArray), (⟨#[59]⟩ : ByteArray), (⟨#[61]⟩ : ByteArray), (⟨#[43]⟩ : ByteArray), (⟨#[45]⟩ : ByteArray), (⟨#[42]⟩ : ByteArray), (⟨#[46]⟩ : ByteArray), (⟨#[44]⟩ : ByteArray), (⟨#[32]⟩ : ByteArray), (⟨#[10]⟩ : ByteArray), (⟨#[47, 47, 32, 99, 10]⟩ : ByteArray), (⟨#[47, 47]⟩ : ByteArray), (⟨#[47]⟩ : ByteArray), (⟨#[64]⟩ : ByteArray), (⟨#[128]⟩ : ByteArray), (⟨#[51]⟩ : ByteArray)] : List ByteArray) (by decide)
    have z1 : t1.size ≤ 7 := (show ∀ s ∈ ([(⟨#[97]⟩ : ByteArray), (⟨#[108, 101, 116]⟩ : ByteArray), (⟨#[120, 49]⟩ : ByteArray), (⟨#[95]⟩ : ByteArray), (⟨#[36]⟩ : ByteArray), (⟨#[97, 36, 49]⟩ : ByteArray), (⟨#[48]⟩ : ByteArray), (⟨#[55]⟩ : ByteArray), (⟨#[48, 49]⟩ : ByteArray), (⟨#[49, 48, 48, 48, 48, 48, 48]⟩ : ByteArray), (⟨#[49, 48, 48, 48, 48, 48, 49]⟩ : ByteArray), (⟨#[49, 50, 97]⟩ : ByteArray), (⟨#[34, 46, 47, 97, 34]⟩ : ByteArray), (⟨#[34]⟩ : ByteArray), (⟨#[34, 97, 92, 98, 34]⟩ : ByteArray), (⟨#[123]⟩ : ByteArray), (⟨#[125]⟩ : ByteArray), (⟨#[40]⟩ : ByteArray), (⟨#[41]⟩ : ByteArray), (⟨#[59]⟩ : ByteArray), (⟨#[61]⟩ : ByteArray), (⟨#[43]⟩ : ByteArray), (⟨#[45]⟩ : ByteArray), (⟨#[42]⟩ : ByteArray), (⟨#[46]⟩ : ByteArray), (⟨#[44]⟩ : ByteArray), (⟨#[32]⟩ : ByteArray), (⟨#[10]⟩ : ByteArray), (⟨#[47, 47, 32, 99, 10]⟩ : ByteArray), (⟨#[47, 47]⟩ : ByteArray), (⟨#[47]⟩ : ByteArray), (⟨#[64]⟩ : ByteArray), (⟨#[128]⟩ : ByteArray), (⟨#[51]⟩ : ByteArray)] : List ByteArray), s.size ≤ 7 by decide) t1 m1
    obtain ⟨t2, i2, q2, e2, m2, a2, b2⟩ := pick_some b hb i1 q1 a1 b1 ([(⟨#[]⟩ : ByteArray), (⟨#[32]⟩ : ByteArray), (⟨#[32]⟩ : ByteArray)] : List ByteArray) (by decide)
    have z2 : t2.size ≤ 1 := (show ∀ s ∈ ([(⟨#[]⟩ : ByteArray), (⟨#[32]⟩ : ByteArray), (⟨#[32]⟩ : ByteArray)] : List ByteArray), s.size ≤ 1 by decide) t2 m2
    have g1 : s.size + t1.size ≤ 9223372036854775807 := by omega
    have hz : (s ++ t1).size = s.size + t1.size := size_app s t1
    have g2 : (s ++ t1).size + t2.size ≤ 9223372036854775807 := by omega
    have hz2 : ((s ++ t1) ++ t2).size = s.size + t1.size + t2.size := by rw [size_app, hz]
    obtain ⟨t, o, e3, ht⟩ := ih ((s ++ t1) ++ t2) (n - 1) i2 q2 (by omega) (by omega) a2 b2
    refine ⟨t, o, Ev_succ ?_, by omega⟩
    simp only [spec_DrawLex.l0, if_pos c, e1, Option.bind_some, if_pos g1, e2, if_pos g2, hw]
    exact e3
theorem lexdraw_ev (l : List Int) (hl : l.length ≤ 140737488355328) : ∃ t c, Ev (fun k => spec_DrawLex.f k l) (t, c) ∧ t.size ≤ 200 := by
  obtain ⟨h, e⟩ := new_ev l hl
  obtain ⟨x, i1, q1, e1, a1, b1, c1, d1, f1⟩ := below_some l hl 0 h (by omega) (by omega) 14
  have hx := b1 (by omega)
  obtain ⟨t, o, e2, ht⟩ := lexdraw_loop l hl x.toNat ⟨#[]⟩ x i1 q1 (by omega) (by have : (⟨#[]⟩ : ByteArray).size = 0 := rfl; omega) d1 f1
  refine ⟨t, o, ?_, by have : (⟨#[]⟩ : ByteArray).size = 0 := rfl; omega⟩
  simp only [spec_DrawLex.f]
  refine Ev_call e ?_
  simp only [e1, Option.bind_some]
  exact e2
/-- A token as it stands in the text. -/
def TokOK (s : ByteArray) (b : Bool) (x : TK) : Prop := ∃ (i n v : Nat) (t : List UInt8), i < s.size ∧ x.f1 = ⟨t.toArray⟩ ∧ x.f3 = (i : Int) ∧ tokL b (s.data.toList.drop i) = some (x.f0, t, v, n)
theorem lexF_good (s : ByteArray) (b : Bool) : ∀ (f i : Nat) (out l : List TK) (e : Int), lexF s b f i out = some (l, e) → (∀ x ∈ out, TokOK s b x ∧ x.f3 < i) → out.Pairwise (fun x y => x.f3 < y.f3) →
    (0 ≤ e ∧ e < s.size ∧ l = []) ∨ (e = -1 ∧ (∀ x ∈ l, TokOK s b x) ∧ l.Pairwise (fun x y => x.f3 < y.f3)) := by
  intro f
  induction f with
  | zero => intro i out l e h; cases h
  | succ f ih =>
    intro i out l e h ho hp
    rw [lexF] at h
    by_cases c : i < s.size
    · rw [if_pos c] at h
      cases ht : tokL b (s.data.toList.drop i) with
      | none =>
        rw [ht] at h
        simp only [Option.some.injEq, Prod.mk.injEq] at h
        obtain ⟨rfl, rfl⟩ := h
        exact .inl ⟨by omega, by omega, rfl⟩
      | some p =>
        obtain ⟨k, x, v, n⟩ := p
        rw [ht] at h
        simp only at h
        by_cases c2 : 4000 ≤ out.length
        · rw [if_pos c2] at h
          simp only [Option.some.injEq, Prod.mk.injEq] at h
          obtain ⟨rfl, rfl⟩ := h
          exact .inl ⟨by omega, by omega, rfl⟩
        · rw [if_neg c2] at h
          have hn := tokL_pos ht
          refine ih _ _ _ _ h ?_ ?_
          · intro y hy
            rcases List.mem_append.1 hy with hy | hy
            · exact ⟨(ho y hy).1, by have := (ho y hy).2; omega⟩
            · rw [List.mem_singleton] at hy
              subst hy
              exact ⟨⟨i, n, v, x, c, rfl, rfl, ht⟩, by simp only; omega⟩
          · refine List.pairwise_append.2 ⟨hp, List.pairwise_singleton _ _, fun y hy z hz => ?_⟩
            rw [List.mem_singleton] at hz
            subst hz
            exact (ho y hy).2
    · rw [if_neg c] at h
      simp only [Option.some.injEq, Prod.mk.injEq] at h
      obtain ⟨rfl, rfl⟩ := h
      exact .inr ⟨rfl, fun x hx => (ho x hx).1, hp⟩
def EE : List UInt8 := [32, 10, 47, 47, 32, 101, 110, 100]
theorem skip_end (R : List UInt8) : ∀ b, skipS b (R ++ EE) = if skipS b R = R.length then R.length + 8 else skipS b R := by
  induction R with
  | nil => intro b; cases b <;> rfl
  | cons c r ih =>
    intro b
    have l1 := skipS_le true r
    have l2 := skipS_le false r
    rw [List.cons_append]
    cases b with
    | true =>
      rw [skip_tru, skip_tru, ih, ih, List.length_cons]
      by_cases h : c = 10
      · rw [if_pos h, if_pos h]
        by_cases h2 : skipS false r = r.length
        · rw [if_pos h2, if_pos (by omega)] <;> omega
        · rw [if_neg h2, if_neg (by omega)]
      · rw [if_neg h, if_neg h]
        by_cases h2 : skipS true r = r.length
        · rw [if_pos h2, if_pos (by omega)] <;> omega
        · rw [if_neg h2, if_neg (by omega)]
    | false =>
      have hh : (c = 47 ∧ (r ++ EE).head? = some 47) ↔ (c = 47 ∧ r.head? = some 47) := by
        cases r with
        | nil => simp [EE]
        | cons d r' => rfl
      rw [skip_false, skip_false, ih, ih, List.length_cons]
      by_cases h : lBlank c = true
      · rw [if_pos h, if_pos h]
        by_cases h2 : skipS false r = r.length
        · rw [if_pos h2, if_pos (by omega)] <;> omega
        · rw [if_neg h2, if_neg (by omega)]
      · rw [if_neg h, if_neg h]
        by_cases h3 : c = 47 ∧ r.head? = some 47
        · rw [if_pos (hh.2 h3), if_pos h3]
          by_cases h2 : skipS true r = r.length
          · rw [if_pos h2, if_pos (by omega)] <;> omega
          · rw [if_neg h2, if_neg (by omega)]
        · rw [if_neg (fun k => h3 (hh.1 k)), if_neg h3, if_neg (by omega)]
theorem run_end (p : UInt8 → Bool) (R : List UInt8) (h : runL p R < R.length ∨ p 32 = false) : runL p (R ++ EE) = runL p R := by
  induction R with
  | nil =>
    rcases h with h | h
    · simp at h
    · show runL p (32 :: _) = 0
      rw [runL, if_neg (by rw [h]; simp)]
  | cons c r ih =>
    rw [List.cons_append, runL, runL]
    by_cases hc : p c = true
    · rw [if_pos hc, if_pos hc, ih]
      rcases h with h | h
      · rw [runL, if_pos hc, List.length_cons] at h
        exact .inl (by omega)
      · exact .inr h
    · rw [if_neg hc, if_neg hc]
theorem head_end (R : List UInt8) (n : Nat) (hn : n ≤ R.length) : ((R ++ EE).drop n).head? = if n < R.length then (R.drop n).head? else some 32 := by
  rw [List.drop_append_of_le_length hn]
  by_cases h : n < R.length
  · rw [if_pos h, List.drop_eq_getElem_cons h]; rfl
  · rw [if_neg h, List.drop_eq_nil_of_le (by omega)]; rfl
theorem tok_end (b : Bool) (R : List UInt8) (p : Int × List UInt8 × Nat × Nat) (h : tokL b R = some p) : tokL b (R ++ EE) = some p := by
  cases R with
  | nil => cases h
  | cons c r =>
    rw [List.cons_append]
    rw [tokL] at h ⊢
    by_cases h1 : lLetter b c = true
    · rw [if_pos h1] at h ⊢
      have hr := run_end (lWord b) (c :: r) (.inr (by cases b <;> decide))
      rw [List.cons_append] at hr
      rw [hr, ← List.cons_append, List.take_append_of_le_length (runL_le _ _)]
      exact h
    · rw [if_neg h1] at h ⊢
      by_cases h2 : lDigit c = true
      · rw [if_pos h2] at h ⊢
        have hr := run_end lDigit (c :: r) (.inr (by decide))
        have hl := runL_le lDigit (c :: r)
        have e : numL b (c :: r ++ EE) = numL b (c :: r) := by
          unfold numL
          rw [hr, List.take_append_of_le_length hl, head_end _ _ hl]
          have hA : (((if runL lDigit (c :: r) < (c :: r).length then ((c :: r).drop (runL lDigit (c :: r))).head? else some 32).any (lLetter b)) = true) ↔ ((((c :: r).drop (runL lDigit (c :: r))).head?.any (lLetter b)) = true) := by
            by_cases hlt : runL lDigit (c :: r) < (c :: r).length
            · rw [if_pos hlt]
            · rw [if_neg hlt, List.drop_eq_nil_of_le (by omega)]
              cases b <;> simp [lLetter]
          have hH : (c :: r ++ EE).head? = (c :: r).head? := rfl
          rw [hH]
          by_cases hc : (runL lDigit (c :: r) = 1 ∨ (c :: r).head? ≠ some 48) ∧ valN ((c :: r).take (runL lDigit (c :: r))) ≤ 1000000 ∧ ¬ (((c :: r).drop (runL lDigit (c :: r))).head?.any (lLetter b)) = true
          · rw [if_pos hc, if_pos ⟨hc.1, hc.2.1, fun k => hc.2.2 (hA.1 k)⟩]
          · rw [if_neg hc, if_neg (fun k => hc ⟨k.1, k.2.1, fun q => k.2.2 (hA.2 q)⟩)]
        rw [← List.cons_append, e]
        exact h
      · rw [if_neg h2] at h ⊢
        by_cases h3 : c = 34
        · rw [if_pos h3] at h ⊢
          unfold strL at h ⊢
          by_cases h4 : runL lStr r ≤ 40 ∧ (r.drop (runL lStr r)).head? = some 34
          · have hlt : runL lStr r < r.length := by
              rcases Nat.lt_or_ge (runL lStr r) r.length with q | q
              · exact q
              · rw [List.drop_eq_nil_of_le q] at h4; simp at h4
            rw [if_pos h4] at h
            rw [run_end lStr r (.inl hlt), head_end _ _ (by omega), if_pos hlt, if_pos h4]
            simp only [Option.map_some] at h ⊢
            rw [List.take_append_of_le_length (by omega)]
            exact h
          · rw [if_neg h4] at h; simp at h
        · rw [if_neg h3] at h ⊢; exact h
def sh (x : TK) : TK := ⟨x.f0, x.f1, x.f2, x.f3 + 2⟩
theorem lexF_mono (s : ByteArray) (b : Bool) : ∀ (f i : Nat) (out : List TK) (r : List TK × Int), lexF s b f i out = some r → lexF s b (f + 1) i out = some r := by
  intro f
  induction f with
  | zero => intro i out r h; cases h
  | succ f ih =>
    intro i out r h
    rw [lexF] at h ⊢
    by_cases c : i < s.size
    · rw [if_pos c] at h ⊢
      cases ht : tokL b (s.data.toList.drop i) with
      | none => rw [ht] at h; exact h
      | some p =>
        obtain ⟨k, x, v, n⟩ := p
        rw [ht] at h
        simp only at h ⊢
        by_cases c2 : 4000 ≤ out.length
        · rw [if_pos c2] at h ⊢; exact h
        · rw [if_neg c2] at h ⊢; exact ih _ _ _ h
    · rw [if_neg c] at h ⊢; exact h
theorem lexF_more (s : ByteArray) (b : Bool) (f d i : Nat) (out : List TK) (r : List TK × Int) (h : lexF s b f i out = some r) : lexF s b (f + d) i out = some r := by
  induction d with
  | zero => exact h
  | succ d ih => exact lexF_mono s b (f + d) i out r ih
def pos2 (n i : Nat) : Nat := if i = n then n + 10 else i + 2
theorem lexF_end (s s2 : ByteArray) (b : Bool) (h2 : s2.data.toList = [32, 10] ++ (s.data.toList ++ EE)) : ∀ (f i : Nat) (out l : List TK), lexF s b f i out = some (l, -1) → i ≤ s.size → lexF s2 b f (pos2 s.size i) (out.map sh) = some (l.map sh, -1) := by
  have hz : s2.size = s.size + 10 := by
    have := congrArg List.length h2
    rw [lenL, List.length_append, List.length_append, lenL] at this
    simpa [EE, Nat.add_comm, Nat.add_left_comm] using this
  have hd : ∀ i, i ≤ s.size → s2.data.toList.drop (i + 2) = s.data.toList.drop i ++ EE := by
    intro i hi
    rw [h2, Nat.add_comm, ← List.drop_drop]
    show ((s.data.toList ++ EE).drop i) = _
    rw [List.drop_append_of_le_length (by rw [lenL]; exact hi)]
  intro f
  induction f with
  | zero => intro i out l h; cases h
  | succ f ih =>
    intro i out l h hi
    rw [lexF] at h ⊢
    by_cases c : i < s.size
    · rw [if_pos c] at h
      have hp : pos2 s.size i = i + 2 := by unfold pos2; rw [if_neg (by omega)]
      rw [hp, if_pos (by omega)]
      cases ht : tokL b (s.data.toList.drop i) with
      | none =>
        rw [ht] at h
        simp only [Option.some.injEq, Prod.mk.injEq] at h
        omega
      | some p =>
        obtain ⟨k, x, v, n⟩ := p
        rw [hd i hi, tok_end b _ _ ht]
        rw [ht] at h
        simp only at h ⊢
        have hn := tokL_pos ht
        rw [List.length_drop, lenL] at hn
        rw [List.length_map]
        by_cases c2 : 4000 ≤ out.length
        · rw [if_pos c2] at h
          simp only [Option.some.injEq, Prod.mk.injEq] at h
          omega
        · rw [if_neg c2] at h ⊢
          have hk := skipS_le false (s.data.toList.drop (i + n))
          rw [List.length_drop, lenL] at hk
          have e := ih _ _ _ h (by omega)
          have hpos : i + 2 + n + skipS false (s2.data.toList.drop (i + 2 + n)) = pos2 s.size (i + n + skipS false (s.data.toList.drop (i + n))) := by
            rw [show i + 2 + n = i + n + 2 by omega, hd (i + n) (by omega), skip_end, List.length_drop, lenL]
            unfold pos2
            by_cases h3 : skipS false (s.data.toList.drop (i + n)) = s.size - (i + n)
            · rw [if_pos h3, if_pos (by omega)]; omega
            · rw [if_neg h3, if_neg (by omega)]; omega
          rw [hpos]
          rw [List.map_append] at e
          exact e
    · rw [if_neg c] at h
      have hp : pos2 s.size i = s.size + 10 := by unfold pos2; rw [if_pos (by omega)]
      rw [hp, if_neg (by omega)]
      simp only [Option.some.injEq, Prod.mk.injEq] at h ⊢
      obtain ⟨rfl, _⟩ := h
      exact ⟨rfl, trivial⟩
theorem lexR_end (s s2 : ByteArray) (b : Bool) (h2 : s2.data.toList = [32, 10] ++ (s.data.toList ++ EE)) (l : List TK) (h : lexR s b = some (l, -1)) : lexR s2 b = some (l.map sh, -1) := by
  have hz : s2.size = s.size + 10 := by
    have := congrArg List.length h2
    rw [lenL, List.length_append, List.length_append, lenL] at this
    simpa [EE, Nat.add_comm, Nat.add_left_comm] using this
  have hk := skipS_le false s.data.toList
  rw [lenL] at hk
  have e := lexF_end s s2 b h2 _ _ _ _ h hk
  have hs : skipS false s2.data.toList = pos2 s.size (skipS false s.data.toList) := by
    rw [h2]
    show skipS false (32 :: 10 :: (s.data.toList ++ EE)) = _
    rw [skip_false, if_pos (by decide), skip_false, if_pos (by decide), skip_end, lenL]
    unfold pos2
    by_cases h3 : skipS false s.data.toList = s.size
    · rw [if_pos h3, if_pos h3]
    · rw [if_neg h3, if_neg h3]
  unfold lexR
  rw [hs, hz, show s.size + 10 + 1 = (s.size + 1) + 10 by omega]
  exact lexF_more s2 b _ 10 _ _ _ e
theorem begins_some (a s : ByteArray) (h : a.data.toList <+: s.data.toList) : laws_begins.f a s = some true := by
  have hl := h.length_le
  rw [lenL, lenL] at hl
  have c1 : (a.size : Int) ≤ (s.size : Int) := by omega
  have c0 : (0 : Int) ≤ (a.size : Int) := by omega
  simp only [laws_begins.f, if_pos c1, if_pos c0]
  have e : s.extract 0 ((a.size : Int)).toNat = a := by
    apply data_inj
    rw [Int.toNat_natCast, extL, List.drop_zero, Nat.sub_zero, ← lenL]
    exact (List.prefix_iff_eq_take.1 h).symm
  rw [e]; simp
theorem tok_kind {b : Bool} {R t : List UInt8} {k : Int} {v n : Nat} (h : tokL b R = some (k, t, v, n)) : (k = 1 ∧ t <+: R) ∨ k = 2 ∨ (k = 3 ∧ ([34] ++ t ++ [34]) <+: R ∧ t.length ≤ 40) ∨ k = 4 := by
  cases R with
  | nil => cases h
  | cons c r =>
    rw [tokL] at h
    by_cases h1 : lLetter b c = true
    · rw [if_pos h1] at h
      simp only [Option.some.injEq, Prod.mk.injEq] at h
      obtain ⟨rfl, rfl, _, _⟩ := h
      exact .inl ⟨rfl, List.take_prefix _ _⟩
    · rw [if_neg h1] at h
      by_cases h2 : lDigit c = true
      · rw [if_pos h2] at h
        cases hn : numL b (c :: r) with
        | none => rw [hn] at h; cases h
        | some p =>
          rw [hn] at h
          simp only [Option.map_some, Option.some.injEq, Prod.mk.injEq] at h
          exact .inr (.inl h.1.symm)
      · rw [if_neg h2] at h
        by_cases h3 : c = 34
        · rw [if_pos h3] at h
          unfold strL at h
          by_cases h4 : runL lStr r ≤ 40 ∧ (r.drop (runL lStr r)).head? = some 34
          · rw [if_pos h4] at h
            simp only [Option.map_some, Option.some.injEq, Prod.mk.injEq] at h
            obtain ⟨rfl, rfl, _, _⟩ := h
            refine .inr (.inr (.inl ⟨rfl, ?_, by rw [List.length_take]; omega⟩))
            rw [h3]
            generalize runL lStr r = m at h4 ⊢
            have hm : r.drop m = 34 :: r.drop (m + 1) := by
              cases hq : r.drop m with
              | nil => rw [hq] at h4; simp at h4
              | cons a y =>
                rw [hq] at h4
                have ha : a = 34 := Option.some.inj h4.2
                rw [ha, (drop_cons hq).2]
            refine ⟨r.drop (m + 1), ?_⟩
            show 34 :: (r.take m ++ [34] ++ r.drop (m + 1)) = 34 :: r
            rw [List.append_assoc]
            show 34 :: (r.take m ++ (34 :: r.drop (m + 1))) = 34 :: r
            rw [← hm, List.take_append_drop]
          · rw [if_neg h4] at h; cases h
        · rw [if_neg h3] at h
          by_cases h5 : lSign c = true
          · rw [if_pos h5] at h
            simp only [Option.some.injEq, Prod.mk.injEq] at h
            exact .inr (.inr (.inr h.1.symm))
          · rw [if_neg h5] at h; cases h
abbrev rdT := rd_T70
theorem rdT_at (l : List TK) (i : Nat) (h : i < l.length) : rdT l (i : Int) = l[i] := by
  show l.getD (i : Int).toNat _ = _
  rw [Int.toNat_natCast]
  exact getD_at l _ i h
theorem same_loop (l : List TK) (hl : l.length ≤ 4000) (hs : ∀ x ∈ l, 0 ≤ x.f3 ∧ x.f3 ≤ 1000000) (d : Nat) : ∀ i : Nat, i + d = l.length → Ev (fun k => laws_FnLex.l1 k l (l.map sh) (i : Int)) true := by
  induction d with
  | zero =>
    intro i hi
    have c : ¬ (i : Int) < (l.length : Int) := by omega
    refine Ev_succ ?_
    simp only [laws_FnLex.l1, if_neg c]; exact Ev.now _
  | succ d ih =>
    intro i hi
    have c : (i : Int) < (l.length : Int) := by omega
    have c0 : (0 : Int) ≤ (i : Int) := by omega
    have c1 : (i : Int) < ((l.map sh).length : Int) := by rw [List.length_map]; omega
    have hlt : i < l.length := by omega
    have e1 := rdT_at l i hlt
    have e2 := rdT_at (l.map sh) i (by rw [List.length_map]; omega)
    rw [List.getElem_map, ← e1] at e2
    have hx := hs _ (List.getElem_mem hlt)
    rw [← e1] at hx
    have g0 : (rdT (l.map sh) (i : Int)).f0 = (rdT l (i : Int)).f0 := by rw [e2]; rfl
    have g1 : (rdT (l.map sh) (i : Int)).f1.toList = (rdT l (i : Int)).f1.toList := by rw [e2]; rfl
    have g2 : (rdT (l.map sh) (i : Int)).f2 = (rdT l (i : Int)).f2 := by rw [e2]; rfl
    have g3 : (rdT (l.map sh) (i : Int)).f3 = wrap64 ((rdT l (i : Int)).f3 + 2) := by rw [w64 (by omega) (by omega), e2]; rfl
    have hw : wrap64 ((i : Int) + 1) = ((i + 1 : Nat) : Int) := by rw [w64 (by omega) (by omega)]; omega
    refine Ev_succ ?_
    simp only [laws_FnLex.l1, if_pos c, if_pos c0, if_pos c1, if_pos g0, if_pos g1, if_pos g2, if_pos g3, hw]
    exact ih (i + 1) (by omega)
theorem size_lit2 : (⟨#[32, 10]⟩ : ByteArray).size = 2 := rfl
theorem size_lit8 : (⟨#[32, 10, 47, 47, 32, 101, 110, 100]⟩ : ByteArray).size = 8 := rfl
theorem end_ev (s : ByteArray) (b : Bool) (hz : s.size ≤ 200) (l : List TK) (hl : l.length ≤ 4000) (hs : ∀ x ∈ l, 0 ≤ x.f3 ∧ x.f3 ≤ 1000000) (h : lexR s b = some (l, -1)) (i : Nat) (hi : i = l.length) : Ev (fun k => laws_FnLex.l0 k s b l (i : Int)) true := by
  have c : ¬ (i : Int) < (l.length : Int) := by omega
  have z1 : ((⟨#[32, 10]⟩ : ByteArray) ++ s).size = 2 + s.size := by rw [size_app, size_lit2]
  have g1 : 2 + s.size ≤ 9223372036854775807 := by omega
  have g2 : ((⟨#[32, 10]⟩ : ByteArray) ++ s).size + 8 ≤ 9223372036854775807 := by omega
  have z2 : (((⟨#[32, 10]⟩ : ByteArray) ++ s) ++ (⟨#[32, 10, 47, 47, 32, 101, 110, 100]⟩ : ByteArray)).size = 2 + s.size + 8 := by rw [size_app, z1, size_lit8]
  have h2 : (((⟨#[32, 10]⟩ : ByteArray) ++ s) ++ (⟨#[32, 10, 47, 47, 32, 101, 110, 100]⟩ : ByteArray)).data.toList = [32, 10] ++ (s.data.toList ++ EE) := by
    rw [data_app, data_app, List.append_assoc]; rfl
  have hr := lexR_end s _ b h2 l h
  obtain ⟨l2, e2, q1, q2, q3, q4⟩ := lex_both (((⟨#[32, 10]⟩ : ByteArray) ++ s) ++ (⟨#[32, 10, 47, 47, 32, 101, 110, 100]⟩ : ByteArray)) b (by omega)
  rw [hr] at q1
  simp only [Option.some.injEq, Prod.mk.injEq] at q1
  obtain ⟨rfl, rfl⟩ := q1
  have e3 : (((l.map sh).length : Int) != (l.length : Int)) = false := by rw [List.length_map]; simp
  refine Ev_succ ?_
  simp only [laws_FnLex.l0, if_neg c, if_pos g1, if_pos g2]
  refine Ev_call q4 ?_
  simp only [if_true, e3]
  refine Ev_succ ?_
  simp only [laws_FnLex.j2, Bool.false_eq_true, if_false]
  exact same_loop l hl hs l.length 0 (by omega)
theorem check_loop (s : ByteArray) (b : Bool) (hz : s.size ≤ 200) (l : List TK) (hl : l.length ≤ 4000) (hg : ∀ x ∈ l, TokOK s b x) (hp : l.Pairwise (fun x y => x.f3 < y.f3)) (h : lexR s b = some (l, -1)) (d : Nat) : ∀ i : Nat, i + d = l.length → Ev (fun k => laws_FnLex.l0 k s b l (i : Int)) true := by
  have hs : ∀ x ∈ l, 0 ≤ x.f3 ∧ x.f3 ≤ 1000000 := by
    intro x hx
    obtain ⟨p, n, v, t, h1, h2, h3, h4⟩ := hg x hx
    rw [h3]; omega
  induction d with
  | zero => intro i hi; exact end_ev s b hz l hl hs h i (by omega)
  | succ d ih =>
    intro i hi
    have hlt : i < l.length := by omega
    have c : (i : Int) < (l.length : Int) := by omega
    have c0 : (0 : Int) ≤ (i : Int) := by omega
    have e1 := rdT_at l i hlt
    obtain ⟨p, n, v, t, h1, h2, h3, h4⟩ := hg _ (List.getElem_mem hlt)
    rw [← e1] at h2 h3 h4
    have hw : wrap64 ((i : Int) + 1) = ((i + 1 : Nat) : Int) := by rw [w64 (by omega) (by omega)]; omega
    have q := ih (i + 1) (by omega)
    have f0 : (0 : Int) ≤ (rdT l (i : Int)).f3 := by rw [h3]; omega
    have f1 : (rdT l (i : Int)).f3 ≤ (s.size : Int) := by rw [h3]; omega
    have n0 : ¬ (rdT l (i : Int)).f3 < 0 := by omega
    have n1 : ¬ (rdT l (i : Int)).f3 ≥ (s.size : Int) := by rw [h3]; omega
    have hext : (s.extract ((rdT l (i : Int)).f3).toNat s.size).data.toList = s.data.toList.drop p := by
      rw [h3, Int.toNat_natCast, extL]
      exact List.take_of_length_le (by rw [List.length_drop, lenL]; exact Nat.le_refl _)
    have hj : Ev (fun k => laws_FnLex.j1 k s b l (i : Int) false) true := by
      refine Ev_succ ?_
      simp only [laws_FnLex.j1, Bool.false_eq_true, if_false, if_pos c0, if_pos c]
      rcases tok_kind h4 with ⟨k1, k2⟩ | k1 | ⟨k1, k2, k3⟩ | k1
      · have m3 : ¬ (rdT l (i : Int)).f0 = 3 := by omega
        have hb : laws_begins.f (rdT l (i : Int)).f1 (s.extract ((rdT l (i : Int)).f3).toNat s.size) = some true := begins_some _ _ (by rw [hext, h2]; exact k2)
        simp only [if_pos k1, if_pos f0, if_pos f1, hb, Option.bind_some, if_true, if_neg m3, hw]
        exact q
      · have m1 : ¬ (rdT l (i : Int)).f0 = 1 := by omega
        have m3 : ¬ (rdT l (i : Int)).f0 = 3 := by omega
        simp only [if_neg m1, if_neg m3, hw]
        exact q
      · have m1 : ¬ (rdT l (i : Int)).f0 = 1 := by omega
        have hsz : (rdT l (i : Int)).f1.size ≤ 40 := by
          rw [← lenL, h2]; exact k3
        have g1 : 1 + (rdT l (i : Int)).f1.size ≤ 9223372036854775807 := by omega
        have z1 : ((⟨#[34]⟩ : ByteArray) ++ (rdT l (i : Int)).f1).size = 1 + (rdT l (i : Int)).f1.size := by rw [size_app]; rfl
        have g2 : ((⟨#[34]⟩ : ByteArray) ++ (rdT l (i : Int)).f1).size + 1 ≤ 9223372036854775807 := by omega
        have hb : laws_begins.f (((⟨#[34]⟩ : ByteArray) ++ (rdT l (i : Int)).f1) ++ (⟨#[34]⟩ : ByteArray)) (s.extract ((rdT l (i : Int)).f3).toNat s.size) = some true := begins_some _ _ (by
          rw [hext, data_app, data_app, h2]; exact k2)
        simp only [if_neg m1, if_pos k1, if_pos g1, if_pos g2, if_pos f0, if_pos f1, hb, Option.bind_some, if_true, hw]
        exact q
      · have m1 : ¬ (rdT l (i : Int)).f0 = 1 := by omega
        have m3 : ¬ (rdT l (i : Int)).f0 = 3 := by omega
        simp only [if_neg m1, if_neg m3, hw]
        exact q
    refine Ev_succ ?_
    simp only [laws_FnLex.l0, if_pos c, if_pos c0, if_neg n0, if_neg n1]
    by_cases hi0 : (i : Int) > 0
    · have hw1 : wrap64 ((i : Int) - 1) = ((i - 1 : Nat) : Int) := by rw [w64 (by omega) (by omega)]; omega
      have d0 : (0 : Int) ≤ ((i - 1 : Nat) : Int) := by omega
      have d1 : ((i - 1 : Nat) : Int) < (l.length : Int) := by omega
      have hpi := List.pairwise_iff_getElem.1 hp (i - 1) i (by omega) hlt (by omega)
      rw [← rdT_at l (i - 1) (by omega), ← e1] at hpi
      have hdec : decide ((rdT l ((i - 1 : Nat) : Int)).f3 ≥ (rdT l (i : Int)).f3) = false := decide_eq_false (by omega)
      simp only [if_pos hi0, hw1, if_pos d0, if_pos d1]
      rw [hdec]
      exact hj
    · simp only [if_neg hi0]
      exact hj
theorem FnLex : laws_FnLex.Say := by
  intro l hlw
  apply Ev.rounds
  simp only [laws_FnLex.f, laws_big.f, Option.bind_some]
  by_cases h : (l.length : Int) > 1048576
  · simp only [decide_eq_true h, if_true]; exact Ev.now _
  · simp only [decide_eq_false h, Bool.false_eq_true, if_false]
    obtain ⟨s, b, e, hz⟩ := lexdraw_ev l (by omega)
    obtain ⟨t, bad, q1, q2, q3, q4⟩ := lex_both s b (by omega)
    refine Ev_call e (Ev_call q4 (Ev_call q3 ?_))
    simp only [if_true]
    rcases lexF_good s b _ _ _ _ _ q1 (by simp) List.Pairwise.nil with ⟨g1, g2, g3⟩ | ⟨g1, g2, g3⟩
    · subst g3
      have c1 : bad ≥ 0 := g1
      simp only [if_pos c1, if_pos g2]
      exact Ev.now _
    · subst g1
      have c1 : ¬ (-1 : Int) ≥ 0 := by decide
      simp only [if_neg c1]
      exact check_loop s b hz t q2 g2 g3 q1 t.length 0 (by omega)


end Go.Proofs.YtmpmfaaodjmpjaaDoor.Pure

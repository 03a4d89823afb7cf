import Derived.Test.YtekkoodlnaapeaaGreatDoorLowNum
import Derived.Test.YtekkoodlnaapeaaGreatDoorNumL
/- spec.l3Num reads the number at a place. -/
namespace Go.Proofs.YtekkoodlnaapeaaGreatDoor.LowNum
open Go.RowKit Go.Proofs.YtekkoodlnaapeaaGreatDoor.Kit Go.Proofs.YtekkoodlnaapeaaGreatDoorW.PrintWords Go.Proofs.YtekkoodlnaapeaaGreatDoorW.PrintLast Go.Proofs.YtekkoodlnaapeaaGreatDoorW.PrintMore
set_option linter.unusedSimpArgs false
set_option linter.unusedVariables false
theorem drop_cons {L : List UInt8} {i : Nat} {c : UInt8} {r : List UInt8} (h : L.drop i = c :: r) : i < L.length ∧ L.drop (i + 1) = r := by
  have hi : i < L.length := by
    rcases Nat.lt_or_ge i L.length with h1 | h1
    · exact h1
    · rw [List.drop_eq_nil_of_le h1] at h; cases h
  refine ⟨hi, ?_⟩
  rw [List.drop_eq_getElem_cons hi] at h
  exact (List.cons.inj h).2
theorem drop_nil {L : List UInt8} {i : Nat} (h : L.drop i = []) : L.length ≤ i := by
  rcases Nat.lt_or_ge i L.length with h1 | h1
  · rw [List.drop_eq_getElem_cons h1] at h; cases h
  · exact h1
theorem lenL (s : ByteArray) : s.data.toList.length = s.size := by rw [Array.length_toList]; rfl
theorem btL (s : ByteArray) (i : Nat) (c : UInt8) (r : List UInt8) (h : s.data.toList.drop i = c :: r) : bt s (i : Int) = (c.toNat : Int) := by
  obtain ⟨hi, _⟩ := drop_cons h
  rw [bt_B, Int.toNat_natCast, List.getD_eq_getElem?_getD]
  have h2 : s.data.toList[i]? = some c := by
    rw [List.drop_eq_getElem_cons hi] at h
    rw [List.getElem?_eq_getElem hi, (List.cons.inj h).1]
  simp only [bytesOf, List.getElem?_map, h2, Option.map_some, Option.getD_some]
theorem b_eq (c : UInt8) (n : Nat) (h : n < 256) : ((c.toNat : Int) = (n : Int)) ↔ c = UInt8.ofNat n := by
  constructor
  · intro e
    apply UInt8.toNat_inj.1
    rw [UInt8.toNat_ofNat_of_lt' (by simpa using h)]
    omega
  · rintro rfl
    rw [UInt8.toNat_ofNat_of_lt' (by simpa using h)]
theorem letter_spec (c : UInt8) (b : Bool) : spec_l3Letter.f (c.toNat : Int) b = some (lLetter b c) := by
  have e95 : (c == 95) = decide ((c.toNat : Int) = 95) := by rw [Bool.eq_iff_iff, beq_iff_eq, decide_eq_true_eq]; exact (b_eq c 95 (by decide)).symm
  have e36 : (c == 36) = ((c.toNat : Int) == 36) := by rw [Bool.eq_iff_iff, beq_iff_eq, beq_iff_eq]; exact (b_eq c 36 (by decide)).symm
  unfold lLetter
  rw [e95, e36]
  have d1 : decide (97 ≤ c.toNat) = decide ((c.toNat : Int) ≥ 97) := decide_eq_decide.2 (by omega)
  have d2 : decide (c.toNat ≤ 122) = decide ((c.toNat : Int) ≤ 122) := decide_eq_decide.2 (by omega)
  have d3 : decide (65 ≤ c.toNat) = decide ((c.toNat : Int) ≥ 65) := decide_eq_decide.2 (by omega)
  have d4 : decide (c.toNat ≤ 90) = decide ((c.toNat : Int) ≤ 90) := decide_eq_decide.2 (by omega)
  rw [d1, d2, d3, d4]
  generalize (c.toNat : Int) = a
  unfold spec_l3Letter.f
  by_cases h1 : a ≥ 97 <;> by_cases h2 : a ≤ 122 <;> by_cases h3 : a ≥ 65 <;> by_cases h4 : a ≤ 90 <;> by_cases h5 : a = 95 <;> cases b <;> simp [h1, h2, h3, h4, h5] <;> omega
theorem digit_spec (c : UInt8) : spec_l3Digit.f (c.toNat : Int) = some (lDigit c) := by
  have d1 : decide (48 ≤ c.toNat) = decide ((c.toNat : Int) ≥ 48) := decide_eq_decide.2 (by omega)
  have d2 : decide (c.toNat ≤ 57) = decide ((c.toNat : Int) ≤ 57) := decide_eq_decide.2 (by omega)
  unfold lDigit spec_l3Digit.f
  rw [d1, d2]
  by_cases h1 : (c.toNat : Int) ≥ 48
  · rw [if_pos h1, decide_eq_true h1, Bool.true_and]
  · rw [if_neg h1, decide_eq_false h1, Bool.false_and]
theorem runL_app (p : UInt8 → Bool) (R : List UInt8) : ∀ P : List UInt8, (∀ c ∈ P, p c = true) → runL p (P ++ R) = P.length + runL p R
  | [], _ => by simp
  | c :: P, h => by
    rw [List.cons_append, runL, if_pos (h c (.head _)), runL_app p R P (fun x hx => h x (.tail _ hx)), List.length_cons]; omega
theorem runL_stopc (p : UInt8 → Bool) (c : UInt8) (r : List UInt8) (h : p c = false) : runL p (c :: r) = 0 := by rw [runL, if_neg (by rw [h]; simp)]
theorem valN_snoc (P : List UInt8) (c : UInt8) : valN (P ++ [c]) = valN P * 10 + (c.toNat - 48) := by unfold valN; rw [List.foldl_append]; rfl
theorem valN_app (P Q : List UInt8) : valN P ≤ valN (P ++ Q) := by
  unfold valN
  rw [List.foldl_append]
  exact valA_ge Q _
def numR (s : Bool) (at_ : Nat) (D : List UInt8) : Int × Int := match numL s D with | some (v, n) => ((v : Int), ((at_ + n : Nat) : Int)) | none => (0, -1)
theorem num_spec (s : ByteArray) (b : Bool) (hs : s.size ≤ 1099511627776) (at_ : Nat) (D : List UInt8) (hD : s.data.toList.drop at_ = D) (hat : at_ ≤ s.size) : ∀ (R P : List UInt8), D = P ++ R → (∀ c ∈ P, lDigit c = true) → valN P ≤ 1000000 → (P.length ≤ 1 ∨ D.head? ≠ some 48) → (P = [] → ∃ c r, R = c :: r ∧ lDigit c = true) →
    Ev (fun k => spec_l3Num.l0 k s (at_ : Int) b (valN P : Int) ((at_ + P.length : Nat) : Int)) (numR b at_ D) := by
  intro R
  induction R with
  | nil =>
    intro P hP hdig hv h0 hne
    rw [List.append_nil] at hP
    subst hP
    have hl : at_ + D.length = s.size := by
      have := congrArg List.length hD
      rw [List.length_drop, lenL] at this
      omega
    have hDne : D ≠ [] := by
      intro e
      obtain ⟨c, r, h, _⟩ := hne e
      cases h
    have hr : runL lDigit D = D.length := by have := runL_app lDigit [] D hdig; rwa [List.append_nil, show runL lDigit [] = 0 from rfl, Nat.add_zero] at this
    have hn : numR b at_ D = ((valN D : Int), ((at_ + D.length : Nat) : Int)) := by
      unfold numR numL
      rw [hr, List.take_length, List.drop_length, if_pos]
      refine ⟨?_, hv, by simp⟩
      rcases h0 with h | h
      · left
        have := List.length_pos_iff.2 hDne
        omega
      · exact .inr h
    rw [hn]
    have c1 : ¬ ((at_ + D.length : Nat) : Int) < (s.size : Int) := by omega
    refine Ev_succ (Ev_succ ?_)
    simp only [spec_l3Num.l0, if_neg c1, spec_l3Num.j1, Bool.false_eq_true, if_false]
    exact Ev.now _
  | cons c r ih =>
    intro P hP hdig hv h0 hne
    have hdrop : s.data.toList.drop (at_ + P.length) = c :: r := by
      rw [← List.drop_drop, hD, hP, List.drop_left]
    obtain ⟨hlt, hd⟩ := drop_cons hdrop
    rw [lenL] at hlt
    have hb := btL s (at_ + P.length) c r hdrop
    have c1 : ((at_ + P.length : Nat) : Int) < (s.size : Int) := by omega
    have c0 : (0 : Int) ≤ ((at_ + P.length : Nat) : Int) := by omega
    have hw : wrap64 (((at_ + P.length : Nat) : Int) + 1) = ((at_ + (P ++ [c]).length : Nat) : Int) := by rw [w64 (by omega) (by omega), List.length_append, List.length_singleton]; omega
    cases hdc : lDigit c with
    | false =>
      have hPne : P ≠ [] := by
        intro e
        obtain ⟨x, y, h, h2⟩ := hne e
        injection h with h3 h4
        rw [h3, h2] at hdc; cases hdc
      have hr : runL lDigit D = P.length := by rw [hP, runL_app lDigit _ P hdig, runL_stopc _ _ _ hdc, Nat.add_zero]
      have hn : numR b at_ D = if lLetter b c = true then (0, -1) else ((valN P : Int), ((at_ + P.length : Nat) : Int)) := by
        unfold numR numL
        rw [hr, hP, List.take_left, List.drop_left, List.head?_cons, Option.any_some]
        have hc1 : P.length = 1 ∨ (P ++ c :: r).head? ≠ some 48 := by
          rw [← hP]
          rcases h0 with h | h
          · left
            have := List.length_pos_iff.2 hPne
            omega
          · exact .inr h
        by_cases hL : lLetter b c = true
        · rw [if_pos hL, if_neg (fun h => h.2.2 hL)]
        · rw [if_neg hL, if_pos ⟨hc1, hv, hL⟩]
      rw [hn]
      refine Ev_succ (Ev_succ ?_)
      simp only [spec_l3Num.l0, if_pos c1, if_pos c0, hb, digit_spec, hdc, Option.bind_some, spec_l3Num.j1, Bool.false_eq_true, if_false, letter_spec]
      cases lLetter b c with
      | true => simp only [if_true]; exact Ev.now _
      | false => simp only [Bool.false_eq_true, if_false]; exact Ev.now _
    | true =>
      have hrunge : P.length + 1 ≤ runL lDigit D := by rw [hP, runL_app lDigit _ P hdig, runL, if_pos hdc]; omega
      have htake : D.take (runL lDigit D) = (P ++ [c]) ++ (D.take (runL lDigit D)).drop (P.length + 1) := by
        have h1 : (D.take (runL lDigit D)).take (P.length + 1) = P ++ [c] := by
          rw [List.take_take, Nat.min_eq_left hrunge, hP]
          rw [show P ++ c :: r = (P ++ [c]) ++ r by simp, List.take_left' (by simp)]
        rw [← h1, List.take_append_drop]
      unfold lDigit at hdc
      simp only [Bool.and_eq_true, decide_eq_true_eq] at hdc
      have hdc' : lDigit c = true := by unfold lDigit; simp only [Bool.and_eq_true, decide_eq_true_eq]; exact hdc
      have hstep : wrap64 ((wrap64 ((valN P : Int) * 10)) + (((c.toNat : Int) - 48) % 256)) = ((valN (P ++ [c]) : Nat) : Int) := by
        rw [valN_snoc, w64 (x := (valN P : Int) * 10) (by omega) (by omega), w64 (by omega) (by omega)]; omega
      refine Ev_succ ?_
      simp only [spec_l3Num.l0, if_pos c1, if_pos c0, hb, digit_spec, hdc', Option.bind_some]
      refine Ev_succ ?_
      have hgo : (P.length ≤ 0 ∨ D.head? ≠ some 48) → Ev (fun k => spec_l3Num.j2 k s (at_ : Int) b (valN P : Int) ((at_ + P.length : Nat) : Int) false) (numR b at_ D) := by
        intro hcase
        refine Ev_succ ?_
        simp only [spec_l3Num.j2, Bool.false_eq_true, if_false, if_pos c0, if_pos c1, hb, hstep, hw]
        by_cases hbig : ((valN (P ++ [c]) : Nat) : Int) > 1000000
        · simp only [if_pos hbig]
          have hn : numR b at_ D = (0, -1) := by
            unfold numR numL
            rw [if_neg]
            rintro ⟨_, h2, _⟩
            rw [htake] at h2
            have := valN_app (P ++ [c]) ((D.take (runL lDigit D)).drop (P.length + 1))
            omega
          rw [hn]
          exact Ev.now _
        · simp only [if_neg hbig]
          exact ih (P ++ [c]) (by rw [hP]; simp) (by
            intro x hx
            rcases List.mem_append.1 hx with h | h
            · exact hdig x h
            · rw [List.mem_singleton] at h; rw [h]; exact hdc') (by omega) (by
            rcases hcase with h | h
            · left; rw [List.length_append, List.length_singleton]; omega
            · exact .inr h) (fun e => by simp at e)
      by_cases hg : ((at_ + P.length : Nat) : Int) > (at_ : Int)
      · have hP1 : 1 ≤ P.length := by omega
        obtain ⟨d, P', rfl⟩ : ∃ d P', P = d :: P' := by
          cases P with
          | nil => simp at hP1
          | cons d P' => exact ⟨d, P', rfl⟩
        have hb0 := btL s at_ d (P' ++ c :: r) (by rw [hD, hP]; rfl)
        have z0 : (0 : Int) ≤ (at_ : Int) := by omega
        have z1 : (at_ : Int) < (s.size : Int) := by omega
        simp only [spec_l3Num.j1, if_true, if_pos hg, if_pos z0, if_pos z1, hb0]
        by_cases h48 : d = 48
        · have e48 : ((d.toNat : Int) == 48) = true := by rw [beq_iff_eq]; exact (b_eq d 48 (by decide)).2 h48
          rw [e48]
          refine Ev_succ ?_
          simp only [spec_l3Num.j2, if_true]
          have hn : numR b at_ D = (0, -1) := by
            unfold numR numL
            rw [if_neg]
            rintro ⟨h1, _, _⟩
            rcases h1 with h1 | h1
            · simp only [List.length_cons] at hrunge; omega
            · apply h1; rw [hP, List.cons_append, List.head?_cons, h48]
          rw [hn]
          exact Ev.now _
        · have e48 : ((d.toNat : Int) == 48) = false := by rw [beq_eq_false_iff_ne]; exact fun e => h48 ((b_eq d 48 (by decide)).1 e)
          rw [e48]
          exact hgo (.inr (by rw [hP, List.cons_append, List.head?_cons]; exact fun e => h48 (Option.some.inj e)))
      · simp only [spec_l3Num.j1, if_true, if_neg hg]
        exact hgo (.inl (by omega))

theorem num_ev (s : ByteArray) (b : Bool) (hs : s.size ≤ 1099511627776) (at_ v n : Nat) (hat : at_ ≤ s.size) (h : numL b (s.data.toList.drop at_) = some (v, n)) (h0 : runL lDigit (s.data.toList.drop at_) ≠ 0) :
    Ev (fun k => spec_l3Num.f k s (at_ : Int) b) ((v : Int), ((at_ + n : Nat) : Int)) := by
  have e := num_spec s b hs at_ _ rfl hat (s.data.toList.drop at_) [] rfl (fun c hc => by cases hc) (by decide) (.inl (by simp)) (fun _ => by
    cases hD : s.data.toList.drop at_ with
    | nil => rw [hD] at h0; exact absurd rfl h0
    | cons c r =>
      refine ⟨c, r, rfl, ?_⟩
      rw [hD, runL] at h0
      split at h0
      · rename_i hc; exact hc
      · exact absurd rfl h0)
  unfold numR at e
  rw [h] at e
  exact e
end Go.Proofs.YtekkoodlnaapeaaGreatDoor.LowNum

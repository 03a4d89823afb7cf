import Derived.Test.YtekkoodlnaapeaaGreatDoorLexL
/- Digits and the number that they spell: what strconv.Atoi and Itoa tell of digits. Lists alone. -/
namespace Go.Proofs.YtekkoodlnaapeaaGreatDoor.Kit
open Go.RowKit
set_option linter.unusedSimpArgs false
set_option linter.unusedVariables false
def valA (a : Nat) (l : List UInt8) : Nat := l.foldl (fun a c => a * 10 + (c.toNat - 48)) a
theorem valA_ge (l : List UInt8) : ∀ a, a ≤ valA a l := by
  induction l with
  | nil => intro a; exact Nat.le_refl _
  | cons c l ih => intro a; exact Nat.le_trans (by omega) (ih (a * 10 + (c.toNat - 48)))
theorem valA_ge1 (c : UInt8) (l : List UInt8) (a : Nat) : a * 10 + (c.toNat - 48) ≤ valA a (c :: l) := valA_ge l _
theorem digs (l : List UInt8) : ∀ c ∈ l.take (runL lDigit l), 48 ≤ c.toNat ∧ c.toNat ≤ 57 := by
  induction l with
  | nil => intro c h; simp [runL] at h
  | cons x l ih =>
    intro c h
    by_cases hx : lDigit x = true
    · rw [runL, if_pos hx, List.take_succ_cons] at h
      rcases List.mem_cons.1 h with rfl | h
      · unfold lDigit at hx; simp only [Bool.and_eq_true, decide_eq_true_eq] at hx; exact hx
      · exact ih c h
    · rw [runL, if_neg hx] at h; simp at h
theorem parse_ok (l : List UInt8) (hl : ∀ c ∈ l, 48 ≤ c.toNat ∧ c.toNat ≤ 57) : ∀ a, valA a l ≤ 1000000 → Lib.parseUint10 a l = .ok (valA a l) := by
  induction l with
  | nil => intro a _; rfl
  | cons c l ih =>
    intro a h
    obtain ⟨h1, h2⟩ := hl c (.head _)
    have hg := valA_ge1 c l a
    rw [Lib.parseUint10, if_pos ⟨h1, h2⟩, if_neg (by omega), if_neg (by omega)]
    exact ih (fun x hx => hl x (.tail _ hx)) _ h
theorem parse_val (l : List UInt8) (hl : ∀ c ∈ l, 48 ≤ c.toNat ∧ c.toNat ≤ 57) : ∀ a u, Lib.parseUint10 a l = .ok u → u = valA a l := by
  induction l with
  | nil => intro a u h; simp only [Lib.parseUint10] at h; injection h with h; exact h.symm
  | cons c l ih =>
    intro a u h
    obtain ⟨h1, h2⟩ := hl c (.head _)
    rw [Lib.parseUint10, if_pos ⟨h1, h2⟩] at h
    split at h
    · cases h
    · split at h
      · cases h
      · exact ih (fun x hx => hl x (.tail _ hx)) _ u h
theorem dec_val : ∀ (n : Nat) (l : List UInt8), l.length = n → (∀ c ∈ l, 48 ≤ c.toNat ∧ c.toNat ≤ 57) → l ≠ [] → (l.length = 1 ∨ l.head? ≠ some 48) → Lib.decDigits (valN l) = l := by
  intro n
  induction n with
  | zero => intro l hn _ h0 _; exact absurd (List.length_eq_zero_iff.1 hn) h0
  | succ n ih =>
    intro l hlen hl hn h0
    obtain ⟨l, c, rfl⟩ : ∃ l' c, l = l' ++ [c] := ⟨l.dropLast, l.getLast hn, (List.dropLast_concat_getLast hn).symm⟩
    have hlen' : l.length = n := by simpa using hlen
    have hc := hl c (by simp)
    have hv : valN (l ++ [c]) = valN l * 10 + (c.toNat - 48) := by unfold valN; rw [List.foldl_append]; rfl
    have hlow : ∀ n, n = c.toNat - 48 → UInt8.ofNat (48 + n) = c := by
      intro n hn
      rw [hn, show 48 + (c.toNat - 48) = c.toNat by omega]
      exact UInt8.ofNat_toNat
    by_cases hl0 : l = []
    · subst hl0
      have h1 : valN [] = 0 := rfl
      rw [hv, h1, Lib.decDigits, dif_pos (by omega)]
      simp only [List.nil_append]
      rw [hlow _ (by omega)]
    · have hh : l.head? ≠ some 48 := by
        rcases h0 with h | h
        · rw [List.length_append] at h
          have := List.length_pos_iff.2 hl0
          simp at h; exact absurd h hl0
        · cases l with
          | nil => exact absurd rfl hl0
          | cons x r => exact h
      have ih' := ih l hlen' (fun x hx => hl x (by simp [hx])) hl0 (.inr hh)
      have hpos : 1 ≤ valN l := by
        cases l with
        | nil => exact absurd rfl hl0
        | cons x r =>
          obtain ⟨h1, h2⟩ := hl x (by simp)
          have hx : x.toNat ≠ 48 := by
            intro e
            apply hh
            rw [List.head?_cons]
            congr 1
            exact UInt8.toNat_inj.1 e
          have := valA_ge1 x r 0
          have e : valN (x :: r) = valA 0 (x :: r) := rfl
          omega
      rw [hv, Lib.decDigits, dif_neg (by omega), show (valN l * 10 + (c.toNat - 48)) / 10 = valN l by omega, ih', hlow _ (by omega)]
theorem dec_front (u : Nat) : (1 ≤ u → ∃ c r, Lib.decDigits u = c :: r ∧ 49 ≤ c.toNat ∧ c.toNat ≤ 57) := by
  induction u using Nat.strongRecOn with
  | _ u ih =>
    intro hu
    rw [Lib.decDigits]
    by_cases c : u < 10
    · rw [dif_pos c]
      have e : (UInt8.ofNat (48 + u)).toNat = 48 + u := by rw [UInt8.toNat_ofNat']; omega
      exact ⟨_, [], rfl, by omega, by omega⟩
    · rw [dif_neg c]
      obtain ⟨c, r, e, h1, h2⟩ := ih (u / 10) (by omega) (by omega)
      exact ⟨c, r ++ _, by rw [e]; rfl, h1, h2⟩
/-- What Atoi and Itoa tell of digits: the number, where it is no greater than a million and stands without a nought ahead. -/
def atoN (l : List UInt8) : Option Nat :=
  match Lib.atoiAll l with
  | .ok v => if Lib.itoa v = l ∧ v ≤ 1000000 then some v.toNat else none
  | _ => none
theorem atoN_eq (l : List UInt8) (hl : ∀ c ∈ l, 48 ≤ c.toNat ∧ c.toNat ≤ 57) (hn : l ≠ []) :
    atoN l = if (l.length = 1 ∨ l.head? ≠ some 48) ∧ valN l ≤ 1000000 then some (valN l) else none := by
  have hat : Lib.atoiAll l = match Lib.parseUint10 0 l with | .«syntax» => .«syntax» | .range => .range | .ok u => if 9223372036854775808 ≤ u then .range else .ok (u : Int) := by
    cases l with
    | nil => exact absurd rfl hn
    | cons c r =>
      obtain ⟨h1, h2⟩ := hl c (.head _)
      have n1 : ¬ (c.toNat = 43 ∨ c.toNat = 45) := by omega
      have n2 : ¬ c.toNat = 45 := by omega
      have n3 : ¬ c.toNat = 43 := by omega
      have hm : Lib.parseMag (c :: r) = Lib.parseUint10 0 (c :: r) := by unfold Lib.parseMag; rw [if_neg (by simp)]
      rw [Lib.atoiAll]
      simp only [n3, n2, or_false, if_false, hm, not_false_eq_true, true_and, false_and]
      cases Lib.parseUint10 0 (c :: r) <;> rfl
  have hitoa : ∀ u : Nat, Lib.itoa (u : Int) = Lib.decDigits u := by intro u; unfold Lib.itoa; rw [if_neg (by omega)]; congr 1
  unfold atoN
  rw [hat]
  by_cases hv : valN l ≤ 1000000
  · rw [parse_ok l hl 0 hv]
    have e : valA 0 l = valN l := rfl
    rw [e]
    simp only [if_neg (show ¬ 9223372036854775808 ≤ valN l by omega), hitoa]
    by_cases h0 : l.length = 1 ∨ l.head? ≠ some 48
    · rw [if_pos ⟨dec_val _ l rfl hl hn h0, by omega⟩, if_pos ⟨h0, hv⟩]; rfl
    · have hR : (if (l.length = 1 ∨ l.head? ≠ some 48) ∧ valN l ≤ 1000000 then some (valN l) else none) = none := if_neg (fun h => h0 h.1)
      rw [hR, if_neg]
      rintro ⟨h1, _⟩
      have hz : 1 ≤ valN l ∨ valN l = 0 := by omega
      rcases hz with hz | hz
      · obtain ⟨c, r, ec, h2, h3⟩ := dec_front _ hz
        apply h0
        right
        rw [← h1, ec, List.head?_cons]
        intro e
        have e1 := Option.some.inj e
        subst e1
        exact absurd h2 (by decide)
      · rw [hz] at h1
        apply h0
        left
        rw [← h1, Lib.decDigits, dif_pos (by decide)]; rfl
  · rw [if_neg (fun h => hv h.2)]
    cases hp : Lib.parseUint10 0 l with
    | ok u =>
      have e := parse_val l hl 0 u hp
      have e2 : u = valN l := e
      simp only
      split
      · next v hv2 =>
        split at hv2
        · cases hv2
        · injection hv2 with hv2
          subst hv2
          rw [if_neg (by rintro ⟨_, h⟩; omega)]
      · rfl
    | «syntax» => rfl
    | range => rfl
theorem numL_ato (s : Bool) (l : List UInt8) (h : runL lDigit l ≠ 0) :
    numL s l = if ((l.drop (runL lDigit l)).head?.any (lLetter s)) = true then none else (atoN (l.take (runL lDigit l))).map fun v => (v, runL lDigit l) := by
  have hlen : (l.take (runL lDigit l)).length = runL lDigit l := by rw [List.length_take]; exact Nat.min_eq_left (runL_le _ _)
  have hne : l.take (runL lDigit l) ≠ [] := by intro e; rw [e] at hlen; exact h hlen.symm
  have hhead : (l.take (runL lDigit l)).head? = l.head? := by
    cases l with
    | nil => rfl
    | cons x r =>
      cases hr : runL lDigit (x :: r) with
      | zero => exact absurd hr h
      | succ n => rw [List.take_succ_cons]; rfl
  unfold numL
  rw [atoN_eq _ (digs l) hne, hlen, hhead]
  by_cases c1 : ((l.drop (runL lDigit l)).head?.any (lLetter s)) = true
  · rw [if_pos c1, if_neg (fun h => h.2.2 c1)]
  · rw [if_neg c1]
    by_cases c2 : (runL lDigit l = 1 ∨ l.head? ≠ some 48) ∧ valN (l.take (runL lDigit l)) ≤ 1000000
    · rw [if_pos ⟨c2.1, c2.2, c1⟩, if_pos c2]; rfl
    · rw [if_neg (fun h => c2 ⟨h.1, h.2.1⟩), if_neg c2]; rfl
end Go.Proofs.YtekkoodlnaapeaaGreatDoor.Kit

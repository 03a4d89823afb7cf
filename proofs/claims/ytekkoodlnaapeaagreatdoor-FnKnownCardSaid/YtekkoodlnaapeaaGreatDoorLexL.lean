import Derived.Test.YtekkoodlnaapeaaGreatDoorKit
import Derived.Lib.ItoaNum
import Derived.Lib.AtoiAll
/- Tokens, on lists of bytes: what is passed over, and the token at the front. No program in sight. -/
namespace Go.Proofs.YtekkoodlnaapeaaGreatDoor.Kit
open Go.RowKit Go.Proofs.YtekkoodlnaapeaaGreatDoorW.PrintWords Go.Proofs.YtekkoodlnaapeaaGreatDoorW.PrintMore
set_option linter.unusedSimpArgs false
set_option linter.unusedVariables false

def lBlank (c : UInt8) : Bool := c == 9 || c == 10 || c == 13 || c == 32
def lLetter (s : Bool) (c : UInt8) : Bool := (decide (97 ≤ c.toNat) && decide (c.toNat ≤ 122)) || (decide (65 ≤ c.toNat) && decide (c.toNat ≤ 90)) || c == 95 || (s && c == 36)
def lDigit (c : UInt8) : Bool := decide (48 ≤ c.toNat) && decide (c.toNat ≤ 57)
def lStr (c : UInt8) : Bool := decide (32 ≤ c.toNat) && decide (c.toNat ≤ 126) && !(c == 34) && !(c == 92)
def lSign (c : UInt8) : Bool := [123, 125, 40, 41, 44, 59, 61, 46, 42, 43, 45].contains c
def lNotNl (c : UInt8) : Bool := !(c == 10)
def lWord (s : Bool) (c : UInt8) : Bool := lLetter s c || lDigit c
/-- How many bytes at the front are so. -/
def runL (p : UInt8 → Bool) : List UInt8 → Nat
  | [] => 0
  | c :: r => if p c = true then runL p r + 1 else 0
theorem runL_le (p : UInt8 → Bool) : ∀ l, runL p l ≤ l.length
  | [] => Nat.le_refl _
  | c :: r => by rw [runL]; have := runL_le p r; split <;> simp <;> omega
/-- What is passed over: blanks, and what stands behind two slashes up to the line's end. -/
def skipS : Bool → List UInt8 → Nat
  | _, [] => 0
  | true, c :: r => if c = 10 then skipS false r + 1 else skipS true r + 1
  | false, c :: r => if lBlank c = true then skipS false r + 1 else if c = 47 ∧ r.head? = some 47 then skipS true r + 1 else 0
theorem skipS_le : ∀ (b : Bool) l, skipS b l ≤ l.length
  | b, [] => by cases b <;> exact Nat.le_refl _
  | true, c :: r => by rw [skipS]; have h1 := skipS_le true r; have h2 := skipS_le false r; split <;> simp <;> omega
  | false, c :: r => by
    rw [skipS]; have h1 := skipS_le true r; have h2 := skipS_le false r
    split
    · simp; omega
    · split <;> simp <;> omega
theorem skip_false (c : UInt8) (r : List UInt8) : skipS false (c :: r) = if lBlank c = true then skipS false r + 1 else if c = 47 ∧ r.head? = some 47 then skipS true r + 1 else 0 := by rw [skipS]
theorem skip_tru (c : UInt8) (r : List UInt8) : skipS true (c :: r) = if c = 10 then skipS false r + 1 else skipS true r + 1 := by rw [skipS]
theorem skip_blank : ∀ l, skipS false l = runL lBlank l + skipS false (l.drop (runL lBlank l))
  | [] => rfl
  | c :: r => by
    by_cases h : lBlank c = true
    · rw [skipS, if_pos h, runL, if_pos h, List.drop_succ_cons, skip_blank r]; omega
    · rw [show runL lBlank (c :: r) = 0 by rw [runL, if_neg h], List.drop_zero, Nat.zero_add]
theorem skip_true : ∀ l, skipS true l = runL lNotNl l + skipS false (l.drop (runL lNotNl l))
  | [] => rfl
  | c :: r => by
    by_cases h : c = 10
    · have h1 : ¬ lNotNl c = true := by subst h; decide
      have h2 : lBlank c = true := by subst h; decide
      rw [show runL lNotNl (c :: r) = 0 by rw [runL, if_neg h1], List.drop_zero, Nat.zero_add, skipS, if_pos h, skipS, if_pos h2]
    · have h1 : lNotNl c = true := by unfold lNotNl; simp [h]
      rw [skipS, if_neg h, runL, if_pos h1, List.drop_succ_cons, skip_true r]; omega
theorem skip_note (l : List UInt8) (h : ∃ r, l = 47 :: 47 :: r) : skipS false l = runL lNotNl l + skipS false (l.drop (runL lNotNl l)) := by
  obtain ⟨r, rfl⟩ := h
  have e : skipS false (47 :: 47 :: r) = skipS true (47 :: 47 :: r) := by
    rw [skip_false 47 (47 :: r), if_neg (by decide), if_pos ⟨rfl, rfl⟩, skip_tru 47 (47 :: r), if_neg (by decide)]
  rw [e, skip_true]
theorem skip_none (l : List UInt8) (h : runL lBlank l = 0) (h2 : ¬ ∃ r, l = 47 :: 47 :: r) : skipS false l = 0 := by
  cases l with
  | nil => rfl
  | cons c r =>
    have hb : ¬ lBlank c = true := by intro k; rw [runL, if_pos k] at h; omega
    rw [skipS, if_neg hb, if_neg]
    rintro ⟨rfl, hr⟩
    cases r with
    | nil => simp at hr
    | cons d r => simp at hr; subst hr; exact h2 ⟨r, rfl⟩
def valN (l : List UInt8) : Nat := l.foldl (fun a c => a * 10 + (c.toNat - 48)) 0
/-- A number at the front: its digits' number, and how many digits. -/
def numL (s : Bool) (l : List UInt8) : Option (Nat × Nat) :=
  if (runL lDigit l = 1 ∨ l.head? ≠ some 48) ∧ valN (l.take (runL lDigit l)) ≤ 1000000 ∧ ¬ ((l.drop (runL lDigit l)).head?.any (lLetter s)) = true then some (valN (l.take (runL lDigit l)), runL lDigit l) else none
/-- How long a string at the front is, without its quotes (the first quote is not in l). -/
def strL (l : List UInt8) : Option Nat := if runL lStr l ≤ 40 ∧ (l.drop (runL lStr l)).head? = some 34 then some (runL lStr l) else none
/-- The token at the front: kind, text, number, bytes. -/
def tokL (s : Bool) : List UInt8 → Option (Int × List UInt8 × Nat × Nat)
  | [] => none
  | c :: r =>
    if lLetter s c = true then some (1, (c :: r).take (runL (lWord s) (c :: r)), 0, runL (lWord s) (c :: r))
    else if lDigit c = true then (numL s (c :: r)).map fun p => (2, [], p.1, p.2)
    else if c = 34 then (strL r).map fun n => (3, r.take n, 0, n + 2)
    else if lSign c = true then some (4, [c], 0, 1) else none
theorem tokL_pos {s : Bool} {l : List UInt8} {k : Int} {x : List UInt8} {v n : Nat} (h : tokL s l = some (k, x, v, n)) : 0 < n ∧ n ≤ l.length := by
  cases l with
  | nil => cases h
  | cons c r =>
    rw [tokL] at h
    split at h
    · next h1 =>
      injection h with h; injection h with _ h; injection h with _ h; injection h with _ h
      subst h
      have hw : lWord s c = true := by unfold lWord; rw [h1]; rfl
      refine ⟨by rw [runL, if_pos hw]; omega, runL_le _ _⟩
    · split at h
      · next h1 =>
        unfold numL at h
        split at h
        · simp only [Option.map_some, Option.some.injEq, Prod.mk.injEq] at h
          obtain ⟨_, _, _, h⟩ := h
          subst h
          refine ⟨by rw [runL, if_pos h1]; omega, runL_le _ _⟩
        · simp at h
      · split at h
        · unfold strL at h
          split at h
          · next h1 =>
            simp only [Option.map_some, Option.some.injEq, Prod.mk.injEq] at h
            obtain ⟨_, _, _, h⟩ := h
            subst h
            have hl := runL_le lStr r
            have : runL lStr r < r.length := by
              rcases Nat.lt_or_ge (runL lStr r) r.length with q | q
              · exact q
              · rw [List.drop_eq_nil_of_le q] at h1; simp at h1
            simp only [List.length_cons]; omega
          · simp at h
        · split at h
          · injection h with h; injection h with _ h; injection h with _ h; injection h with _ h
            subst h; simp
          · cases h
end Go.Proofs.YtekkoodlnaapeaaGreatDoor.Kit

import Derived.Test.YtkmcnjpgamaljaaGreatDoorKit
import Derived.Lib.ItoaNum
/- Numbers in bytes of seven bits: what they make, and what they are read as; lists alone. -/
namespace Go.Proofs.YtkmcnjpgamaljaaGreatDoor.Kit
open Go.RowKit Go.Proofs.YtkmcnjpgamaljaaGreatDoorW.PrintWords Go.Proofs.YtkmcnjpgamaljaaGreatDoorW.PrintMore
set_option linter.unusedSimpArgs false
set_option linter.unusedVariables false

def varL (n : Nat) : List Int := if n < 128 then [(n : Int)] else ((128 + n % 128 : Nat) : Int) :: varL (n / 128)
termination_by n
decreasing_by omega
theorem varL_small {n : Nat} (h : n < 128) : varL n = [(n : Int)] := by rw [varL, if_pos h]
theorem varL_big {n : Nat} (h : ¬ n < 128) : varL n = ((128 + n % 128 : Nat) : Int) :: varL (n / 128) := by rw [varL, if_neg h]
theorem varL_form (n : Nat) : ∃ (p : List Int) (x : Int), varL n = p ++ [x] ∧ 0 ≤ x ∧ x < 128 ∧ (∀ y ∈ p, 128 ≤ y ∧ y < 256) ∧ (p ≠ [] → x ≠ 0) ∧ (p = [] → x = n) := by
  induction n using Nat.strongRecOn with
  | _ n ih =>
    by_cases h : n < 128
    · exact ⟨[], n, by rw [varL_small h]; rfl, by omega, by omega, by simp, by simp, fun _ => rfl⟩
    · obtain ⟨p, x, e, h0, h1, hp, hx, hn⟩ := ih (n / 128) (by omega)
      refine ⟨((128 + n % 128 : Nat) : Int) :: p, x, by rw [varL_big h, e]; rfl, h0, h1, ?_, fun _ => ?_, by simp⟩
      · intro y hy
        rcases List.mem_cons.1 hy with rfl | hy
        · omega
        · exact hp y hy
      · by_cases hq : p = []
        · rw [hn hq]; omega
        · exact hx hq
theorem varL_range (n : Nat) : ∀ y ∈ varL n, 0 ≤ y ∧ y < 256 := by
  obtain ⟨p, x, e, h0, h1, hp, _⟩ := varL_form n
  rw [e]
  intro y hy
  rcases List.mem_append.1 hy with hy | hy
  · have := hp y hy; omega
  · obtain rfl := List.mem_singleton.1 hy; omega
/-- What bytes of seven bits say, the lowest first. -/
def valL : List Int → Int
  | [] => 0
  | b :: t => b % 128 + 128 * valL t
theorem valL_nn : ∀ l : List Int, 0 ≤ valL l
  | [] => Int.le_refl 0
  | b :: t => by have := valL_nn t; simp only [valL]; omega
theorem valL_lt : ∀ l : List Int, valL l < ((128 ^ l.length : Nat) : Int)
  | [] => by simp [valL]
  | b :: t => by
    have := valL_lt t
    simp only [valL, List.length_cons]
    have e : 128 ^ (t.length + 1) = 128 ^ t.length * 128 := Nat.pow_succ _ _
    omega
theorem valL_snoc (x : Int) : ∀ p : List Int, valL (p ++ [x]) = valL p + x % 128 * ((128 ^ p.length : Nat) : Int)
  | [] => by simp [valL]
  | b :: t => by
    have := valL_snoc x t
    simp only [List.cons_append, valL, this, List.length_cons]
    have e : ((128 ^ (t.length + 1) : Nat) : Int) = 128 * ((128 ^ t.length : Nat) : Int) := by rw [Nat.pow_succ]; omega
    rw [e, Int.mul_add, Int.mul_left_comm (x % 128), Int.add_assoc]
theorem varL_valL (x : Int) (h0 : 0 ≤ x) (h1 : x < 128) : ∀ p : List Int, (∀ y ∈ p, 128 ≤ y ∧ y < 256) → (p ≠ [] → x ≠ 0) → varL (valL (p ++ [x])).toNat = p ++ [x] ∧ (x ≠ 0 → 0 < valL (p ++ [x]))
  | [], _, _ => by
    have e : valL ([] ++ [x]) = x := by simp [valL]; omega
    rw [e, varL_small (by omega)]
    exact ⟨by simp; omega, fun _ => by omega⟩
  | b :: t, hp, hx => by
    have hb := hp b (by simp)
    have hx0 := hx (by simp)
    obtain ⟨e, hpos⟩ := varL_valL x h0 h1 t (fun y hy => hp y (by simp [hy])) (fun _ => hx0)
    have hpos := hpos hx0
    have ev : valL (b :: t ++ [x]) = b % 128 + 128 * valL (t ++ [x]) := rfl
    rw [ev]
    refine ⟨?_, fun _ => by omega⟩
    rw [varL_big (by omega)]
    have e1 : (b % 128 + 128 * valL (t ++ [x])).toNat / 128 = (valL (t ++ [x])).toNat := by omega
    rw [e1, e]
    simp only [List.cons_append, List.cons.injEq, and_true]
    omega
theorem varL_not_big (p : List Int) (x : Int) (h : 128 ≤ x) (n : Nat) : varL n ≠ p ++ [x] := by
  obtain ⟨q, y, e, h0, h1, _⟩ := varL_form n
  rw [e]
  intro he
  have h2 := List.append_inj_right' he rfl
  have h3 : y = x := by simpa using h2
  omega
theorem varL_not_zero (p : List Int) (hp : p ≠ []) (n : Nat) : varL n ≠ p ++ [0] := by
  obtain ⟨q, y, e, h0, h1, _, hy, _⟩ := varL_form n
  rw [e]
  intro he
  have h2 := List.append_inj_right' he rfl
  have h3 := List.append_inj_left' he rfl
  simp at h2
  exact hy (by rw [h3]; exact hp) h2
theorem varL_not_mid (l : List Int) (j : Nat) (hj : j + 1 < l.length) (hl : l.getD j 0 < 128) (n : Nat) : varL n ≠ l := by
  obtain ⟨q, y, e, h0, h1, hq, _⟩ := varL_form n
  rw [e]
  intro he
  subst he
  have hjq : j < q.length := by simp at hj; omega
  rw [List.getD_eq_getElem?_getD, List.getElem?_append_left hjq, List.getElem?_eq_getElem hjq] at hl
  have := hq q[j] (List.getElem_mem hjq)
  simp at hl
  omega
theorem varL_len (n : Nat) : ∀ d : Nat, n < 128 ^ (d + 1) → (varL n).length ≤ d + 1 := by
  induction n using Nat.strongRecOn with
  | _ n ih =>
    intro d hd
    by_cases h : n < 128
    · rw [varL_small h]; simp
    · rw [varL_big h]
      match d with
      | 0 => simp at hd; omega
      | d + 1 =>
        have := ih (n / 128) (by omega) d (by
          have e : 128 ^ (d + 1 + 1) = 128 ^ (d + 1) * 128 := Nat.pow_succ _ _
          omega)
        simp only [List.length_cons]; omega

end Go.Proofs.YtkmcnjpgamaljaaGreatDoor.Kit
/- Digits, from behind: numbers alone. -/
namespace Go.Proofs.YtkmcnjpgamaljaaGreatDoor.Kit
open Go.RowKit Go.Proofs.YtkmcnjpgamaljaaGreatDoorW.PrintWords Go.Proofs.YtkmcnjpgamaljaaGreatDoorW.PrintMore
set_option linter.unusedSimpArgs false
set_option linter.unusedVariables false

def sgn (b : Bool) (u : Nat) : Int := if b then -(u : Int) else u
def digs (u : Nat) : List UInt8 := if u = 0 then [] else Lib.decDigits u
theorem digs_step {u : Nat} (h : u ≠ 0) : digs u = digs (u / 10) ++ [UInt8.ofNat (48 + u % 10)] := by
  unfold digs
  rw [if_neg h]
  by_cases c : u < 10
  · rw [if_pos (by omega : u / 10 = 0), Lib.decDigits, dif_pos c, Nat.mod_eq_of_lt c]; rfl
  · rw [if_neg (by omega : ¬ u / 10 = 0), Lib.decDigits, dif_neg c]
theorem str_cons (x : UInt8) (L : List UInt8) : (⟨#[x]⟩ : ByteArray) ++ ⟨L.toArray⟩ = ⟨(x :: L).toArray⟩ := by
  apply data_inj
  rw [data_app]
  rfl
theorem str_digit {c : Int} {n : Nat} (h : c.toNat = n) : strOfNums [c] = ⟨#[UInt8.ofNat n]⟩ := by
  subst h; rfl
theorem itoa_digs {a : Int} (h : a ≠ 0) : (if decide (a < 0) then [45] else []) ++ digs a.natAbs = Lib.itoa a := by
  unfold digs Lib.itoa
  rw [if_neg (by omega : ¬ a.natAbs = 0)]
  by_cases c : a < 0
  · simp [c]
  · have e : a.natAbs = a.toNat := by omega
    simp [c, e]

end Go.Proofs.YtkmcnjpgamaljaaGreatDoor.Kit

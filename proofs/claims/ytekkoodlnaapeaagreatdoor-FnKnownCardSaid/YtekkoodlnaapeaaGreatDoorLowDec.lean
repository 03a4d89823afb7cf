import Derived.Test.YtekkoodlnaapeaaGreatDoorLow
import Derived.Test.YtekkoodlnaapeaaGreatDoorKit
import Derived.Lib.ItoaNum
/- spec.Dec tells a number's decimals. -/
namespace Go.Proofs.YtekkoodlnaapeaaGreatDoor.Low
open Go.RowKit Go.Proofs.YtekkoodlnaapeaaGreatDoor.Kit Go.Proofs.YtekkoodlnaapeaaGreatDoorW.PrintWords Go.Proofs.YtekkoodlnaapeaaGreatDoorW.PrintLast Go.Proofs.YtekkoodlnaapeaaGreatDoorW.PrintMore
set_option linter.unusedSimpArgs false
set_option linter.unusedVariables false
def sgn (b : Bool) (u : Nat) : Int := if b then -(u : Int) else u
def digs (u : Nat) : List UInt8 := if u = 0 then [] else Lib.decDigits u
theorem digs_step {u : Nat} (h : u ≠ 0) : digs u = digs (u / 10) ++ [UInt8.ofNat (48 + u % 10)] := by
  unfold digs
  rw [if_neg h]
  by_cases c : u < 10
  · rw [if_pos (by omega : u / 10 = 0), Lib.decDigits, dif_pos c, Nat.mod_eq_of_lt c]; rfl
  · rw [if_neg (by omega : ¬ u / 10 = 0), Lib.decDigits, dif_neg c]
theorem str_cons (x : UInt8) (L : List UInt8) : (⟨#[x]⟩ : ByteArray) ++ ⟨L.toArray⟩ = ⟨(x :: L).toArray⟩ := by
  apply data_inj
  rw [data_app]
  rfl
theorem str_digit {c : Int} {n : Nat} (h : c.toNat = n) : strOfNums [c] = ⟨#[UInt8.ofNat n]⟩ := by
  subst h; rfl
theorem itoa_digs {a : Int} (h : a ≠ 0) : (if decide (a < 0) then [45] else []) ++ digs a.natAbs = Lib.itoa a := by
  unfold digs Lib.itoa
  rw [if_neg (by omega : ¬ a.natAbs = 0)]
  by_cases c : a < 0
  · simp [c]
  · have e : a.natAbs = a.toNat := by omega
    simp [c, e]
theorem dec_loop (j : Nat) : ∀ (u : Nat) (L : List UInt8) (b : Bool), u < 10 ^ j → u ≤ 9223372036854775808 → (b = false → u ≤ 9223372036854775807) → L.length + j ≤ 40 →
    Ev (fun k => spec_Dec.l0 k (sgn b u) ⟨L.toArray⟩ b) ⟨((if b then [45] else []) ++ digs u ++ L).toArray⟩ := by
  induction j with
  | zero =>
    intro u L b h0 _ _ hl
    obtain rfl : u = 0 := by simp at h0; exact h0
    refine Ev_succ ?_
    have hz : sgn b 0 = 0 := by cases b <;> rfl
    have hs : (⟨L.toArray⟩ : ByteArray).size = L.length := rfl
    simp only [spec_Dec.l0, hz, if_true, digs, List.append_nil]
    cases b with
    | false => simp; exact Ev.now _
    | true =>
      simp only [if_true, hs]
      rw [if_pos (by omega), str_cons]
      exact Ev.now _
  | succ j ih =>
    intro u L b h0 h1 h2 hl
    by_cases hu : u = 0
    · subst hu
      refine Ev_succ ?_
      have hz : sgn b 0 = 0 := by cases b <;> rfl
      have hs : (⟨L.toArray⟩ : ByteArray).size = L.length := rfl
      simp only [spec_Dec.l0, hz, if_true, digs, List.append_nil]
      cases b with
      | false => simp; exact Ev.now _
      | true =>
        simp only [if_true, hs]
        rw [if_pos (by omega), str_cons]
        exact Ev.now _
    have hp := Nat.pow_succ (n := 10) (m := j)
    have i := ih (u / 10) (UInt8.ofNat (48 + u % 10) :: L) b (by omega) (by omega) (by omega) (by simp; omega)
    have hd : digs u = digs (u / 10) ++ [UInt8.ofNat (48 + u % 10)] := digs_step hu
    have he : (if b then [45] else []) ++ digs u ++ L = (if b then [45] else []) ++ digs (u / 10) ++ (UInt8.ofNat (48 + u % 10) :: L) := by rw [hd]; simp
    rw [he]
    refine Ev_succ ?_
    have hn : sgn b u ≠ 0 := by cases b <;> simp only [sgn] <;> simp <;> omega
    have hq : wrap64 (Int.tdiv (sgn b u) 10) = sgn b (u / 10) := by
      cases b with
      | false => simp only [sgn]; rw [tdiv_nn (by simp), w64 (by simp; omega) (by simp; omega)]; simp
      | true => simp only [sgn, if_true]; rw [Int.neg_tdiv, tdiv_nn (by simp), w64 (by omega) (by omega)]; simp
    have hs : (⟨L.toArray⟩ : ByteArray).size = L.length := rfl
    have h8 : ((48 + ((u : Int) % 10)) % 256).toNat = 48 + u % 10 := by omega
    have hone : (strOfNums [(48 + ((u : Int) % 10)) % 256]) = ⟨#[UInt8.ofNat (48 + u % 10)]⟩ := str_digit h8
    have hsz : (⟨#[UInt8.ofNat (48 + u % 10)]⟩ : ByteArray).size = 1 := rfl
    by_cases ht : Int.tmod (sgn b u) 10 < 0
    · have hm : wrap64 (48 + wrap64 (-(Int.tmod (sgn b u) 10))) = 48 + (u : Int) % 10 := by
        cases b with
        | false => simp only [sgn] at ht; rw [tmod_nn (by simp)] at ht; simp at ht; omega
        | true => simp only [sgn, if_true]; rw [Int.neg_tmod, tmod_nn (by simp), Int.neg_neg, w64 (x := (u : Int) % 10) (by omega) (by omega), w64 (by omega) (by omega)]
      simp only [spec_Dec.l0, if_neg hn, if_pos ht, Option.bind_some, hm, hq, hone, hsz, hs]
      rw [str_cons]
      have hc : 1 + L.length ≤ 9223372036854775807 := by omega
      simp only [hc, if_true]
      exact i
    · have hm : wrap64 (48 + (Int.tmod (sgn b u) 10)) = 48 + (u : Int) % 10 := by
        cases b with
        | false => simp only [sgn]; rw [tmod_nn (by simp), w64 (by simp; omega) (by simp; omega)]; simp
        | true =>
          simp only [sgn, if_true] at ht ⊢
          rw [Int.neg_tmod, tmod_nn (by simp)] at ht ⊢
          rw [w64 (by omega) (by omega)]; omega
      simp only [spec_Dec.l0, if_neg hn, if_neg ht, Option.bind_some, hm, hq, hone, hsz, hs]
      rw [str_cons]
      have hc : 1 + L.length ≤ 9223372036854775807 := by omega
      simp only [hc, if_true]
      exact i
theorem dec_ev (a : Int) (h0 : -9223372036854775808 ≤ a) (h1 : a < 9223372036854775808) : Ev (fun k => spec_Dec.f k a) ⟨(Lib.itoa a).toArray⟩ := by
  by_cases hz : a = 0
  · subst hz
    simp only [spec_Dec.f, if_true]
    have e : Lib.itoa 0 = [48] := by simp [Lib.itoa, Lib.decDigits]
    rw [e]
    exact Ev.now _
  have i := dec_loop 20 a.natAbs [] (decide (a < 0)) (by omega) (by omega) (by intro h; simp at h; omega) (by simp)
  have hs : sgn (decide (a < 0)) a.natAbs = a := by
    by_cases hn : a < 0
    · simp [sgn, hn]; omega
    · simp [sgn, hn]; omega
  rw [hs, List.append_nil, itoa_digs hz] at i
  simp only [spec_Dec.f, if_neg hz]
  exact i

end Go.Proofs.YtekkoodlnaapeaaGreatDoor.Low

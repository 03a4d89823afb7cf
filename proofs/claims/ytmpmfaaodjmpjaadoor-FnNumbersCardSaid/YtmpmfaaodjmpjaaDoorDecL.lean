import Derived.Test.YtmpmfaaodjmpjaaDoorKit
import Derived.Lib.ItoaNum
/- Digits, from behind: numbers alone. -/
namespace Go.Proofs.YtmpmfaaodjmpjaaDoor.Kit
open Go.RowKit Go.Proofs.YtmpmfaaodjmpjaaDoorW.PrintWords Go.Proofs.YtmpmfaaodjmpjaaDoorW.PrintMore
set_option linter.unusedSimpArgs false
set_option linter.unusedVariables false

def sgn (b : Bool) (u : Nat) : Int := if b then -(u : Int) else u
def digs (u : Nat) : List UInt8 := if u = 0 then [] else Lib.decDigits u
theorem digs_step {u : Nat} (h : u ≠ 0) : digs u = digs (u / 10) ++ [UInt8.ofNat (48 + u % 10)] := by
  unfold digs
  rw [if_neg h]
  by_cases c : u < 10
  · rw [if_pos (by omega : u / 10 = 0), Lib.decDigits, dif_pos c, Nat.mod_eq_of_lt c]; rfl
  · rw [if_neg (by omega : ¬ u / 10 = 0), Lib.decDigits, dif_neg c]
theorem str_cons (x : UInt8) (L : List UInt8) : (⟨#[x]⟩ : ByteArray) ++ ⟨L.toArray⟩ = ⟨(x :: L).toArray⟩ := by
  apply data_inj
  rw [data_app]
  rfl
theorem str_digit {c : Int} {n : Nat} (h : c.toNat = n) : strOfNums [c] = ⟨#[UInt8.ofNat n]⟩ := by
  subst h; rfl
theorem itoa_digs {a : Int} (h : a ≠ 0) : (if decide (a < 0) then [45] else []) ++ digs a.natAbs = Lib.itoa a := by
  unfold digs Lib.itoa
  rw [if_neg (by omega : ¬ a.natAbs = 0)]
  by_cases c : a < 0
  · simp [c]
  · have e : a.natAbs = a.toNat := by omega
    simp [c, e]

end Go.Proofs.YtmpmfaaodjmpjaaDoor.Kit

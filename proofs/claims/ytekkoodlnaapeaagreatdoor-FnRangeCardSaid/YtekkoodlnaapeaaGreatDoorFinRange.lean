import Derived.Test.YtekkoodlnaapeaaGreatDoorLaw
import Derived.Test.YtekkoodlnaapeaaGreatDoorRunRange
/- The law FnRange, reckoned. -/
set_option linter.unusedVariables false
set_option linter.unusedSimpArgs false
set_option linter.constructorNameAsVariable false
/- The law FnRange says yes wherever it is called. -/
namespace Go.Proofs.YtekkoodlnaapeaaGreatDoor.SX
open Go.RowKit Go.Proofs Go.Proofs.YtekkoodlnaapeaaGreatDoor.Kit Go.Proofs.YtekkoodlnaapeaaGreatDoor Go.Proofs.YtekkoodlnaapeaaGreatDoorW.PrintWords
variable {l : List Int} {A : Option Addr} {c : Nat} {W : World}
theorem fnRange (h : LawAt l A c W) : Calls Tryz.prog 3 #[.slice A l.length c] W fun e w' => e = .returned (.bool true) ∧ Below W.heap.size W w' := by
  by_cases hl : l.length ≤ 1048576
  case neg => exact h.big hl bRange
  have r0 := atV_range l hl h.u8 0 (by decide)
  have r1 := atV_range l hl h.u8 1 (by decide)
  have r2 := atV_range l hl h.u8 2 (by decide)
  have rm : 0 ≤ (atV l 1).tmod 9 ∧ (atV l 1).tmod 9 ≤ 8 := by
    rw [Int.tmod_eq_emod_of_nonneg (by omega)]
    omega
  have d0 := d_range (atV l 0 + 2) (by omega) (by omega)
  have d1 := d_range ((atV l 1).tmod 9 + 1) (by omega) (by omega)
  have d2 := d_range (atV l 0 * 2 + 4) (by omega) (by omega)
  have hW : Within cRange.R (sg [atV l 0, atV l 1, atV l 2, (atV l 1).tmod 9, dLen (atV l 0 + 2), dHd (atV l 0 + 2), dLen ((atV l 1).tmod 9 + 1), dHd ((atV l 1).tmod 9 + 1), dLen (atV l 0 * 2 + 4), dHd (atV l 0 * 2 + 4)]) := within_of ⟨r0, r1, r2, rm, d0.1, d0.2, d1.1, d1.2, d2.1, d2.2, trivial⟩
  have e0 : (.p [([0],1)] 2 : SI).val (sg [atV l 0, atV l 1, atV l 2, (atV l 1).tmod 9, dLen (atV l 0 + 2), dHd (atV l 0 + 2), dLen ((atV l 1).tmod 9 + 1), dHd ((atV l 1).tmod 9 + 1), dLen (atV l 0 * 2 + 4), dHd (atV l 0 * 2 + 4)]) = atV l 0 + 2 := by
    simp [SI.val, tval, mval, sg]
  have e1 : (.p [([3],1)] 1 : SI).val (sg [atV l 0, atV l 1, atV l 2, (atV l 1).tmod 9, dLen (atV l 0 + 2), dHd (atV l 0 + 2), dLen ((atV l 1).tmod 9 + 1), dHd ((atV l 1).tmod 9 + 1), dLen (atV l 0 * 2 + 4), dHd (atV l 0 * 2 + 4)]) = (atV l 1).tmod 9 + 1 := by
    simp [SI.val, tval, mval, sg]
  have e2 : (.p [([0],2)] 4 : SI).val (sg [atV l 0, atV l 1, atV l 2, (atV l 1).tmod 9, dLen (atV l 0 + 2), dHd (atV l 0 + 2), dLen ((atV l 1).tmod 9 + 1), dHd ((atV l 1).tmod 9 + 1), dLen (atV l 0 * 2 + 4), dHd (atV l 0 * 2 + 4)]) = atV l 0 * 2 + 4 := by
    simp [SI.val, tval, mval, sg]; omega
  have hD : DOk (sg [atV l 0, atV l 1, atV l 2, (atV l 1).tmod 9, dLen (atV l 0 + 2), dHd (atV l 0 + 2), dLen ((atV l 1).tmod 9 + 1), dHd ((atV l 1).tmod 9 + 1), dLen (atV l 0 * 2 + 4), dHd (atV l 0 * 2 + 4)]) cRange.D := dok_cons (by rw [e0]; rfl) (by rw [e0]; rfl) (dok_cons (by rw [e1]; rfl) (by rw [e1]; rfl) (dok_cons (by rw [e2]; rfl) (by rw [e2]; rfl) (dok_nil)))
  have hT : ∀ n s, atT tRange n = some s → s.val (sg [atV l 0, atV l 1, atV l 2, (atV l 1).tmod 9, dLen (atV l 0 + 2), dHd (atV l 0 + 2), dLen ((atV l 1).tmod 9 + 1), dHd ((atV l 1).tmod 9 + 1), dLen (atV l 0 * 2 + 4), dHd (atV l 0 * 2 + 4)]) = atV l n := tok_of (tok_cons (by rw [lvar_val]; rfl) (tok_cons (by rw [lvar_val]; rfl) (tok_nil)))
  have hm : (sg [atV l 0, atV l 1, atV l 2, (atV l 1).tmod 9, dLen (atV l 0 + 2), dHd (atV l 0 + 2), dLen ((atV l 1).tmod 9 + 1), dHd ((atV l 1).tmod 9 + 1), dLen (atV l 0 * 2 + 4), dHd (atV l 0 * 2 + 4)] 1).tmod 9 = (lvar 3).val (sg [atV l 0, atV l 1, atV l 2, (atV l 1).tmod 9, dLen (atV l 0 + 2), dHd (atV l 0 + 2), dLen ((atV l 1).tmod 9 + 1), dHd ((atV l 1).tmod 9 + 1), dLen (atV l 0 * 2 + 4), dHd (atV l 0 * 2 + 4)]) := by rw [lvar_val]; rfl
  exact h.law (C := cRange) (CP := cRangeP0) (T := tRange) (fs := [18]) (Ms := lRange) (kp := 1000) (f := 3) (k := 1000) hl ⟨hW, hD, mok_one (by rw [lvar_val]; exact hm)⟩ ⟨hW, hD, mok_nil⟩ hT lRange_ok lRange_pl (by have q := rRange; unfold oRange at q; exact q)
end Go.Proofs.YtekkoodlnaapeaaGreatDoor.SX

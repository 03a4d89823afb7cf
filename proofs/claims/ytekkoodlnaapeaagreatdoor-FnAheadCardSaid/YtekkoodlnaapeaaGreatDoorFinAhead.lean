import Derived.Test.YtekkoodlnaapeaaGreatDoorLaw
import Derived.Test.YtekkoodlnaapeaaGreatDoorRunAhead0
import Derived.Test.YtekkoodlnaapeaaGreatDoorRunAhead1
import Derived.Test.YtekkoodlnaapeaaGreatDoorRunAhead2
import Derived.Test.YtekkoodlnaapeaaGreatDoorRunAhead3
import Derived.Test.YtekkoodlnaapeaaGreatDoorRunAhead4
import Derived.Test.YtekkoodlnaapeaaGreatDoorRunAhead5
/- The law FnAhead, reckoned. -/
set_option linter.unusedVariables false
set_option linter.unusedSimpArgs false
set_option linter.constructorNameAsVariable false
/- The law FnAhead says yes wherever it is called. -/
namespace Go.Proofs.YtekkoodlnaapeaaGreatDoor.SX
open Go.RowKit Go.Proofs Go.Proofs.YtekkoodlnaapeaaGreatDoor.Kit Go.Proofs.YtekkoodlnaapeaaGreatDoor Go.Proofs.YtekkoodlnaapeaaGreatDoorW.PrintWords
variable {l : List Int} {A : Option Addr} {c : Nat} {W : World}
theorem fnAhead (h : LawAt l A c W) : Calls Tryz.prog 6 #[.slice A l.length c] W fun e w' => e = .returned (.bool true) ∧ Below W.heap.size W w' := by
  by_cases hl : l.length ≤ 1048576
  case neg => exact h.big hl bAhead
  have r0 := atV_range l hl h.u8 0 (by decide)
  have r1 := atV_range l hl h.u8 1 (by decide)
  have r2 := atV_range l hl h.u8 2 (by decide)
  have d0 := d_range (atV l 0) (by omega) (by omega)
  have hW : Within cAhead0.R (sg [atV l 0, atV l 1, atV l 2, dLen (atV l 0), dHd (atV l 0)]) := within_of ⟨r0, r1, r2, d0.1, d0.2, trivial⟩
  have e0 : (lvar 0 : SI).val (sg [atV l 0, atV l 1, atV l 2, dLen (atV l 0), dHd (atV l 0)]) = atV l 0 := by
    rw [lvar_val]; rfl
  have hD : DOk (sg [atV l 0, atV l 1, atV l 2, dLen (atV l 0), dHd (atV l 0)]) cAhead0.D := dok_cons (by rw [e0]; rfl) (by rw [e0]; rfl) (dok_nil)
  have hT : ∀ n s, atT tAhead0 n = some s → s.val (sg [atV l 0, atV l 1, atV l 2, dLen (atV l 0), dHd (atV l 0)]) = atV l n := tok_of (tok_cons (by rw [lvar_val]; rfl) (tok_cons (by rw [lvar_val]; rfl) (tok_nil)))
  have hc : (atV l 1).tmod 6 = 0 ∨ (atV l 1).tmod 6 = 1 ∨ (atV l 1).tmod 6 = 2 ∨ (atV l 1).tmod 6 = 3 ∨ (atV l 1).tmod 6 = 4 ∨ (atV l 1).tmod 6 = 5 := by
    rw [Int.tmod_eq_emod_of_nonneg (by omega)]
    omega
  rcases hc with hm | hm | hm | hm | hm | hm
  · exact h.law (C := cAhead0) (CP := cAheadP0) (T := tAhead0) (fs := [18]) (Ms := lAhead0) (kp := 1000) (f := 6) (k := 1000) hl ⟨hW, hD, mok_one (by rw [lvar_val]; exact hm)⟩ ⟨hW, hD, mok_nil⟩ hT lAhead0_ok lAhead0_pl (by have q := rAhead0; unfold oAhead0 at q; exact q)
  · exact h.law (C := cAhead1) (CP := cAheadP0) (T := tAhead1) (fs := [18]) (Ms := lAhead1) (kp := 1000) (f := 6) (k := 1000) hl ⟨hW, hD, mok_one (by rw [lvar_val]; exact hm)⟩ ⟨hW, hD, mok_nil⟩ hT lAhead1_ok lAhead1_pl (by have q := rAhead1; unfold oAhead1 at q; exact q)
  · exact h.law (C := cAhead2) (CP := cAheadP0) (T := tAhead2) (fs := [18]) (Ms := lAhead2) (kp := 1000) (f := 6) (k := 1000) hl ⟨hW, hD, mok_one (by rw [lvar_val]; exact hm)⟩ ⟨hW, hD, mok_nil⟩ hT lAhead2_ok lAhead2_pl (by have q := rAhead2; unfold oAhead2 at q; exact q)
  · exact h.law (C := cAhead3) (CP := cAheadP0) (T := tAhead3) (fs := [18]) (Ms := lAhead3) (kp := 1000) (f := 6) (k := 1000) hl ⟨hW, hD, mok_one (by rw [lvar_val]; exact hm)⟩ ⟨hW, hD, mok_nil⟩ hT lAhead3_ok lAhead3_pl (by have q := rAhead3; unfold oAhead3 at q; exact q)
  · exact h.law (C := cAhead4) (CP := cAheadP0) (T := tAhead4) (fs := [18]) (Ms := lAhead4) (kp := 1000) (f := 6) (k := 1000) hl ⟨hW, hD, mok_one (by rw [lvar_val]; exact hm)⟩ ⟨hW, hD, mok_nil⟩ hT lAhead4_ok lAhead4_pl (by have q := rAhead4; unfold oAhead4 at q; exact q)
  · exact h.law (C := cAhead5) (CP := cAheadP0) (T := tAhead5) (fs := [18]) (Ms := lAhead5) (kp := 1000) (f := 6) (k := 1000) hl ⟨hW, hD, mok_one (by rw [lvar_val]; exact hm)⟩ ⟨hW, hD, mok_nil⟩ hT lAhead5_ok lAhead5_pl (by have q := rAhead5; unfold oAhead5 at q; exact q)
end Go.Proofs.YtekkoodlnaapeaaGreatDoor.SX

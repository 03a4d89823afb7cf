import Derived.Test.YtekkoodlnaapeaaGreatDoorLaw
import Derived.Test.YtekkoodlnaapeaaGreatDoorRunLive0
import Derived.Test.YtekkoodlnaapeaaGreatDoorRunLive1
import Derived.Test.YtekkoodlnaapeaaGreatDoorRunLive2
/- The law FnLive, reckoned. -/
set_option linter.unusedVariables false
set_option linter.unusedSimpArgs false
set_option linter.constructorNameAsVariable false
/- The law FnLive says yes wherever it is called. -/
namespace Go.Proofs.YtekkoodlnaapeaaGreatDoor.SX
open Go.RowKit Go.Proofs Go.Proofs.YtekkoodlnaapeaaGreatDoor.Kit Go.Proofs.YtekkoodlnaapeaaGreatDoor Go.Proofs.YtekkoodlnaapeaaGreatDoorW.PrintWords
variable {l : List Int} {A : Option Addr} {c : Nat} {W : World}
theorem fnLive (h : LawAt l A c W) : Calls Tryz.prog 7 #[.slice A l.length c] W fun e w' => e = .returned (.bool true) ∧ Below W.heap.size W w' := by
  by_cases hl : l.length ≤ 1048576
  case neg => exact h.big hl bLive
  have r0 := atV_range l hl h.u8 0 (by decide)
  have r1 := atV_range l hl h.u8 1 (by decide)
  have r2 := atV_range l hl h.u8 2 (by decide)
  have d0 := d_range (atV l 0) (by omega) (by omega)
  have d1 := d_range (atV l 1) (by omega) (by omega)
  have hW : Within cLive0.R (sg [atV l 0, atV l 1, atV l 2, dLen (atV l 0), dHd (atV l 0), dLen (atV l 1), dHd (atV l 1)]) := within_of ⟨r0, r1, r2, d0.1, d0.2, d1.1, d1.2, trivial⟩
  have e0 : (lvar 0 : SI).val (sg [atV l 0, atV l 1, atV l 2, dLen (atV l 0), dHd (atV l 0), dLen (atV l 1), dHd (atV l 1)]) = atV l 0 := by
    rw [lvar_val]; rfl
  have e1 : (lvar 1 : SI).val (sg [atV l 0, atV l 1, atV l 2, dLen (atV l 0), dHd (atV l 0), dLen (atV l 1), dHd (atV l 1)]) = atV l 1 := by
    rw [lvar_val]; rfl
  have hD : DOk (sg [atV l 0, atV l 1, atV l 2, dLen (atV l 0), dHd (atV l 0), dLen (atV l 1), dHd (atV l 1)]) cLive0.D := dok_cons (by rw [e0]; rfl) (by rw [e0]; rfl) (dok_cons (by rw [e1]; rfl) (by rw [e1]; rfl) (dok_nil))
  have hT : ∀ n s, atT tLive0 n = some s → s.val (sg [atV l 0, atV l 1, atV l 2, dLen (atV l 0), dHd (atV l 0), dLen (atV l 1), dHd (atV l 1)]) = atV l n := tok_of (tok_cons (by rw [lvar_val]; rfl) (tok_cons (by rw [lvar_val]; rfl) (tok_cons (by rw [lvar_val]; rfl) (tok_nil))))
  have hc : (atV l 2).tmod 3 = 0 ∨ (atV l 2).tmod 3 = 1 ∨ (atV l 2).tmod 3 = 2 := by
    rw [Int.tmod_eq_emod_of_nonneg (by omega)]
    omega
  rcases hc with hm | hm | hm
  · exact h.law (C := cLive0) (CP := cLiveP0) (T := tLive0) (fs := [18]) (Ms := lLive0) (kp := 1000) (f := 7) (k := 1000) hl ⟨hW, hD, mok_one (by rw [lvar_val]; exact hm)⟩ ⟨hW, hD, mok_nil⟩ hT lLive0_ok lLive0_pl (by have q := rLive0; unfold oLive0 at q; exact q)
  · exact h.law (C := cLive1) (CP := cLiveP0) (T := tLive1) (fs := [18]) (Ms := lLive1) (kp := 1000) (f := 7) (k := 1000) hl ⟨hW, hD, mok_one (by rw [lvar_val]; exact hm)⟩ ⟨hW, hD, mok_nil⟩ hT lLive1_ok lLive1_pl (by have q := rLive1; unfold oLive1 at q; exact q)
  · exact h.law (C := cLive2) (CP := cLiveP0) (T := tLive2) (fs := [18]) (Ms := lLive2) (kp := 1000) (f := 7) (k := 1000) hl ⟨hW, hD, mok_one (by rw [lvar_val]; exact hm)⟩ ⟨hW, hD, mok_nil⟩ hT lLive2_ok lLive2_pl (by have q := rLive2; unfold oLive2 at q; exact q)
end Go.Proofs.YtekkoodlnaapeaaGreatDoor.SX

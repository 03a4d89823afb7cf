import Derived.Test.YtekkoodlnaapeaaGreatDoorLaw3
import Derived.Test.YtekkoodlnaapeaaGreatDoorRunKnown0
import Derived.Test.YtekkoodlnaapeaaGreatDoorRunKnown1
/- The law FnKnown, reckoned. -/
set_option linter.unusedVariables false
set_option linter.unusedSimpArgs false
set_option linter.constructorNameAsVariable false
/- The law FnKnown says yes wherever it is called. -/
namespace Go.Proofs.YtekkoodlnaapeaaGreatDoor.SX
open Go.RowKit Go.Proofs Go.Proofs.YtekkoodlnaapeaaGreatDoor.Kit Go.Proofs.YtekkoodlnaapeaaGreatDoor Go.Proofs.YtekkoodlnaapeaaGreatDoorW.PrintWords
variable {l : List Int} {A : Option Addr} {c : Nat} {W : World}
theorem fnKnown (h : LawAt l A c W) : Calls Tryz.prog 4 #[.slice A l.length c] W fun e w' => e = .returned (.bool true) ∧ Below W.heap.size W w' := by
  by_cases hl : l.length ≤ 1048576
  case neg => exact h.big hl bKnown
  have r0 := atV_range l hl h.u8 0 (by decide)
  have r1 := atV_range l hl h.u8 1 (by decide)
  have r2 := atV_range l hl h.u8 2 (by decide)
  have rm : 0 ≤ (atV l 2).tmod 100 ∧ (atV l 2).tmod 100 ≤ 99 := by
    rw [Int.tmod_eq_emod_of_nonneg (by omega)]
    omega
  have d0 := d_range (atV l 0) (by omega) (by omega)
  have d1 := d_range (atV l 1) (by omega) (by omega)
  have d2 := d_range ((atV l 2).tmod 100) (by omega) (by omega)
  have e0 : (lvar 0).val (sg [atV l 0, atV l 1, atV l 2, (atV l 2).tmod 100, dLen (atV l 0), dHd (atV l 0), dLen (atV l 1), dHd (atV l 1), dLen ((atV l 2).tmod 100), dHd ((atV l 2).tmod 100)]) = atV l 0 := by rw [lvar_val]; rfl
  have e1 : (lvar 1).val (sg [atV l 0, atV l 1, atV l 2, (atV l 2).tmod 100, dLen (atV l 0), dHd (atV l 0), dLen (atV l 1), dHd (atV l 1), dLen ((atV l 2).tmod 100), dHd ((atV l 2).tmod 100)]) = atV l 1 := by rw [lvar_val]; rfl
  have e2 : (lvar 2).val (sg [atV l 0, atV l 1, atV l 2, (atV l 2).tmod 100, dLen (atV l 0), dHd (atV l 0), dLen (atV l 1), dHd (atV l 1), dLen ((atV l 2).tmod 100), dHd ((atV l 2).tmod 100)]) = atV l 2 := by rw [lvar_val]; rfl
  have e3 : (lvar 3).val (sg [atV l 0, atV l 1, atV l 2, (atV l 2).tmod 100, dLen (atV l 0), dHd (atV l 0), dLen (atV l 1), dHd (atV l 1), dLen ((atV l 2).tmod 100), dHd ((atV l 2).tmod 100)]) = (atV l 2).tmod 100 := by rw [lvar_val]; rfl
  have hm : ((lvar 2).val (sg [atV l 0, atV l 1, atV l 2, (atV l 2).tmod 100, dLen (atV l 0), dHd (atV l 0), dLen (atV l 1), dHd (atV l 1), dLen ((atV l 2).tmod 100), dHd ((atV l 2).tmod 100)])).tmod 100 = (lvar 3).val (sg [atV l 0, atV l 1, atV l 2, (atV l 2).tmod 100, dLen (atV l 0), dHd (atV l 0), dLen (atV l 1), dHd (atV l 1), dLen ((atV l 2).tmod 100), dHd ((atV l 2).tmod 100)]) := by rw [e2, e3]
  by_cases h0 : atV l 0 = 0
  · have hW : Within cKnown0.R (sg [atV l 0, atV l 1, atV l 2, (atV l 2).tmod 100, dLen (atV l 0), dHd (atV l 0), dLen (atV l 1), dHd (atV l 1), dLen ((atV l 2).tmod 100), dHd ((atV l 2).tmod 100)]) := within_of ⟨r0, r1, r2, rm, d0.1, d0.2, d1.1, d1.2, d2.1, d2.2, trivial⟩
    have hD : DOk (sg [atV l 0, atV l 1, atV l 2, (atV l 2).tmod 100, dLen (atV l 0), dHd (atV l 0), dLen (atV l 1), dHd (atV l 1), dLen ((atV l 2).tmod 100), dHd ((atV l 2).tmod 100)]) cKnown0.D := dok_cons (by rw [e1]; rfl) (by rw [e1]; rfl) (dok_cons (by rw [e3]; rfl) (by rw [e3]; rfl) dok_nil)
    have hT : ∀ n s, atT tKnown0 n = some s → s.val (sg [atV l 0, atV l 1, atV l 2, (atV l 2).tmod 100, dLen (atV l 0), dHd (atV l 0), dLen (atV l 1), dHd (atV l 1), dLen ((atV l 2).tmod 100), dHd ((atV l 2).tmod 100)]) = atV l n := tok_of (tok_cons (by rw [h0]; rfl) (tok_cons e1 (tok_cons e2 tok_nil)))
    exact h.law3 (C := cKnown0) (CP := cKnownP0) (T := tKnown0) (fs := [18]) (Ms := lKnown0) (kp := 1000) (f := 4) (k := 1000) hl ⟨hW, hD, mok_one hm⟩ ⟨hW, hD, mok_nil⟩ hT lKnown0_ok lKnown0_pl (by have q := rKnown0; unfold oKnown0 at q; exact q)
  · have hW : Within cKnown1.R (sg [atV l 0, atV l 1, atV l 2, (atV l 2).tmod 100, dLen (atV l 0), dHd (atV l 0), dLen (atV l 1), dHd (atV l 1), dLen ((atV l 2).tmod 100), dHd ((atV l 2).tmod 100)]) := within_of ⟨⟨by show (1 : Int) ≤ _; omega, r0.2⟩, r1, r2, rm, d0.1, d0.2, d1.1, d1.2, d2.1, d2.2, trivial⟩
    have hD : DOk (sg [atV l 0, atV l 1, atV l 2, (atV l 2).tmod 100, dLen (atV l 0), dHd (atV l 0), dLen (atV l 1), dHd (atV l 1), dLen ((atV l 2).tmod 100), dHd ((atV l 2).tmod 100)]) cKnown1.D := dok_cons (by rw [e0]; rfl) (by rw [e0]; rfl) (dok_cons (by rw [e1]; rfl) (by rw [e1]; rfl) (dok_cons (by rw [e3]; rfl) (by rw [e3]; rfl) dok_nil))
    have hT : ∀ n s, atT tKnown1 n = some s → s.val (sg [atV l 0, atV l 1, atV l 2, (atV l 2).tmod 100, dLen (atV l 0), dHd (atV l 0), dLen (atV l 1), dHd (atV l 1), dLen ((atV l 2).tmod 100), dHd ((atV l 2).tmod 100)]) = atV l n := tok_of (tok_cons e0 (tok_cons e1 (tok_cons e2 tok_nil)))
    exact h.law3 (C := cKnown1) (CP := cKnownP1) (T := tKnown1) (fs := [18]) (Ms := lKnown1) (kp := 1000) (f := 4) (k := 1000) hl ⟨hW, hD, mok_one hm⟩ ⟨hW, hD, mok_nil⟩ hT lKnown1_ok lKnown1_pl (by have q := rKnown1; unfold oKnown1 at q; exact q)
end Go.Proofs.YtekkoodlnaapeaaGreatDoor.SX

import Derived.Test.YtekkoodlnaapeaaGreatDoorTokL
import Derived.Lib.Hide
/- slices.Contains at bytes. -/
namespace Go.Proofs.YtekkoodlnaapeaaGreatDoor.TokL
open Go.RowKit Go.Proofs.YtekkoodlnaapeaaGreatDoor.Kit Go.Proofs.YtekkoodlnaapeaaGreatDoor.RunL Go.Proofs.YtekkoodlnaapeaaGreatDoorW.PrintWords
set_option linter.unusedSimpArgs false
set_option linter.unusedVariables false
def IdxP (b : Bool) (w : World) (e : Ending) (w' : World) : Prop := (∃ r : Int, e = .returned (.int .i64 r) ∧ decide (0 ≤ r) = b) ∧ ∃ q, w' = w.drewN q
theorem containsB (l : List UInt8) (g cap : Nat) (w : World) (hl : l.length ≤ 1000000) (hlc : l.length ≤ cap) (hc : ∀ j (hj : j < l.length), w.cell? ⟨g, j, none⟩ = some (.int .u8 (l[j].toNat : Int))) (x : UInt8) :
    Calls Tryz.prog 143 #[.slice (some ⟨g, 0, none⟩) l.length cap, .int .u8 (x.toNat : Int)] w fun e w' => e = .returned (.bool (l.contains x)) ∧ ∃ q, w' = w.drewN q := by
  obtain ⟨b, HB⟩ : ∃ b, Hid (b = l.contains x) := ⟨_, Lib.hid rfl⟩
  rw [← HB.out]
  have hidx : Calls Tryz.prog 191 #[.slice (some ⟨g, 0, none⟩) l.length cap, .int .u8 (x.toNat : Int)] w fun e w' => IdxP b w e w' := by
    have HC := Lib.hid hc
    clear hc
    go_enter Tryz.func191, Tryz.ntmps191
    go_wp2
    go_loopg [5, 8] l.length (fun gg s5 s8 wr => ∃ (kk : Nat) (q : Nat), kk ≤ l.length ∧ l.length - kk ≤ gg ∧ s8 = .int .i64 kk ∧ wr = w.drewN q ∧ Aside (b = (l.drop kk).contains x))
    case atStart => exact ⟨0, 0, Nat.zero_le _, by omega, rfl, rfl, (show b = (l.drop 0).contains x by rw [List.drop_zero]; exact HB.out)⟩
    case round =>
      obtain ⟨kk, q, hkk, hg, rfl, rfl, A⟩ := hrel
      by_cases hlt : kk < l.length
      · have hltz : (kk : Int) < (l.length : Int) := by omega
        have hcell : (w.drewN q).cell? ⟨g, kk, none⟩ = some (.int .u8 (l[kk].toNat : Int)) := HC.out kk hlt
        have hd : l.drop kk = l[kk] :: l.drop (kk + 1) := List.drop_eq_getElem_cons hlt
        cases hx : ((x.toNat : Int) == (l[kk].toNat : Int)) with
        | true =>
          have hxe : x = l[kk] := by
            apply UInt8.toNat_inj.1
            have := beq_iff_eq.1 hx
            omega
          have hX : Aside (b = true) := by
            show b = true
            have hA : b = (l.drop kk).contains x := A
            rw [hA, hd, List.contains_cons, beq_iff_eq.2 hxe, Bool.true_or]
          clear A hd hxe
          go_wp2
          go_ret
          have hX' : b = true := hX
          exact ⟨⟨(kk : Int), rfl, by rw [hX']; exact decide_eq_true (by omega)⟩, _, rfl⟩
        | false =>
          have hX : Aside (b = (l.drop (kk + 1)).contains x) := by
            show b = (l.drop (kk + 1)).contains x
            have hA : b = (l.drop kk).contains x := A
            have hne : (x == l[kk]) = false := by
              rw [beq_eq_false_iff_ne]
              rintro rfl
              simp at hx
            rw [hA, hd, List.contains_cons, hne, Bool.false_or]
          clear A hd
          go_wp2
          go_roundg (l.length - (kk + 1))
          case measure => omega
          case rel => exact ⟨kk + 1, _, by omega, by omega, by go_num, rfl, hX⟩
      · have hltz : ¬ ((kk : Int) < (l.length : Int)) := by omega
        have hX : Aside (b = false) := by
          show b = false
          have hA : b = (l.drop kk).contains x := A
          rw [hA, List.drop_eq_nil_of_le (by omega)]; rfl
        clear A
        go_wp2
        go_ret
        have hX' : b = false := hX
        exact ⟨⟨-1, rfl, by rw [hX']; rfl⟩, _, rfl⟩
  go_enter Tryz.func143, Tryz.ntmps143
  go_wp2_with (go_at_call 191; refine hidx.mono ?_; rintro e w' ⟨⟨r, rfl, hr⟩, q, rfl⟩; have HR := Lib.hid hr; clear hr)
  go_ret
  exact ⟨by rw [← HR.out]; rfl, _, rfl⟩
end Go.Proofs.YtekkoodlnaapeaaGreatDoor.TokL

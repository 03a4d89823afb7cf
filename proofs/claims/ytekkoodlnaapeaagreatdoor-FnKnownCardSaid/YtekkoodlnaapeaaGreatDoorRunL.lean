import Derived.Test.YtekkoodlnaapeaaGreatDoorProg
import Derived.WalkKit
import Derived.Tactics
import Derived.Below
import Derived.WideLaws
import Derived.BigQuiet
import Derived.Laws.Slices
import Derived.Deep.LoopGhost
import Derived.Deep.QuietTactic
import Derived.Shelf.GgClosure.Gives
import Derived.Test.YtekkoodlnaapeaaGreatDoorLexL
/- How many bytes at a text's front are so: impl.runLen, for whatever function value that tells it of a byte. -/
namespace Go.Proofs.YtekkoodlnaapeaaGreatDoor.RunL
open Go.RowKit Go.Proofs.YtekkoodlnaapeaaGreatDoor.Kit
set_option linter.unusedSimpArgs false
set_option linter.unusedVariables false
/-- A function value that tells of each byte what p tells. -/
def FnU8 (g : Nat) (lb : Array Value) (p : UInt8 → Bool) (w : World) : Prop := PredAt Tryz.prog g lb (fun x : UInt8 => .int .u8 (x.toNat : Int)) p w
theorem runL_step (p : UInt8 → Bool) (l : List UInt8) (k : Nat) (hk : k < l.length) (h : p l[k] = true) : runL p (l.drop k) = runL p (l.drop (k + 1)) + 1 := by
  rw [List.drop_eq_getElem_cons hk, runL, if_pos h]
theorem runL_stop (p : UInt8 → Bool) (l : List UInt8) (k : Nat) (hk : k < l.length) (h : p l[k] = false) : runL p (l.drop k) = 0 := by
  rw [List.drop_eq_getElem_cons hk, runL, if_neg (by rw [h]; simp)]
set_option maxHeartbeats 1000000 in
theorem calls (g : Nat) (lb : Array Value) (eg : ∀ args w, (callFunc g args).run Tryz.prog w = .ok (.enter g args) w) (p : UInt8 → Bool) (s : ByteArray) (hs : s.size ≤ 140737488355328) (w : World) (hp : FnU8 g lb p w) :
    Calls Tryz.prog 134 #[.string s, .func (.func g) #[] lb] w fun e w' => e = .returned (.int .i64 (runL p s.data.toList)) ∧ ∃ q, w' = w.drewN q := by
  go_enter Tryz.func134, Tryz.ntmps134
  go_wp2
  go_loopg [5] s.size (fun gg s5 wr => ∃ (kk : Nat) (q : Nat), kk ≤ s.size ∧ s.size - kk ≤ gg ∧ s5 = .int .i64 kk ∧ wr = w.drewN q ∧ Aside (kk + runL p (s.data.toList.drop kk) = runL p s.data.toList))
  case atStart => exact ⟨0, 0, Nat.zero_le _, by omega, rfl, rfl, (show (0 + runL p (s.data.toList.drop 0) = runL p s.data.toList) by rw [List.drop_zero, Nat.zero_add])⟩
  case round =>
    obtain ⟨kk, q, hkk, hg, rfl, rfl, A⟩ := hrel
    have hlen : s.data.toList.length = s.size := by rw [Array.length_toList]; rfl
    by_cases hlt : kk < s.size
    · have hltz : (kk : Int) < (s.size : Int) := by omega
      have hlt2 : kk < s.data.toList.length := by omega
      have hcall : Calls Tryz.prog g (#[.int .u8 (s[kk].toNat : Int)] ++ lb) (w.drewN q) fun e w' => e = .returned (.bool (p s[kk])) ∧ ∃ q', w' = (w.drewN q).drewN q' := hp (w.drewN q) s[kk] (below_drewN' (Below.refl _ _) q)
      clear hp
      have hx : s.data.toList[kk] = s[kk] := by simp only [Array.getElem_toList]; rfl
      cases hpx : p s[kk] with
      | true =>
        rw [hpx] at hcall
        go_wp2_with (go_at_fn g; refine hcall.mono ?_; rintro e w' ⟨rfl, q', rfl⟩)
        go_roundg (s.size - (kk + 1))
        case measure => omega
        case rel =>
          refine ⟨kk + 1, _, by omega, by omega, by go_num, rfl, (show kk + 1 + runL p (s.data.toList.drop (kk + 1)) = runL p s.data.toList from ?_)⟩
          have hA : kk + runL p (s.data.toList.drop kk) = runL p s.data.toList := A
          rw [runL_step p _ kk hlt2 (by rw [hx]; exact hpx)] at hA
          omega
      | false =>
        rw [hpx] at hcall
        go_wp2_with (go_at_fn g; refine hcall.mono ?_; rintro e w' ⟨rfl, q', rfl⟩)
        go_ret
        refine ⟨?_, _, rfl⟩
        have hA : kk + runL p (s.data.toList.drop kk) = runL p s.data.toList := A
        rw [runL_stop p _ kk hlt2 (by rw [hx]; exact hpx)] at hA
        rw [← hA, Nat.add_zero]
        rfl
    · have hltz : ¬ ((kk : Int) < (s.size : Int)) := by omega
      have e : kk = s.size := by omega
      go_wp2
      go_ret
      refine ⟨?_, q, rfl⟩
      have hA : kk + runL p (s.data.toList.drop kk) = runL p s.data.toList := A
      rw [List.drop_eq_nil_of_le (by omega), runL] at hA
      rw [← hA, Nat.add_zero, e]
      rfl
end Go.Proofs.YtekkoodlnaapeaaGreatDoor.RunL

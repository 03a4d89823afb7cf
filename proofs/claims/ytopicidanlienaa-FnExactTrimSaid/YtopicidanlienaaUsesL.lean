import Derived.Test.YtopicidanlienaaProg
import Derived.Below
import Derived.Deep.Draws
import Derived.Deep.AppendLies
import Derived.Maps.AppendAt
import Derived.OwnWalk
import Derived.Laws.BytesArg
import Derived.Laws.MakeOwn
import Derived.Laws.OwnMore
import Derived.Deep.OwnRows
import Derived.Tactics
import Derived.Lib.ConvBytes
import Derived.Laws.Slices
import Derived.WalkKit
import Derived.KernelRfl
import Derived.RowKit3
import Derived.Deep.LoopGhost
import Derived.Deep.QuietTactic
import Derived.BigQuiet
import Derived.WideLaws
import Derived.Deep.DeepCutAuto
import Derived.Deep.CutBlock
import Derived.Deep.RegionHeld3
import Derived.Laws.Rows
import Derived.Lib.AppendStr
import Derived.ArgAppend
import Derived.Laws.IdiomCopy
import Derived.OrdersHeld
import Derived.Laws.BitsLemmas
import Derived.RowKit
import Derived.WalkLawsBesides
import Derived.Test.YtopicidanlienaaShelf
import Derived.Test.YtopicidanlienaaWWords
import Derived.Test.YtopicidanlienaaWLast
import Derived.Test.YtopicidanlienaaWTab
import Derived.Test.YtopicidanlienaaWFour
import Derived.Test.YtopicidanlienaaWQPut
import Derived.Test.YtopicidanlienaaWApart
import Derived.Test.YtopicidanlienaaWArr
import Derived.Test.YtopicidanlienaaWZeros
import Derived.Test.YtopicidanlienaaWFoot
import Derived.Test.YtopicidanlienaaWKept
import Derived.Test.YtopicidanlienaaWShare
import Derived.Test.YtopicidanlienaaWN
import Derived.Test.YtopicidanlienaaWFootNe
import Derived.Test.YtopicidanlienaaWAt
import Derived.Test.YtopicidanlienaaWEqStruct
import Derived.Test.YtopicidanlienaaWRepsOne
import Derived.Test.YtopicidanlienaaWInv
import Derived.Test.YtopicidanlienaaWInvWords
import Derived.Test.YtopicidanlienaaWGuard
import Derived.Test.YtopicidanlienaaWNEv
import Derived.Test.YtopicidanlienaaWMore
import Derived.Shelf.Spec.SlicesGrow
import Derived.Deep.RegionHeld3
import Derived.Test.YtopicidanlienaaShelf
import Derived.Test.YtopicidanlienaaRisingL
import Derived.Lib.OwnBridge
import Derived.Sort.OwnSorted
namespace Go.Proofs.Ytopicidanlienaa.UsesL
open Go.RowKit Go.Shelf Go.Proofs.YtopicidanlienaaW.PrintWords Go.Proofs.YtopicidanlienaaW.PrintLast Go.Proofs.YtopicidanlienaaW.PrintMore
attribute [local go_sem] max2_int min2_int max_two min_two max_three min_three max_four min_four
set_option linter.unusedVariables false
set_option linter.unusedSimpArgs false
theorem uinfo9 : (Try.prog.info? 9).map (fun i => (i.zero, i.size, i.bytes)) = some (some (.string ⟨#[]⟩), 1, 16) := by kernel_rfl
def rd_rows (xs : List (List ByteArray)) (i : Int) : (List ByteArray) := xs.getD i.toNat ([] : List ByteArray)
theorem at_rows {w : World} {A : Option Addr} {n : Nat} {xs : List (List ByteArray)} (h : Kd.C (Kd.slice 9 Kd.string) w A n xs) (i : Int) (h0 : 0 ≤ i) (h1 : i < n) : ∃ ad A0 c0, A = some ad ∧ w.cell? (ad.add i.toNat) = some (.slice A0 (rd_rows xs i).length c0) ∧ (rd_rows xs i).length ≤ c0 ∧ Kd.string.C w A0 (rd_rows xs i).length (rd_rows xs i) := by
 obtain ⟨ad, c, e, _, hK, hc0⟩ := Kd.C_get h ([] : List ByteArray) i h0 h1
 have hc : ∀ j u, c[j]? = some u → w.cell? (ad.add (i.toNat * 1 + j)) = some u := hc0
 obtain ⟨A0, c0, rfl, l0, g0⟩ := hK
 exact ⟨ad, A0, c0, e, by have hq := hc 0 _ rfl; rwa [Nat.mul_one, Nat.add_zero] at hq, l0, g0⟩

def growS_ren : Ren := ⟨fun | 4 => 66 | n => n, fun | 9 => 9 | 20 => 20 | 22 => 22 | 25 => 9 | n => n, fun n => n⟩
theorem growS : Lays8.n4 Try.prog growS_ren := {
 mixed := by kernel_rfl
 f4 := ⟨Try.f66.name, by decide, Try.func66.trans (congrArg some (by kernel_rfl))⟩
 t0 := Try.underlying0
 a0 := Try.isAgg0
 z0 := Try.sizeOf0
 v0 := Try.zeroValue0
 t3 := Try.underlying3
 a3 := Try.isAgg3
 z3 := Try.sizeOf3
 v3 := Try.zeroValue3
 t4 := Try.underlying4
 a4 := Try.isAgg4
 z4 := Try.sizeOf4
 v4 := Try.zeroValue4
 t9 := Try.underlying9
 a9 := Try.isAgg9
 z9 := Try.sizeOf9
 v9 := Try.zeroValue9
 t20 := Try.underlying20
 a20 := Try.isAgg20
 z20 := Try.sizeOf20
 v20 := Try.zeroValue20
 t22 := Try.underlying22
 a22 := Try.isAgg22
 z22 := Try.sizeOf22
 v22 := Try.zeroValue22 }
theorem concat_succ (ls : List (List ByteArray)) (i : Nat) (h : i < ls.length) : (ls.take (i + 1)).flatten = (ls.take i).flatten ++ rd_rows ls (i : Int) := by
 unfold rd_rows
 rw [List.take_succ_eq_append_getElem h, List.flatten_append, Int.toNat_natCast]
 simp [List.getD, List.getElem?_eq_getElem h]
theorem concat_le (ls : List (List ByteArray)) (i : Nat) : (ls.take i).flatten.length ≤ ls.flatten.length := by
 conv => rhs; rw [← List.take_append_drop i ls]
 rw [List.flatten_append, List.length_append]
 omega
theorem grow_R (w : World) (n : Nat) (hn2 : n ≤ 4398046511104) :
  Calls Try.prog 66 #[.slice none 0 0, .int .i64 n] w fun e w' => ∃ v, e = .returned v ∧ Kd.R Kd.string 9 w' w.heap.size (fun _ => True) v [] ∧ Below w.heap.size w w' := by
 by_cases hn : n = 0
 ·subst hn
  refine (Any8.slices_Grow_room growS none 0 0 0 w (Nat.le_refl _) (by omega) (by omega) (by omega)).mono ?_
  rintro e w' ⟨rfl, rfl⟩
  exact ⟨_, rfl, Kd.R_nil _ _ _ _ _, Below.refl _ _⟩
 obtain ⟨i0, hi0, hz⟩ := Option.map_eq_some_iff.1 uinfo9
 simp only [Prod.mk.injEq] at hz
 obtain ⟨hz0, hz1, hz2⟩ := hz
 have h := Any8.slices_Grow_grow growS i0 (.string ⟨#[]⟩) hi0 hz0 (by omega) none 0 0 n [] w (Nat.le_refl _) (by omega) (by rw [hz2]; omega) (by omega) (by simp) (fun _ => rfl) (fun a h => by cases h)
 refine h.mono ?_
 rintro e w' ⟨rfl, rfl⟩
 have hge := grownCap_ge w (0 + n) 0 (growS_ren.t 25)
 have hmx := grownCap_le_maxLen w (0 + n) 0 (growS_ren.t 25) (by unfold maxLen; omega)
 generalize grownCap w (0 + n) 0 (growS_ren.t 25) = G at hge hmx ⊢
 have hsz : (#[] ++ Builtin.zeroCells (Value.string { data := #[] }).cells (0 + n - 0) ++ Builtin.zeroCells (Value.string { data := #[] }).cells (G - (0 + n))).size = G * 1 := by
  rw [Array.size_append, Array.size_append, size_zeroCells, size_zeroCells, show (Value.string { data := #[] }).cells.size = 1 from rfl]
  simp
  omega
 generalize (#[] ++ Builtin.zeroCells (Value.string { data := #[] }).cells (0 + n - 0) ++ Builtin.zeroCells (Value.string { data := #[] }).cells (G - (0 + n))) = cur at hsz ⊢
 refine ⟨_, rfl, ⟨fun _ _ => trivial, [], ⟨rfl, .inr ⟨w.heap.size, G, cur, rfl, Nat.le_refl _, ?_, Nat.zero_le _, hmx, hsz, by simp⟩⟩, ⟨rfl, fun j p h => by cases h⟩⟩, below_alloc (below_drew1 (Below.refl _ _)) _⟩
 first
  | exact Array.getElem?_push_size
  | (show (w.heap.push _)[w.heap.size]? = _; exact Array.getElem?_push_size)
set_option maxHeartbeats 8000000 in
set_option maxRecDepth 100000 in
theorem slices_Concat.calls (A : Option Addr) (c : Nat) (ls : List (List ByteArray)) (w : World) (hr : Kd.C (Kd.slice 9 Kd.string) w A ls.length ls) (hc : ls.length ≤ c) (hn : ls.length ≤ 4398046511104) (ht : ls.flatten.length ≤ 4398046511104) :
  Calls Try.prog 33 #[.slice A ls.length c] w fun e w' => ∃ v0_ : Value, e = .returned v0_ ∧ Kd.R Kd.string 9 w' w.heap.size (fun _ => True) v0_ ls.flatten ∧ Below w.heap.size w w' := by
 have HR := Aside0.mk hr
 have HC := Aside0.mk hc
 clear hr hc
 go_enter Try.func33, Try.ntmps33
 go_wp2
 go_loopg [3, 11] ls.length (fun kq v3 v11 w' => ∃ (s x : Int) (i : Nat), v3 = .int .i64 s ∧ v11 = .int .i64 x ∧ Aside0 (s = ((ls.take i).flatten.length : Int) ∧ x = (i : Int) ∧ i ≤ ls.length ∧ kq + i = ls.length) ∧ Drawn0 w w')
 case atStart => exact ⟨0, 0, 0, rfl, rfl, ⟨by simp, rfl, Nat.zero_le _, rfl⟩, by repeat (first | exact Drawn0.refl _ | apply Drawn0.step)⟩
 case round =>
  obtain ⟨s, x, i, rfl, rfl, HI, ⟨m1, rfl⟩⟩ := hrel
  by_cases c1 : x < (ls.length : Int)
  ·have c1b : decide (x < (ls.length : Int)) = true := decide_eq_true c1
   have p101 : (0 : Int) ≤ x := by have := HI.out; omega
   have q101 : x < (ls.length : Int) := c1
   clear c1
   obtain ⟨ad, A0, c0, e1, hx, hl, hR0⟩ := at_rows HR.out x p101 q101
   cases e1
   have HI2 : Aside0 (wrap64 (s + ((rd_rows ls x).length : Int)) = ((ls.take (i + 1)).flatten.length : Int) ∧ wrap64 (x + 1) = ((i + 1 : Nat) : Int) ∧ i + 1 ≤ ls.length ∧ (ls.length - (i + 1)) + (i + 1) = ls.length) := by
    obtain ⟨h1, h2, h3, h4⟩ := HI.out
    have hi : i < ls.length := by omega
    have hle := concat_le ls (i + 1)
    have hlen : (ls.take (i + 1)).flatten.length = (ls.take i).flatten.length + (rd_rows ls x).length := by rw [concat_succ ls i hi, List.length_append, h2]
    exact ⟨⟨by unfold wrap64; omega, by unfold wrap64; omega, by omega, by omega⟩⟩
   have hneg : decide (wrap64 (s + ((rd_rows ls x).length : Int)) < 0) = false := decide_eq_false (by have := HI2.out.1; omega)
   clear hR0 hl
   replace p101 := eq_true p101
   replace q101 := eq_true q101
   go_wp2
   go_roundg (ls.length - (i + 1))
   case measure => have := HI.out; have := HI2.out; omega
   case rel => exact ⟨_, _, i + 1, (by first | rfl | (simp; done) | (simp [*]; done)), (by first | rfl | (simp; done) | (simp [*]; done)), HI2, by repeat (first | exact Drawn0.refl _ | apply Drawn0.step)⟩
  ·have c1b : decide (x < (ls.length : Int)) = false := decide_eq_false c1
   obtain ⟨N, hN⟩ : ∃ N, N = ls.flatten.length := ⟨_, rfl⟩
   rw [← hN] at ht
   have hs : s = (N : Int) := by
    obtain ⟨h1, h2, h3, h4⟩ := HI.out
    obtain rfl : i = ls.length := by omega
    rw [h1, List.take_length, hN]
   subst hs
   have HN := Aside0.mk hN
   clear HI c1 hN
   go_wp2_with (first | (go_at_call 66; refine (grow_R _ _ ht).mono ?_; rintro e w1 ⟨v6, rfl, hO, hB⟩; have HO := Aside0.mk hO; have HB := Aside0.mk (Below.trans (pw_below_drewN (Below.refl w.heap.size w) m1) hB); clear hO hB))
   go_loopg [6, 27] ls.length (fun kq v6 v27 w' => ∃ (x : Int) (i : Nat), v27 = .int .i64 x ∧ Aside0 (x = (i : Int) ∧ i ≤ ls.length ∧ kq + i = ls.length) ∧ Aside0 (Kd.R Kd.string 9 w' w.heap.size (fun _ => True) v6 (ls.take i).flatten) ∧ Aside0 (Below w.heap.size w w'))
   case atStart => exact ⟨0, 0, rfl, ⟨rfl, Nat.zero_le _, rfl⟩, ⟨by (with_reducible repeat (first | apply Kd.R_alloc | apply Kd.R_drewN | apply Kd.R_drew)); exact HO.out⟩, ⟨by repeat (first | (with_reducible first | exact HB.out | apply below_alloc | apply pw_below_drewN | apply below_drew1) | exact HB.out)⟩⟩
   case round =>
    clear HO HB c1b
    obtain ⟨x, i, rfl, HI, HO, HB⟩ := hrel
    by_cases c1 : x < (ls.length : Int)
    ·have c1b : decide (x < (ls.length : Int)) = true := decide_eq_true c1
     have p101 : (0 : Int) ≤ x := by have := HI.out; omega
     have q101 : x < (ls.length : Int) := c1
     clear c1
     obtain ⟨ad, A0, c0, e1, hx, hl, hR0⟩ := at_rows (Kd.C_below HR.out HB.out) x p101 q101
     cases e1
     have HI2 : Aside0 (((ls.take i).flatten.length + (rd_rows ls x).length) * 16 ≤ 140737488355328 ∧ (ls.take i).flatten ++ rd_rows ls x = (ls.take (i + 1)).flatten ∧ wrap64 (x + 1) = ((i + 1 : Nat) : Int) ∧ i + 1 ≤ ls.length ∧ (ls.length - (i + 1)) + (i + 1) = ls.length) := by
      obtain ⟨h2, h3, h4⟩ := HI.out
      have hi : i < ls.length := by omega
      have hle := concat_le ls (i + 1)
      have hcs := concat_succ ls i hi
      rw [← h2] at hcs
      have hlen : (ls.take (i + 1)).flatten.length = (ls.take i).flatten.length + (rd_rows ls x).length := by rw [hcs, List.length_append]
      have hN := HN.out
      exact ⟨by omega, hcs.symm, by unfold wrap64; omega, by omega, by omega⟩
     have HR1 := Aside0.mk hR0
     clear hR0 hl
     replace p101 := eq_true p101
     replace q101 := eq_true q101
     go_wp2_with (first | ((with_reducible refine gate_builtin (b := .append) (xs := #[.tmp 31, .tmp 32]) rfl ?_); at_builtin; refine Kd.R_append_rows Kd.string (w0 := w) w.heap.size rfl (.tmp 31) (.tmp 32) 22 9 (.string ⟨#[]⟩) 16 rfl Try.underlying22 uinfo9 rfl (by decide) (by omega) u6 (ls.take i).flatten (rd_rows ls x) _ _ _ (fun _ => True) (fun _ => False) rfl rfl ?aO ?aR (fun _ _ h => h) (fun _ h => h.elim) ?aF ?aB ?aS ?aL ?_; (case aO => (with_reducible repeat (first | apply Kd.R_alloc | apply Kd.R_drewN | apply Kd.R_drew)); exact HO.out); (case aR => exact HR1.out); (case aF => exact fun _ _ => trivial); (case aB => repeat (first | (with_reducible first | exact HB.out | apply below_alloc | apply pw_below_drewN | apply below_drew1) | exact HB.out)); (case aS => exact HB.out.size); (case aL => exact HI2.out.1); intro v1 w1 hO1 hB1 hg1 hat1; have HO1 := Aside0.mk hO1; have HB1 := Aside0.mk hB1; clear hO1 hB1 hg1 hat1))
     go_roundg (ls.length - (i + 1))
     case measure => have := HI.out; have := HI2.out; omega
     case rel => exact ⟨_, i + 1, (by first | rfl | (simp; done) | (simp [*]; done)), ⟨HI2.out.2.2⟩, ⟨by rw [← HI2.out.2.1]; (with_reducible repeat (first | apply Kd.R_alloc | apply Kd.R_drewN | apply Kd.R_drew)); exact HO1.out⟩, ⟨by repeat (first | (with_reducible first | exact HB1.out | apply below_alloc | apply pw_below_drewN | apply below_drew1) | exact HB1.out)⟩⟩
    ·have c1b : decide (x < (ls.length : Int)) = false := decide_eq_false c1
     have e1 : (ls.take i).flatten = ls.flatten := by
      obtain ⟨h2, h3, h4⟩ := HI.out
      obtain rfl : i = ls.length := by omega
      rw [List.take_length]
     rw [e1] at HO
     clear HI c1
     go_wp2
     go_ret
     exact ⟨_, rfl, by (with_reducible repeat (first | apply Kd.R_alloc | apply Kd.R_drewN | apply Kd.R_drew)); exact HO.out, by repeat (first | (with_reducible first | exact HB.out | apply below_alloc | apply pw_below_drewN | apply below_drew1) | exact HB.out)⟩
theorem uses_cells {gb : Nat} {v0 v1 v2 v3 v4 : Value} {w : World} (h : w.heap[gb]? = some (.cells #[v0, v1, v2, v3, v4] 36 (0, 0))) :
  w.cell? ⟨gb, 0, none⟩ = some v0 ∧ w.cell? ⟨gb, 1, none⟩ = some v1 ∧ w.cell? ⟨gb, 2, none⟩ = some v2 ∧ w.cell? ⟨gb, 3, none⟩ = some v3 ∧ w.cell? ⟨gb, 4, none⟩ = some v4 := by
 simp [World.cell?, h]
theorem uses_row {W : World} {g : Nat} {A B D : Option Addr} {a b d : List ByteArray} {ca cb cd : Nat} (h : W.heap[g]? = some (.cells #[.slice A a.length ca, .slice B b.length cb, .slice D d.length cd] 22 (0, 0))) (h1 : a.length ≤ ca) (h2 : b.length ≤ cb) (h3 : d.length ≤ cd) (k1 : Kd.C Kd.string W A a.length a) (k2 : Kd.C Kd.string W B b.length b) (k3 : Kd.C Kd.string W D d.length d) :
  Kd.C (Kd.slice 9 Kd.string) W (some ⟨g, 0, none⟩) [a, b, d].length [a, b, d] := by
 refine ⟨rfl, by simp, fun _ => ⟨_, rfl, fun j p hj => ?_⟩⟩
 match j, hj with
 | 0, hj => cases hj; exact ⟨_, rfl, ⟨A, ca, rfl, h1, k1⟩, fun i u hu => by match i, hu with | 0, hu => cases hu; simp [World.cell?, h, Addr.add]⟩
 | 1, hj => cases hj; exact ⟨_, rfl, ⟨B, cb, rfl, h2, k2⟩, fun i u hu => by match i, hu with | 0, hu => cases hu; simp [World.cell?, h, Addr.add, Kd.slice]⟩
 | 2, hj => cases hj; exact ⟨_, rfl, ⟨D, cd, rfl, h3, k3⟩, fun i u hu => by match i, hu with | 0, hu => cases hu; simp [World.cell?, h, Addr.add, Kd.slice]⟩
 | j + 3, hj => simp at hj
theorem uses_open {W : World} {base : Nat} {v : Value} {xs : List ByteArray} (h : Kd.R Kd.string 9 W base (fun _ => True) v xs) : ∃ A c, v = .slice A xs.length c ∧ xs.length ≤ c ∧ Kd.C Kd.string W A xs.length xs := by
 obtain ⟨A, c, e, hl, hf⟩ := Kd.R_V (base' := 0) h
 exact ⟨A, c, e, hl, Kd.F_now hf⟩
end Go.Proofs.Ytopicidanlienaa.UsesL

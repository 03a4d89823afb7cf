import Derived.Test.YtopicidanlienaaProg
import Derived.Below
import Derived.Deep.Draws
import Derived.Deep.AppendLies
import Derived.Maps.AppendAt
import Derived.OwnWalk
import Derived.Laws.BytesArg
import Derived.Laws.MakeOwn
import Derived.Laws.OwnMore
import Derived.Deep.OwnRows
import Derived.Tactics
import Derived.Lib.ConvBytes
import Derived.Laws.Slices
import Derived.WalkKit
import Derived.KernelRfl
import Derived.RowKit3
import Derived.Deep.LoopGhost
import Derived.Deep.QuietTactic
import Derived.BigQuiet
import Derived.WideLaws
import Derived.Deep.DeepCutAuto
import Derived.Deep.CutBlock
import Derived.Deep.RegionHeld3
import Derived.Laws.Rows
import Derived.Lib.AppendStr
import Derived.ArgAppend
import Derived.Laws.IdiomCopy
import Derived.OrdersHeld
import Derived.Laws.BitsLemmas
import Derived.RowKit
import Derived.WalkLawsBesides
import Derived.Test.YtopicidanlienaaShelf
import Derived.Test.YtopicidanlienaaWWords
import Derived.Test.YtopicidanlienaaWLast
import Derived.Test.YtopicidanlienaaWTab
import Derived.Test.YtopicidanlienaaWFour
import Derived.Test.YtopicidanlienaaWQPut
import Derived.Test.YtopicidanlienaaWApart
import Derived.Test.YtopicidanlienaaWArr
import Derived.Test.YtopicidanlienaaWZeros
import Derived.Test.YtopicidanlienaaWFoot
import Derived.Test.YtopicidanlienaaWKept
import Derived.Test.YtopicidanlienaaWShare
import Derived.Test.YtopicidanlienaaWN
import Derived.Test.YtopicidanlienaaWFootNe
import Derived.Test.YtopicidanlienaaWAt
import Derived.Test.YtopicidanlienaaWEqStruct
import Derived.Test.YtopicidanlienaaWRepsOne
import Derived.Test.YtopicidanlienaaWInv
import Derived.Test.YtopicidanlienaaWInvWords
import Derived.Test.YtopicidanlienaaWGuard
import Derived.Test.YtopicidanlienaaWNEv
import Derived.Test.YtopicidanlienaaWMore
import Derived.Deep.RegionHeld3
import Derived.Test.YtopicidanlienaaShelf
import Derived.Lib.OwnBridge
import Derived.Sort.OwnSorted
namespace Go.Proofs.Ytopicidanlienaa.RisingL
open Go.RowKit Go.Shelf Go.Proofs.YtopicidanlienaaW.PrintWords Go.Proofs.YtopicidanlienaaW.PrintLast Go.Proofs.YtopicidanlienaaW.PrintMore
attribute [local go_sem] max2_int min2_int max_two min_two max_three min_three max_four min_four
set_option linter.unusedVariables false
set_option linter.unusedSimpArgs false
def rising.srt (l : List ByteArray) : List (List UInt8) := Lib.compact ((l.map (·.data.toList)).mergeSort fun x y => decide (x ≤ y))
def rising.f (l0 : List ByteArray) : Option (List ByteArray) := if l0.length ≤ 140737488355328 then some ((rising.srt l0).map fun b => (⟨b.toArray⟩ : ByteArray)) else none
theorem rising.cells (l : List ByteArray) {w : World} {b : Nat} {ok : Nat → Prop} {inner : List Value} (h : Reps (Kd.string.M w b ok) Kd.string.sz l inner) : inner = l.map Value.string := by
 have h1 : inner.length = l.length := by have := h.1; rw [show Kd.string.sz = 1 from rfl, Nat.mul_one] at this; exact this
 apply List.ext_getElem?
 intro j
 rw [List.getElem?_map]
 cases e : l[j]? with
 | none => exact List.getElem?_eq_none (by have := List.getElem?_eq_none_iff.1 e; omega)
 | some p =>
  have h2 : (inner.drop (j * 1)).take 1 = [Value.string p] := h.2 j p e
  have h3 := congrArg (fun x : List Value => x[0]?) h2
  simp only [List.getElem?_take, List.getElem?_drop, Nat.mul_one, Nat.add_zero, List.getElem?_cons_zero] at h3
  simpa using h3
theorem rising.reps (l : List ByteArray) (w : World) (b : Nat) (ok : Nat → Prop) : Reps (Kd.string.M w b ok) Kd.string.sz l (l.map Value.string) := by
 refine ⟨by rw [show Kd.string.sz = 1 from rfl, List.length_map, Nat.mul_one], fun j p h => ?_⟩
 show ((l.map Value.string).drop (j * 1)).take 1 = [Value.string p]
 have e : (l.map Value.string)[j]? = some (Value.string p) := by rw [List.getElem?_map, h]; rfl
 obtain ⟨hj, e⟩ := List.getElem?_eq_some_iff.1 e
 rw [Nat.mul_one, List.drop_eq_getElem_cons hj, List.take_succ_cons, List.take_zero, e]
set_option maxHeartbeats 1000000 in
theorem rising.calls (P0_ : Nat → Prop) (u9000_ : Value) (l0 : List ByteArray) (r : List ByteArray) (w0 w : World) (hB : Below w0.heap.size w0 w) (ho0 : Kd.R Kd.string 9 w w0.heap.size P0_ u9000_ l0) (h : rising.f l0 = some r) :
  Calls Try.prog 32 #[u9000_] w fun e w' => ∃ v0_ : Value, e = .returned (v0_) ∧ Kd.R Kd.string 9 w' w0.heap.size (fun k_ => (P0_ k_ ∨ w.heap.size ≤ k_)) v0_ r ∧ Below w0.heap.size w0 w' ∧ Kept w w' (fun k_ => P0_ k_) := by
 unfold rising.f at h
 by_cases c : l0.length ≤ 140737488355328
 case neg => rw [if_neg c] at h; cases h
 rw [if_pos c] at h
 obtain rfl := Option.some.inj h
 obtain ⟨hP, inner, ho, hrep⟩ := ho0
 have hin := rising.cells l0 hrep
 subst hin
 have hempty : l0 = [] → rising.srt l0 = [] := by rintro rfl; unfold rising.srt; rw [List.map_nil, List.mergeSort_nil]; rfl
 by_cases hn0 : l0 = []
 ·have hr : (rising.srt l0).map (fun b => (⟨b.toArray⟩ : ByteArray)) = [] := by rw [hempty hn0]; rfl
  rw [hr]
  subst hn0
  have hR : Kd.R Kd.string 9 w w0.heap.size (fun k_ => (P0_ k_ ∨ w.heap.size ≤ k_)) u9000_ [] := ⟨fun k hk => .inl (hP k hk), _, ho, rising.reps [] _ _ _⟩
  obtain ⟨A, cc, rfl⟩ : ∃ A cc, u9000_ = .slice A 0 cc := by
   rcases ho.2 with ⟨hv, _⟩ | ⟨g, cap, cur, hv, _⟩
   ·exact ⟨_, _, hv⟩
   ·exact ⟨_, _, hv⟩
  clear ho hrep hP
  go_enter Try.func32, Try.ntmps32
  go_wp2_with (first
   | (go_at_call 64; refine (Try.slices_Sort_string_none A cc _).mono ?_; rintro e w' ⟨rfl, rfl⟩)
   | (go_at_call 65; refine (Try.slices_Compact_string_empty A cc _).mono ?_; rintro e w' ⟨rfl, rfl⟩))
  go_ret
  exact ⟨_, rfl, hR, hB, Kept.refl _ _⟩
 ·have hpos : 0 < l0.length := List.length_pos_iff.2 hn0
  rcases ho.2 with ⟨_, hz⟩ | ⟨g, cap, cur, rfl, hb, hg, hnc, hm, hs, ht⟩
  ·omega
  have hglt : g < w.heap.size := (Array.getElem?_eq_some_iff.1 hg).1
  have hlen : (l0.map (·.data.toList)).length = l0.length := List.length_map _
  have ht' : cur.toList.take (l0.map (·.data.toList)).length = (l0.map (·.data.toList)).map encStr := by rw [Lib.map_encStr, hlen, ← ht]; show _ = List.take (l0.length * 1) cur.toList; rw [Nat.mul_one]
  have hH := holds_of_block hg ht'
  have hown1 := fun (n : Nat) (os : Array Obj) => ownsRow_sorted (w := w) (n := n) (os := os) (ts := (l0.map (·.data.toList)).mergeSort fun x y => decide (x ≤ y)) (ss := l0.map (·.data.toList)) (by simp) hb hg (by rw [hlen]; exact hnc) hm hs
  have hgr1 := fun (n : Nat) (os : Array Obj) => grownBy_sorted (w := w) (g := g) (n := n) (os := os) ((l0.map (·.data.toList)).mergeSort fun x y => decide (x ≤ y)).toArray
  have hcS := Try.slices_Sort_string g 0 cap (l0.map (·.data.toList)) w hH hglt (by rw [hlen]; omega)
  rw [hlen] at hcS hown1
  generalize hts : ((l0.map (·.data.toList)).mergeSort fun x y => decide (x ≤ y)) = ts at hcS hown1 hgr1
  have htl : ts.length = l0.length := by rw [← hts]; simp
  have hsrt : rising.srt l0 = Lib.compact ts := by unfold rising.srt; rw [hts]
  rw [hsrt]
  have hcl : (Lib.compact ts).length ≤ ts.length := Lib.compact_length_le ts
  clear hts hH ht' ht hsrt hempty hrep
  go_enter Try.func32, Try.ntmps32
  go_wp2_with (go_at_call 64; refine hcS.mono ?_; rintro e w1 ⟨rfl, n, os, hw1⟩; have ho1 := hown1 n os; have hg1 := hgr1 n os; rw [← hw1] at ho1 hg1; clear hw1)
  clear hown1 hgr1 hcS
  obtain ⟨g', cap', hv, hb', hlt', hnc', hm', hzl, hH1⟩ := Lib.holds_of_ownsRow ho1 (by simp)
  obtain ⟨rfl, rfl⟩ : g = g' ∧ cap = cap' := by
   injection hv with a1 a2 a3
   injection a1 with a1
   injection a1 with a1
   exact ⟨a1, a3⟩
  have hcC := Try.slices_Compact_string g 0 cap ts w1 hH1 (by omega) (by omega)
  rw [htl] at hcC
  go_wp2_with (go_at_call 65; refine hcC.mono ?_; rintro e w2 ⟨rfl, q, rfl⟩)
  go_ret
  have hyl : (Lib.compact ts ++ List.replicate (l0.length - (Lib.compact ts).length) ([] : List UInt8)).length = l0.length := by rw [List.length_append, List.length_replicate]; omega
  have ho2 := Lib.ownsRow_putRow (q := q) (k := (Lib.compact ts).length) ho1 hyl (by omega)
  rw [List.take_left] at ho2
  have hbel : Below w0.heap.size w0 w1 := hB.grown hg1 hB.size (by intro k hk; obtain rfl := Option.some.inj hk; exact hb)
  refine ⟨_, rfl, ?_, Lib.below_putRow hbel hb, ?_⟩
  ·refine ⟨fun k hk => .inl (hP k hk), (Lib.compact ts).map encStr, ?_, ?_⟩
   ·rw [List.length_map]; exact ho2
   ·have := rising.reps ((Lib.compact ts).map fun b => (⟨b.toArray⟩ : ByteArray)) (Sort.putRow encStr (Sort.ahead w1 q) g 0 (Lib.compact ts ++ List.replicate (l0.length - (Lib.compact ts).length) ([] : List UInt8)).toArray) w0.heap.size (fun k => (P0_ k ∨ w.heap.size ≤ k) ∧ some k ≠ (Value.slice (some ⟨g, 0, none⟩) (Lib.compact ts).length cap).ownBlock)
    rw [List.map_map] at this
    exact this
  ·have hk1 : Kept w w1 (fun k_ => P0_ k_) := Kept.of_grown hg1 (Kept.refl _ _) (fun k hk => .inl (hP k hk))
   refine ⟨by have := hk1.1; simpa [Sort.putRow, Sort.mapBlock, Sort.ahead] using this, fun i hi hni => ?_⟩
   have hne : g ≠ i := by rintro rfl; exact hni (hP _ rfl)
   rw [← hk1.2 i hi hni]
   simp [Sort.putRow, Sort.mapBlock, Sort.ahead, Array.getElem?_modify, hne]

end Go.Proofs.Ytopicidanlienaa.RisingL

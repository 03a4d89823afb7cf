-- Out of the kit's print, with contracts of mine among it (myprint.py).
import Derived.Test.YtnakdhpefkllmaaDoorPFnExactKnownx0
import Derived.Test.YtnakdhpefkllmaaDoorPFnExactKnownx2
import Derived.Test.YtnakdhpefkllmaaDoorPFnExactKnownx3
namespace Go.Proofs.YtnakdhpefkllmaaDoor.PFnExactKnown
open Go.RowKit Go.Proofs.YtnakdhpefkllmaaDoorW.PrintWords Go.Proofs.YtnakdhpefkllmaaDoorW.PrintLast Go.Proofs.YtnakdhpefkllmaaDoorW.PrintMore
attribute [local go_sem] max2_int min2_int max_two min_two max_three min_three max_four min_four   -- for this text's walks alone
set_option linter.unusedVariables false
set_option linter.unusedSimpArgs false

/-! ### spec_l1In: function 34 -/
def spec_l1In.f (a0 : Int) (a1 : Int) (a2 : Int) : Option (Bool) := if a0 ≥ a1 then (some (decide (a0 ≤ a2))) else (some false)
set_option maxHeartbeats 8000000 in
set_option maxRecDepth 100000 in
theorem spec_l1In.calls (a0 : Int) (a1 : Int) (a2 : Int) (r : Bool) (w : World) (h : spec_l1In.f a0 a1 a2 = some r) :
  Calls Tryd.prog 34 #[.int .i64 a0, .int .i64 a1, .int .i64 a2] w fun e w' => e = .returned (.bool r) ∧ Drawn0 w w' := by
 try unfold spec_l1In.f at h
 have H := h
 clear h
 by_cases c4 : a0 ≥ a1
 rw [if_pos c4] at H
 have c4b0 : decide (a1 ≤ a0) = true := decide_eq_true c4
 clear c4
 obtain rfl := Option.some.inj H
 rotate_left
 rw [if_neg c4] at H
 have c4b0 : decide (a1 ≤ a0) = false := decide_eq_false c4
 clear c4
 obtain rfl := Option.some.inj H
 rotate_left
 all_goals
  go_enter Tryd.func34, Tryd.ntmps34
  repeat (go_wp2; first | go_quiet (fail) | (go_ret; exact ⟨zt10, zt37⟩))

/-! ### spec_l17Known: function 15 (a contract of mine) -/
def spec_l17Known.okI (l : List Int) (i : Int) : Prop := 0 ≤ i ∧ i < l.length
instance (l : List Int) (i : Int) : Decidable (spec_l17Known.okI l i) := inferInstanceAs (Decidable (_ ∧ _))
def spec_l17Known.val (k a b : Int) : Int := if k = 7 then wrap64 (a - b) else if k = 8 then wrap64 (a * b) else wrap64 (a + b)
def spec_l17Known.inN (a : Int) : Bool := decide (-1000000 ≤ a ∧ a ≤ 1000000)
def spec_l17Known.st (x : S75) (i : Int) (n : List Int) (b : List Bool) : Option (List Int × List Bool) :=
 if x.f0 = 1 then some (n.set i.toNat x.f1, b.set i.toNat true)
 else if 6 ≤ x.f0 ∧ x.f0 ≤ 8 then (if spec_l17Known.okI n x.f4 ∧ spec_l17Known.okI n x.f5 then
  (if rdOf false b x.f4 = true then (if rdOf false b x.f5 = true then (if spec_l17Known.inN (rd n x.f4) = true then (if spec_l17Known.inN (rd n x.f5) = true then
   (if spec_l17Known.inN (spec_l17Known.val x.f0 (rd n x.f4) (rd n x.f5)) = true then some (n.set i.toNat (spec_l17Known.val x.f0 (rd n x.f4) (rd n x.f5)), b.set i.toNat true) else some (n, b)) else some (n, b)) else some (n, b)) else some (n, b)) else some (n, b)) else none)
 else some (n, b)
def spec_l17Known.go : List S75 → Int → List Int → List Bool → Option (List Int × List Bool)
 | [], _, n, b => some (n, b)
 | x :: r, i, n, b => (spec_l17Known.st x i n b).bind fun p => spec_l17Known.go r (i + 1) p.1 p.2
def spec_l17Known.f (l0_0 : List ByteArray) (l0_1 : List S78) (l0_2 : List S80) (l0_3 : List S77) (l0_4 : List S75) : Option (List Int × List Bool) := if l0_4.length ≤ 4194304 then spec_l17Known.go l0_4 0 (List.replicate l0_4.length 0) (List.replicate l0_4.length false) else none
theorem spec_l17Known.inf (a : Int) : spec_l1In.f a (-1000000) 1000000 = some (spec_l17Known.inN a) := by
 unfold spec_l1In.f spec_l17Known.inN
 by_cases c : a ≥ -1000000
 ·rw [if_pos c]; congr 1; exact decide_eq_decide.2 ⟨fun h => ⟨c, h⟩, fun h => h.2⟩
 ·rw [if_neg c]; congr 1; exact (decide_eq_false (fun h => c h.1)).symm
theorem spec_l17Known.twf (a : Int) : spec_l5Two.f a = some (decide (6 ≤ a ∧ a ≤ 8)) := by
 unfold spec_l5Two.f
 by_cases c6 : a = 6
 ·rw [if_pos c6]; congr 1; exact (decide_eq_true (by omega)).symm
 rw [if_neg c6]
 by_cases c7 : a = 7
 ·rw [if_pos c7]; congr 1; exact (decide_eq_true (by omega)).symm
 rw [if_neg c7]; congr 1
 by_cases c8 : a = 8
 ·rw [beq_iff_eq.2 c8]; exact (decide_eq_true (by omega)).symm
 ·rw [beq_eq_false_iff_ne.2 c8]; exact (decide_eq_false (by omega)).symm
theorem spec_l17Known.six {W : World} {gb T : Nat} {a b c d e f u v z y x t : Value} (h : W.heap[gb]? = some (.cells #[a, b, c, d, e, f] T (0, 0))) : ((((((W.setCell ⟨gb, 0, none⟩ u).setCell ⟨gb, 1, none⟩ v).setCell ⟨gb, 2, none⟩ z).setCell ⟨gb, 3, none⟩ y).setCell ⟨gb, 4, none⟩ x).setCell ⟨gb, 5, none⟩ t).heap[gb]? = some (.cells #[u, v, z, y, x, t] T (0, 0)) := by
 simp [World.setCell, Array.getElem?_modify, h]
theorem spec_l17Known.tne {W : World} {a b s t : Nat} {x y : Array Value} (h : W.heap[a]? = some (.cells x s (0, 0))) (k : W.heap[b]? = some (.cells y t (0, 0))) (hst : s ≠ t) : a ≠ b := by
 rintro rfl
 rw [h] at k
 injection k with k
 injection k with _ k
 exact hst k
set_option maxHeartbeats 16000000 in
set_option maxRecDepth 100000 in
theorem spec_l17Known.calls (A0_0 : Option Addr) (c0_0 : Nat) (l0_0 : List (ByteArray)) (A0_1 : Option Addr) (c0_1 : Nat) (l0_1 : List (S78)) (A0_2 : Option Addr) (c0_2 : Nat) (l0_2 : List (S80)) (A0_3 : Option Addr) (c0_3 : Nat) (l0_3 : List (S77)) (A0_4 : Option Addr) (c0_4 : Nat) (l0_4 : List (S75)) (r1 : List Int) (r2 : List Bool) (w : World) (hr0_0 : Kd.C Kd.string w A0_0 l0_0.length l0_0) (hc0_0 : l0_0.length ≤ c0_0) (hr0_1 : Kd.C k78 w A0_1 l0_1.length l0_1) (hc0_1 : l0_1.length ≤ c0_1) (hr0_2 : Kd.C k80 w A0_2 l0_2.length l0_2) (hc0_2 : l0_2.length ≤ c0_2) (hr0_3 : Kd.C k77 w A0_3 l0_3.length l0_3) (hc0_3 : l0_3.length ≤ c0_3) (hr0_4 : Kd.C k75 w A0_4 l0_4.length l0_4) (hc0_4 : l0_4.length ≤ c0_4) (h : spec_l17Known.f l0_0 l0_1 l0_2 l0_3 l0_4 = some (r1, r2)) :
  Calls Tryd.prog 15 #[.agg #[.slice A0_0 l0_0.length c0_0, .slice A0_1 l0_1.length c0_1, .slice A0_2 l0_2.length c0_2, .slice A0_3 l0_3.length c0_3, .slice A0_4 l0_4.length c0_4]] w fun e w' => ∃ v0_ v1_ : Value, e = .returned (.tuple #[v0_, v1_]) ∧ Kd.R (Kd.int .i64) 3 w' w.heap.size (fun _ => True) v0_ r1 ∧ Kd.R Kd.bool 4 w' w.heap.size (fun _ => True) v1_ r2 ∧ Below w.heap.size w w' := by
 unfold spec_l17Known.f at h
 by_cases hl4 : l0_4.length ≤ 4194304
 case neg => rw [if_neg hl4] at h; cases h
 rw [if_pos hl4] at h
 have HGG := Aside0.mk h
 clear h
 have HR0 := Aside0.mk hr0_0
 have HC0 := Aside0.mk hc0_0
 have HR1 := Aside0.mk hr0_1
 have HC1 := Aside0.mk hc0_1
 have HR2 := Aside0.mk hr0_2
 have HC2 := Aside0.mk hc0_2
 have HR3 := Aside0.mk hr0_3
 have HC3 := Aside0.mk hc0_3
 have HR4 := Aside0.mk hr0_4
 have HC4 := Aside0.mk hc0_4
 clear hr0_0 hc0_0 hr0_1 hc0_1 hr0_2 hc0_2 hr0_3 hc0_3 hr0_4 hc0_4
 have n0 : (0 : Int) ≤ (l0_4.length : Int) := by omega
 go_enter Tryd.func15, Tryd.ntmps15
 go_upto_region 3 with (first
  | ((with_reducible refine gate_dst (N := 1) rfl ?_); refine box_event ?hg (N := 1) ?hd (cs := #[.slice A0_0 l0_0.length c0_0, .slice A0_1 l0_1.length c0_1, .slice A0_2 l0_2.length c0_2, .slice A0_3 l0_3.length c0_3, .slice A0_4 l0_4.length c0_4]) (t := 37) ?hr ?_; (case hd => rfl); (case hg => rfl); (case hr => first | (go_simp; done) | (go_simp; rfl)); intro b1 hg w1 hbox hb; have HB := Aside0.mk hb; have B1 := Aside0.mk hbox; have y0 := (blk_cell hbox 0).trans rfl; have y1 := (blk_cell hbox 1).trans rfl; have y2 := (blk_cell hbox 2).trans rfl; have y3 := (blk_cell hbox 3).trans rfl; have y4 := (blk_cell hbox 4).trans rfl; clear hb hbox hg)
  | ((with_reducible refine gate_dst (N := 12) rfl ?_); refine Kd.R_make (Kd.int .i64) _ 3 rfl (N := 12) rfl 47 _ _ rfl (l0_4.length : Int) rfl rfl Tryd.underlying47 (.int .i64 0) 8 info3 rfl (by decide) (by omega) 0 (ok := fun _ => True) (okp := fun _ => True) rfl (fun _ hk => hk) trivial n0 (by rw [Int.toNat_natCast]; omega) (Below.refl _ _) (Nat.le_refl _) ?_; intro v4 wm ho hb hg_ hnew_; have HN := Aside0.mk (Kd.R_lower ho (below_size HB.out)); replace HB := Aside0.mk (below_step HB.out hb); have B1' := Aside0.mk (blk_below B1.out hb); clear B1; have B1 := B1'; clear B1' ho hb hg_ hnew_ y0 y1 y2 y3 y4; have y0 := (blk_cell B1.out 0).trans rfl; have y1 := (blk_cell B1.out 1).trans rfl; have y2 := (blk_cell B1.out 2).trans rfl; have y3 := (blk_cell B1.out 3).trans rfl; have y4 := (blk_cell B1.out 4).trans rfl)
  | ((with_reducible refine gate_dst (N := 16) rfl ?_); refine Kd.R_make Kd.bool _ 4 rfl (N := 16) rfl 48 _ _ rfl (l0_4.length : Int) rfl rfl Tryd.underlying48 (.bool false) 1 info4 rfl (by decide) (by omega) false (ok := fun _ => True) (okp := fun _ => True) rfl (fun _ hk => hk) trivial n0 (by rw [Int.toNat_natCast]; omega) (Below.refl _ _) (Nat.le_refl _) ?_; intro v5 wm ho hb hg_ hnew_; have HV := Aside0.mk (Kd.R_lower ho (below_size HB.out)); replace HN := Aside0.mk (Kd.R_below HN.out hb); replace HB := Aside0.mk (below_step HB.out hb); have B1' := Aside0.mk (blk_below B1.out hb); clear B1; have B1 := B1'; clear B1' ho hb hg_ hnew_ y0 y1 y2 y3 y4))
 obtain ⟨A4, c4, hv4, hc4, _⟩ := Kd.R_reads HN.out
 obtain ⟨A5, c5, hv5, hc5, _⟩ := Kd.R_reads HV.out
 rw [List.length_replicate, Int.toNat_natCast] at hv4 hc4 hv5 hc5
 subst hv4 hv5
 have hN : (List.replicate (l0_4.length : Int).toNat (0 : Int)) = List.replicate l0_4.length 0 := by rw [Int.toNat_natCast]
 have hN2 : (List.replicate (l0_4.length : Int).toNat false) = List.replicate l0_4.length false := by rw [Int.toNat_natCast]
 rw [hN] at HN
 rw [hN2] at HV
 clear hN hN2
 go_wp2
 go_loopg [6, 7, 8] l0_4.length (fun gg s6 _ _ wr => ∃ (i : Nat) (n : List Int) (b : List Bool), s6 = .int .i64 i ∧ Aside0 (i ≤ l0_4.length ∧ l0_4.length - i ≤ gg) ∧ Aside0 (n.length = l0_4.length ∧ b.length = l0_4.length) ∧ Aside0 (spec_l17Known.go (l0_4.drop i) i n b = some (r1, r2)) ∧ Aside0 (Kd.R (Kd.int .i64) 3 wr w.heap.size (fun _ => True) (.slice A4 l0_4.length c4) n) ∧ Aside0 (Kd.R Kd.bool 4 wr w.heap.size (fun _ => True) (.slice A5 l0_4.length c5) b) ∧ Aside0 (wr.heap[b1]? = some (.cells #[.slice A0_0 l0_0.length c0_0, .slice A0_1 l0_1.length c0_1, .slice A0_2 l0_2.length c0_2, .slice A0_3 l0_3.length c0_3, .slice A0_4 l0_4.length c0_4] 37 (0, 0))) ∧ Aside0 (Below w.heap.size w wr))
 case atStart => exact ⟨0, _, _, rfl, ⟨by omega, by omega⟩, ⟨List.length_replicate, List.length_replicate⟩, HGG, HN, HV, B1, HB⟩
 case round =>
  clear HN HV B1 HB HGG
  obtain ⟨i, n, b, rfl, HI, HL, HT, HN, HV, B1, HB⟩ := hrel
  by_cases hlt : i < l0_4.length
  ·have p0 : (0 : Int) ≤ (i : Int) := by omega
   have p1 : (i : Int) < (l0_4.length : Int) := by omega
   obtain ⟨ad, ead, x0, x1, x2, x3, x4, x5⟩ := at_T75 HR4.out (i : Int) p0 p1
   cases ead
   rw [Int.toNat_natCast] at x0 x1 x2 x3 x4 x5
   replace x0 := (HB.out.cell (World.block_lt_of_cell? w _ x0)).trans x0
   replace x1 := (HB.out.cell (World.block_lt_of_cell? w _ x1)).trans x1
   replace x2 := (HB.out.cell (World.block_lt_of_cell? w _ x2)).trans x2
   replace x3 := (HB.out.cell (World.block_lt_of_cell? w _ x3)).trans x3
   replace x4 := (HB.out.cell (World.block_lt_of_cell? w _ x4)).trans x4
   replace x5 := (HB.out.cell (World.block_lt_of_cell? w _ x5)).trans x5
   have hdr : l0_4.drop i = rd_T75 l0_4 (i : Int) :: l0_4.drop (i + 1) := by
    rw [List.drop_eq_getElem_cons hlt]
    congr 1
    show _ = l0_4.getD _ _
    rw [Int.toNat_natCast, List.getD_eq_getElem?_getD, List.getElem?_eq_getElem hlt]; rfl
   rw [hdr] at HT
   clear hdr
   have y0 := (blk_cell B1.out 0).trans rfl
   have y1 := (blk_cell B1.out 1).trans rfl
   have y2 := (blk_cell B1.out 2).trans rfl
   have y3 := (blk_cell B1.out 3).trans rfl
   have y4 := (blk_cell B1.out 4).trans rfl
   go_upto_region 7 with (first
    | ((with_reducible refine gate_dst (N := 7) rfl ?_); refine box_event ?hg (N := 7) ?hd (cs := #[.int .i64 0, .int .i64 0, .string (⟨#[]⟩ : ByteArray), .string (⟨#[]⟩ : ByteArray), .int .i64 0, .int .i64 0]) (t := 75) ?hr ?_; (case hd => rfl); (case hg => rfl); (case hr => first | (go_simp; done) | (go_simp; rfl)); intro b5 hg wb hbox hb; have HNE := Aside0.mk (show b1 ≠ b5 by rw [hg]; exact Nat.ne_of_lt (blk_lt B1.out)); have HGE := Aside0.mk (show w.heap.size ≤ b5 by rw [hg]; exact below_size HB.out); have HB1 := Aside0.mk (below_step HB.out hb); have B11 := Aside0.mk (blk_below B1.out hb); have HN1 := Aside0.mk (Kd.R_below HN.out hb); have HV1 := Aside0.mk (Kd.R_below HV.out hb); have BX := Aside0.mk hbox; have z0 := (blk_cell hbox 0).trans rfl; have zf0 := blk_frozen hbox 0; have z1 := (blk_cell hbox 1).trans rfl; have zf1 := blk_frozen hbox 1; have z2 := (blk_cell hbox 2).trans rfl; have zf2 := blk_frozen hbox 2; have z3 := (blk_cell hbox 3).trans rfl; have zf3 := blk_frozen hbox 3; have z4 := (blk_cell hbox 4).trans rfl; have zf4 := blk_frozen hbox 4; have z5 := (blk_cell hbox 5).trans rfl; have zf5 := blk_frozen hbox 5; clear hb hbox hg))
   have HNX := Aside0.mk (show Kd.R (Kd.int .i64) 3 ((((((wb.setCell ⟨b5, 0, none⟩ (.int .i64 (rd_T75 l0_4 (i : Int)).f0)).setCell ⟨b5, 1, none⟩ (.int .i64 (rd_T75 l0_4 (i : Int)).f1)).setCell ⟨b5, 2, none⟩ (.string (rd_T75 l0_4 (i : Int)).f2)).setCell ⟨b5, 3, none⟩ (.string (rd_T75 l0_4 (i : Int)).f3)).setCell ⟨b5, 4, none⟩ (.int .i64 (rd_T75 l0_4 (i : Int)).f4)).setCell ⟨b5, 5, none⟩ (.int .i64 (rd_T75 l0_4 (i : Int)).f5)) w.heap.size (fun _ => True) (.slice A4 l0_4.length c4) n from Kd.R_mono (Kd.R_far (p := ⟨b5, 5, none⟩) (Kd.R_far (p := ⟨b5, 4, none⟩) (Kd.R_far (p := ⟨b5, 3, none⟩) (Kd.R_far (p := ⟨b5, 2, none⟩) (Kd.R_far (p := ⟨b5, 1, none⟩) (Kd.R_far (p := ⟨b5, 0, none⟩) (Kd.R_types HN1.out BX.out (by decide)) (fun _ hk => hk.2) _) (fun _ hk => hk.2) _) (fun _ hk => hk.2) _) (fun _ hk => hk.2) _) (fun _ hk => hk.2) _) (fun _ hk => hk.2) _) (fun _ _ => trivial))
   have HVX := Aside0.mk (show Kd.R Kd.bool 4 ((((((wb.setCell ⟨b5, 0, none⟩ (.int .i64 (rd_T75 l0_4 (i : Int)).f0)).setCell ⟨b5, 1, none⟩ (.int .i64 (rd_T75 l0_4 (i : Int)).f1)).setCell ⟨b5, 2, none⟩ (.string (rd_T75 l0_4 (i : Int)).f2)).setCell ⟨b5, 3, none⟩ (.string (rd_T75 l0_4 (i : Int)).f3)).setCell ⟨b5, 4, none⟩ (.int .i64 (rd_T75 l0_4 (i : Int)).f4)).setCell ⟨b5, 5, none⟩ (.int .i64 (rd_T75 l0_4 (i : Int)).f5)) w.heap.size (fun _ => True) (.slice A5 l0_4.length c5) b from Kd.R_mono (Kd.R_far (p := ⟨b5, 5, none⟩) (Kd.R_far (p := ⟨b5, 4, none⟩) (Kd.R_far (p := ⟨b5, 3, none⟩) (Kd.R_far (p := ⟨b5, 2, none⟩) (Kd.R_far (p := ⟨b5, 1, none⟩) (Kd.R_far (p := ⟨b5, 0, none⟩) (Kd.R_types HV1.out BX.out (by decide)) (fun _ hk => hk.2) _) (fun _ hk => hk.2) _) (fun _ hk => hk.2) _) (fun _ hk => hk.2) _) (fun _ hk => hk.2) _) (fun _ hk => hk.2) _) (fun _ _ => trivial))
   have B1X := Aside0.mk (blk_far (p := ⟨b5, 5, none⟩) (blk_far (p := ⟨b5, 4, none⟩) (blk_far (p := ⟨b5, 3, none⟩) (blk_far (p := ⟨b5, 2, none⟩) (blk_far (p := ⟨b5, 1, none⟩) (blk_far (p := ⟨b5, 0, none⟩) B11.out HNE.out (.int .i64 (rd_T75 l0_4 (i : Int)).f0)) HNE.out (.int .i64 (rd_T75 l0_4 (i : Int)).f1)) HNE.out (.string (rd_T75 l0_4 (i : Int)).f2)) HNE.out (.string (rd_T75 l0_4 (i : Int)).f3)) HNE.out (.int .i64 (rd_T75 l0_4 (i : Int)).f4)) HNE.out (.int .i64 (rd_T75 l0_4 (i : Int)).f5))
   have BXX := Aside0.mk (spec_l17Known.six (u := (.int .i64 (rd_T75 l0_4 (i : Int)).f0)) (v := (.int .i64 (rd_T75 l0_4 (i : Int)).f1)) (z := (.string (rd_T75 l0_4 (i : Int)).f2)) (y := (.string (rd_T75 l0_4 (i : Int)).f3)) (x := (.int .i64 (rd_T75 l0_4 (i : Int)).f4)) (t := (.int .i64 (rd_T75 l0_4 (i : Int)).f5)) BX.out)
   have HBX := Aside0.mk (below_set (j := 5) (v := (.int .i64 (rd_T75 l0_4 (i : Int)).f5)) (below_set (j := 4) (v := (.int .i64 (rd_T75 l0_4 (i : Int)).f4)) (below_set (j := 3) (v := (.string (rd_T75 l0_4 (i : Int)).f3)) (below_set (j := 2) (v := (.string (rd_T75 l0_4 (i : Int)).f2)) (below_set (j := 1) (v := (.int .i64 (rd_T75 l0_4 (i : Int)).f1)) (below_set (j := 0) (v := (.int .i64 (rd_T75 l0_4 (i : Int)).f0)) HB1.out HGE.out) HGE.out) HGE.out) HGE.out) HGE.out) HGE.out)
   clear HN HV B1 HB HB1 B11 HN1 HV1 BX z0 zf0 z1 zf1 z2 zf2 z3 zf3 z4 zf4 z5 zf5 x0 x1 x2 x3 x4 x5 y0 y1 y2 y3 y4
   generalize ((((((wb.setCell ⟨b5, 0, none⟩ (.int .i64 (rd_T75 l0_4 (i : Int)).f0)).setCell ⟨b5, 1, none⟩ (.int .i64 (rd_T75 l0_4 (i : Int)).f1)).setCell ⟨b5, 2, none⟩ (.string (rd_T75 l0_4 (i : Int)).f2)).setCell ⟨b5, 3, none⟩ (.string (rd_T75 l0_4 (i : Int)).f3)).setCell ⟨b5, 4, none⟩ (.int .i64 (rd_T75 l0_4 (i : Int)).f4)).setCell ⟨b5, 5, none⟩ (.int .i64 (rd_T75 l0_4 (i : Int)).f5)) = wx at HNX HVX B1X BXX HBX ⊢
   generalize rd_T75 l0_4 (i : Int) = x at HT BXX ⊢
   obtain ⟨f0, f1, f2, f3, f4, f5⟩ := x
   dsimp only at BXX
   obtain ⟨⟨n', b'⟩, hst, HE⟩ := Option.bind_eq_some_iff.1 (show (spec_l17Known.st ⟨f0, f1, f2, f3, f4, f5⟩ i n b).bind _ = _ from HT.out)
   dsimp only at HE
   clear HT
   have HE := Aside0.mk HE
   unfold spec_l17Known.st at hst
   dsimp only at hst
   rw [Int.toNat_natCast] at hst
   have v0 := (blk_cell BXX.out 0).trans rfl
   have v1 := (blk_cell BXX.out 1).trans rfl
   have v2 := (blk_cell BXX.out 2).trans rfl
   have v3 := (blk_cell BXX.out 3).trans rfl
   have v4 := (blk_cell BXX.out 4).trans rfl
   have v5 := (blk_cell BXX.out 5).trans rfl
   obtain ⟨g4, k4, e4, gb4, gl4, cells4, hgc4⟩ := Kd.R_form HNX.out (by rw [HL.out.1]; omega)
   injection e4 with ea en ec
   subst ea ec
   clear en
   obtain ⟨g5, k5, e5, gb5, gl5, cells5, hgc5⟩ := Kd.R_form HVX.out (by rw [HL.out.2]; omega)
   injection e5 with ea en ec
   subst ea ec
   clear en
   have GB4 := Aside0.mk gb4
   have GB5 := Aside0.mk gb5
   have N14 := Aside0.mk (spec_l17Known.tne B1X.out hgc4 (by decide))
   have N15 := Aside0.mk (spec_l17Known.tne B1X.out hgc5 (by decide))
   have N54 := Aside0.mk (spec_l17Known.tne BXX.out hgc4 (by decide))
   have N55 := Aside0.mk (spec_l17Known.tne BXX.out hgc5 (by decide))
   have N45 := Aside0.mk (spec_l17Known.tne hgc4 hgc5 (by decide))
   clear gb4 gl4 gb5 gl5 hgc4 hgc5
   by_cases k1 : f0 = 1
   ·subst k1
    rw [if_pos rfl] at hst
    obtain ⟨rfl, rfl⟩ := Prod.mk.inj (Option.some.inj hst)
    have htw := spec_l17Known.twf 1
    rw [decide_eq_false (by omega)] at htw
    have HTW := Aside0.mk htw
    clear hst htw
    obtain ⟨h4, q4⟩ := Kd.R_celln 0 HNX.out (i : Int) p0 p1
    have HN8 := Aside0.mk (Kd.R_putn HNX.out (i : Int) f1)
    rw [Int.toNat_natCast] at h4 q4 HN8
    have HV8 := Aside0.mk (Kd.R_mono (ok' := fun _ => True) (Kd.R_far (p := ⟨g4, i, none⟩) (Kd.R_mono (ok' := fun k => k ≠ g4) (Kd.R_tight rfl HVX.out) (fun k hk => by have : k = g5 := Option.some.inj hk; subst this; exact Ne.symm N45.out)) (fun _ hk => hk) (.int .i64 f1)) (fun _ _ => trivial))
    have B18 := Aside0.mk (blk_far (p := ⟨g4, i, none⟩) B1X.out N14.out (.int .i64 f1))
    have BX8 := Aside0.mk (blk_far (p := ⟨g4, i, none⟩) BXX.out N54.out (.int .i64 f1))
    have HB8 := Aside0.mk (below_set (j := i) (v := .int .i64 f1) HBX.out GB4.out)
    clear HNX HVX B1X BXX HBX
    go_upto_region 9 with fail
    generalize wx.setCell ⟨g4, i, none⟩ (.int .i64 f1) = wy at HN8 HV8 B18 BX8 HB8 ⊢
    clear h4 q4 v0 v1 v2 v3 v4 v5
    obtain ⟨h5, q5⟩ := Kd.R_celln false HV8.out (i : Int) p0 p1
    have HV9 := Aside0.mk (Kd.R_putn HV8.out (i : Int) true)
    rw [Int.toNat_natCast] at h5 q5 HV9
    have HN9 := Aside0.mk (Kd.R_mono (ok' := fun _ => True) (Kd.R_far (p := ⟨g5, i, none⟩) (Kd.R_mono (ok' := fun k => k ≠ g5) (Kd.R_tight rfl HN8.out) (fun k hk => by have : k = g4 := Option.some.inj hk; subst this; exact N45.out)) (fun _ hk => hk) (.bool true)) (fun _ _ => trivial))
    have B19 := Aside0.mk (blk_far (p := ⟨g5, i, none⟩) B18.out N15.out (.bool true))
    have BX9 := Aside0.mk (blk_far (p := ⟨g5, i, none⟩) BX8.out N55.out (.bool true))
    have HB9 := Aside0.mk (below_set (j := i) (v := .bool true) HB8.out GB5.out)
    clear HN8 HV8 B18 BX8 HB8
    go_upto_region 10 with fail
    generalize wy.setCell ⟨g5, i, none⟩ (.bool true) = wz at HN9 HV9 B19 BX9 HB9 ⊢
    clear h5 q5
    have v0 := (blk_cell BX9.out 0).trans rfl
    go_wp2_with (first | (go_at_call 33; refine (spec_l5Two.calls 1 false _ HTW.out).mono ?_; rintro e wq ⟨rfl, nq, rfl⟩))
    go_roundg (l0_4.length - (i + 1))
    case measure => have := HI.out; omega
    case rel => exact ⟨i + 1, n.set i f1, b.set i true, zt32, ⟨by omega, by have := HI.out; omega⟩, ⟨by rw [List.length_set]; exact HL.out.1, by rw [List.length_set]; exact HL.out.2⟩, ⟨zt34⟩, ⟨Kd.R_drewN HN9.out _⟩, ⟨Kd.R_drewN HV9.out _⟩, ⟨blk_drewN B19.out _⟩, ⟨pw_below_drewN HB9.out _⟩⟩
   rw [if_neg k1] at hst
   have j1 : (f0 == 1) = false := beq_eq_false_iff_ne.2 k1
   by_cases k2 : 6 ≤ f0 ∧ f0 ≤ 8
   case neg =>
    rw [if_neg k2] at hst
    obtain ⟨rfl, rfl⟩ := Prod.mk.inj (Option.some.inj hst)
    have htw := spec_l17Known.twf f0
    rw [decide_eq_false k2] at htw
    have HTW := Aside0.mk htw
    clear hst htw k1 k2
    go_wp2_with (first | (go_at_call 33; refine (spec_l5Two.calls f0 false _ HTW.out).mono ?_; rintro e wq ⟨rfl, nq, rfl⟩))
    go_roundg (l0_4.length - (i + 1))
    case measure => have := HI.out; omega
    case rel => exact ⟨i + 1, n, b, zt32, ⟨by omega, by have := HI.out; omega⟩, ⟨HL.out.1, HL.out.2⟩, ⟨zt34⟩, ⟨Kd.R_drewN HNX.out _⟩, ⟨Kd.R_drewN HVX.out _⟩, ⟨blk_drewN B1X.out _⟩, ⟨pw_below_drewN HBX.out _⟩⟩
   rw [if_pos k2] at hst
   have htw := spec_l17Known.twf f0
   rw [decide_eq_true k2] at htw
   have HTW := Aside0.mk htw
   clear htw
   by_cases k3 : spec_l17Known.okI n f4 ∧ spec_l17Known.okI n f5
   case neg => rw [if_neg k3] at hst; cases hst
   rw [if_pos k3] at hst
   obtain ⟨⟨l0, l1⟩, r0, r1⟩ := k3
   rw [HL.out.1] at l1 r1
   obtain ⟨hn4, _⟩ := Kd.R_celln 0 HNX.out f4 l0 l1
   obtain ⟨hn5, _⟩ := Kd.R_celln 0 HNX.out f5 r0 r1
   obtain ⟨hb4, _⟩ := Kd.R_celln false HVX.out f4 l0 l1
   obtain ⟨hb5, _⟩ := Kd.R_celln false HVX.out f5 r0 r1
   replace hn4 : wx.cell? ⟨g4, f4.toNat, none⟩ = some (.int .i64 (rd n f4)) := hn4
   replace hn5 : wx.cell? ⟨g4, f5.toNat, none⟩ = some (.int .i64 (rd n f5)) := hn5
   clear k1
   cases hL : rdOf false b f4 with
   | false =>
    rw [hL] at hst hb4
    rw [if_neg (by decide)] at hst
    obtain ⟨rfl, rfl⟩ := Prod.mk.inj (Option.some.inj hst)
    clear hst hL
    go_wp2_with (first | (go_at_call 33; refine (spec_l5Two.calls f0 true _ HTW.out).mono ?_; rintro e wq ⟨rfl, nq, rfl⟩))
    go_roundg (l0_4.length - (i + 1))
    case measure => have := HI.out; omega
    case rel => exact ⟨i + 1, n, b, zt32, ⟨by omega, by have := HI.out; omega⟩, ⟨HL.out.1, HL.out.2⟩, ⟨zt34⟩, ⟨Kd.R_drewN HNX.out _⟩, ⟨Kd.R_drewN HVX.out _⟩, ⟨blk_drewN B1X.out _⟩, ⟨pw_below_drewN HBX.out _⟩⟩
   | true =>
   rw [hL] at hst hb4
   rw [if_pos rfl] at hst
   clear hL
   cases hR : rdOf false b f5 with
   | false =>
    rw [hR] at hst hb5
    rw [if_neg (by decide)] at hst
    obtain ⟨rfl, rfl⟩ := Prod.mk.inj (Option.some.inj hst)
    clear hst hR
    go_wp2_with (first | (go_at_call 33; refine (spec_l5Two.calls f0 true _ HTW.out).mono ?_; rintro e wq ⟨rfl, nq, rfl⟩))
    go_roundg (l0_4.length - (i + 1))
    case measure => have := HI.out; omega
    case rel => exact ⟨i + 1, n, b, zt32, ⟨by omega, by have := HI.out; omega⟩, ⟨HL.out.1, HL.out.2⟩, ⟨zt34⟩, ⟨Kd.R_drewN HNX.out _⟩, ⟨Kd.R_drewN HVX.out _⟩, ⟨blk_drewN B1X.out _⟩, ⟨pw_below_drewN HBX.out _⟩⟩
   | true =>
   rw [hR] at hst hb5
   rw [if_pos rfl] at hst
   clear hR
   have hi4 := spec_l17Known.inf (rd n f4)
   have hi5 := spec_l17Known.inf (rd n f5)
   cases hN4 : spec_l17Known.inN (rd n f4) with
   | false =>
    rw [hN4] at hst hi4
    rw [if_neg (by decide)] at hst
    obtain ⟨rfl, rfl⟩ := Prod.mk.inj (Option.some.inj hst)
    have HI4 := Aside0.mk hi4
    clear hst hN4 hi4 hi5
    go_wp2_with (first | (go_at_call 33; refine (spec_l5Two.calls f0 true _ HTW.out).mono ?_; rintro e wq ⟨rfl, nq, rfl⟩) | (go_at_call_of 34 (Value.int .i64 (rd n f4)); refine (spec_l1In.calls (rd n f4) (-1000000) 1000000 false _ HI4.out).mono ?_; rintro e wq ⟨rfl, nr, rfl⟩))
    go_roundg (l0_4.length - (i + 1))
    case measure => have := HI.out; omega
    case rel => exact ⟨i + 1, n, b, zt32, ⟨by omega, by have := HI.out; omega⟩, ⟨HL.out.1, HL.out.2⟩, ⟨zt34⟩, ⟨Kd.R_drewN HNX.out _⟩, ⟨Kd.R_drewN HVX.out _⟩, ⟨blk_drewN B1X.out _⟩, ⟨pw_below_drewN HBX.out _⟩⟩
   | true =>
   rw [hN4] at hst hi4
   rw [if_pos rfl] at hst
   have HI4 := Aside0.mk hi4
   clear hN4 hi4
   cases hN5 : spec_l17Known.inN (rd n f5) with
   | false =>
    rw [hN5] at hst hi5
    rw [if_neg (by decide)] at hst
    obtain ⟨rfl, rfl⟩ := Prod.mk.inj (Option.some.inj hst)
    have HI5 := Aside0.mk hi5
    clear hst hN5 hi5
    go_wp2_with (first | (go_at_call 33; refine (spec_l5Two.calls f0 true _ HTW.out).mono ?_; rintro e wq ⟨rfl, nq, rfl⟩) | (go_at_call_of 34 (Value.int .i64 (rd n f4)); refine (spec_l1In.calls (rd n f4) (-1000000) 1000000 true _ HI4.out).mono ?_; rintro e wq ⟨rfl, nr, rfl⟩) | (go_at_call_of 34 (Value.int .i64 (rd n f5)); refine (spec_l1In.calls (rd n f5) (-1000000) 1000000 false _ HI5.out).mono ?_; rintro e wq ⟨rfl, ns, rfl⟩))
    go_roundg (l0_4.length - (i + 1))
    case measure => have := HI.out; omega
    case rel => exact ⟨i + 1, n, b, zt32, ⟨by omega, by have := HI.out; omega⟩, ⟨HL.out.1, HL.out.2⟩, ⟨zt34⟩, ⟨Kd.R_drewN HNX.out _⟩, ⟨Kd.R_drewN HVX.out _⟩, ⟨blk_drewN B1X.out _⟩, ⟨pw_below_drewN HBX.out _⟩⟩
   | true =>
   rw [hN5] at hst hi5
   rw [if_pos rfl] at hst
   have HI5 := Aside0.mk hi5
   clear hN5 hi5
   have HST := Aside0.mk hst
   clear hst j1
   have hk : f0 = 6 ∨ f0 = 7 ∨ f0 = 8 := by omega
   clear k2
   rcases hk with rfl | rfl | rfl
   ·obtain ⟨v, hv⟩ : ∃ v, v = spec_l17Known.val 6 (rd n f4) (rd n f5) := ⟨_, rfl⟩
    have HST2 := HST.out
    rw [← hv] at HST2
    have hve : wrap64 (rd n f4 + rd n f5) = v := by rw [hv]; rfl
    have HVE := Aside0.mk hve
    have hiv := spec_l17Known.inf v
    clear HST hv hve
    go_upto_region 11 with (first | (go_at_call 33; refine (spec_l5Two.calls 6 true _ HTW.out).mono ?_; rintro e wq ⟨rfl, nq, rfl⟩) | (go_at_call_of 34 (Value.int .i64 (rd n f4)); refine (spec_l1In.calls (rd n f4) (-1000000) 1000000 true _ HI4.out).mono ?_; rintro e wq ⟨rfl, nr, rfl⟩) | (go_at_call_of 34 (Value.int .i64 (rd n f5)); refine (spec_l1In.calls (rd n f5) (-1000000) 1000000 true _ HI5.out).mono ?_; rintro e wq ⟨rfl, ns, rfl⟩))
    replace HNX := Aside0.mk (Kd.R_drewN HNX.out (nq + nr + ns))
    replace HVX := Aside0.mk (Kd.R_drewN HVX.out (nq + nr + ns))
    replace B1X := Aside0.mk (blk_drewN B1X.out (nq + nr + ns))
    replace BXX := Aside0.mk (blk_drewN BXX.out (nq + nr + ns))
    replace HBX := Aside0.mk (pw_below_drewN HBX.out (nq + nr + ns))
    replace hn4 : (wx.drewN (nq + nr + ns)).cell? ⟨g4, f4.toNat, none⟩ = some (.int .i64 (rd n f4)) := hn4
    replace hn5 : (wx.drewN (nq + nr + ns)).cell? ⟨g4, f5.toNat, none⟩ = some (.int .i64 (rd n f5)) := hn5
    clear v0 v1 v2 v3 v4 v5 hb4 hb5
    generalize wx.drewN (nq + nr + ns) = wv at HNX HVX B1X BXX HBX hn4 hn5 ⊢
    have v0 := (blk_cell BXX.out 0).trans rfl
    have v4 := (blk_cell BXX.out 4).trans rfl
    have v5 := (blk_cell BXX.out 5).trans rfl
    go_quiet (fail)
    go_upto_region 16 with fail
    rw [HVE.out]
    clear hn4 hn5 v4 v5 HVE
    cases hV : spec_l17Known.inN v with
    | false =>
     rw [hV] at HST2 hiv
     rw [if_neg (by decide)] at HST2
     obtain ⟨rfl, rfl⟩ := Prod.mk.inj (Option.some.inj HST2)
     have HIV := Aside0.mk hiv
     clear HST2 hV hiv
     go_wp2_with (first | (go_at_call_of 34 (Value.int .i64 v); refine (spec_l1In.calls v (-1000000) 1000000 false _ HIV.out).mono ?_; rintro e wq ⟨rfl, hd⟩; have HNX' := Aside0.mk (show Kd.R (Kd.int .i64) 3 wq w.heap.size (fun _ => True) (.slice (some ⟨g4, 0, none⟩) l0_4.length c4) n from zt35); clear HNX; have HNX := HNX'; clear HNX'; have HVX' := Aside0.mk (show Kd.R Kd.bool 4 wq w.heap.size (fun _ => True) (.slice (some ⟨g5, 0, none⟩) l0_4.length c5) b from zt36); clear HVX; have HVX := HVX'; clear HVX'; have B1X' := Aside0.mk (show wq.heap[b1]? = some (.cells #[.slice A0_0 l0_0.length c0_0, .slice A0_1 l0_1.length c0_1, .slice A0_2 l0_2.length c0_2, .slice A0_3 l0_3.length c0_3, .slice (some ad) l0_4.length c0_4] 37 (0, 0)) from zt39); clear B1X; have B1X := B1X'; clear B1X'; have BXX' := Aside0.mk (show wq.heap[b5]? = some (.cells #[.int .i64 6, .int .i64 f1, .string f2, .string f3, .int .i64 f4, .int .i64 f5] 75 (0, 0)) from zt40); clear BXX; have BXX := BXX'; clear BXX'; have HBX' := Aside0.mk (show Below w.heap.size w wq from zt33); clear HBX; have HBX := HBX'; clear HBX'; clear hd v0))
     go_roundg (l0_4.length - (i + 1))
     case measure => have := HI.out; omega
     case rel => exact ⟨i + 1, n, b, zt32, ⟨by omega, by have := HI.out; omega⟩, ⟨HL.out.1, HL.out.2⟩, ⟨zt34⟩, HNX, HVX, B1X, HBX⟩
    | true =>
     rw [hV] at HST2 hiv
     rw [if_pos rfl] at HST2
     obtain ⟨rfl, rfl⟩ := Prod.mk.inj (Option.some.inj HST2)
     have HIV := Aside0.mk hiv
     clear HST2 hV hiv
     go_upto_region 17 with (first | (go_at_call_of 34 (Value.int .i64 v); refine (spec_l1In.calls v (-1000000) 1000000 true _ HIV.out).mono ?_; rintro e wq ⟨rfl, hd⟩; have HNX' := Aside0.mk (show Kd.R (Kd.int .i64) 3 wq w.heap.size (fun _ => True) (.slice (some ⟨g4, 0, none⟩) l0_4.length c4) n from zt35); clear HNX; have HNX := HNX'; clear HNX'; have HVX' := Aside0.mk (show Kd.R Kd.bool 4 wq w.heap.size (fun _ => True) (.slice (some ⟨g5, 0, none⟩) l0_4.length c5) b from zt36); clear HVX; have HVX := HVX'; clear HVX'; have B1X' := Aside0.mk (show wq.heap[b1]? = some (.cells #[.slice A0_0 l0_0.length c0_0, .slice A0_1 l0_1.length c0_1, .slice A0_2 l0_2.length c0_2, .slice A0_3 l0_3.length c0_3, .slice (some ad) l0_4.length c0_4] 37 (0, 0)) from zt39); clear B1X; have B1X := B1X'; clear B1X'; have BXX' := Aside0.mk (show wq.heap[b5]? = some (.cells #[.int .i64 6, .int .i64 f1, .string f2, .string f3, .int .i64 f4, .int .i64 f5] 75 (0, 0)) from zt40); clear BXX; have BXX := BXX'; clear BXX'; have HBX' := Aside0.mk (show Below w.heap.size w wq from zt33); clear HBX; have HBX := HBX'; clear HBX'; clear hd v0))
     obtain ⟨h4, q4⟩ := Kd.R_celln 0 HNX.out (i : Int) p0 p1
     have HN8 := Aside0.mk (Kd.R_putn HNX.out (i : Int) v)
     rw [Int.toNat_natCast] at h4 q4 HN8
     have HV8 := Aside0.mk (Kd.R_mono (ok' := fun _ => True) (Kd.R_far (p := ⟨g4, i, none⟩) (Kd.R_mono (ok' := fun k => k ≠ g4) (Kd.R_tight rfl HVX.out) (fun k hk => by have : k = g5 := Option.some.inj hk; subst this; exact Ne.symm N45.out)) (fun _ hk => hk) (.int .i64 v)) (fun _ _ => trivial))
     have B18 := Aside0.mk (blk_far (p := ⟨g4, i, none⟩) B1X.out N14.out (.int .i64 v))
     have BX8 := Aside0.mk (blk_far (p := ⟨g4, i, none⟩) BXX.out N54.out (.int .i64 v))
     have HB8 := Aside0.mk (below_set (j := i) (v := .int .i64 v) HBX.out GB4.out)
     clear HNX HVX B1X BXX HBX
     go_upto_region 18 with fail
     generalize wq.setCell ⟨g4, i, none⟩ (.int .i64 v) = wy at HN8 HV8 B18 BX8 HB8 ⊢
     clear h4 q4
     obtain ⟨h5, q5⟩ := Kd.R_celln false HV8.out (i : Int) p0 p1
     have HV9 := Aside0.mk (Kd.R_putn HV8.out (i : Int) true)
     rw [Int.toNat_natCast] at h5 q5 HV9
     have HN9 := Aside0.mk (Kd.R_mono (ok' := fun _ => True) (Kd.R_far (p := ⟨g5, i, none⟩) (Kd.R_mono (ok' := fun k => k ≠ g5) (Kd.R_tight rfl HN8.out) (fun k hk => by have : k = g4 := Option.some.inj hk; subst this; exact N45.out)) (fun _ hk => hk) (.bool true)) (fun _ _ => trivial))
     have B19 := Aside0.mk (blk_far (p := ⟨g5, i, none⟩) B18.out N15.out (.bool true))
     have BX9 := Aside0.mk (blk_far (p := ⟨g5, i, none⟩) BX8.out N55.out (.bool true))
     have HB9 := Aside0.mk (below_set (j := i) (v := .bool true) HB8.out GB5.out)
     clear HN8 HV8 B18 BX8 HB8
     go_wp2
     go_roundg (l0_4.length - (i + 1))
     case measure => have := HI.out; omega
     case rel => exact ⟨i + 1, n.set i v, b.set i true, zt32, ⟨by omega, by have := HI.out; omega⟩, ⟨by rw [List.length_set]; exact HL.out.1, by rw [List.length_set]; exact HL.out.2⟩, ⟨zt34⟩, HN9, HV9, B19, HB9⟩
   ·obtain ⟨v, hv⟩ : ∃ v, v = spec_l17Known.val 7 (rd n f4) (rd n f5) := ⟨_, rfl⟩
    have HST2 := HST.out
    rw [← hv] at HST2
    have hve : wrap64 (rd n f4 - rd n f5) = v := by rw [hv]; rfl
    have HVE := Aside0.mk hve
    have hiv := spec_l17Known.inf v
    clear HST hv hve
    go_upto_region 11 with (first | (go_at_call 33; refine (spec_l5Two.calls 7 true _ HTW.out).mono ?_; rintro e wq ⟨rfl, nq, rfl⟩) | (go_at_call_of 34 (Value.int .i64 (rd n f4)); refine (spec_l1In.calls (rd n f4) (-1000000) 1000000 true _ HI4.out).mono ?_; rintro e wq ⟨rfl, nr, rfl⟩) | (go_at_call_of 34 (Value.int .i64 (rd n f5)); refine (spec_l1In.calls (rd n f5) (-1000000) 1000000 true _ HI5.out).mono ?_; rintro e wq ⟨rfl, ns, rfl⟩))
    replace HNX := Aside0.mk (Kd.R_drewN HNX.out (nq + nr + ns))
    replace HVX := Aside0.mk (Kd.R_drewN HVX.out (nq + nr + ns))
    replace B1X := Aside0.mk (blk_drewN B1X.out (nq + nr + ns))
    replace BXX := Aside0.mk (blk_drewN BXX.out (nq + nr + ns))
    replace HBX := Aside0.mk (pw_below_drewN HBX.out (nq + nr + ns))
    replace hn4 : (wx.drewN (nq + nr + ns)).cell? ⟨g4, f4.toNat, none⟩ = some (.int .i64 (rd n f4)) := hn4
    replace hn5 : (wx.drewN (nq + nr + ns)).cell? ⟨g4, f5.toNat, none⟩ = some (.int .i64 (rd n f5)) := hn5
    clear v0 v1 v2 v3 v4 v5 hb4 hb5
    generalize wx.drewN (nq + nr + ns) = wv at HNX HVX B1X BXX HBX hn4 hn5 ⊢
    have v0 := (blk_cell BXX.out 0).trans rfl
    have v4 := (blk_cell BXX.out 4).trans rfl
    have v5 := (blk_cell BXX.out 5).trans rfl
    go_quiet (fail)
    go_upto_region 13 with fail
    go_quiet (fail)
    go_upto_region 16 with fail
    rw [HVE.out]
    clear hn4 hn5 v4 v5 HVE
    cases hV : spec_l17Known.inN v with
    | false =>
     rw [hV] at HST2 hiv
     rw [if_neg (by decide)] at HST2
     obtain ⟨rfl, rfl⟩ := Prod.mk.inj (Option.some.inj HST2)
     have HIV := Aside0.mk hiv
     clear HST2 hV hiv
     go_wp2_with (first | (go_at_call_of 34 (Value.int .i64 v); refine (spec_l1In.calls v (-1000000) 1000000 false _ HIV.out).mono ?_; rintro e wq ⟨rfl, hd⟩; have HNX' := Aside0.mk (show Kd.R (Kd.int .i64) 3 wq w.heap.size (fun _ => True) (.slice (some ⟨g4, 0, none⟩) l0_4.length c4) n from zt35); clear HNX; have HNX := HNX'; clear HNX'; have HVX' := Aside0.mk (show Kd.R Kd.bool 4 wq w.heap.size (fun _ => True) (.slice (some ⟨g5, 0, none⟩) l0_4.length c5) b from zt36); clear HVX; have HVX := HVX'; clear HVX'; have B1X' := Aside0.mk (show wq.heap[b1]? = some (.cells #[.slice A0_0 l0_0.length c0_0, .slice A0_1 l0_1.length c0_1, .slice A0_2 l0_2.length c0_2, .slice A0_3 l0_3.length c0_3, .slice (some ad) l0_4.length c0_4] 37 (0, 0)) from zt39); clear B1X; have B1X := B1X'; clear B1X'; have BXX' := Aside0.mk (show wq.heap[b5]? = some (.cells #[.int .i64 7, .int .i64 f1, .string f2, .string f3, .int .i64 f4, .int .i64 f5] 75 (0, 0)) from zt40); clear BXX; have BXX := BXX'; clear BXX'; have HBX' := Aside0.mk (show Below w.heap.size w wq from zt33); clear HBX; have HBX := HBX'; clear HBX'; clear hd v0))
     go_roundg (l0_4.length - (i + 1))
     case measure => have := HI.out; omega
     case rel => exact ⟨i + 1, n, b, zt32, ⟨by omega, by have := HI.out; omega⟩, ⟨HL.out.1, HL.out.2⟩, ⟨zt34⟩, HNX, HVX, B1X, HBX⟩
    | true =>
     rw [hV] at HST2 hiv
     rw [if_pos rfl] at HST2
     obtain ⟨rfl, rfl⟩ := Prod.mk.inj (Option.some.inj HST2)
     have HIV := Aside0.mk hiv
     clear HST2 hV hiv
     go_upto_region 17 with (first | (go_at_call_of 34 (Value.int .i64 v); refine (spec_l1In.calls v (-1000000) 1000000 true _ HIV.out).mono ?_; rintro e wq ⟨rfl, hd⟩; have HNX' := Aside0.mk (show Kd.R (Kd.int .i64) 3 wq w.heap.size (fun _ => True) (.slice (some ⟨g4, 0, none⟩) l0_4.length c4) n from zt35); clear HNX; have HNX := HNX'; clear HNX'; have HVX' := Aside0.mk (show Kd.R Kd.bool 4 wq w.heap.size (fun _ => True) (.slice (some ⟨g5, 0, none⟩) l0_4.length c5) b from zt36); clear HVX; have HVX := HVX'; clear HVX'; have B1X' := Aside0.mk (show wq.heap[b1]? = some (.cells #[.slice A0_0 l0_0.length c0_0, .slice A0_1 l0_1.length c0_1, .slice A0_2 l0_2.length c0_2, .slice A0_3 l0_3.length c0_3, .slice (some ad) l0_4.length c0_4] 37 (0, 0)) from zt39); clear B1X; have B1X := B1X'; clear B1X'; have BXX' := Aside0.mk (show wq.heap[b5]? = some (.cells #[.int .i64 7, .int .i64 f1, .string f2, .string f3, .int .i64 f4, .int .i64 f5] 75 (0, 0)) from zt40); clear BXX; have BXX := BXX'; clear BXX'; have HBX' := Aside0.mk (show Below w.heap.size w wq from zt33); clear HBX; have HBX := HBX'; clear HBX'; clear hd v0))
     obtain ⟨h4, q4⟩ := Kd.R_celln 0 HNX.out (i : Int) p0 p1
     have HN8 := Aside0.mk (Kd.R_putn HNX.out (i : Int) v)
     rw [Int.toNat_natCast] at h4 q4 HN8
     have HV8 := Aside0.mk (Kd.R_mono (ok' := fun _ => True) (Kd.R_far (p := ⟨g4, i, none⟩) (Kd.R_mono (ok' := fun k => k ≠ g4) (Kd.R_tight rfl HVX.out) (fun k hk => by have : k = g5 := Option.some.inj hk; subst this; exact Ne.symm N45.out)) (fun _ hk => hk) (.int .i64 v)) (fun _ _ => trivial))
     have B18 := Aside0.mk (blk_far (p := ⟨g4, i, none⟩) B1X.out N14.out (.int .i64 v))
     have BX8 := Aside0.mk (blk_far (p := ⟨g4, i, none⟩) BXX.out N54.out (.int .i64 v))
     have HB8 := Aside0.mk (below_set (j := i) (v := .int .i64 v) HBX.out GB4.out)
     clear HNX HVX B1X BXX HBX
     go_upto_region 18 with fail
     generalize wq.setCell ⟨g4, i, none⟩ (.int .i64 v) = wy at HN8 HV8 B18 BX8 HB8 ⊢
     clear h4 q4
     obtain ⟨h5, q5⟩ := Kd.R_celln false HV8.out (i : Int) p0 p1
     have HV9 := Aside0.mk (Kd.R_putn HV8.out (i : Int) true)
     rw [Int.toNat_natCast] at h5 q5 HV9
     have HN9 := Aside0.mk (Kd.R_mono (ok' := fun _ => True) (Kd.R_far (p := ⟨g5, i, none⟩) (Kd.R_mono (ok' := fun k => k ≠ g5) (Kd.R_tight rfl HN8.out) (fun k hk => by have : k = g4 := Option.some.inj hk; subst this; exact N45.out)) (fun _ hk => hk) (.bool true)) (fun _ _ => trivial))
     have B19 := Aside0.mk (blk_far (p := ⟨g5, i, none⟩) B18.out N15.out (.bool true))
     have BX9 := Aside0.mk (blk_far (p := ⟨g5, i, none⟩) BX8.out N55.out (.bool true))
     have HB9 := Aside0.mk (below_set (j := i) (v := .bool true) HB8.out GB5.out)
     clear HN8 HV8 B18 BX8 HB8
     go_wp2
     go_roundg (l0_4.length - (i + 1))
     case measure => have := HI.out; omega
     case rel => exact ⟨i + 1, n.set i v, b.set i true, zt32, ⟨by omega, by have := HI.out; omega⟩, ⟨by rw [List.length_set]; exact HL.out.1, by rw [List.length_set]; exact HL.out.2⟩, ⟨zt34⟩, HN9, HV9, B19, HB9⟩
   ·obtain ⟨v, hv⟩ : ∃ v, v = spec_l17Known.val 8 (rd n f4) (rd n f5) := ⟨_, rfl⟩
    have HST2 := HST.out
    rw [← hv] at HST2
    have hve : wrap64 (rd n f4 * rd n f5) = v := by rw [hv]; rfl
    have HVE := Aside0.mk hve
    have hiv := spec_l17Known.inf v
    clear HST hv hve
    go_upto_region 11 with (first | (go_at_call 33; refine (spec_l5Two.calls 8 true _ HTW.out).mono ?_; rintro e wq ⟨rfl, nq, rfl⟩) | (go_at_call_of 34 (Value.int .i64 (rd n f4)); refine (spec_l1In.calls (rd n f4) (-1000000) 1000000 true _ HI4.out).mono ?_; rintro e wq ⟨rfl, nr, rfl⟩) | (go_at_call_of 34 (Value.int .i64 (rd n f5)); refine (spec_l1In.calls (rd n f5) (-1000000) 1000000 true _ HI5.out).mono ?_; rintro e wq ⟨rfl, ns, rfl⟩))
    replace HNX := Aside0.mk (Kd.R_drewN HNX.out (nq + nr + ns))
    replace HVX := Aside0.mk (Kd.R_drewN HVX.out (nq + nr + ns))
    replace B1X := Aside0.mk (blk_drewN B1X.out (nq + nr + ns))
    replace BXX := Aside0.mk (blk_drewN BXX.out (nq + nr + ns))
    replace HBX := Aside0.mk (pw_below_drewN HBX.out (nq + nr + ns))
    replace hn4 : (wx.drewN (nq + nr + ns)).cell? ⟨g4, f4.toNat, none⟩ = some (.int .i64 (rd n f4)) := hn4
    replace hn5 : (wx.drewN (nq + nr + ns)).cell? ⟨g4, f5.toNat, none⟩ = some (.int .i64 (rd n f5)) := hn5
    clear v0 v1 v2 v3 v4 v5 hb4 hb5
    generalize wx.drewN (nq + nr + ns) = wv at HNX HVX B1X BXX HBX hn4 hn5 ⊢
    have v0 := (blk_cell BXX.out 0).trans rfl
    have v4 := (blk_cell BXX.out 4).trans rfl
    have v5 := (blk_cell BXX.out 5).trans rfl
    go_quiet (fail)
    go_upto_region 15 with fail
    go_quiet (fail)
    go_upto_region 16 with fail
    rw [HVE.out]
    clear hn4 hn5 v4 v5 HVE
    cases hV : spec_l17Known.inN v with
    | false =>
     rw [hV] at HST2 hiv
     rw [if_neg (by decide)] at HST2
     obtain ⟨rfl, rfl⟩ := Prod.mk.inj (Option.some.inj HST2)
     have HIV := Aside0.mk hiv
     clear HST2 hV hiv
     go_wp2_with (first | (go_at_call_of 34 (Value.int .i64 v); refine (spec_l1In.calls v (-1000000) 1000000 false _ HIV.out).mono ?_; rintro e wq ⟨rfl, hd⟩; have HNX' := Aside0.mk (show Kd.R (Kd.int .i64) 3 wq w.heap.size (fun _ => True) (.slice (some ⟨g4, 0, none⟩) l0_4.length c4) n from zt35); clear HNX; have HNX := HNX'; clear HNX'; have HVX' := Aside0.mk (show Kd.R Kd.bool 4 wq w.heap.size (fun _ => True) (.slice (some ⟨g5, 0, none⟩) l0_4.length c5) b from zt36); clear HVX; have HVX := HVX'; clear HVX'; have B1X' := Aside0.mk (show wq.heap[b1]? = some (.cells #[.slice A0_0 l0_0.length c0_0, .slice A0_1 l0_1.length c0_1, .slice A0_2 l0_2.length c0_2, .slice A0_3 l0_3.length c0_3, .slice (some ad) l0_4.length c0_4] 37 (0, 0)) from zt39); clear B1X; have B1X := B1X'; clear B1X'; have BXX' := Aside0.mk (show wq.heap[b5]? = some (.cells #[.int .i64 8, .int .i64 f1, .string f2, .string f3, .int .i64 f4, .int .i64 f5] 75 (0, 0)) from zt40); clear BXX; have BXX := BXX'; clear BXX'; have HBX' := Aside0.mk (show Below w.heap.size w wq from zt33); clear HBX; have HBX := HBX'; clear HBX'; clear hd v0))
     go_roundg (l0_4.length - (i + 1))
     case measure => have := HI.out; omega
     case rel => exact ⟨i + 1, n, b, zt32, ⟨by omega, by have := HI.out; omega⟩, ⟨HL.out.1, HL.out.2⟩, ⟨zt34⟩, HNX, HVX, B1X, HBX⟩
    | true =>
     rw [hV] at HST2 hiv
     rw [if_pos rfl] at HST2
     obtain ⟨rfl, rfl⟩ := Prod.mk.inj (Option.some.inj HST2)
     have HIV := Aside0.mk hiv
     clear HST2 hV hiv
     go_upto_region 17 with (first | (go_at_call_of 34 (Value.int .i64 v); refine (spec_l1In.calls v (-1000000) 1000000 true _ HIV.out).mono ?_; rintro e wq ⟨rfl, hd⟩; have HNX' := Aside0.mk (show Kd.R (Kd.int .i64) 3 wq w.heap.size (fun _ => True) (.slice (some ⟨g4, 0, none⟩) l0_4.length c4) n from zt35); clear HNX; have HNX := HNX'; clear HNX'; have HVX' := Aside0.mk (show Kd.R Kd.bool 4 wq w.heap.size (fun _ => True) (.slice (some ⟨g5, 0, none⟩) l0_4.length c5) b from zt36); clear HVX; have HVX := HVX'; clear HVX'; have B1X' := Aside0.mk (show wq.heap[b1]? = some (.cells #[.slice A0_0 l0_0.length c0_0, .slice A0_1 l0_1.length c0_1, .slice A0_2 l0_2.length c0_2, .slice A0_3 l0_3.length c0_3, .slice (some ad) l0_4.length c0_4] 37 (0, 0)) from zt39); clear B1X; have B1X := B1X'; clear B1X'; have BXX' := Aside0.mk (show wq.heap[b5]? = some (.cells #[.int .i64 8, .int .i64 f1, .string f2, .string f3, .int .i64 f4, .int .i64 f5] 75 (0, 0)) from zt40); clear BXX; have BXX := BXX'; clear BXX'; have HBX' := Aside0.mk (show Below w.heap.size w wq from zt33); clear HBX; have HBX := HBX'; clear HBX'; clear hd v0))
     obtain ⟨h4, q4⟩ := Kd.R_celln 0 HNX.out (i : Int) p0 p1
     have HN8 := Aside0.mk (Kd.R_putn HNX.out (i : Int) v)
     rw [Int.toNat_natCast] at h4 q4 HN8
     have HV8 := Aside0.mk (Kd.R_mono (ok' := fun _ => True) (Kd.R_far (p := ⟨g4, i, none⟩) (Kd.R_mono (ok' := fun k => k ≠ g4) (Kd.R_tight rfl HVX.out) (fun k hk => by have : k = g5 := Option.some.inj hk; subst this; exact Ne.symm N45.out)) (fun _ hk => hk) (.int .i64 v)) (fun _ _ => trivial))
     have B18 := Aside0.mk (blk_far (p := ⟨g4, i, none⟩) B1X.out N14.out (.int .i64 v))
     have BX8 := Aside0.mk (blk_far (p := ⟨g4, i, none⟩) BXX.out N54.out (.int .i64 v))
     have HB8 := Aside0.mk (below_set (j := i) (v := .int .i64 v) HBX.out GB4.out)
     clear HNX HVX B1X BXX HBX
     go_upto_region 18 with fail
     generalize wq.setCell ⟨g4, i, none⟩ (.int .i64 v) = wy at HN8 HV8 B18 BX8 HB8 ⊢
     clear h4 q4
     obtain ⟨h5, q5⟩ := Kd.R_celln false HV8.out (i : Int) p0 p1
     have HV9 := Aside0.mk (Kd.R_putn HV8.out (i : Int) true)
     rw [Int.toNat_natCast] at h5 q5 HV9
     have HN9 := Aside0.mk (Kd.R_mono (ok' := fun _ => True) (Kd.R_far (p := ⟨g5, i, none⟩) (Kd.R_mono (ok' := fun k => k ≠ g5) (Kd.R_tight rfl HN8.out) (fun k hk => by have : k = g4 := Option.some.inj hk; subst this; exact N45.out)) (fun _ hk => hk) (.bool true)) (fun _ _ => trivial))
     have B19 := Aside0.mk (blk_far (p := ⟨g5, i, none⟩) B18.out N15.out (.bool true))
     have BX9 := Aside0.mk (blk_far (p := ⟨g5, i, none⟩) BX8.out N55.out (.bool true))
     have HB9 := Aside0.mk (below_set (j := i) (v := .bool true) HB8.out GB5.out)
     clear HN8 HV8 B18 BX8 HB8
     go_wp2
     go_roundg (l0_4.length - (i + 1))
     case measure => have := HI.out; omega
     case rel => exact ⟨i + 1, n.set i v, b.set i true, zt32, ⟨by omega, by have := HI.out; omega⟩, ⟨by rw [List.length_set]; exact HL.out.1, by rw [List.length_set]; exact HL.out.2⟩, ⟨zt34⟩, HN9, HV9, B19, HB9⟩
  ·have hte : l0_4.drop i = [] := List.drop_eq_nil_of_le (by omega)
   rw [hte] at HT
   obtain ⟨rfl, rfl⟩ := Prod.mk.inj (Option.some.inj HT.out)
   have hltz : ¬ (i : Int) < (l0_4.length : Int) := by omega
   clear HT hte
   have y0 := (blk_cell B1.out 0).trans rfl
   have y1 := (blk_cell B1.out 1).trans rfl
   have y2 := (blk_cell B1.out 2).trans rfl
   have y3 := (blk_cell B1.out 3).trans rfl
   have y4 := (blk_cell B1.out 4).trans rfl
   go_wp2
   go_ret2
   exact ⟨_, _, rfl, HN.out, HV.out, HB.out⟩

/-! ### spec_Known: function 5 -/
def spec_Known.j0 : Nat → Int → Bool → List ByteArray → List (S78) → List (S80) → List (S77) → List (S75) → Option (Int × Bool)
 | 0, _, _, _, _, _, _, _ => none
 | k + 1, x1, x21, x136000, x136001, x136002, x136003, x136004 => if x21 = true then (some (0, false)) else ((spec_l17Known.f x136000 x136001 x136002 x136003 x136004).bind fun bt137 => (if 0 ≤ x1 then (if x1 < (bt137.2.length : Int) then (if rdOf false bt137.2 x1 = true then (if x1 < (bt137.1.length : Int) then (some (rd bt137.1 x1, true)) else (none)) else (some (0, false))) else (none)) else (none)))
def spec_Known.f (k : Nat) (l0_0 : List ByteArray) (l0_1 : List (S78)) (l0_2 : List (S80)) (l0_3 : List (S77)) (l0_4 : List (S75)) (a1 : Int) : Option (Int × Bool) := (spec_l5Tree.f k l0_0 l0_1 l0_2 l0_3 l0_4).bind fun t136 => (if t136 = true then (if a1 < 0 then (spec_Known.j0 k a1 true l0_0 l0_1 l0_2 l0_3 l0_4) else (spec_Known.j0 k a1 (decide (a1 ≥ (l0_4.length : Int))) l0_0 l0_1 l0_2 l0_3 l0_4)) else (spec_Known.j0 k a1 true l0_0 l0_1 l0_2 l0_3 l0_4))
theorem spec_Known.mono_l : ∀ k, (∀ y0 y1 y2 y3 y4 y5 y6, LeO (spec_Known.j0 k y0 y1 y2 y3 y4 y5 y6) (spec_Known.j0 (k + 1) y0 y1 y2 y3 y4 y5 y6))
 | 0 => fun _ _ _ _ _ _ _ r h => by simp [spec_Known.j0] at h
 | k + 1 => by
  have ih0 := spec_Known.mono_l k
  ·intro y0 y1 y2 y3 y4 y5 y6
   unfold spec_Known.j0
   repeat' (first | (with_reducible first | exact ih0 _ _ _ _ _ _ _ | exact spec_l5Tree.mono _ _ _ _ _ _ | exact LeO.refl _ | exact LeO.none _ | refine LeO.ite ?_ ?_ | refine LeO.bind ?_ (fun _ => ?_)) | exact LeO.none _ | refine LeO.ite ?_ ?_ | refine LeO.bind ?_ (fun _ => ?_))
theorem spec_Known.mono : ∀ a0 a1 a2 a3 a4 a5 k, LeO (spec_Known.f k a0 a1 a2 a3 a4 a5) (spec_Known.f (k + 1) a0 a1 a2 a3 a4 a5) := by
 intro a0 a1 a2 a3 a4 a5 k
 have ih0 := spec_Known.mono_l k
 unfold spec_Known.f
 repeat' (first | (with_reducible first | exact ih0 _ _ _ _ _ _ _ | exact spec_l5Tree.mono _ _ _ _ _ _ | exact LeO.refl _ | exact LeO.none _ | refine LeO.ite ?_ ?_ | refine LeO.bind ?_ (fun _ => ?_)) | exact LeO.none _ | refine LeO.ite ?_ ?_ | refine LeO.bind ?_ (fun _ => ?_))
set_option maxHeartbeats 8000000 in
set_option maxRecDepth 100000 in
theorem spec_Known.calls (k : Nat) (A0_0 : Option Addr) (c0_0 : Nat) (l0_0 : List ByteArray) (A0_1 : Option Addr) (c0_1 : Nat) (l0_1 : List (S78)) (A0_2 : Option Addr) (c0_2 : Nat) (l0_2 : List (S80)) (A0_3 : Option Addr) (c0_3 : Nat) (l0_3 : List (S77)) (A0_4 : Option Addr) (c0_4 : Nat) (l0_4 : List (S75)) (a1 : Int) (r1 : Int) (r2 : Bool) (w : World) (hr0_0 : Kd.C Kd.string w A0_0 l0_0.length l0_0) (hc0_0 : l0_0.length ≤ c0_0) (hr0_1 : Kd.C k78 w A0_1 l0_1.length l0_1) (hc0_1 : l0_1.length ≤ c0_1) (hr0_2 : Kd.C k80 w A0_2 l0_2.length l0_2) (hc0_2 : l0_2.length ≤ c0_2) (hr0_3 : Kd.C k77 w A0_3 l0_3.length l0_3) (hc0_3 : l0_3.length ≤ c0_3) (hr0_4 : Kd.C k75 w A0_4 l0_4.length l0_4) (hc0_4 : l0_4.length ≤ c0_4) (h : spec_Known.f k l0_0 l0_1 l0_2 l0_3 l0_4 a1 = some (r1, r2)) :
  Calls Tryd.prog 5 #[.agg #[.slice A0_0 l0_0.length c0_0, .slice A0_1 l0_1.length c0_1, .slice A0_2 l0_2.length c0_2, .slice A0_3 l0_3.length c0_3, .slice A0_4 l0_4.length c0_4], .int .i64 a1] w fun e w' => e = .returned (.tuple #[.int .i64 r1, .bool r2]) ∧ Below w.heap.size w w' := by
 have hu37 := Tryd.underlying37
 have HR0_0 := Aside0.mk hr0_0
 have HC0_0 := Aside0.mk hc0_0
 clear hr0_0 hc0_0
 have HR0_1 := Aside0.mk hr0_1
 have HC0_1 := Aside0.mk hc0_1
 clear hr0_1 hc0_1
 have HR0_2 := Aside0.mk hr0_2
 have HC0_2 := Aside0.mk hc0_2
 clear hr0_2 hc0_2
 have HR0_3 := Aside0.mk hr0_3
 have HC0_3 := Aside0.mk hc0_3
 clear hr0_3 hc0_3
 have HR0_4 := Aside0.mk hr0_4
 have HC0_4 := Aside0.mk hc0_4
 clear hr0_4 hc0_4
 have HB := Aside0.mk (Below.refl w.heap.size w)
 try unfold spec_Known.f at h
 have H := h
 clear h
 have HC3 := Aside0.mk H
 clear H
 go_enter Tryd.func5, Tryd.ntmps5
 go_upto_region 1 with (first | ((with_reducible refine gate_dst (N := 2) rfl ?_); (try (refine gate_guard (by rfl) ?_; dsimp only)); refine box_event ?hg (N := 2) ?hd (cs := #[.slice A0_0 l0_0.length c0_0, .slice A0_1 l0_1.length c0_1, .slice A0_2 l0_2.length c0_2, .slice A0_3 l0_3.length c0_3, .slice A0_4 l0_4.length c0_4]) (t := 37) ?hr ?_; (case hd => rfl); (case hg => rfl); (case hr => first | (go_simp; done) | (go_simp; rfl)); intro gb135 hg w4 hbox hb; have n0_ := Aside0.mk (below_step zt3 hb); have n1_ := Aside0.mk (hbox); have n2_ := Aside0.mk ((zt4 : w.heap.size ≤ gb135)); have n3_ := Aside0.mk ((zt4 : w.heap.size ≤ gb135)); clear HB; have HB := n0_; have BK135 := n1_; have GW135 := n2_; have GE135 := n3_; clear n0_ n1_ n2_ n3_; clear hb hbox hg))
 (try simp only [Act.put, List.setIfInBounds_toArray, List.set_cons_zero, List.set_cons_succ])
 go_cut [21] (fun v21 wc => ∃ (kq : Nat) (x21_2 : Bool), v21 = .bool x21_2 ∧ Aside0 (spec_Known.j0 kq a1 x21_2 l0_0 l0_1 l0_2 l0_3 l0_4 = some (r1, r2)) ∧ Aside0 (kq ≤ k) ∧ Aside0 (wc.heap[gb135]? = some (.cells #[(.slice A0_0 l0_0.length c0_0), (.slice A0_1 l0_1.length c0_1), (.slice A0_2 l0_2.length c0_2), (.slice A0_3 l0_3.length c0_3), (.slice A0_4 l0_4.length c0_4)] 37 (0, 0))) ∧ Aside0 (Below w.heap.size w wc))
 case first =>
  have H := HC3.out
  clear HC3
  replace H := bnd H
  obtain ⟨t136, A5, H⟩ := H
  try dsimp only at H
  by_cases c6 : t136 = true
  subst c6
  rw [if_pos rfl] at H
  by_cases c7 : a1 < 0
  rw [if_pos c7] at H
  have c7b0 : decide (a1 < 0) = true := decide_eq_true c7
  clear c7
  (first | rw [c7b0] | (simp only [i64_w, i32_w]; rw [c7b0]) | skip)
  have H' := Aside0.mk H
  clear H
  have hcz8_0 : w4.cell? ⟨gb135, 0, none⟩ = some (.slice A0_0 l0_0.length c0_0) := (blk_cell BK135.out 0).trans rfl
  have hcz8_1 : w4.cell? ⟨gb135, 1, none⟩ = some (.slice A0_1 l0_1.length c0_1) := (blk_cell BK135.out 1).trans rfl
  have hcz8_2 : w4.cell? ⟨gb135, 2, none⟩ = some (.slice A0_2 l0_2.length c0_2) := (blk_cell BK135.out 2).trans rfl
  have hcz8_3 : w4.cell? ⟨gb135, 3, none⟩ = some (.slice A0_3 l0_3.length c0_3) := (blk_cell BK135.out 3).trans rfl
  have hcz8_4 : w4.cell? ⟨gb135, 4, none⟩ = some (.slice A0_4 l0_4.length c0_4) := (blk_cell BK135.out 4).trans rfl
  have hfz8_0 := blk_frozen BK135.out 0
  have hfz8_1 := blk_frozen BK135.out 1
  have hfz8_2 := blk_frozen BK135.out 2
  have hfz8_3 := blk_frozen BK135.out 3
  have hfz8_4 := blk_frozen BK135.out 4
  rotate_left
  rw [if_neg c7] at H
  have c7b0 : decide (a1 < 0) = false := decide_eq_false c7
  clear c7
  (first | rw [c7b0] | (simp only [i64_w, i32_w]; rw [c7b0]) | skip)
  have H' := Aside0.mk H
  clear H
  have hcz10_0 : w4.cell? ⟨gb135, 0, none⟩ = some (.slice A0_0 l0_0.length c0_0) := (blk_cell BK135.out 0).trans rfl
  have hcz10_1 : w4.cell? ⟨gb135, 1, none⟩ = some (.slice A0_1 l0_1.length c0_1) := (blk_cell BK135.out 1).trans rfl
  have hcz10_2 : w4.cell? ⟨gb135, 2, none⟩ = some (.slice A0_2 l0_2.length c0_2) := (blk_cell BK135.out 2).trans rfl
  have hcz10_3 : w4.cell? ⟨gb135, 3, none⟩ = some (.slice A0_3 l0_3.length c0_3) := (blk_cell BK135.out 3).trans rfl
  have hcz10_4 : w4.cell? ⟨gb135, 4, none⟩ = some (.slice A0_4 l0_4.length c0_4) := (blk_cell BK135.out 4).trans rfl
  have hfz10_0 := blk_frozen BK135.out 0
  have hfz10_1 := blk_frozen BK135.out 1
  have hfz10_2 := blk_frozen BK135.out 2
  have hfz10_3 := blk_frozen BK135.out 3
  have hfz10_4 := blk_frozen BK135.out 4
  rotate_left
  replace c6 := Bool.eq_false_iff.mpr c6
  subst c6
  rw [if_neg (show ¬ (false = true) by decide)] at H
  have H' := Aside0.mk H
  clear H
  have hcz13_0 : w4.cell? ⟨gb135, 0, none⟩ = some (.slice A0_0 l0_0.length c0_0) := (blk_cell BK135.out 0).trans rfl
  have hcz13_1 : w4.cell? ⟨gb135, 1, none⟩ = some (.slice A0_1 l0_1.length c0_1) := (blk_cell BK135.out 1).trans rfl
  have hcz13_2 : w4.cell? ⟨gb135, 2, none⟩ = some (.slice A0_2 l0_2.length c0_2) := (blk_cell BK135.out 2).trans rfl
  have hcz13_3 : w4.cell? ⟨gb135, 3, none⟩ = some (.slice A0_3 l0_3.length c0_3) := (blk_cell BK135.out 3).trans rfl
  have hcz13_4 : w4.cell? ⟨gb135, 4, none⟩ = some (.slice A0_4 l0_4.length c0_4) := (blk_cell BK135.out 4).trans rfl
  have hfz13_0 := blk_frozen BK135.out 0
  have hfz13_1 := blk_frozen BK135.out 1
  have hfz13_2 := blk_frozen BK135.out 2
  have hfz13_3 := blk_frozen BK135.out 3
  have hfz13_4 := blk_frozen BK135.out 4
  rotate_left
  all_goals
   repeat (go_wp2_with (first | ((with_reducible refine gate_callee (f := 14) rfl ?_); refine goesL_ (some 9) rfl rfl Tryd.func14 (by kernel_rfl) rfl #[.agg #[.slice A0_0 l0_0.length c0_0, .slice A0_1 l0_1.length c0_1, .slice A0_2 l0_2.length c0_2, .slice A0_3 l0_3.length c0_3, .slice A0_4 l0_4.length c0_4]] rfl zt5 ?_; (with_reducible refine (spec_l5Tree.calls k _ _ l0_0 _ _ l0_1 _ _ l0_2 _ _ l0_3 _ _ l0_4 true _ ?side1 ?side2 ?side3 ?side4 ?side5 ?side6 ?side7 ?side8 ?side9 ?side10 A5.out).mono ?_); (case side1 => exact cz (Kd.C_below HR0_0.out HB.out)); (case side2 => exact HC0_0.out); (case side3 => exact cz (Kd.C_below HR0_1.out HB.out)); (case side4 => exact HC0_1.out); (case side5 => exact cz (Kd.C_below HR0_2.out HB.out)); (case side6 => exact HC0_2.out); (case side7 => exact cz (Kd.C_below HR0_3.out HB.out)); (case side8 => exact HC0_3.out); (case side9 => exact cz (Kd.C_below HR0_4.out HB.out)); (case side10 => exact HC0_4.out); rintro e w7000 ⟨rfl, hb⟩; refine ⟨_, rfl, ?_⟩; have n0_ := Aside0.mk (blk_below (g := gb135) (o := .cells #[.slice A0_0 l0_0.length c0_0, .slice A0_1 l0_1.length c0_1, .slice A0_2 l0_2.length c0_2, .slice A0_3 l0_3.length c0_3, .slice A0_4 l0_4.length c0_4] 37 (0, 0)) (oz BK135.out) hb); have n1_ := Aside0.mk (below_step zt19 hb); clear BK135; clear HB; have BK135 := n0_; have HB := n1_; clear n0_ n1_; (try clear hb); (try clear hb2); (try clear hk); (try clear hi); have hcz12_0 : w7000.cell? ⟨gb135, 0, none⟩ = some (.slice A0_0 l0_0.length c0_0) := (blk_cell BK135.out 0).trans rfl; have hcz12_1 : w7000.cell? ⟨gb135, 1, none⟩ = some (.slice A0_1 l0_1.length c0_1) := (blk_cell BK135.out 1).trans rfl; have hcz12_2 : w7000.cell? ⟨gb135, 2, none⟩ = some (.slice A0_2 l0_2.length c0_2) := (blk_cell BK135.out 2).trans rfl; have hcz12_3 : w7000.cell? ⟨gb135, 3, none⟩ = some (.slice A0_3 l0_3.length c0_3) := (blk_cell BK135.out 3).trans rfl; have hcz12_4 : w7000.cell? ⟨gb135, 4, none⟩ = some (.slice A0_4 l0_4.length c0_4) := (blk_cell BK135.out 4).trans rfl; have hfz12_0 := blk_frozen BK135.out 0; have hfz12_1 := blk_frozen BK135.out 1; have hfz12_2 := blk_frozen BK135.out 2; have hfz12_3 := blk_frozen BK135.out 3; have hfz12_4 := blk_frozen BK135.out 4) | ((with_reducible refine gate_callee (f := 14) rfl ?_); refine goesL_ (some 9) rfl rfl Tryd.func14 (by kernel_rfl) rfl #[.agg #[.slice A0_0 l0_0.length c0_0, .slice A0_1 l0_1.length c0_1, .slice A0_2 l0_2.length c0_2, .slice A0_3 l0_3.length c0_3, .slice A0_4 l0_4.length c0_4]] rfl zt5 ?_; (with_reducible refine (spec_l5Tree.calls k _ _ l0_0 _ _ l0_1 _ _ l0_2 _ _ l0_3 _ _ l0_4 false _ ?side1 ?side2 ?side3 ?side4 ?side5 ?side6 ?side7 ?side8 ?side9 ?side10 A5.out).mono ?_); (case side1 => exact cz (Kd.C_below HR0_0.out HB.out)); (case side2 => exact HC0_0.out); (case side3 => exact cz (Kd.C_below HR0_1.out HB.out)); (case side4 => exact HC0_1.out); (case side5 => exact cz (Kd.C_below HR0_2.out HB.out)); (case side6 => exact HC0_2.out); (case side7 => exact cz (Kd.C_below HR0_3.out HB.out)); (case side8 => exact HC0_3.out); (case side9 => exact cz (Kd.C_below HR0_4.out HB.out)); (case side10 => exact HC0_4.out); rintro e w7000 ⟨rfl, hb⟩; refine ⟨_, rfl, ?_⟩; have n0_ := Aside0.mk (blk_below (g := gb135) (o := .cells #[.slice A0_0 l0_0.length c0_0, .slice A0_1 l0_1.length c0_1, .slice A0_2 l0_2.length c0_2, .slice A0_3 l0_3.length c0_3, .slice A0_4 l0_4.length c0_4] 37 (0, 0)) (oz BK135.out) hb); have n1_ := Aside0.mk (below_step zt19 hb); clear BK135; clear HB; have BK135 := n0_; have HB := n1_; clear n0_ n1_; (try clear hb); (try clear hb2); (try clear hk); (try clear hi)) | ((with_reducible refine gate_callee (f := 14) rfl ?_); refine goesL_ (some 9) rfl rfl Tryd.func14 (by kernel_rfl) rfl #[.agg #[.slice A0_0 l0_0.length c0_0, .slice A0_1 l0_1.length c0_1, .slice A0_2 l0_2.length c0_2, .slice A0_3 l0_3.length c0_3, .slice A0_4 l0_4.length c0_4]] rfl zt5 ?_; (with_reducible refine (spec_l5Tree.calls k _ _ l0_0 _ _ l0_1 _ _ l0_2 _ _ l0_3 _ _ l0_4 true _ ?side1 ?side2 ?side3 ?side4 ?side5 ?side6 ?side7 ?side8 ?side9 ?side10 A5.out).mono ?_); (case side1 => exact cz (Kd.C_below HR0_0.out HB.out)); (case side2 => exact HC0_0.out); (case side3 => exact cz (Kd.C_below HR0_1.out HB.out)); (case side4 => exact HC0_1.out); (case side5 => exact cz (Kd.C_below HR0_2.out HB.out)); (case side6 => exact HC0_2.out); (case side7 => exact cz (Kd.C_below HR0_3.out HB.out)); (case side8 => exact HC0_3.out); (case side9 => exact cz (Kd.C_below HR0_4.out HB.out)); (case side10 => exact HC0_4.out); rintro e w7000 ⟨rfl, hb⟩; refine ⟨_, rfl, ?_⟩; have n0_ := Aside0.mk (blk_below (g := gb135) (o := .cells #[.slice A0_0 l0_0.length c0_0, .slice A0_1 l0_1.length c0_1, .slice A0_2 l0_2.length c0_2, .slice A0_3 l0_3.length c0_3, .slice A0_4 l0_4.length c0_4] 37 (0, 0)) (oz BK135.out) hb); have n1_ := Aside0.mk (below_step zt19 hb); clear BK135; clear HB; have BK135 := n0_; have HB := n1_; clear n0_ n1_; (try clear hb); (try clear hb2); (try clear hk); (try clear hi))); first | go_quiet (fail) | (go_meet; (case rel => exact ⟨_, (true), zt10, H', ⟨by first | omega | exact Nat.le_refl _⟩, ⟨by (with_reducible repeat (first | refine blk_drewN ?_ _ | refine blk_drew ?_ | refine blk_alloc ?_ _)); exact BK135.out⟩, ⟨zt19⟩⟩)) | (go_meet; (case rel => exact ⟨_, (decide (a1 ≥ (l0_4.length : Int))), zt10, H', ⟨by first | omega | exact Nat.le_refl _⟩, ⟨by (with_reducible repeat (first | refine blk_drewN ?_ _ | refine blk_drew ?_ | refine blk_alloc ?_ _)); exact BK135.out⟩, ⟨zt19⟩⟩)))
 case rest =>
  clear HC3
  try clear c1
  try clear p2
  try clear c5
  try clear c6
  try clear c7
  try clear c7b0
  try clear c14
  try clear hcz10_0
  try clear hcz10_1
  try clear hcz10_2
  try clear hcz10_3
  try clear hcz10_4
  try clear hcz12_0
  try clear hcz12_1
  try clear hcz12_2
  try clear hcz12_3
  try clear hcz12_4
  try clear hcz13_0
  try clear hcz13_1
  try clear hcz13_2
  try clear hcz13_3
  try clear hcz13_4
  try clear hcz8_0
  try clear hcz8_1
  try clear hcz8_2
  try clear hcz8_3
  try clear hcz8_4
  try clear hfz10_0
  try clear hfz10_1
  try clear hfz10_2
  try clear hfz10_3
  try clear hfz10_4
  try clear hfz12_0
  try clear hfz12_1
  try clear hfz12_2
  try clear hfz12_3
  try clear hfz12_4
  try clear hfz13_0
  try clear hfz13_1
  try clear hfz13_2
  try clear hfz13_3
  try clear hfz13_4
  try clear hfz8_0
  try clear hfz8_1
  try clear hfz8_2
  try clear hfz8_3
  try clear hfz8_4
  obtain ⟨kq, x21_2, rfl, HA, HJ2, BK135, HB⟩ := hcut
  cases kq with
  | zero => exact absurd HA.out (by simp [spec_Known.j0])
  | succ kj2 =>
   have H := HA.out
   clear HA
   simp only [spec_Known.j0] at H
   by_cases c15 : x21_2 = true
   subst c15
   rw [if_pos rfl] at H
   simp only [Option.some.injEq, Prod.mk.injEq] at H
   obtain ⟨rfl, rfl⟩ := H
   rotate_left
   replace c15 := Bool.eq_false_iff.mpr c15
   subst c15
   rw [if_neg (show ¬ (false = true) by decide)] at H
   replace H := bnd H
   obtain ⟨⟨t137, t140⟩, A16, H⟩ := H
   try dsimp only at H
   replace H := it0 H
   obtain ⟨c17, H⟩ := H
   have c17b0 : decide (0 ≤ a1) = true := decide_eq_true c17
   clear c17
   replace H := it0 H
   obtain ⟨c18, H⟩ := H
   have c18b0 := decide_eq_true c18
   clear c18
   obtain ⟨bq19, hbq19⟩ : ∃ b_ : Bool, b_ = (rdOf false t140 a1) := ⟨_, rfl⟩
   replace H : (if bq19 = true then (if a1 < (t137.length : Int) then (some (rd t137 a1, true)) else (none)) else (some (0, false))) = some (r1, r2) := by rw [← hbq19] at H; exact H
   have Nbq19 := Aside0.mk hbq19
   clear hbq19
   by_cases c20 : bq19 = true
   subst c20
   rw [if_pos rfl] at H
   replace H := it0 H
   obtain ⟨c21, H⟩ := H
   have c21b0 := decide_eq_true c21
   clear c21
   simp only [Option.some.injEq, Prod.mk.injEq] at H
   obtain ⟨rfl, rfl⟩ := H
   have hcz22_0 : wc.cell? ⟨gb135, 0, none⟩ = some (.slice A0_0 l0_0.length c0_0) := (blk_cell BK135.out 0).trans rfl
   have hcz22_1 : wc.cell? ⟨gb135, 1, none⟩ = some (.slice A0_1 l0_1.length c0_1) := (blk_cell BK135.out 1).trans rfl
   have hcz22_2 : wc.cell? ⟨gb135, 2, none⟩ = some (.slice A0_2 l0_2.length c0_2) := (blk_cell BK135.out 2).trans rfl
   have hcz22_3 : wc.cell? ⟨gb135, 3, none⟩ = some (.slice A0_3 l0_3.length c0_3) := (blk_cell BK135.out 3).trans rfl
   have hcz22_4 : wc.cell? ⟨gb135, 4, none⟩ = some (.slice A0_4 l0_4.length c0_4) := (blk_cell BK135.out 4).trans rfl
   have hfz22_0 := blk_frozen BK135.out 0
   have hfz22_1 := blk_frozen BK135.out 1
   have hfz22_2 := blk_frozen BK135.out 2
   have hfz22_3 := blk_frozen BK135.out 3
   have hfz22_4 := blk_frozen BK135.out 4
   rotate_left
   replace c20 := Bool.eq_false_iff.mpr c20
   subst c20
   rw [if_neg (show ¬ (false = true) by decide)] at H
   simp only [Option.some.injEq, Prod.mk.injEq] at H
   obtain ⟨rfl, rfl⟩ := H
   have hcz26_0 : wc.cell? ⟨gb135, 0, none⟩ = some (.slice A0_0 l0_0.length c0_0) := (blk_cell BK135.out 0).trans rfl
   have hcz26_1 : wc.cell? ⟨gb135, 1, none⟩ = some (.slice A0_1 l0_1.length c0_1) := (blk_cell BK135.out 1).trans rfl
   have hcz26_2 : wc.cell? ⟨gb135, 2, none⟩ = some (.slice A0_2 l0_2.length c0_2) := (blk_cell BK135.out 2).trans rfl
   have hcz26_3 : wc.cell? ⟨gb135, 3, none⟩ = some (.slice A0_3 l0_3.length c0_3) := (blk_cell BK135.out 3).trans rfl
   have hcz26_4 : wc.cell? ⟨gb135, 4, none⟩ = some (.slice A0_4 l0_4.length c0_4) := (blk_cell BK135.out 4).trans rfl
   have hfz26_0 := blk_frozen BK135.out 0
   have hfz26_1 := blk_frozen BK135.out 1
   have hfz26_2 := blk_frozen BK135.out 2
   have hfz26_3 := blk_frozen BK135.out 3
   have hfz26_4 := blk_frozen BK135.out 4
   rotate_left
   all_goals
    repeat (go_wp2_with (first | ((with_reducible refine gate_callee (f := 15) rfl ?_); refine goesL_ (some 24) rfl rfl Tryd.func15 (by kernel_rfl) rfl #[.agg #[.slice A0_0 l0_0.length c0_0, .slice A0_1 l0_1.length c0_1, .slice A0_2 l0_2.length c0_2, .slice A0_3 l0_3.length c0_3, .slice A0_4 l0_4.length c0_4]] rfl zt5 ?_; (with_reducible refine (spec_l17Known.calls _ _ l0_0 _ _ l0_1 _ _ l0_2 _ _ l0_3 _ _ l0_4 t137 t140 _ ?side1 ?side2 ?side3 ?side4 ?side5 ?side6 ?side7 ?side8 ?side9 ?side10 A16.out).mono ?_); (case side1 => exact cz (Kd.C_below HR0_0.out HB.out)); (case side2 => exact HC0_0.out); (case side3 => exact cz (Kd.C_below HR0_1.out HB.out)); (case side4 => exact HC0_1.out); (case side5 => exact cz (Kd.C_below HR0_2.out HB.out)); (case side6 => exact HC0_2.out); (case side7 => exact cz (Kd.C_below HR0_3.out HB.out)); (case side8 => exact HC0_3.out); (case side9 => exact cz (Kd.C_below HR0_4.out HB.out)); (case side10 => exact HC0_4.out); rintro e w7000 ⟨v7001, v7002, rfl, ho7003, ho7004, hb⟩; refine ⟨_, rfl, ?_⟩; have n0_ := Aside0.mk (Kd.R_lower ho7003 (below_size zt19)); have n1_ := Aside0.mk (Kd.R_lower ho7004 (below_size zt19)); have n2_ := Aside0.mk (blk_below (g := gb135) (o := .cells #[.slice A0_0 l0_0.length c0_0, .slice A0_1 l0_1.length c0_1, .slice A0_2 l0_2.length c0_2, .slice A0_3 l0_3.length c0_3, .slice A0_4 l0_4.length c0_4] 37 (0, 0)) (oz BK135.out) hb); have n3_ := Aside0.mk (below_step zt19 hb); clear BK135; clear HB; have HO7005 := n0_; have HO7006 := n1_; have BK135 := n2_; have HB := n3_; clear n0_ n1_ n2_ n3_; (try clear hb); (try clear hb2); (try clear hk); (try clear hi); (try clear ho7003); (try clear ho7004); obtain ⟨Ao7007, co7007, eo7007⟩ := Kd.R_slice HO7006.out; subst eo7007; have p7008 : 0 ≤ (a1 : Int) := of_decide_eq_true zt6; have q7008 : a1 < (t140.length : Int) := of_decide_eq_true zt6; obtain ⟨ad7008, e7008, hx7008_0⟩ := Kd.at_bool (Kd.R_reads' HO7006.out).2.2 a1 p7008 q7008; (try rw [← Nbq19.out] at hx7008_0); cases e7008; replace p7008 := eq_true p7008; replace q7008 := eq_true q7008; obtain ⟨Ao7009, co7009, eo7009⟩ := Kd.R_slice HO7005.out; subst eo7009; have p7010 : 0 ≤ (a1 : Int) := of_decide_eq_true zt6; have q7010 : a1 < (t137.length : Int) := of_decide_eq_true zt6; obtain ⟨ad7010, e7010, hx7010_0⟩ := Kd.at_int (Kd.R_reads' HO7005.out).2.2 a1 p7010 q7010; cases e7010; replace p7010 := eq_true p7010; replace q7010 := eq_true q7010) | ((with_reducible refine gate_callee (f := 15) rfl ?_); refine goesL_ (some 24) rfl rfl Tryd.func15 (by kernel_rfl) rfl #[.agg #[.slice A0_0 l0_0.length c0_0, .slice A0_1 l0_1.length c0_1, .slice A0_2 l0_2.length c0_2, .slice A0_3 l0_3.length c0_3, .slice A0_4 l0_4.length c0_4]] rfl zt5 ?_; (with_reducible refine (spec_l17Known.calls _ _ l0_0 _ _ l0_1 _ _ l0_2 _ _ l0_3 _ _ l0_4 t137 t140 _ ?side1 ?side2 ?side3 ?side4 ?side5 ?side6 ?side7 ?side8 ?side9 ?side10 A16.out).mono ?_); (case side1 => exact cz (Kd.C_below HR0_0.out HB.out)); (case side2 => exact HC0_0.out); (case side3 => exact cz (Kd.C_below HR0_1.out HB.out)); (case side4 => exact HC0_1.out); (case side5 => exact cz (Kd.C_below HR0_2.out HB.out)); (case side6 => exact HC0_2.out); (case side7 => exact cz (Kd.C_below HR0_3.out HB.out)); (case side8 => exact HC0_3.out); (case side9 => exact cz (Kd.C_below HR0_4.out HB.out)); (case side10 => exact HC0_4.out); rintro e w7000 ⟨v7001, v7002, rfl, ho7003, ho7004, hb⟩; refine ⟨_, rfl, ?_⟩; have n0_ := Aside0.mk (Kd.R_lower ho7003 (below_size zt19)); have n1_ := Aside0.mk (Kd.R_lower ho7004 (below_size zt19)); have n2_ := Aside0.mk (blk_below (g := gb135) (o := .cells #[.slice A0_0 l0_0.length c0_0, .slice A0_1 l0_1.length c0_1, .slice A0_2 l0_2.length c0_2, .slice A0_3 l0_3.length c0_3, .slice A0_4 l0_4.length c0_4] 37 (0, 0)) (oz BK135.out) hb); have n3_ := Aside0.mk (below_step zt19 hb); clear BK135; clear HB; have HO7005 := n0_; have HO7006 := n1_; have BK135 := n2_; have HB := n3_; clear n0_ n1_ n2_ n3_; (try clear hb); (try clear hb2); (try clear hk); (try clear hi); (try clear ho7003); (try clear ho7004); obtain ⟨Ao7007, co7007, eo7007⟩ := Kd.R_slice HO7006.out; subst eo7007; have p7008 : 0 ≤ (a1 : Int) := of_decide_eq_true zt6; have q7008 : a1 < (t140.length : Int) := of_decide_eq_true zt6; obtain ⟨ad7008, e7008, hx7008_0⟩ := Kd.at_bool (Kd.R_reads' HO7006.out).2.2 a1 p7008 q7008; (try rw [← Nbq19.out] at hx7008_0); cases e7008; replace p7008 := eq_true p7008; replace q7008 := eq_true q7008)); first | go_quiet (fail) | (go_ret2; exact ⟨zt8, zt19⟩))

end Go.Proofs.YtnakdhpefkllmaaDoor.PFnExactKnown

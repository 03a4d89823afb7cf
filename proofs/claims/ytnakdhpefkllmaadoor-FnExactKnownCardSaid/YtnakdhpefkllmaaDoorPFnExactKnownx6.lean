-- Out of the kit's print, with contracts of mine among it (myprint.py).
import Derived.Test.YtnakdhpefkllmaaDoorPFnExactKnownx0
import Derived.Test.YtnakdhpefkllmaaDoorPFnExactKnownx5
namespace Go.Proofs.YtnakdhpefkllmaaDoor.PFnExactKnown
open Go.RowKit Go.Proofs.YtnakdhpefkllmaaDoorW.PrintWords Go.Proofs.YtnakdhpefkllmaaDoorW.PrintLast Go.Proofs.YtnakdhpefkllmaaDoorW.PrintMore
attribute [local go_sem] max2_int min2_int max_two min_two max_three min_three max_four min_four   -- for this text's walks alone
set_option linter.unusedVariables false
set_option linter.unusedSimpArgs false

/-! ### impl_printable: function 39 (a contract of mine) -/
def impl_printable.inc (t : List Int) (i : Int) : List Int := t.set i.toNat (wrap64 (rd t i + 1))
def impl_printable.go1 : List S75 → Int → List Int → Option (List Int)
 | [], _, t => some t
 | x :: r, i, t => if 6 ≤ x.f0 ∧ x.f0 ≤ 8 then (if 0 ≤ x.f4 ∧ x.f4 ≤ i - 1 then (if 0 ≤ x.f5 ∧ x.f5 ≤ i - 1 then impl_printable.go1 r (i + 1) (impl_printable.inc (impl_printable.inc t x.f4) x.f5) else none) else none) else impl_printable.go1 r (i + 1) t
def impl_printable.go2 : List S77 → List Int → Option (List Int)
 | [], t => some t
 | s :: r, t => if 0 ≤ s.f2 ∧ s.f2 ≤ (t.length : Int) - 1 then impl_printable.go2 r (impl_printable.inc t s.f2) else none
def impl_printable.b (l3 : List S77) (l4 : List S75) : Bool :=
 match impl_printable.go1 l4 0 (List.replicate l4.length 0) with
 | none => false
 | some t => match impl_printable.go2 l3 t with
  | none => false
  | some t => t.all (fun n => n == 1)
def impl_printable.f (l0_0 : List ByteArray) (l0_1 : List S78) (l0_2 : List S80) (l0_3 : List S77) (l0_4 : List S75) : Option Bool := if l0_4.length ≤ 4194304 ∧ l0_3.length ≤ 4194304 then some (impl_printable.b l0_3 l0_4) else none
theorem impl_printable.inc_len (t : List Int) (i : Int) : (impl_printable.inc t i).length = t.length := List.length_set
theorem impl_printable.clo (q : Int) (w : World) : Calls Tryd.prog 50 #[.int .i64 q] w fun e w' => e = .returned (.bool (q != 1)) ∧ w' = w := by
 go_enter Tryd.func50, Tryd.ntmps50
 go_wp2
 go_ret
 exact ⟨rfl, rfl⟩
theorem impl_printable.inf (i : Int) (a b : Int) : impl_in.f i a b = some (decide (a ≤ i ∧ i ≤ b)) := by
 unfold impl_in.f
 by_cases c : i ≥ a
 ·rw [if_pos c]; congr 1; exact decide_eq_decide.2 ⟨fun h => ⟨c, h⟩, fun h => h.2⟩
 ·rw [if_neg c]; congr 1; exact (decide_eq_false (fun h => c h.1)).symm
def impl_printable.ans (t : List Int) (e : Ending) : Prop := ∃ j : Int, e = .returned (.int .i64 j) ∧ decide (j ≥ 0) = !t.all (fun n => n == 1)
set_option maxHeartbeats 4000000 in
theorem impl_printable.idx (A : Option Addr) (c : Nat) (t : List Int) (w : World) (hr : Kd.C (Kd.int .i64) w A t.length t) (hl : t.length ≤ 4194304) :
  Calls Tryd.prog 54 #[.slice A t.length c, .func (.func 50) #[] #[]] w fun e w' => impl_printable.ans t e ∧ Drawn0 w w' := by
 have HR := Aside0.mk hr
 have eg : ∀ args w, (callFunc 50 args).run Tryd.prog w = .ok (.enter 50 args) w := enters_of Tryd.func50 (by kernel_rfl) rfl
 clear hr
 go_enter Tryd.func54, Tryd.ntmps54
 go_wp2
 go_loopg [5, 8] t.length (fun gg _ s8 wr => ∃ i : Nat, s8 = .int .i64 i ∧ Aside0 (i ≤ t.length ∧ t.length - i ≤ gg) ∧ Aside0 ((t.take i).all (fun n => n == 1) = true) ∧ Drawn0 w wr)
 case atStart => exact ⟨0, rfl, ⟨by omega, by omega⟩, ⟨rfl⟩, ⟨0, rfl⟩⟩
 case round =>
  obtain ⟨i, rfl, HI, HT, hD⟩ := hrel
  obtain ⟨q, rfl⟩ := hD
  by_cases hlt : i < t.length
  ·have p0 : (0 : Int) ≤ (i : Int) := by omega
   have p1 : (i : Int) < (t.length : Int) := by omega
   obtain ⟨ad, ead, x0⟩ := Kd.at_int HR.out (i : Int) p0 p1
   cases ead
   rw [Int.toNat_natCast] at x0
   replace x0 : (w.drewN q).cell? (ad.add i) = some (.int .i64 (rd t (i : Int))) := x0
   obtain ⟨v, hv⟩ : ∃ v, v = rd t (i : Int) := ⟨_, rfl⟩
   rw [← hv] at x0
   have hte : t.take (i + 1) = t.take i ++ [v] := by
    rw [List.take_succ_eq_append_getElem hlt, hv]
    congr 2
    show _ = t.getD _ _
    rw [Int.toNat_natCast, List.getD_eq_getElem?_getD, List.getElem?_eq_getElem hlt]; rfl
   have HV := Aside0.mk hv
   have HTE := Aside0.mk hte
   clear hv hte
   by_cases c1 : v = 1
   ·subst c1
    go_wp2_with (go_at_fn 50; refine (impl_printable.clo 1 _).mono ?_; rintro e w' ⟨rfl, rfl⟩)
    go_roundg (t.length - (i + 1))
    case measure => have := HI.out; omega
    case rel => exact ⟨i + 1, by first | (congr 1; done) | (congr 1; unfold wrap64; omega), ⟨by omega, by have := HI.out; omega⟩, ⟨by rw [HTE.out, List.all_append, HT.out]; rfl⟩, ⟨q, rfl⟩⟩
   ·have c2 : (v != 1) = true := bne_iff_ne.2 c1
    have hcl := impl_printable.clo v (w.drewN q)
    rw [c2] at hcl
    have HCL := Aside0.mk hcl
    have hal : t.all (fun n => n == 1) = false := by
     rw [← List.take_append_drop (i + 1) t, HTE.out, List.all_append, List.all_append]
     simp [c1]
    have HAL := Aside0.mk hal
    clear hcl hal c2 c1
    go_wp2_with (go_at_fn 50; refine HCL.out.mono ?_; rintro e w' ⟨rfl, rfl⟩)
    go_ret
    exact ⟨⟨i, rfl, by rw [HAL.out]; exact decide_eq_true p0⟩, ⟨q, rfl⟩⟩
  ·have hte : t.take i = t := List.take_of_length_le (by omega)
   rw [hte] at HT
   have hltz : ¬ (i : Int) < (t.length : Int) := by omega
   clear hte
   go_wp2
   go_ret
   exact ⟨⟨-1, rfl, by rw [HT.out]; rfl⟩, ⟨q, rfl⟩⟩
theorem impl_printable.con (A : Option Addr) (c : Nat) (t : List Int) (w : World) (hr : Kd.C (Kd.int .i64) w A t.length t) (hl : t.length ≤ 4194304) :
  Calls Tryd.prog 49 #[.slice A t.length c, .func (.func 50) #[] #[]] w fun e w' => e = .returned (.bool (!t.all (fun n => n == 1))) ∧ Drawn0 w w' := by
 have HR := Aside0.mk hr
 clear hr
 go_enter Tryd.func49, Tryd.ntmps49
 go_wp2_with (go_at_call 54; refine (impl_printable.idx A c t _ HR.out hl).mono ?_; rintro e w' ⟨⟨j, rfl, hj⟩, hd⟩; have HJ := Aside0.mk hj; have HD := Aside0.mk hd; clear hj hd)
 go_ret
 exact ⟨by rw [← HJ.out]; rfl, HD.out⟩
theorem impl_printable.six {W : World} {gb T : Nat} {a b c d e f u v z y x t : Value} (h : W.heap[gb]? = some (.cells #[a, b, c, d, e, f] T (0, 0))) : ((((((W.setCell ⟨gb, 0, none⟩ u).setCell ⟨gb, 1, none⟩ v).setCell ⟨gb, 2, none⟩ z).setCell ⟨gb, 3, none⟩ y).setCell ⟨gb, 4, none⟩ x).setCell ⟨gb, 5, none⟩ t).heap[gb]? = some (.cells #[u, v, z, y, x, t] T (0, 0)) := by
 simp [World.setCell, Array.getElem?_modify, h]
theorem impl_printable.three {W : World} {gb T : Nat} {a b c u v z : Value} (h : W.heap[gb]? = some (.cells #[a, b, c] T (0, 0))) : (((W.setCell ⟨gb, 0, none⟩ u).setCell ⟨gb, 1, none⟩ v).setCell ⟨gb, 2, none⟩ z).heap[gb]? = some (.cells #[u, v, z] T (0, 0)) := by
 simp [World.setCell, Array.getElem?_modify, h]
theorem impl_printable.tne {W : World} {a b s t : Nat} {x y : Array Value} (h : W.heap[a]? = some (.cells x s (0, 0))) (k : W.heap[b]? = some (.cells y t (0, 0))) (hst : s ≠ t) : a ≠ b := by
 rintro rfl
 rw [h] at k
 injection k with k
 injection k with _ k
 exact hst k
theorem impl_printable.opf (x : Int) : impl_isOp.f x = some (decide (6 ≤ x ∧ x ≤ 8)) := by
 unfold impl_isOp.f
 rw [impl_printable.inf, Option.bind_some]
def impl_printable.Fin (w : World) (r : Bool) (e : Ending) (w' : World) : Prop := e = .returned (.bool r) ∧ Below w.heap.size w w'
set_option maxHeartbeats 8000000 in
set_option maxRecDepth 100000 in
theorem impl_printable.calls (A0_0 : Option Addr) (c0_0 : Nat) (l0_0 : List (ByteArray)) (A0_1 : Option Addr) (c0_1 : Nat) (l0_1 : List (S78)) (A0_2 : Option Addr) (c0_2 : Nat) (l0_2 : List (S80)) (A0_3 : Option Addr) (c0_3 : Nat) (l0_3 : List (S77)) (A0_4 : Option Addr) (c0_4 : Nat) (l0_4 : List (S75)) (r : Bool) (w : World) (hr0_0 : Kd.C Kd.string w A0_0 l0_0.length l0_0) (hc0_0 : l0_0.length ≤ c0_0) (hr0_1 : Kd.C k78 w A0_1 l0_1.length l0_1) (hc0_1 : l0_1.length ≤ c0_1) (hr0_2 : Kd.C k80 w A0_2 l0_2.length l0_2) (hc0_2 : l0_2.length ≤ c0_2) (hr0_3 : Kd.C k77 w A0_3 l0_3.length l0_3) (hc0_3 : l0_3.length ≤ c0_3) (hr0_4 : Kd.C k75 w A0_4 l0_4.length l0_4) (hc0_4 : l0_4.length ≤ c0_4) (h : impl_printable.f l0_0 l0_1 l0_2 l0_3 l0_4 = some r) :
  Calls Tryd.prog 39 #[.agg #[.slice A0_0 l0_0.length c0_0, .slice A0_1 l0_1.length c0_1, .slice A0_2 l0_2.length c0_2, .slice A0_3 l0_3.length c0_3, .slice A0_4 l0_4.length c0_4]] w fun e w' => e = .returned (.bool r) ∧ Below w.heap.size w w' := by
 unfold impl_printable.f at h
 by_cases cc : l0_4.length ≤ 4194304 ∧ l0_3.length ≤ 4194304
 case neg => rw [if_neg cc] at h; cases h
 rw [if_pos cc] at h
 obtain ⟨hl4, hl3⟩ := cc
 have hb := Option.some.inj h
 unfold impl_printable.b at hb
 obtain ⟨G, hG⟩ : ∃ G, G = impl_printable.go1 l0_4 0 (List.replicate l0_4.length 0) := ⟨_, rfl⟩
 rw [← hG] at hb
 have HGG := Aside0.mk hG
 have HBB := Aside0.mk hb
 clear h hb hG
 have HR0 := Aside0.mk hr0_0
 have HC0 := Aside0.mk hc0_0
 have HR1 := Aside0.mk hr0_1
 have HC1 := Aside0.mk hc0_1
 have HR2 := Aside0.mk hr0_2
 have HC2 := Aside0.mk hc0_2
 have HR3 := Aside0.mk hr0_3
 have HC3 := Aside0.mk hc0_3
 have HR4 := Aside0.mk hr0_4
 have HC4 := Aside0.mk hc0_4
 clear hr0_0 hc0_0 hr0_1 hc0_1 hr0_2 hc0_2 hr0_3 hc0_3 hr0_4 hc0_4
 go_enter Tryd.func39, Tryd.ntmps39
 have n0 : (0 : Int) ≤ (l0_4.length : Int) := by omega
 go_upto_region 2 with (first
  | ((with_reducible refine gate_dst (N := 1) rfl ?_); refine box_event ?hg (N := 1) ?hd (cs := #[.slice A0_0 l0_0.length c0_0, .slice A0_1 l0_1.length c0_1, .slice A0_2 l0_2.length c0_2, .slice A0_3 l0_3.length c0_3, .slice A0_4 l0_4.length c0_4]) (t := 37) ?hr ?_; (case hd => rfl); (case hg => rfl); (case hr => first | (go_simp; done) | (go_simp; rfl)); intro b1 hg w1 hbox hb; have HB := Aside0.mk hb; have B1 := Aside0.mk hbox; have y0 := (blk_cell hbox 0).trans rfl; have y1 := (blk_cell hbox 1).trans rfl; have y2 := (blk_cell hbox 2).trans rfl; have y3 := (blk_cell hbox 3).trans rfl; have y4 := (blk_cell hbox 4).trans rfl; clear hb hbox hg)
  | ((with_reducible refine gate_dst (N := 11) rfl ?_); refine Kd.R_make (Kd.int .i64) _ 3 rfl (N := 11) rfl 47 _ _ rfl (l0_4.length : Int) rfl rfl Tryd.underlying47 (.int .i64 0) 8 info3 rfl (by decide) (by omega) 0 (ok := fun _ => True) (okp := fun _ => True) rfl (fun _ hk => hk) trivial n0 (by rw [Int.toNat_natCast]; omega) (Below.refl _ _) (Nat.le_refl _) ?_; intro v3 w3 ho hb hg_ hnew_; have HO := Aside0.mk (Kd.R_lower ho (below_size HB.out)); replace HB := Aside0.mk (below_step HB.out hb); replace B1 := Aside0.mk (blk_below B1.out hb); clear ho hb hg_ hnew_ y0 y1 y2 y3 y4))
 obtain ⟨A3, c3, hv3, hc3, _⟩ := Kd.R_reads HO.out
 rw [List.length_replicate, Int.toNat_natCast] at hv3 hc3
 subst hv3
 have hN : (List.replicate (l0_4.length : Int).toNat (0 : Int)) = List.replicate l0_4.length 0 := by rw [Int.toNat_natCast]
 rw [hN] at HO
 clear hN
 have y0 := (blk_cell B1.out 0).trans rfl
 have y1 := (blk_cell B1.out 1).trans rfl
 have y2 := (blk_cell B1.out 2).trans rfl
 have y3 := (blk_cell B1.out 3).trans rfl
 have y4 := (blk_cell B1.out 4).trans rfl
 go_wp2
 go_loopg [4, 5, 15] l0_4.length (fun gg s4 s5 s15 wr => ∃ (i : Nat) (t : List Int), s15 = .int .i64 i ∧ Aside0 (i ≤ l0_4.length ∧ l0_4.length - i ≤ gg) ∧ Aside0 (t.length = l0_4.length) ∧ Aside0 (impl_printable.go1 (l0_4.drop i) i t = G) ∧ Aside0 (Kd.R (Kd.int .i64) 3 wr w.heap.size (fun _ => True) (.slice A3 l0_4.length c3) t) ∧ Aside0 (wr.heap[b1]? = some (.cells #[.slice A0_0 l0_0.length c0_0, .slice A0_1 l0_1.length c0_1, .slice A0_2 l0_2.length c0_2, .slice A0_3 l0_3.length c0_3, .slice A0_4 l0_4.length c0_4] 37 (0, 0))) ∧ Aside0 (Below w.heap.size w wr))
 case atStart => exact ⟨0, List.replicate l0_4.length 0, rfl, ⟨by omega, by omega⟩, ⟨List.length_replicate⟩, ⟨HGG.out.symm⟩, HO, B1, HB⟩
 case round =>
  clear y0 y1 y2 y3 y4 HO B1 HB
  obtain ⟨i, t, rfl, HI, HL, HT, HO, B1, HB⟩ := hrel
  by_cases hlt : i < l0_4.length
  ·have p0 : (0 : Int) ≤ (i : Int) := by omega
   have p1 : (i : Int) < (l0_4.length : Int) := by omega
   obtain ⟨ad, ead, x0, x1, x2, x3, x4, x5⟩ := at_T75 HR4.out (i : Int) p0 p1
   cases ead
   rw [Int.toNat_natCast] at x0 x1 x2 x3 x4 x5
   replace x0 := (HB.out.cell (World.block_lt_of_cell? w _ x0)).trans x0
   replace x1 := (HB.out.cell (World.block_lt_of_cell? w _ x1)).trans x1
   replace x2 := (HB.out.cell (World.block_lt_of_cell? w _ x2)).trans x2
   replace x3 := (HB.out.cell (World.block_lt_of_cell? w _ x3)).trans x3
   replace x4 := (HB.out.cell (World.block_lt_of_cell? w _ x4)).trans x4
   replace x5 := (HB.out.cell (World.block_lt_of_cell? w _ x5)).trans x5
   have hdr : l0_4.drop i = rd_T75 l0_4 (i : Int) :: l0_4.drop (i + 1) := by
    rw [List.drop_eq_getElem_cons hlt]
    congr 1
    show _ = l0_4.getD _ _
    rw [Int.toNat_natCast, List.getD_eq_getElem?_getD, List.getElem?_eq_getElem hlt]; rfl
   rw [hdr] at HT
   clear hdr
   go_upto_region 5 with (first
    | ((with_reducible refine gate_dst (N := 5) rfl ?_); refine box_event ?hg (N := 5) ?hd (cs := #[.int .i64 0, .int .i64 0, .string (⟨#[]⟩ : ByteArray), .string (⟨#[]⟩ : ByteArray), .int .i64 0, .int .i64 0]) (t := 75) ?hr ?_; (case hd => rfl); (case hg => rfl); (case hr => first | (go_simp; done) | (go_simp; rfl)); intro b5 hg wb hbox hb; have HN := Aside0.mk (show b1 ≠ b5 by rw [hg]; exact Nat.ne_of_lt (blk_lt B1.out)); have HGE := Aside0.mk (show w.heap.size ≤ b5 by rw [hg]; exact below_size HB.out); have HB1 := Aside0.mk (below_step HB.out hb); have B11 := Aside0.mk (blk_below B1.out hb); have HO1 := Aside0.mk (Kd.R_below HO.out hb); have BX := Aside0.mk hbox; have z0 := (blk_cell hbox 0).trans rfl; have zf0 := blk_frozen hbox 0; have z1 := (blk_cell hbox 1).trans rfl; have zf1 := blk_frozen hbox 1; have z2 := (blk_cell hbox 2).trans rfl; have zf2 := blk_frozen hbox 2; have z3 := (blk_cell hbox 3).trans rfl; have zf3 := blk_frozen hbox 3; have z4 := (blk_cell hbox 4).trans rfl; have zf4 := blk_frozen hbox 4; have z5 := (blk_cell hbox 5).trans rfl; have zf5 := blk_frozen hbox 5; clear hb hbox hg))
   have HOX := Aside0.mk (show Kd.R (Kd.int .i64) 3 ((((((wb.setCell ⟨b5, 0, none⟩ (.int .i64 (rd_T75 l0_4 (i : Int)).f0)).setCell ⟨b5, 1, none⟩ (.int .i64 (rd_T75 l0_4 (i : Int)).f1)).setCell ⟨b5, 2, none⟩ (.string (rd_T75 l0_4 (i : Int)).f2)).setCell ⟨b5, 3, none⟩ (.string (rd_T75 l0_4 (i : Int)).f3)).setCell ⟨b5, 4, none⟩ (.int .i64 (rd_T75 l0_4 (i : Int)).f4)).setCell ⟨b5, 5, none⟩ (.int .i64 (rd_T75 l0_4 (i : Int)).f5)) w.heap.size (fun _ => True) (.slice A3 l0_4.length c3) t from Kd.R_mono (Kd.R_far (p := ⟨b5, 5, none⟩) (Kd.R_far (p := ⟨b5, 4, none⟩) (Kd.R_far (p := ⟨b5, 3, none⟩) (Kd.R_far (p := ⟨b5, 2, none⟩) (Kd.R_far (p := ⟨b5, 1, none⟩) (Kd.R_far (p := ⟨b5, 0, none⟩) (Kd.R_types HO1.out BX.out (by decide)) (fun _ hk => hk.2) _) (fun _ hk => hk.2) _) (fun _ hk => hk.2) _) (fun _ hk => hk.2) _) (fun _ hk => hk.2) _) (fun _ hk => hk.2) _) (fun _ _ => trivial))
   have B1X := Aside0.mk (blk_far (p := ⟨b5, 5, none⟩) (blk_far (p := ⟨b5, 4, none⟩) (blk_far (p := ⟨b5, 3, none⟩) (blk_far (p := ⟨b5, 2, none⟩) (blk_far (p := ⟨b5, 1, none⟩) (blk_far (p := ⟨b5, 0, none⟩) B11.out HN.out (.int .i64 (rd_T75 l0_4 (i : Int)).f0)) HN.out (.int .i64 (rd_T75 l0_4 (i : Int)).f1)) HN.out (.string (rd_T75 l0_4 (i : Int)).f2)) HN.out (.string (rd_T75 l0_4 (i : Int)).f3)) HN.out (.int .i64 (rd_T75 l0_4 (i : Int)).f4)) HN.out (.int .i64 (rd_T75 l0_4 (i : Int)).f5))
   have BXX := Aside0.mk (impl_printable.six (u := (.int .i64 (rd_T75 l0_4 (i : Int)).f0)) (v := (.int .i64 (rd_T75 l0_4 (i : Int)).f1)) (z := (.string (rd_T75 l0_4 (i : Int)).f2)) (y := (.string (rd_T75 l0_4 (i : Int)).f3)) (x := (.int .i64 (rd_T75 l0_4 (i : Int)).f4)) (t := (.int .i64 (rd_T75 l0_4 (i : Int)).f5)) BX.out)
   have HBX := Aside0.mk (below_set (j := 5) (v := (.int .i64 (rd_T75 l0_4 (i : Int)).f5)) (below_set (j := 4) (v := (.int .i64 (rd_T75 l0_4 (i : Int)).f4)) (below_set (j := 3) (v := (.string (rd_T75 l0_4 (i : Int)).f3)) (below_set (j := 2) (v := (.string (rd_T75 l0_4 (i : Int)).f2)) (below_set (j := 1) (v := (.int .i64 (rd_T75 l0_4 (i : Int)).f1)) (below_set (j := 0) (v := (.int .i64 (rd_T75 l0_4 (i : Int)).f0)) HB1.out HGE.out) HGE.out) HGE.out) HGE.out) HGE.out) HGE.out)
   clear HO B1 HB HB1 B11 HO1 BX z0 zf0 z1 zf1 z2 zf2 z3 zf3 z4 zf4 z5 zf5 x0 x1 x2 x3 x4 x5
   generalize ((((((wb.setCell ⟨b5, 0, none⟩ (.int .i64 (rd_T75 l0_4 (i : Int)).f0)).setCell ⟨b5, 1, none⟩ (.int .i64 (rd_T75 l0_4 (i : Int)).f1)).setCell ⟨b5, 2, none⟩ (.string (rd_T75 l0_4 (i : Int)).f2)).setCell ⟨b5, 3, none⟩ (.string (rd_T75 l0_4 (i : Int)).f3)).setCell ⟨b5, 4, none⟩ (.int .i64 (rd_T75 l0_4 (i : Int)).f4)).setCell ⟨b5, 5, none⟩ (.int .i64 (rd_T75 l0_4 (i : Int)).f5)) = wx at HOX B1X BXX HBX ⊢
   generalize rd_T75 l0_4 (i : Int) = x at HT BXX ⊢
   obtain ⟨f0, f1, f2, f3, f4, f5⟩ := x
   dsimp only at BXX
   unfold impl_printable.go1 at HT
   dsimp only at HT
   have HE := HT.out
   clear HT
   have v0 := (blk_cell BXX.out 0).trans rfl
   have v1 := (blk_cell BXX.out 1).trans rfl
   have v2 := (blk_cell BXX.out 2).trans rfl
   have v3 := (blk_cell BXX.out 3).trans rfl
   have v4 := (blk_cell BXX.out 4).trans rfl
   have v5 := (blk_cell BXX.out 5).trans rfl
   by_cases hop : 6 ≤ f0 ∧ f0 ≤ 8
   case neg =>
    rw [if_neg hop] at HE
    have hof := impl_printable.opf f0
    rw [decide_eq_false hop] at hof
    have HOF := Aside0.mk hof
    have HEE := Aside0.mk HE
    clear hof HE hop
    go_wp2_with (first | (go_at_call 43; refine (impl_isOp.calls f0 false _ HOF.out).mono ?_; rintro e wq ⟨rfl, nq, rfl⟩))
    go_roundg (l0_4.length - (i + 1))
    case measure => have := HI.out; omega
    case rel => exact ⟨i + 1, t, by first | (congr 1; done) | (congr 1; unfold wrap64; omega), ⟨by omega, by have := HI.out; omega⟩, HL, ⟨by rw [show ((i + 1 : Nat) : Int) = (i : Int) + 1 from by omega]; exact HEE.out⟩, ⟨Kd.R_drewN HOX.out nq⟩, ⟨blk_drewN B1X.out nq⟩, ⟨pw_below_drewN HBX.out nq⟩⟩
   rw [if_pos hop] at HE
   have hof := impl_printable.opf f0
   rw [decide_eq_true hop] at hof
   have HOF := Aside0.mk hof
   clear hof hop
   have hi1 : IntKind.i64.wrap ((i : Int) - 1) = (i : Int) - 1 := IntWalk.i64_in _ (by omega)
   by_cases cL : 0 ≤ f4 ∧ f4 ≤ (i : Int) - 1
   case neg =>
    rw [if_neg cL] at HE
    rw [← HE] at HBB
    have hin := impl_printable.inf f4 0 ((i : Int) - 1)
    rw [decide_eq_false cL] at hin
    have HIN := Aside0.mk hin
    obtain rfl : false = r := HBB.out
    clear hin HE cL
    go_wp2_with (first | (go_at_call 43; refine (impl_isOp.calls f0 true _ HOF.out).mono ?_; rintro e wq ⟨rfl, nq, rfl⟩) | (go_at_call_of 22 (Value.int .i64 f4); refine (impl_in.calls f4 0 ((i : Int) - 1) false _ HIN.out).mono ?_; rintro e wq ⟨rfl, nl, rfl⟩))
    go_ret
    exact ⟨rfl, pw_below_drewN HBX.out _⟩
   rw [if_pos cL] at HE
   have hin := impl_printable.inf f4 0 ((i : Int) - 1)
   rw [decide_eq_true cL] at hin
   have HIN := Aside0.mk hin
   clear hin
   by_cases cR : 0 ≤ f5 ∧ f5 ≤ (i : Int) - 1
   case neg =>
    rw [if_neg cR] at HE
    rw [← HE] at HBB
    have hin := impl_printable.inf f5 0 ((i : Int) - 1)
    rw [decide_eq_false cR] at hin
    have HIN2 := Aside0.mk hin
    obtain rfl : false = r := HBB.out
    clear hin HE cL cR
    go_wp2_with (first | (go_at_call 43; refine (impl_isOp.calls f0 true _ HOF.out).mono ?_; rintro e wq ⟨rfl, nq, rfl⟩) | (go_at_call_of 22 (Value.int .i64 f4); refine (impl_in.calls f4 0 ((i : Int) - 1) true _ HIN.out).mono ?_; rintro e wq ⟨rfl, nl, rfl⟩) | (go_at_call_of 22 (Value.int .i64 f5); refine (impl_in.calls f5 0 ((i : Int) - 1) false _ HIN2.out).mono ?_; rintro e wq ⟨rfl, nr, rfl⟩))
    go_ret
    exact ⟨rfl, pw_below_drewN HBX.out _⟩
   rw [if_pos cR] at HE
   have hin := impl_printable.inf f5 0 ((i : Int) - 1)
   rw [decide_eq_true cR] at hin
   have HIN2 := Aside0.mk hin
   have HEE := Aside0.mk HE
   clear hin HE
   obtain ⟨l0, l1⟩ := cL
   obtain ⟨r0, r1⟩ := cR
   obtain ⟨g, cap, e3, gb, gl, cells, hgc⟩ := Kd.R_form HOX.out (by rw [HL.out]; omega)
   injection e3 with ea en ec
   subst ea ec
   clear en
   have GB := Aside0.mk gb
   have hne1 := Aside0.mk (impl_printable.tne B1X.out hgc (by decide))
   have hne5 := Aside0.mk (impl_printable.tne BXX.out hgc (by decide))
   clear gb gl hgc
   go_upto_region 8 with (first | (go_at_call 43; refine (impl_isOp.calls f0 true _ HOF.out).mono ?_; rintro e wq ⟨rfl, nq, rfl⟩) | (go_at_call_of 22 (Value.int .i64 f4); refine (impl_in.calls f4 0 ((i : Int) - 1) true _ HIN.out).mono ?_; rintro e wq ⟨rfl, nl, rfl⟩) | (go_at_call_of 22 (Value.int .i64 f5); refine (impl_in.calls f5 0 ((i : Int) - 1) true _ HIN2.out).mono ?_; rintro e wq ⟨rfl, nr, rfl⟩))
   replace HOX := Aside0.mk (Kd.R_drewN HOX.out (nq + nl + nr))
   replace B1X := Aside0.mk (blk_drewN B1X.out (nq + nl + nr))
   replace BXX := Aside0.mk (blk_drewN BXX.out (nq + nl + nr))
   replace HBX := Aside0.mk (pw_below_drewN HBX.out (nq + nl + nr))
   clear v0 v1 v2 v3 v4 v5
   generalize wx.drewN (nq + nl + nr) = wy at HOX B1X BXX HBX ⊢
   have v4 := (blk_cell BXX.out 4).trans rfl
   have l2 : f4 < (l0_4.length : Int) := by omega
   obtain ⟨h4, k4⟩ := Kd.R_celln 0 HOX.out f4 l0 l2
   replace h4 : wy.cell? ⟨g, f4.toNat, none⟩ = some (.int .i64 (rd t f4)) := h4
   have HO8 := Aside0.mk (Kd.R_putn HOX.out f4 (wrap64 (rd t f4 + 1)))
   have B18 := Aside0.mk (blk_far (p := ⟨g, f4.toNat, none⟩) B1X.out hne1.out (.int .i64 (wrap64 (rd t f4 + 1))))
   have BX8 := Aside0.mk (blk_far (p := ⟨g, f4.toNat, none⟩) BXX.out hne5.out (.int .i64 (wrap64 (rd t f4 + 1))))
   have HB8 := Aside0.mk (below_set (j := f4.toNat) (v := .int .i64 (wrap64 (rd t f4 + 1))) HBX.out GB.out)
   clear HOX B1X BXX HBX
   go_upto_region 9 with fail
   generalize wy.setCell ⟨g, f4.toNat, none⟩ (.int .i64 (wrap64 (rd t f4 + 1))) = wz at HO8 B18 BX8 HB8 ⊢
   clear v4 h4 k4
   have HT8 := Aside0.mk (show impl_printable.inc t f4 = t.set f4.toNat (wrap64 (rd t f4 + 1)) from rfl)
   rw [← HT8.out] at HO8
   generalize impl_printable.inc t f4 = t8 at HO8 HEE
   have v5 := (blk_cell BX8.out 5).trans rfl
   have r2 : f5 < (l0_4.length : Int) := by omega
   obtain ⟨h5, k5⟩ := Kd.R_celln 0 HO8.out f5 r0 r2
   replace h5 : wz.cell? ⟨g, f5.toNat, none⟩ = some (.int .i64 (rd t8 f5)) := h5
   have HO9 := Aside0.mk (Kd.R_putn HO8.out f5 (wrap64 (rd t8 f5 + 1)))
   have B19 := Aside0.mk (blk_far (p := ⟨g, f5.toNat, none⟩) B18.out hne1.out (.int .i64 (wrap64 (rd t8 f5 + 1))))
   have HB9 := Aside0.mk (below_set (j := f5.toNat) (v := .int .i64 (wrap64 (rd t8 f5 + 1))) HB8.out GB.out)
   have LT := Aside0.mk (show (t8.set f5.toNat (wrap64 (rd t8 f5 + 1))).length = l0_4.length from by have := (Kd.R_reads' HO9.out).1; omega)
   clear HO8 B18 BX8 HB8 HT8
   go_wp2
   go_roundg (l0_4.length - (i + 1))
   case measure => have := HI.out; omega
   case rel => exact ⟨i + 1, t8.set f5.toNat (wrap64 (rd t8 f5 + 1)), by first | (congr 1; done) | (congr 1; unfold wrap64; omega), ⟨by omega, by have := HI.out; omega⟩, LT, ⟨by rw [show ((i + 1 : Nat) : Int) = (i : Int) + 1 from by omega]; exact HEE.out⟩, HO9, B19, HB9⟩
  ·have hin : i = l0_4.length := by have := HI.out; omega
   subst hin
   rw [List.drop_length] at HT
   have hG : some t = G := HT.out
   rw [← hG] at HBB
   obtain ⟨G2, hG2⟩ : ∃ G2, G2 = impl_printable.go2 l0_3 t := ⟨_, rfl⟩
   have HB2 := HBB.out
   dsimp only at HB2
   rw [← hG2] at HB2
   have HBC := Aside0.mk HB2
   have HGG2 := Aside0.mk hG2
   have hltz : ¬ (l0_4.length : Int) < (l0_4.length : Int) := by omega
   clear HT hG HB2 hG2 HBB HGG HI hlt n0
   have y0 := (blk_cell B1.out 0).trans rfl
   have y1 := (blk_cell B1.out 1).trans rfl
   have y2 := (blk_cell B1.out 2).trans rfl
   have y3 := (blk_cell B1.out 3).trans rfl
   have y4 := (blk_cell B1.out 4).trans rfl
   go_wp2
   go_loopg [7, 56] l0_3.length (fun gg s7 s56 wr => ∃ (j : Nat) (t : List Int), s56 = .int .i64 j ∧ Aside0 (j ≤ l0_3.length ∧ l0_3.length - j ≤ gg) ∧ Aside0 (t.length = l0_4.length) ∧ Aside0 (impl_printable.go2 (l0_3.drop j) t = G2) ∧ Aside0 (Kd.R (Kd.int .i64) 3 wr w.heap.size (fun _ => True) (.slice A3 l0_4.length c3) t) ∧ Aside0 (Below w.heap.size w wr))
   case atStart => exact ⟨0, t, rfl, ⟨by omega, by omega⟩, HL, ⟨HGG2.out.symm⟩, HO, HB⟩
   case round =>
    clear y0 y1 y2 y3 y4 HO B1 HB HL HGG2
    obtain ⟨j, t, rfl, HI, HL, HT, HO, HB⟩ := hrel
    by_cases hlt : j < l0_3.length
    ·have p0 : (0 : Int) ≤ (j : Int) := by omega
     have p1 : (j : Int) < (l0_3.length : Int) := by omega
     obtain ⟨ad, ead, x0, x1, x2⟩ := at_T77 HR3.out (j : Int) p0 p1
     cases ead
     rw [Int.toNat_natCast] at x0 x1 x2
     replace x0 := (HB.out.cell (World.block_lt_of_cell? w _ x0)).trans x0
     replace x1 := (HB.out.cell (World.block_lt_of_cell? w _ x1)).trans x1
     replace x2 := (HB.out.cell (World.block_lt_of_cell? w _ x2)).trans x2
     have hdr : l0_3.drop j = rd_T77 l0_3 (j : Int) :: l0_3.drop (j + 1) := by
      rw [List.drop_eq_getElem_cons hlt]
      congr 1
      show _ = l0_3.getD _ _
      rw [Int.toNat_natCast, List.getD_eq_getElem?_getD, List.getElem?_eq_getElem hlt]; rfl
     rw [hdr] at HT
     clear hdr
     go_upto_region 14 with (first
      | ((with_reducible refine gate_dst (N := 7) rfl ?_); refine box_event ?hg (N := 7) ?hd (cs := #[.int .i64 0, .string (⟨#[]⟩ : ByteArray), .int .i64 0]) (t := 77) ?hr ?_; (case hd => rfl); (case hg => rfl); (case hr => first | (go_simp; done) | (go_simp; rfl)); intro b7 hg wb hbox hb; have HGE := Aside0.mk (show w.heap.size ≤ b7 by rw [hg]; exact below_size HB.out); have HB1 := Aside0.mk (below_step HB.out hb); have HO1 := Aside0.mk (Kd.R_below HO.out hb); have BX := Aside0.mk hbox; have z0 := (blk_cell hbox 0).trans rfl; have zf0 := blk_frozen hbox 0; have z1 := (blk_cell hbox 1).trans rfl; have zf1 := blk_frozen hbox 1; have z2 := (blk_cell hbox 2).trans rfl; have zf2 := blk_frozen hbox 2; clear hb hbox hg))
     have HOX := Aside0.mk (show Kd.R (Kd.int .i64) 3 (((wb.setCell ⟨b7, 0, none⟩ (.int .i64 (rd_T77 l0_3 (j : Int)).f0)).setCell ⟨b7, 1, none⟩ (.string (rd_T77 l0_3 (j : Int)).f1)).setCell ⟨b7, 2, none⟩ (.int .i64 (rd_T77 l0_3 (j : Int)).f2)) w.heap.size (fun _ => True) (.slice A3 l0_4.length c3) t from Kd.R_mono (Kd.R_far (p := ⟨b7, 2, none⟩) (Kd.R_far (p := ⟨b7, 1, none⟩) (Kd.R_far (p := ⟨b7, 0, none⟩) (Kd.R_types HO1.out BX.out (by decide)) (fun _ hk => hk.2) _) (fun _ hk => hk.2) _) (fun _ hk => hk.2) _) (fun _ _ => trivial))
     have BXX := Aside0.mk (impl_printable.three (u := (.int .i64 (rd_T77 l0_3 (j : Int)).f0)) (v := (.string (rd_T77 l0_3 (j : Int)).f1)) (z := (.int .i64 (rd_T77 l0_3 (j : Int)).f2)) BX.out)
     have HBX := Aside0.mk (below_set (j := 2) (v := (.int .i64 (rd_T77 l0_3 (j : Int)).f2)) (below_set (j := 1) (v := (.string (rd_T77 l0_3 (j : Int)).f1)) (below_set (j := 0) (v := (.int .i64 (rd_T77 l0_3 (j : Int)).f0)) HB1.out HGE.out) HGE.out) HGE.out)
     clear HO HB HB1 HO1 BX z0 zf0 z1 zf1 z2 zf2 x0 x1 x2
     generalize (((wb.setCell ⟨b7, 0, none⟩ (.int .i64 (rd_T77 l0_3 (j : Int)).f0)).setCell ⟨b7, 1, none⟩ (.string (rd_T77 l0_3 (j : Int)).f1)).setCell ⟨b7, 2, none⟩ (.int .i64 (rd_T77 l0_3 (j : Int)).f2)) = wx at HOX BXX HBX ⊢
     generalize rd_T77 l0_3 (j : Int) = x at HT BXX ⊢
     obtain ⟨f0, f1, f2⟩ := x
     dsimp only at BXX
     unfold impl_printable.go2 at HT
     dsimp only at HT
     rw [HL.out] at HT
     have HE := HT.out
     clear HT
     have v0 := (blk_cell BXX.out 0).trans rfl
     have v1 := (blk_cell BXX.out 1).trans rfl
     have v2 := (blk_cell BXX.out 2).trans rfl
     by_cases cL : 0 ≤ f2 ∧ f2 ≤ (l0_4.length : Int) - 1
     case neg =>
      rw [if_neg cL] at HE
      rw [← HE] at HBC
      have hin := impl_printable.inf f2 0 ((l0_4.length : Int) - 1)
      rw [decide_eq_false cL] at hin
      have HIN := Aside0.mk hin
      obtain rfl : false = r := HBC.out
      clear hin HE cL
      go_wp2_with (first | (go_at_call 22; refine (impl_in.calls f2 0 ((l0_4.length : Int) - 1) false _ HIN.out).mono ?_; rintro e wq ⟨rfl, nl, rfl⟩))
      go_ret
      exact ⟨rfl, pw_below_drewN HBX.out _⟩
     rw [if_pos cL] at HE
     have hin := impl_printable.inf f2 0 ((l0_4.length : Int) - 1)
     rw [decide_eq_true cL] at hin
     have HIN := Aside0.mk hin
     have HEE := Aside0.mk HE
     clear hin HE
     obtain ⟨l0, l1⟩ := cL
     have l2 : f2 < (l0_4.length : Int) := by omega
     obtain ⟨g, cap, e3, gb, gl, cells, hgc⟩ := Kd.R_form HOX.out (by rw [HL.out]; omega)
     injection e3 with ea en ec
     subst ea ec
     clear en
     have GB := Aside0.mk gb
     have hne7 := Aside0.mk (impl_printable.tne BXX.out hgc (by decide))
     clear gb gl hgc
     go_upto_region 16 with (first | (go_at_call 22; refine (impl_in.calls f2 0 ((l0_4.length : Int) - 1) true _ HIN.out).mono ?_; rintro e wq ⟨rfl, nl, rfl⟩))
     replace HOX := Aside0.mk (Kd.R_drewN HOX.out nl)
     replace BXX := Aside0.mk (blk_drewN BXX.out nl)
     replace HBX := Aside0.mk (pw_below_drewN HBX.out nl)
     clear v0 v1 v2
     generalize wx.drewN nl = wy at HOX BXX HBX ⊢
     have v2 := (blk_cell BXX.out 2).trans rfl
     obtain ⟨h4, k4⟩ := Kd.R_celln 0 HOX.out f2 l0 l2
     replace h4 : wy.cell? ⟨g, f2.toNat, none⟩ = some (.int .i64 (rd t f2)) := h4
     have HO8 := Aside0.mk (Kd.R_putn HOX.out f2 (wrap64 (rd t f2 + 1)))
     have HB8 := Aside0.mk (below_set (j := f2.toNat) (v := .int .i64 (wrap64 (rd t f2 + 1))) HBX.out GB.out)
     have LT := Aside0.mk (show (t.set f2.toNat (wrap64 (rd t f2 + 1))).length = l0_4.length from by have := (Kd.R_reads' HO8.out).1; omega)
     clear HOX BXX HBX
     go_wp2
     go_roundg (l0_3.length - (j + 1))
     case measure => have := HI.out; omega
     case rel => exact ⟨j + 1, t.set f2.toNat (wrap64 (rd t f2 + 1)), by first | (congr 1; done) | (congr 1; unfold wrap64; omega), ⟨by omega, by have := HI.out; omega⟩, LT, ⟨HEE.out⟩, HO8, HB8⟩
    ·have hjn : l0_3.drop j = [] := List.drop_eq_nil_of_le (by omega)
     rw [hjn] at HT
     have hG : some t = G2 := HT.out
     rw [← hG] at HBC
     have HR := Aside0.mk (show t.all (fun n => n == 1) = r from HBC.out)
     have hltz : ¬ (j : Int) < (l0_3.length : Int) := by omega
     have hC := (Kd.R_reads' HO.out).2.2
     have hcon := impl_printable.con A3 c3 t wr hC (by rw [HL.out]; exact hl4)
     rw [HL.out, HR.out] at hcon
     have HCON := Aside0.mk hcon
     clear HT hG hC hcon hjn hlt HI
     go_wp2_with (first | (go_at_call 49; refine HCON.out.mono ?_; rintro e wq ⟨rfl, nq, rfl⟩))
     go_ret
     exact ⟨by simp, pw_below_drewN HB.out nq⟩

/-! ### impl_asText: function 51 -/
def impl_asText.f (a0 : ByteArray) (a1 : ByteArray) : Option (ByteArray) := if a0.toList = a1.toList then (some a0) else (if a0.size + 4 ≤ 9223372036854775807 then (if (a0 ++ (⟨#[32, 97, 115, 32]⟩ : ByteArray)).size + a1.size ≤ 9223372036854775807 then (some ((a0 ++ (⟨#[32, 97, 115, 32]⟩ : ByteArray)) ++ a1)) else (none)) else (none))
set_option maxHeartbeats 8000000 in
set_option maxRecDepth 100000 in
theorem impl_asText.calls (a0 : ByteArray) (a1 : ByteArray) (r : ByteArray) (w : World) (h : impl_asText.f a0 a1 = some r) :
  Calls Tryd.prog 51 #[.string a0, .string a1] w fun e w' => e = .returned (.string r) ∧ Drawn0 w w' := by
 have H : (if a0.toList = a1.toList then (some a0) else (if a0.size + 4 ≤ 9223372036854775807 then (if (a0 ++ (⟨#[32, 97, 115, 32]⟩ : ByteArray)).size + a1.size ≤ 9223372036854775807 then (some ((a0 ++ (⟨#[32, 97, 115, 32]⟩ : ByteArray)) ++ a1)) else (none)) else (none))) = some r := h
 clear h
 by_cases c3 : a0.toList = a1.toList
 ·rw [if_pos c3] at H
  have c3b0 : (a0.toList == a1.toList) = true := beq_iff_eq.mpr c3
  have c3b1 : (a0.toList != a1.toList) = false := bne_eq_false_iff_eq.mpr c3
  clear c3
  obtain rfl := Option.some.inj H
  go_enter Tryd.func51, Tryd.ntmps51
  go_wp2
  go_ret
  exact ⟨by first | rfl | (simp; done) | (simp [*]; done), by repeat (first | exact Drawn0.refl _ | apply Drawn0.step)⟩
 ·rw [if_neg c3] at H
  have c3b0 : (a0.toList == a1.toList) = false := beq_eq_false_iff_ne.mpr c3
  have c3b1 : (a0.toList != a1.toList) = true := bne_iff_ne.mpr c3
  by_cases c4 : a0.size + 4 ≤ 9223372036854775807
  ·rw [if_pos c4] at H
   have c4b0 := eq_true c4
   have c4b1 : decide (a0.size + 4 ≤ 9223372036854775807) = true := decide_eq_true c4
   try have c4b2 : (9223372036854775807 < a0.size + 4) = False := eq_false (Nat.not_lt.2 c4)
   by_cases c5 : (a0 ++ (⟨#[32, 97, 115, 32]⟩ : ByteArray)).size + a1.size ≤ 9223372036854775807
   ·rw [if_pos c5] at H
    have c5b0 := eq_true c5
    have c5b1 : decide ((a0 ++ (⟨#[32, 97, 115, 32]⟩ : ByteArray)).size + a1.size ≤ 9223372036854775807) = true := decide_eq_true c5
    try have c5b2 : (9223372036854775807 < (a0 ++ (⟨#[32, 97, 115, 32]⟩ : ByteArray)).size + a1.size) = False := eq_false (Nat.not_lt.2 c5)
    try have c5b6 : (9223372036854775807 < a0.size + 4 + a1.size) = False := by have h_ := c5b2; simp only [ByteArray.size_append] at h_; exact h_
    obtain rfl := Option.some.inj H
    go_enter Tryd.func51, Tryd.ntmps51
    go_wp2
    go_ret
    exact ⟨by first | rfl | (simp; done) | (simp [*]; done), by repeat (first | exact Drawn0.refl _ | apply Drawn0.step)⟩
   ·rw [if_neg c5] at H
    exact absurd H (by simp)
  ·rw [if_neg c4] at H
   exact absurd H (by simp)

/-! ### impl_impText: function 40 -/
def impl_impText.f (a0_0 : ByteArray) (a0_1 : ByteArray) (a0_2 : ByteArray) : Option (ByteArray) := if 7 + a0_0.size ≤ 9223372036854775807 then (if ((⟨#[32, 102, 114, 111, 109, 32, 34]⟩ : ByteArray) ++ a0_0).size + 3 ≤ 9223372036854775807 then (if a0_1.toList = ([42] : List UInt8) then (if 12 + a0_2.size ≤ 9223372036854775807 then (if ((⟨#[105, 109, 112, 111, 114, 116, 32, 42, 32, 97, 115, 32]⟩ : ByteArray) ++ a0_2).size + (((⟨#[32, 102, 114, 111, 109, 32, 34]⟩ : ByteArray) ++ a0_0) ++ (⟨#[34, 59, 10]⟩ : ByteArray)).size ≤ 9223372036854775807 then (some (((⟨#[105, 109, 112, 111, 114, 116, 32, 42, 32, 97, 115, 32]⟩ : ByteArray) ++ a0_2) ++ (((⟨#[32, 102, 114, 111, 109, 32, 34]⟩ : ByteArray) ++ a0_0) ++ (⟨#[34, 59, 10]⟩ : ByteArray)))) else (none)) else (none)) else (if a0_1.toList = ([100, 101, 102, 97, 117, 108, 116] : List UInt8) then (if 7 + a0_2.size ≤ 9223372036854775807 then (if ((⟨#[105, 109, 112, 111, 114, 116, 32]⟩ : ByteArray) ++ a0_2).size + (((⟨#[32, 102, 114, 111, 109, 32, 34]⟩ : ByteArray) ++ a0_0) ++ (⟨#[34, 59, 10]⟩ : ByteArray)).size ≤ 9223372036854775807 then (some (((⟨#[105, 109, 112, 111, 114, 116, 32]⟩ : ByteArray) ++ a0_2) ++ (((⟨#[32, 102, 114, 111, 109, 32, 34]⟩ : ByteArray) ++ a0_0) ++ (⟨#[34, 59, 10]⟩ : ByteArray)))) else (none)) else (none)) else ((impl_asText.f a0_1 a0_2).bind fun t218 => (if 9 + t218.size ≤ 9223372036854775807 then (if ((⟨#[105, 109, 112, 111, 114, 116, 32, 123, 32]⟩ : ByteArray) ++ t218).size + 2 ≤ 9223372036854775807 then (if (((⟨#[105, 109, 112, 111, 114, 116, 32, 123, 32]⟩ : ByteArray) ++ t218) ++ (⟨#[32, 125]⟩ : ByteArray)).size + (((⟨#[32, 102, 114, 111, 109, 32, 34]⟩ : ByteArray) ++ a0_0) ++ (⟨#[34, 59, 10]⟩ : ByteArray)).size ≤ 9223372036854775807 then (some ((((⟨#[105, 109, 112, 111, 114, 116, 32, 123, 32]⟩ : ByteArray) ++ t218) ++ (⟨#[32, 125]⟩ : ByteArray)) ++ (((⟨#[32, 102, 114, 111, 109, 32, 34]⟩ : ByteArray) ++ a0_0) ++ (⟨#[34, 59, 10]⟩ : ByteArray)))) else (none)) else (none)) else (none))))) else (none)) else (none)
set_option maxHeartbeats 8000000 in
set_option maxRecDepth 100000 in
theorem impl_impText.calls (a0_0 : ByteArray) (a0_1 : ByteArray) (a0_2 : ByteArray) (r : ByteArray) (w : World) (h : impl_impText.f a0_0 a0_1 a0_2 = some r) :
  Calls Tryd.prog 40 #[.agg #[.string a0_0, .string a0_1, .string a0_2]] w fun e w' => e = .returned (.string r) ∧ Below w.heap.size w w' := by
 have hu78 := Tryd.underlying78
 have HB := Aside0.mk (Below.refl w.heap.size w)
 have H : (if 7 + a0_0.size ≤ 9223372036854775807 then (if ((⟨#[32, 102, 114, 111, 109, 32, 34]⟩ : ByteArray) ++ a0_0).size + 3 ≤ 9223372036854775807 then (if a0_1.toList = ([42] : List UInt8) then (if 12 + a0_2.size ≤ 9223372036854775807 then (if ((⟨#[105, 109, 112, 111, 114, 116, 32, 42, 32, 97, 115, 32]⟩ : ByteArray) ++ a0_2).size + (((⟨#[32, 102, 114, 111, 109, 32, 34]⟩ : ByteArray) ++ a0_0) ++ (⟨#[34, 59, 10]⟩ : ByteArray)).size ≤ 9223372036854775807 then (some (((⟨#[105, 109, 112, 111, 114, 116, 32, 42, 32, 97, 115, 32]⟩ : ByteArray) ++ a0_2) ++ (((⟨#[32, 102, 114, 111, 109, 32, 34]⟩ : ByteArray) ++ a0_0) ++ (⟨#[34, 59, 10]⟩ : ByteArray)))) else (none)) else (none)) else (if a0_1.toList = ([100, 101, 102, 97, 117, 108, 116] : List UInt8) then (if 7 + a0_2.size ≤ 9223372036854775807 then (if ((⟨#[105, 109, 112, 111, 114, 116, 32]⟩ : ByteArray) ++ a0_2).size + (((⟨#[32, 102, 114, 111, 109, 32, 34]⟩ : ByteArray) ++ a0_0) ++ (⟨#[34, 59, 10]⟩ : ByteArray)).size ≤ 9223372036854775807 then (some (((⟨#[105, 109, 112, 111, 114, 116, 32]⟩ : ByteArray) ++ a0_2) ++ (((⟨#[32, 102, 114, 111, 109, 32, 34]⟩ : ByteArray) ++ a0_0) ++ (⟨#[34, 59, 10]⟩ : ByteArray)))) else (none)) else (none)) else ((impl_asText.f a0_1 a0_2).bind fun t218 => (if 9 + t218.size ≤ 9223372036854775807 then (if ((⟨#[105, 109, 112, 111, 114, 116, 32, 123, 32]⟩ : ByteArray) ++ t218).size + 2 ≤ 9223372036854775807 then (if (((⟨#[105, 109, 112, 111, 114, 116, 32, 123, 32]⟩ : ByteArray) ++ t218) ++ (⟨#[32, 125]⟩ : ByteArray)).size + (((⟨#[32, 102, 114, 111, 109, 32, 34]⟩ : ByteArray) ++ a0_0) ++ (⟨#[34, 59, 10]⟩ : ByteArray)).size ≤ 9223372036854775807 then (some ((((⟨#[105, 109, 112, 111, 114, 116, 32, 123, 32]⟩ : ByteArray) ++ t218) ++ (⟨#[32, 125]⟩ : ByteArray)) ++ (((⟨#[32, 102, 114, 111, 109, 32, 34]⟩ : ByteArray) ++ a0_0) ++ (⟨#[34, 59, 10]⟩ : ByteArray)))) else (none)) else (none)) else (none))))) else (none)) else (none)) = some r := h
 clear h
 by_cases c2 : 7 + a0_0.size ≤ 9223372036854775807
 ·rw [if_pos c2] at H
  have c2b0 := eq_true c2
  have c2b1 : decide (7 + a0_0.size ≤ 9223372036854775807) = true := decide_eq_true c2
  try have c2b2 : (9223372036854775807 < 7 + a0_0.size) = False := eq_false (Nat.not_lt.2 c2)
  by_cases c3 : ((⟨#[32, 102, 114, 111, 109, 32, 34]⟩ : ByteArray) ++ a0_0).size + 3 ≤ 9223372036854775807
  ·rw [if_pos c3] at H
   have c3b0 := eq_true c3
   have c3b1 : decide (((⟨#[32, 102, 114, 111, 109, 32, 34]⟩ : ByteArray) ++ a0_0).size + 3 ≤ 9223372036854775807) = true := decide_eq_true c3
   try have c3b2 : (9223372036854775807 < ((⟨#[32, 102, 114, 111, 109, 32, 34]⟩ : ByteArray) ++ a0_0).size + 3) = False := eq_false (Nat.not_lt.2 c3)
   try have c3b6 : (9223372036854775807 < 7 + a0_0.size + 3) = False := by have h_ := c3b2; simp only [ByteArray.size_append] at h_; exact h_
   by_cases c4 : a0_1.toList = ([42] : List UInt8)
   ·rw [if_pos c4] at H
    have c4b0 : (a0_1.toList == ([42] : List UInt8)) = true := beq_iff_eq.mpr c4
    have c4b1 : (a0_1.toList != ([42] : List UInt8)) = false := bne_eq_false_iff_eq.mpr c4
    clear c4
    by_cases c5 : 12 + a0_2.size ≤ 9223372036854775807
    ·rw [if_pos c5] at H
     have c5b0 := eq_true c5
     have c5b1 : decide (12 + a0_2.size ≤ 9223372036854775807) = true := decide_eq_true c5
     try have c5b2 : (9223372036854775807 < 12 + a0_2.size) = False := eq_false (Nat.not_lt.2 c5)
     by_cases c6 : ((⟨#[105, 109, 112, 111, 114, 116, 32, 42, 32, 97, 115, 32]⟩ : ByteArray) ++ a0_2).size + (((⟨#[32, 102, 114, 111, 109, 32, 34]⟩ : ByteArray) ++ a0_0) ++ (⟨#[34, 59, 10]⟩ : ByteArray)).size ≤ 9223372036854775807
     ·rw [if_pos c6] at H
      have c6b0 := eq_true c6
      have c6b1 : decide (((⟨#[105, 109, 112, 111, 114, 116, 32, 42, 32, 97, 115, 32]⟩ : ByteArray) ++ a0_2).size + (((⟨#[32, 102, 114, 111, 109, 32, 34]⟩ : ByteArray) ++ a0_0) ++ (⟨#[34, 59, 10]⟩ : ByteArray)).size ≤ 9223372036854775807) = true := decide_eq_true c6
      try have c6b2 : (9223372036854775807 < ((⟨#[105, 109, 112, 111, 114, 116, 32, 42, 32, 97, 115, 32]⟩ : ByteArray) ++ a0_2).size + (((⟨#[32, 102, 114, 111, 109, 32, 34]⟩ : ByteArray) ++ a0_0) ++ (⟨#[34, 59, 10]⟩ : ByteArray)).size) = False := eq_false (Nat.not_lt.2 c6)
      try have c6b6 : (9223372036854775807 < 12 + a0_2.size + (7 + a0_0.size + 3)) = False := by have h_ := c6b2; simp only [ByteArray.size_append] at h_; exact h_
      obtain rfl := Option.some.inj H
      go_enter Tryd.func40, Tryd.ntmps40
      go_wp2_with (first | ((with_reducible refine gate_dst (N := 1) rfl ?_); refine box_event ?hg (N := 1) ?hd (cs := #[.string a0_0, .string a0_1, .string a0_2]) (t := 78) ?hr ?_; (case hd => rfl); (case hg => rfl); (case hr => first | (go_simp; done) | (go_simp; rfl)); intro gb217 hg w7 hbox hb; have n0_ := Aside0.mk (below_step (by repeat (first | (with_reducible first | exact HB.out | apply below_alloc | apply pw_below_drewN | apply below_drew1) | exact HB.out)) hb); have n1_ := Aside0.mk (hbox); have n2_ := Aside0.mk ((by rw [hg]; exact (below_size (by repeat (first | (with_reducible first | exact HB.out | apply below_alloc | apply pw_below_drewN | apply below_drew1) | exact HB.out))) : w.heap.size ≤ gb217)); have n3_ := Aside0.mk ((by rw [hg]; exact (below_size (by repeat (first | (with_reducible first | exact HB.out | apply below_alloc | apply pw_below_drewN | apply below_drew1) | exact HB.out))) : w.heap.size ≤ gb217)); clear HB; have HB := n0_; have BK217 := n1_; have GW217 := n2_; have GE217 := n3_; clear n0_ n1_ n2_ n3_; clear hb hbox hg; have hcz8_0 : w7.cell? ⟨gb217, 0, none⟩ = some (.string a0_0) := (blk_cell BK217.out 0).trans rfl; have hcz8_1 : w7.cell? ⟨gb217, 1, none⟩ = some (.string a0_1) := (blk_cell BK217.out 1).trans rfl; have hcz8_2 : w7.cell? ⟨gb217, 2, none⟩ = some (.string a0_2) := (blk_cell BK217.out 2).trans rfl; have hfz8_0 := blk_frozen BK217.out 0; have hfz8_1 := blk_frozen BK217.out 1; have hfz8_2 := blk_frozen BK217.out 2))
      go_ret
      exact ⟨by first | rfl | (simp [errW_none, errW_some] <;> rfl) | (simp [*, errW_none, errW_some] <;> rfl), by repeat (first | (with_reducible first | exact HB.out | apply below_alloc | apply pw_below_drewN | apply below_drew1 | refine below_set ?_ GE217.out) | exact HB.out)⟩
     ·rw [if_neg c6] at H
      exact absurd H (by simp)
    ·rw [if_neg c5] at H
     exact absurd H (by simp)
   ·rw [if_neg c4] at H
    have c4b0 : (a0_1.toList == ([42] : List UInt8)) = false := beq_eq_false_iff_ne.mpr c4
    have c4b1 : (a0_1.toList != ([42] : List UInt8)) = true := bne_iff_ne.mpr c4
    by_cases c9 : a0_1.toList = ([100, 101, 102, 97, 117, 108, 116] : List UInt8)
    ·rw [if_pos c9] at H
     have c9b0 : (a0_1.toList == ([100, 101, 102, 97, 117, 108, 116] : List UInt8)) = true := beq_iff_eq.mpr c9
     have c9b1 : (a0_1.toList != ([100, 101, 102, 97, 117, 108, 116] : List UInt8)) = false := bne_eq_false_iff_eq.mpr c9
     clear c9
     by_cases c10 : 7 + a0_2.size ≤ 9223372036854775807
     ·rw [if_pos c10] at H
      have c10b0 := eq_true c10
      have c10b1 : decide (7 + a0_2.size ≤ 9223372036854775807) = true := decide_eq_true c10
      try have c10b2 : (9223372036854775807 < 7 + a0_2.size) = False := eq_false (Nat.not_lt.2 c10)
      by_cases c11 : ((⟨#[105, 109, 112, 111, 114, 116, 32]⟩ : ByteArray) ++ a0_2).size + (((⟨#[32, 102, 114, 111, 109, 32, 34]⟩ : ByteArray) ++ a0_0) ++ (⟨#[34, 59, 10]⟩ : ByteArray)).size ≤ 9223372036854775807
      ·rw [if_pos c11] at H
       have c11b0 := eq_true c11
       have c11b1 : decide (((⟨#[105, 109, 112, 111, 114, 116, 32]⟩ : ByteArray) ++ a0_2).size + (((⟨#[32, 102, 114, 111, 109, 32, 34]⟩ : ByteArray) ++ a0_0) ++ (⟨#[34, 59, 10]⟩ : ByteArray)).size ≤ 9223372036854775807) = true := decide_eq_true c11
       try have c11b2 : (9223372036854775807 < ((⟨#[105, 109, 112, 111, 114, 116, 32]⟩ : ByteArray) ++ a0_2).size + (((⟨#[32, 102, 114, 111, 109, 32, 34]⟩ : ByteArray) ++ a0_0) ++ (⟨#[34, 59, 10]⟩ : ByteArray)).size) = False := eq_false (Nat.not_lt.2 c11)
       try have c11b6 : (9223372036854775807 < 7 + a0_2.size + (7 + a0_0.size + 3)) = False := by have h_ := c11b2; simp only [ByteArray.size_append] at h_; exact h_
       obtain rfl := Option.some.inj H
       go_enter Tryd.func40, Tryd.ntmps40
       go_wp2_with (first | ((with_reducible refine gate_dst (N := 1) rfl ?_); refine box_event ?hg (N := 1) ?hd (cs := #[.string a0_0, .string a0_1, .string a0_2]) (t := 78) ?hr ?_; (case hd => rfl); (case hg => rfl); (case hr => first | (go_simp; done) | (go_simp; rfl)); intro gb217 hg w12 hbox hb; have n0_ := Aside0.mk (below_step (by repeat (first | (with_reducible first | exact HB.out | apply below_alloc | apply pw_below_drewN | apply below_drew1) | exact HB.out)) hb); have n1_ := Aside0.mk (hbox); have n2_ := Aside0.mk ((by rw [hg]; exact (below_size (by repeat (first | (with_reducible first | exact HB.out | apply below_alloc | apply pw_below_drewN | apply below_drew1) | exact HB.out))) : w.heap.size ≤ gb217)); have n3_ := Aside0.mk ((by rw [hg]; exact (below_size (by repeat (first | (with_reducible first | exact HB.out | apply below_alloc | apply pw_below_drewN | apply below_drew1) | exact HB.out))) : w.heap.size ≤ gb217)); clear HB; have HB := n0_; have BK217 := n1_; have GW217 := n2_; have GE217 := n3_; clear n0_ n1_ n2_ n3_; clear hb hbox hg; have hcz13_0 : w12.cell? ⟨gb217, 0, none⟩ = some (.string a0_0) := (blk_cell BK217.out 0).trans rfl; have hcz13_1 : w12.cell? ⟨gb217, 1, none⟩ = some (.string a0_1) := (blk_cell BK217.out 1).trans rfl; have hcz13_2 : w12.cell? ⟨gb217, 2, none⟩ = some (.string a0_2) := (blk_cell BK217.out 2).trans rfl; have hfz13_0 := blk_frozen BK217.out 0; have hfz13_1 := blk_frozen BK217.out 1; have hfz13_2 := blk_frozen BK217.out 2))
       go_ret
       exact ⟨by first | rfl | (simp [errW_none, errW_some] <;> rfl) | (simp [*, errW_none, errW_some] <;> rfl), by repeat (first | (with_reducible first | exact HB.out | apply below_alloc | apply pw_below_drewN | apply below_drew1 | refine below_set ?_ GE217.out) | exact HB.out)⟩
      ·rw [if_neg c11] at H
       exact absurd H (by simp)
     ·rw [if_neg c10] at H
      exact absurd H (by simp)
    ·rw [if_neg c9] at H
     have c9b0 : (a0_1.toList == ([100, 101, 102, 97, 117, 108, 116] : List UInt8)) = false := beq_eq_false_iff_ne.mpr c9
     have c9b1 : (a0_1.toList != ([100, 101, 102, 97, 117, 108, 116] : List UInt8)) = true := bne_iff_ne.mpr c9
     replace H := Option.bind_eq_some_iff.mp H
     obtain ⟨t218, A140, H⟩ := H
     replace H : (if 9 + t218.size ≤ 9223372036854775807 then (if ((⟨#[105, 109, 112, 111, 114, 116, 32, 123, 32]⟩ : ByteArray) ++ t218).size + 2 ≤ 9223372036854775807 then (if (((⟨#[105, 109, 112, 111, 114, 116, 32, 123, 32]⟩ : ByteArray) ++ t218) ++ (⟨#[32, 125]⟩ : ByteArray)).size + (((⟨#[32, 102, 114, 111, 109, 32, 34]⟩ : ByteArray) ++ a0_0) ++ (⟨#[34, 59, 10]⟩ : ByteArray)).size ≤ 9223372036854775807 then (some ((((⟨#[105, 109, 112, 111, 114, 116, 32, 123, 32]⟩ : ByteArray) ++ t218) ++ (⟨#[32, 125]⟩ : ByteArray)) ++ (((⟨#[32, 102, 114, 111, 109, 32, 34]⟩ : ByteArray) ++ a0_0) ++ (⟨#[34, 59, 10]⟩ : ByteArray)))) else (none)) else (none)) else (none)) = some r := H
     have A14 := Aside0.mk A140
     clear A140
     by_cases c15 : 9 + t218.size ≤ 9223372036854775807
     ·rw [if_pos c15] at H
      have c15b0 := eq_true c15
      have c15b1 : decide (9 + t218.size ≤ 9223372036854775807) = true := decide_eq_true c15
      try have c15b2 : (9223372036854775807 < 9 + t218.size) = False := eq_false (Nat.not_lt.2 c15)
      by_cases c16 : ((⟨#[105, 109, 112, 111, 114, 116, 32, 123, 32]⟩ : ByteArray) ++ t218).size + 2 ≤ 9223372036854775807
      ·rw [if_pos c16] at H
       have c16b0 := eq_true c16
       have c16b1 : decide (((⟨#[105, 109, 112, 111, 114, 116, 32, 123, 32]⟩ : ByteArray) ++ t218).size + 2 ≤ 9223372036854775807) = true := decide_eq_true c16
       try have c16b2 : (9223372036854775807 < ((⟨#[105, 109, 112, 111, 114, 116, 32, 123, 32]⟩ : ByteArray) ++ t218).size + 2) = False := eq_false (Nat.not_lt.2 c16)
       try have c16b6 : (9223372036854775807 < 9 + t218.size + 2) = False := by have h_ := c16b2; simp only [ByteArray.size_append] at h_; exact h_
       by_cases c17 : (((⟨#[105, 109, 112, 111, 114, 116, 32, 123, 32]⟩ : ByteArray) ++ t218) ++ (⟨#[32, 125]⟩ : ByteArray)).size + (((⟨#[32, 102, 114, 111, 109, 32, 34]⟩ : ByteArray) ++ a0_0) ++ (⟨#[34, 59, 10]⟩ : ByteArray)).size ≤ 9223372036854775807
       ·rw [if_pos c17] at H
        have c17b0 := eq_true c17
        have c17b1 : decide ((((⟨#[105, 109, 112, 111, 114, 116, 32, 123, 32]⟩ : ByteArray) ++ t218) ++ (⟨#[32, 125]⟩ : ByteArray)).size + (((⟨#[32, 102, 114, 111, 109, 32, 34]⟩ : ByteArray) ++ a0_0) ++ (⟨#[34, 59, 10]⟩ : ByteArray)).size ≤ 9223372036854775807) = true := decide_eq_true c17
        try have c17b2 : (9223372036854775807 < (((⟨#[105, 109, 112, 111, 114, 116, 32, 123, 32]⟩ : ByteArray) ++ t218) ++ (⟨#[32, 125]⟩ : ByteArray)).size + (((⟨#[32, 102, 114, 111, 109, 32, 34]⟩ : ByteArray) ++ a0_0) ++ (⟨#[34, 59, 10]⟩ : ByteArray)).size) = False := eq_false (Nat.not_lt.2 c17)
        try have c17b6 : (9223372036854775807 < 9 + t218.size + 2 + (7 + a0_0.size + 3)) = False := by have h_ := c17b2; simp only [ByteArray.size_append] at h_; exact h_
        obtain rfl := Option.some.inj H
        go_enter Tryd.func40, Tryd.ntmps40
        go_wp2_with (first | ((with_reducible refine gate_dst (N := 1) rfl ?_); refine box_event ?hg (N := 1) ?hd (cs := #[.string a0_0, .string a0_1, .string a0_2]) (t := 78) ?hr ?_; (case hd => rfl); (case hg => rfl); (case hr => first | (go_simp; done) | (go_simp; rfl)); intro gb217 hg w18 hbox hb; have n0_ := Aside0.mk (below_step (by repeat (first | (with_reducible first | exact HB.out | apply below_alloc | apply pw_below_drewN | apply below_drew1) | exact HB.out)) hb); have n1_ := Aside0.mk (hbox); have n2_ := Aside0.mk ((by rw [hg]; exact (below_size (by repeat (first | (with_reducible first | exact HB.out | apply below_alloc | apply pw_below_drewN | apply below_drew1) | exact HB.out))) : w.heap.size ≤ gb217)); have n3_ := Aside0.mk ((by rw [hg]; exact (below_size (by repeat (first | (with_reducible first | exact HB.out | apply below_alloc | apply pw_below_drewN | apply below_drew1) | exact HB.out))) : w.heap.size ≤ gb217)); clear HB; have HB := n0_; have BK217 := n1_; have GW217 := n2_; have GE217 := n3_; clear n0_ n1_ n2_ n3_; clear hb hbox hg; have hcz19_0 : w18.cell? ⟨gb217, 0, none⟩ = some (.string a0_0) := (blk_cell BK217.out 0).trans rfl; have hcz19_1 : w18.cell? ⟨gb217, 1, none⟩ = some (.string a0_1) := (blk_cell BK217.out 1).trans rfl; have hcz19_2 : w18.cell? ⟨gb217, 2, none⟩ = some (.string a0_2) := (blk_cell BK217.out 2).trans rfl; have hfz19_0 := blk_frozen BK217.out 0; have hfz19_1 := blk_frozen BK217.out 1; have hfz19_2 := blk_frozen BK217.out 2) | ((with_reducible refine gate_callee (f := 51) rfl ?_); refine goesL_ (some 28) rfl rfl Tryd.func51 (by kernel_rfl) rfl #[.string a0_1, .string a0_2] rfl (by (try simp only [List.map_toArray, List.map_cons, List.map_nil]); first | done | rfl | (simp only [List.length_drop, List.length_take]; rfl)) ?_; (with_reducible refine (impl_asText.calls a0_1 a0_2 t218 _ A14.out).mono ?_); rintro e w' ⟨rfl, ⟨nd, rfl⟩⟩; refine ⟨_, rfl, ?_⟩))
        go_ret
        exact ⟨by first | rfl | (simp [errW_none, errW_some] <;> rfl) | (simp [*, errW_none, errW_some] <;> rfl), by repeat (first | (with_reducible first | exact HB.out | apply below_alloc | apply pw_below_drewN | apply below_drew1 | refine below_set ?_ GE217.out) | exact HB.out)⟩
       ·rw [if_neg c17] at H
        exact absurd H (by simp)
      ·rw [if_neg c16] at H
       exact absurd H (by simp)
     ·rw [if_neg c15] at H
      exact absurd H (by simp)
  ·rw [if_neg c3] at H
   exact absurd H (by simp)
 ·rw [if_neg c2] at H
  exact absurd H (by simp)

/-! ### impl_expText: function 41 -/
def impl_expText.f (a0_0 : Int) (a0_1 : ByteArray) (a0_2 : ByteArray) (a0_3 : ByteArray) : Option (ByteArray) := if a0_0 = 3 then (if 15 + a0_3.size ≤ 9223372036854775807 then (if ((⟨#[101, 120, 112, 111, 114, 116, 32, 42, 32, 102, 114, 111, 109, 32, 34]⟩ : ByteArray) ++ a0_3).size + 3 ≤ 9223372036854775807 then (some (((⟨#[101, 120, 112, 111, 114, 116, 32, 42, 32, 102, 114, 111, 109, 32, 34]⟩ : ByteArray) ++ a0_3) ++ (⟨#[34, 59, 10]⟩ : ByteArray))) else (none)) else (none)) else (if a0_0 = 2 then ((impl_asText.f a0_2 a0_1).bind fun t220 => (if 9 + t220.size ≤ 9223372036854775807 then (if ((⟨#[101, 120, 112, 111, 114, 116, 32, 123, 32]⟩ : ByteArray) ++ t220).size + 9 ≤ 9223372036854775807 then (if (((⟨#[101, 120, 112, 111, 114, 116, 32, 123, 32]⟩ : ByteArray) ++ t220) ++ (⟨#[32, 125, 32, 102, 114, 111, 109, 32, 34]⟩ : ByteArray)).size + a0_3.size ≤ 9223372036854775807 then (if ((((⟨#[101, 120, 112, 111, 114, 116, 32, 123, 32]⟩ : ByteArray) ++ t220) ++ (⟨#[32, 125, 32, 102, 114, 111, 109, 32, 34]⟩ : ByteArray)) ++ a0_3).size + 3 ≤ 9223372036854775807 then (some (((((⟨#[101, 120, 112, 111, 114, 116, 32, 123, 32]⟩ : ByteArray) ++ t220) ++ (⟨#[32, 125, 32, 102, 114, 111, 109, 32, 34]⟩ : ByteArray)) ++ a0_3) ++ (⟨#[34, 59, 10]⟩ : ByteArray))) else (none)) else (none)) else (none)) else (none))) else ((impl_asText.f a0_2 a0_1).bind fun t221 => (if 9 + t221.size ≤ 9223372036854775807 then (if ((⟨#[101, 120, 112, 111, 114, 116, 32, 123, 32]⟩ : ByteArray) ++ t221).size + 4 ≤ 9223372036854775807 then (some (((⟨#[101, 120, 112, 111, 114, 116, 32, 123, 32]⟩ : ByteArray) ++ t221) ++ (⟨#[32, 125, 59, 10]⟩ : ByteArray))) else (none)) else (none))))
set_option maxHeartbeats 8000000 in
set_option maxRecDepth 100000 in
theorem impl_expText.calls (a0_0 : Int) (a0_1 : ByteArray) (a0_2 : ByteArray) (a0_3 : ByteArray) (r : ByteArray) (w : World) (h : impl_expText.f a0_0 a0_1 a0_2 a0_3 = some r) :
  Calls Tryd.prog 41 #[.agg #[.int .i64 a0_0, .string a0_1, .string a0_2, .string a0_3]] w fun e w' => e = .returned (.string r) ∧ Below w.heap.size w w' := by
 have hu80 := Tryd.underlying80
 have HB := Aside0.mk (Below.refl w.heap.size w)
 have H : (if a0_0 = 3 then (if 15 + a0_3.size ≤ 9223372036854775807 then (if ((⟨#[101, 120, 112, 111, 114, 116, 32, 42, 32, 102, 114, 111, 109, 32, 34]⟩ : ByteArray) ++ a0_3).size + 3 ≤ 9223372036854775807 then (some (((⟨#[101, 120, 112, 111, 114, 116, 32, 42, 32, 102, 114, 111, 109, 32, 34]⟩ : ByteArray) ++ a0_3) ++ (⟨#[34, 59, 10]⟩ : ByteArray))) else (none)) else (none)) else (if a0_0 = 2 then ((impl_asText.f a0_2 a0_1).bind fun t220 => (if 9 + t220.size ≤ 9223372036854775807 then (if ((⟨#[101, 120, 112, 111, 114, 116, 32, 123, 32]⟩ : ByteArray) ++ t220).size + 9 ≤ 9223372036854775807 then (if (((⟨#[101, 120, 112, 111, 114, 116, 32, 123, 32]⟩ : ByteArray) ++ t220) ++ (⟨#[32, 125, 32, 102, 114, 111, 109, 32, 34]⟩ : ByteArray)).size + a0_3.size ≤ 9223372036854775807 then (if ((((⟨#[101, 120, 112, 111, 114, 116, 32, 123, 32]⟩ : ByteArray) ++ t220) ++ (⟨#[32, 125, 32, 102, 114, 111, 109, 32, 34]⟩ : ByteArray)) ++ a0_3).size + 3 ≤ 9223372036854775807 then (some (((((⟨#[101, 120, 112, 111, 114, 116, 32, 123, 32]⟩ : ByteArray) ++ t220) ++ (⟨#[32, 125, 32, 102, 114, 111, 109, 32, 34]⟩ : ByteArray)) ++ a0_3) ++ (⟨#[34, 59, 10]⟩ : ByteArray))) else (none)) else (none)) else (none)) else (none))) else ((impl_asText.f a0_2 a0_1).bind fun t221 => (if 9 + t221.size ≤ 9223372036854775807 then (if ((⟨#[101, 120, 112, 111, 114, 116, 32, 123, 32]⟩ : ByteArray) ++ t221).size + 4 ≤ 9223372036854775807 then (some (((⟨#[101, 120, 112, 111, 114, 116, 32, 123, 32]⟩ : ByteArray) ++ t221) ++ (⟨#[32, 125, 59, 10]⟩ : ByteArray))) else (none)) else (none))))) = some r := h
 clear h
 by_cases c2 : a0_0 = 3
 ·rw [if_pos c2] at H
  have c2b0 : (a0_0 == 3) = true := beq_iff_eq.mpr c2
  have c2b1 : (a0_0 != 3) = false := bne_eq_false_iff_eq.mpr c2
  clear c2
  by_cases c3 : 15 + a0_3.size ≤ 9223372036854775807
  ·rw [if_pos c3] at H
   have c3b0 := eq_true c3
   have c3b1 : decide (15 + a0_3.size ≤ 9223372036854775807) = true := decide_eq_true c3
   try have c3b2 : (9223372036854775807 < 15 + a0_3.size) = False := eq_false (Nat.not_lt.2 c3)
   by_cases c4 : ((⟨#[101, 120, 112, 111, 114, 116, 32, 42, 32, 102, 114, 111, 109, 32, 34]⟩ : ByteArray) ++ a0_3).size + 3 ≤ 9223372036854775807
   ·rw [if_pos c4] at H
    have c4b0 := eq_true c4
    have c4b1 : decide (((⟨#[101, 120, 112, 111, 114, 116, 32, 42, 32, 102, 114, 111, 109, 32, 34]⟩ : ByteArray) ++ a0_3).size + 3 ≤ 9223372036854775807) = true := decide_eq_true c4
    try have c4b2 : (9223372036854775807 < ((⟨#[101, 120, 112, 111, 114, 116, 32, 42, 32, 102, 114, 111, 109, 32, 34]⟩ : ByteArray) ++ a0_3).size + 3) = False := eq_false (Nat.not_lt.2 c4)
    try have c4b6 : (9223372036854775807 < 15 + a0_3.size + 3) = False := by have h_ := c4b2; simp only [ByteArray.size_append] at h_; exact h_
    obtain rfl := Option.some.inj H
    go_enter Tryd.func41, Tryd.ntmps41
    go_wp2_with (first | ((with_reducible refine gate_dst (N := 1) rfl ?_); refine box_event ?hg (N := 1) ?hd (cs := #[.int .i64 a0_0, .string a0_1, .string a0_2, .string a0_3]) (t := 80) ?hr ?_; (case hd => rfl); (case hg => rfl); (case hr => first | (go_simp; done) | (go_simp; rfl)); intro gb219 hg w5 hbox hb; have n0_ := Aside0.mk (below_step (by repeat (first | (with_reducible first | exact HB.out | apply below_alloc | apply pw_below_drewN | apply below_drew1) | exact HB.out)) hb); have n1_ := Aside0.mk (hbox); have n2_ := Aside0.mk ((by rw [hg]; exact (below_size (by repeat (first | (with_reducible first | exact HB.out | apply below_alloc | apply pw_below_drewN | apply below_drew1) | exact HB.out))) : w.heap.size ≤ gb219)); have n3_ := Aside0.mk ((by rw [hg]; exact (below_size (by repeat (first | (with_reducible first | exact HB.out | apply below_alloc | apply pw_below_drewN | apply below_drew1) | exact HB.out))) : w.heap.size ≤ gb219)); clear HB; have HB := n0_; have BK219 := n1_; have GW219 := n2_; have GE219 := n3_; clear n0_ n1_ n2_ n3_; clear hb hbox hg; have hcz6_0 : w5.cell? ⟨gb219, 0, none⟩ = some (.int .i64 a0_0) := (blk_cell BK219.out 0).trans rfl; have hcz6_1 : w5.cell? ⟨gb219, 1, none⟩ = some (.string a0_1) := (blk_cell BK219.out 1).trans rfl; have hcz6_2 : w5.cell? ⟨gb219, 2, none⟩ = some (.string a0_2) := (blk_cell BK219.out 2).trans rfl; have hcz6_3 : w5.cell? ⟨gb219, 3, none⟩ = some (.string a0_3) := (blk_cell BK219.out 3).trans rfl; have hfz6_0 := blk_frozen BK219.out 0; have hfz6_1 := blk_frozen BK219.out 1; have hfz6_2 := blk_frozen BK219.out 2; have hfz6_3 := blk_frozen BK219.out 3))
    repeat (go_quiet (first | ((with_reducible refine gate_dst (N := 1) rfl ?_); refine box_event ?hg (N := 1) ?hd (cs := #[.int .i64 a0_0, .string a0_1, .string a0_2, .string a0_3]) (t := 80) ?hr ?_; (case hd => rfl); (case hg => rfl); (case hr => first | (go_simp; done) | (go_simp; rfl)); intro gb219 hg w5 hbox hb; have n0_ := Aside0.mk (below_step (by repeat (first | (with_reducible first | exact HB.out | apply below_alloc | apply pw_below_drewN | apply below_drew1) | exact HB.out)) hb); have n1_ := Aside0.mk (hbox); have n2_ := Aside0.mk ((by rw [hg]; exact (below_size (by repeat (first | (with_reducible first | exact HB.out | apply below_alloc | apply pw_below_drewN | apply below_drew1) | exact HB.out))) : w.heap.size ≤ gb219)); have n3_ := Aside0.mk ((by rw [hg]; exact (below_size (by repeat (first | (with_reducible first | exact HB.out | apply below_alloc | apply pw_below_drewN | apply below_drew1) | exact HB.out))) : w.heap.size ≤ gb219)); clear HB; have HB := n0_; have BK219 := n1_; have GW219 := n2_; have GE219 := n3_; clear n0_ n1_ n2_ n3_; clear hb hbox hg; have hcz6_0 : w5.cell? ⟨gb219, 0, none⟩ = some (.int .i64 a0_0) := (blk_cell BK219.out 0).trans rfl; have hcz6_1 : w5.cell? ⟨gb219, 1, none⟩ = some (.string a0_1) := (blk_cell BK219.out 1).trans rfl; have hcz6_2 : w5.cell? ⟨gb219, 2, none⟩ = some (.string a0_2) := (blk_cell BK219.out 2).trans rfl; have hcz6_3 : w5.cell? ⟨gb219, 3, none⟩ = some (.string a0_3) := (blk_cell BK219.out 3).trans rfl; have hfz6_0 := blk_frozen BK219.out 0; have hfz6_1 := blk_frozen BK219.out 1; have hfz6_2 := blk_frozen BK219.out 2; have hfz6_3 := blk_frozen BK219.out 3)); try go_wp2_with (first | ((with_reducible refine gate_dst (N := 1) rfl ?_); refine box_event ?hg (N := 1) ?hd (cs := #[.int .i64 a0_0, .string a0_1, .string a0_2, .string a0_3]) (t := 80) ?hr ?_; (case hd => rfl); (case hg => rfl); (case hr => first | (go_simp; done) | (go_simp; rfl)); intro gb219 hg w5 hbox hb; have n0_ := Aside0.mk (below_step (by repeat (first | (with_reducible first | exact HB.out | apply below_alloc | apply pw_below_drewN | apply below_drew1) | exact HB.out)) hb); have n1_ := Aside0.mk (hbox); have n2_ := Aside0.mk ((by rw [hg]; exact (below_size (by repeat (first | (with_reducible first | exact HB.out | apply below_alloc | apply pw_below_drewN | apply below_drew1) | exact HB.out))) : w.heap.size ≤ gb219)); have n3_ := Aside0.mk ((by rw [hg]; exact (below_size (by repeat (first | (with_reducible first | exact HB.out | apply below_alloc | apply pw_below_drewN | apply below_drew1) | exact HB.out))) : w.heap.size ≤ gb219)); clear HB; have HB := n0_; have BK219 := n1_; have GW219 := n2_; have GE219 := n3_; clear n0_ n1_ n2_ n3_; clear hb hbox hg; have hcz6_0 : w5.cell? ⟨gb219, 0, none⟩ = some (.int .i64 a0_0) := (blk_cell BK219.out 0).trans rfl; have hcz6_1 : w5.cell? ⟨gb219, 1, none⟩ = some (.string a0_1) := (blk_cell BK219.out 1).trans rfl; have hcz6_2 : w5.cell? ⟨gb219, 2, none⟩ = some (.string a0_2) := (blk_cell BK219.out 2).trans rfl; have hcz6_3 : w5.cell? ⟨gb219, 3, none⟩ = some (.string a0_3) := (blk_cell BK219.out 3).trans rfl; have hfz6_0 := blk_frozen BK219.out 0; have hfz6_1 := blk_frozen BK219.out 1; have hfz6_2 := blk_frozen BK219.out 2; have hfz6_3 := blk_frozen BK219.out 3)))
    go_ret
    exact ⟨by first | rfl | (simp [errW_none, errW_some] <;> rfl) | (simp [*, errW_none, errW_some] <;> rfl), by repeat (first | (with_reducible first | exact HB.out | apply below_alloc | apply pw_below_drewN | apply below_drew1 | refine below_set ?_ GE219.out) | exact HB.out)⟩
   ·rw [if_neg c4] at H
    exact absurd H (by simp)
  ·rw [if_neg c3] at H
   exact absurd H (by simp)
 ·rw [if_neg c2] at H
  have c2b0 : (a0_0 == 3) = false := beq_eq_false_iff_ne.mpr c2
  have c2b1 : (a0_0 != 3) = true := bne_iff_ne.mpr c2
  by_cases c7 : a0_0 = 2
  ·rw [if_pos c7] at H
   have c7b0 : (a0_0 == 2) = true := beq_iff_eq.mpr c7
   have c7b1 : (a0_0 != 2) = false := bne_eq_false_iff_eq.mpr c7
   clear c7
   replace H := Option.bind_eq_some_iff.mp H
   obtain ⟨t220, A80, H⟩ := H
   replace H : (if 9 + t220.size ≤ 9223372036854775807 then (if ((⟨#[101, 120, 112, 111, 114, 116, 32, 123, 32]⟩ : ByteArray) ++ t220).size + 9 ≤ 9223372036854775807 then (if (((⟨#[101, 120, 112, 111, 114, 116, 32, 123, 32]⟩ : ByteArray) ++ t220) ++ (⟨#[32, 125, 32, 102, 114, 111, 109, 32, 34]⟩ : ByteArray)).size + a0_3.size ≤ 9223372036854775807 then (if ((((⟨#[101, 120, 112, 111, 114, 116, 32, 123, 32]⟩ : ByteArray) ++ t220) ++ (⟨#[32, 125, 32, 102, 114, 111, 109, 32, 34]⟩ : ByteArray)) ++ a0_3).size + 3 ≤ 9223372036854775807 then (some (((((⟨#[101, 120, 112, 111, 114, 116, 32, 123, 32]⟩ : ByteArray) ++ t220) ++ (⟨#[32, 125, 32, 102, 114, 111, 109, 32, 34]⟩ : ByteArray)) ++ a0_3) ++ (⟨#[34, 59, 10]⟩ : ByteArray))) else (none)) else (none)) else (none)) else (none)) = some r := H
   have A8 := Aside0.mk A80
   clear A80
   by_cases c9 : 9 + t220.size ≤ 9223372036854775807
   ·rw [if_pos c9] at H
    have c9b0 := eq_true c9
    have c9b1 : decide (9 + t220.size ≤ 9223372036854775807) = true := decide_eq_true c9
    try have c9b2 : (9223372036854775807 < 9 + t220.size) = False := eq_false (Nat.not_lt.2 c9)
    by_cases c10 : ((⟨#[101, 120, 112, 111, 114, 116, 32, 123, 32]⟩ : ByteArray) ++ t220).size + 9 ≤ 9223372036854775807
    ·rw [if_pos c10] at H
     have c10b0 := eq_true c10
     have c10b1 : decide (((⟨#[101, 120, 112, 111, 114, 116, 32, 123, 32]⟩ : ByteArray) ++ t220).size + 9 ≤ 9223372036854775807) = true := decide_eq_true c10
     try have c10b2 : (9223372036854775807 < ((⟨#[101, 120, 112, 111, 114, 116, 32, 123, 32]⟩ : ByteArray) ++ t220).size + 9) = False := eq_false (Nat.not_lt.2 c10)
     try have c10b6 : (9223372036854775807 < 9 + t220.size + 9) = False := by have h_ := c10b2; simp only [ByteArray.size_append] at h_; exact h_
     by_cases c11 : (((⟨#[101, 120, 112, 111, 114, 116, 32, 123, 32]⟩ : ByteArray) ++ t220) ++ (⟨#[32, 125, 32, 102, 114, 111, 109, 32, 34]⟩ : ByteArray)).size + a0_3.size ≤ 9223372036854775807
     ·rw [if_pos c11] at H
      have c11b0 := eq_true c11
      have c11b1 : decide ((((⟨#[101, 120, 112, 111, 114, 116, 32, 123, 32]⟩ : ByteArray) ++ t220) ++ (⟨#[32, 125, 32, 102, 114, 111, 109, 32, 34]⟩ : ByteArray)).size + a0_3.size ≤ 9223372036854775807) = true := decide_eq_true c11
      try have c11b2 : (9223372036854775807 < (((⟨#[101, 120, 112, 111, 114, 116, 32, 123, 32]⟩ : ByteArray) ++ t220) ++ (⟨#[32, 125, 32, 102, 114, 111, 109, 32, 34]⟩ : ByteArray)).size + a0_3.size) = False := eq_false (Nat.not_lt.2 c11)
      try have c11b6 : (9223372036854775807 < 9 + t220.size + 9 + a0_3.size) = False := by have h_ := c11b2; simp only [ByteArray.size_append] at h_; exact h_
      by_cases c12 : ((((⟨#[101, 120, 112, 111, 114, 116, 32, 123, 32]⟩ : ByteArray) ++ t220) ++ (⟨#[32, 125, 32, 102, 114, 111, 109, 32, 34]⟩ : ByteArray)) ++ a0_3).size + 3 ≤ 9223372036854775807
      ·rw [if_pos c12] at H
       have c12b0 := eq_true c12
       have c12b1 : decide (((((⟨#[101, 120, 112, 111, 114, 116, 32, 123, 32]⟩ : ByteArray) ++ t220) ++ (⟨#[32, 125, 32, 102, 114, 111, 109, 32, 34]⟩ : ByteArray)) ++ a0_3).size + 3 ≤ 9223372036854775807) = true := decide_eq_true c12
       try have c12b2 : (9223372036854775807 < ((((⟨#[101, 120, 112, 111, 114, 116, 32, 123, 32]⟩ : ByteArray) ++ t220) ++ (⟨#[32, 125, 32, 102, 114, 111, 109, 32, 34]⟩ : ByteArray)) ++ a0_3).size + 3) = False := eq_false (Nat.not_lt.2 c12)
       try have c12b6 : (9223372036854775807 < 9 + t220.size + 9 + a0_3.size + 3) = False := by have h_ := c12b2; simp only [ByteArray.size_append] at h_; exact h_
       obtain rfl := Option.some.inj H
       go_enter Tryd.func41, Tryd.ntmps41
       go_wp2_with (first | ((with_reducible refine gate_dst (N := 1) rfl ?_); refine box_event ?hg (N := 1) ?hd (cs := #[.int .i64 a0_0, .string a0_1, .string a0_2, .string a0_3]) (t := 80) ?hr ?_; (case hd => rfl); (case hg => rfl); (case hr => first | (go_simp; done) | (go_simp; rfl)); intro gb219 hg w13 hbox hb; have n0_ := Aside0.mk (below_step (by repeat (first | (with_reducible first | exact HB.out | apply below_alloc | apply pw_below_drewN | apply below_drew1) | exact HB.out)) hb); have n1_ := Aside0.mk (hbox); have n2_ := Aside0.mk ((by rw [hg]; exact (below_size (by repeat (first | (with_reducible first | exact HB.out | apply below_alloc | apply pw_below_drewN | apply below_drew1) | exact HB.out))) : w.heap.size ≤ gb219)); have n3_ := Aside0.mk ((by rw [hg]; exact (below_size (by repeat (first | (with_reducible first | exact HB.out | apply below_alloc | apply pw_below_drewN | apply below_drew1) | exact HB.out))) : w.heap.size ≤ gb219)); clear HB; have HB := n0_; have BK219 := n1_; have GW219 := n2_; have GE219 := n3_; clear n0_ n1_ n2_ n3_; clear hb hbox hg; have hcz14_0 : w13.cell? ⟨gb219, 0, none⟩ = some (.int .i64 a0_0) := (blk_cell BK219.out 0).trans rfl; have hcz14_1 : w13.cell? ⟨gb219, 1, none⟩ = some (.string a0_1) := (blk_cell BK219.out 1).trans rfl; have hcz14_2 : w13.cell? ⟨gb219, 2, none⟩ = some (.string a0_2) := (blk_cell BK219.out 2).trans rfl; have hcz14_3 : w13.cell? ⟨gb219, 3, none⟩ = some (.string a0_3) := (blk_cell BK219.out 3).trans rfl; have hfz14_0 := blk_frozen BK219.out 0; have hfz14_1 := blk_frozen BK219.out 1; have hfz14_2 := blk_frozen BK219.out 2; have hfz14_3 := blk_frozen BK219.out 3) | (go_at_call 51; (with_reducible refine (impl_asText.calls a0_2 a0_1 t220 _ A8.out).mono ?_); rintro e w' ⟨rfl, ⟨nd, rfl⟩⟩; (try first | exact ⟨rfl, _, World.drewN_drewN _ _ _⟩ | exact ⟨rfl, _, Eq.trans (World.drewN_drewN _ _ _) (congrArg (World.drewN _) (Nat.add_assoc _ _ _))⟩)))
       repeat (go_quiet (first | ((with_reducible refine gate_dst (N := 1) rfl ?_); refine box_event ?hg (N := 1) ?hd (cs := #[.int .i64 a0_0, .string a0_1, .string a0_2, .string a0_3]) (t := 80) ?hr ?_; (case hd => rfl); (case hg => rfl); (case hr => first | (go_simp; done) | (go_simp; rfl)); intro gb219 hg w13 hbox hb; have n0_ := Aside0.mk (below_step (by repeat (first | (with_reducible first | exact HB.out | apply below_alloc | apply pw_below_drewN | apply below_drew1) | exact HB.out)) hb); have n1_ := Aside0.mk (hbox); have n2_ := Aside0.mk ((by rw [hg]; exact (below_size (by repeat (first | (with_reducible first | exact HB.out | apply below_alloc | apply pw_below_drewN | apply below_drew1) | exact HB.out))) : w.heap.size ≤ gb219)); have n3_ := Aside0.mk ((by rw [hg]; exact (below_size (by repeat (first | (with_reducible first | exact HB.out | apply below_alloc | apply pw_below_drewN | apply below_drew1) | exact HB.out))) : w.heap.size ≤ gb219)); clear HB; have HB := n0_; have BK219 := n1_; have GW219 := n2_; have GE219 := n3_; clear n0_ n1_ n2_ n3_; clear hb hbox hg; have hcz14_0 : w13.cell? ⟨gb219, 0, none⟩ = some (.int .i64 a0_0) := (blk_cell BK219.out 0).trans rfl; have hcz14_1 : w13.cell? ⟨gb219, 1, none⟩ = some (.string a0_1) := (blk_cell BK219.out 1).trans rfl; have hcz14_2 : w13.cell? ⟨gb219, 2, none⟩ = some (.string a0_2) := (blk_cell BK219.out 2).trans rfl; have hcz14_3 : w13.cell? ⟨gb219, 3, none⟩ = some (.string a0_3) := (blk_cell BK219.out 3).trans rfl; have hfz14_0 := blk_frozen BK219.out 0; have hfz14_1 := blk_frozen BK219.out 1; have hfz14_2 := blk_frozen BK219.out 2; have hfz14_3 := blk_frozen BK219.out 3) | (go_at_call 51; (with_reducible refine (impl_asText.calls a0_2 a0_1 t220 _ A8.out).mono ?_); rintro e w' ⟨rfl, ⟨nd, rfl⟩⟩; (try first | exact ⟨rfl, _, World.drewN_drewN _ _ _⟩ | exact ⟨rfl, _, Eq.trans (World.drewN_drewN _ _ _) (congrArg (World.drewN _) (Nat.add_assoc _ _ _))⟩))); try go_wp2_with (first | ((with_reducible refine gate_dst (N := 1) rfl ?_); refine box_event ?hg (N := 1) ?hd (cs := #[.int .i64 a0_0, .string a0_1, .string a0_2, .string a0_3]) (t := 80) ?hr ?_; (case hd => rfl); (case hg => rfl); (case hr => first | (go_simp; done) | (go_simp; rfl)); intro gb219 hg w13 hbox hb; have n0_ := Aside0.mk (below_step (by repeat (first | (with_reducible first | exact HB.out | apply below_alloc | apply pw_below_drewN | apply below_drew1) | exact HB.out)) hb); have n1_ := Aside0.mk (hbox); have n2_ := Aside0.mk ((by rw [hg]; exact (below_size (by repeat (first | (with_reducible first | exact HB.out | apply below_alloc | apply pw_below_drewN | apply below_drew1) | exact HB.out))) : w.heap.size ≤ gb219)); have n3_ := Aside0.mk ((by rw [hg]; exact (below_size (by repeat (first | (with_reducible first | exact HB.out | apply below_alloc | apply pw_below_drewN | apply below_drew1) | exact HB.out))) : w.heap.size ≤ gb219)); clear HB; have HB := n0_; have BK219 := n1_; have GW219 := n2_; have GE219 := n3_; clear n0_ n1_ n2_ n3_; clear hb hbox hg; have hcz14_0 : w13.cell? ⟨gb219, 0, none⟩ = some (.int .i64 a0_0) := (blk_cell BK219.out 0).trans rfl; have hcz14_1 : w13.cell? ⟨gb219, 1, none⟩ = some (.string a0_1) := (blk_cell BK219.out 1).trans rfl; have hcz14_2 : w13.cell? ⟨gb219, 2, none⟩ = some (.string a0_2) := (blk_cell BK219.out 2).trans rfl; have hcz14_3 : w13.cell? ⟨gb219, 3, none⟩ = some (.string a0_3) := (blk_cell BK219.out 3).trans rfl; have hfz14_0 := blk_frozen BK219.out 0; have hfz14_1 := blk_frozen BK219.out 1; have hfz14_2 := blk_frozen BK219.out 2; have hfz14_3 := blk_frozen BK219.out 3) | (go_at_call 51; (with_reducible refine (impl_asText.calls a0_2 a0_1 t220 _ A8.out).mono ?_); rintro e w' ⟨rfl, ⟨nd, rfl⟩⟩; (try first | exact ⟨rfl, _, World.drewN_drewN _ _ _⟩ | exact ⟨rfl, _, Eq.trans (World.drewN_drewN _ _ _) (congrArg (World.drewN _) (Nat.add_assoc _ _ _))⟩))))
       go_ret
       exact ⟨by first | rfl | (simp [errW_none, errW_some] <;> rfl) | (simp [*, errW_none, errW_some] <;> rfl), by repeat (first | (with_reducible first | exact HB.out | apply below_alloc | apply pw_below_drewN | apply below_drew1 | refine below_set ?_ GE219.out) | exact HB.out)⟩
      ·rw [if_neg c12] at H
       exact absurd H (by simp)
     ·rw [if_neg c11] at H
      exact absurd H (by simp)
    ·rw [if_neg c10] at H
     exact absurd H (by simp)
   ·rw [if_neg c9] at H
    exact absurd H (by simp)
  ·rw [if_neg c7] at H
   have c7b0 : (a0_0 == 2) = false := beq_eq_false_iff_ne.mpr c7
   have c7b1 : (a0_0 != 2) = true := bne_iff_ne.mpr c7
   replace H := Option.bind_eq_some_iff.mp H
   obtain ⟨t221, A150, H⟩ := H
   replace H : (if 9 + t221.size ≤ 9223372036854775807 then (if ((⟨#[101, 120, 112, 111, 114, 116, 32, 123, 32]⟩ : ByteArray) ++ t221).size + 4 ≤ 9223372036854775807 then (some (((⟨#[101, 120, 112, 111, 114, 116, 32, 123, 32]⟩ : ByteArray) ++ t221) ++ (⟨#[32, 125, 59, 10]⟩ : ByteArray))) else (none)) else (none)) = some r := H
   have A15 := Aside0.mk A150
   clear A150
   by_cases c16 : 9 + t221.size ≤ 9223372036854775807
   ·rw [if_pos c16] at H
    have c16b0 := eq_true c16
    have c16b1 : decide (9 + t221.size ≤ 9223372036854775807) = true := decide_eq_true c16
    try have c16b2 : (9223372036854775807 < 9 + t221.size) = False := eq_false (Nat.not_lt.2 c16)
    by_cases c17 : ((⟨#[101, 120, 112, 111, 114, 116, 32, 123, 32]⟩ : ByteArray) ++ t221).size + 4 ≤ 9223372036854775807
    ·rw [if_pos c17] at H
     have c17b0 := eq_true c17
     have c17b1 : decide (((⟨#[101, 120, 112, 111, 114, 116, 32, 123, 32]⟩ : ByteArray) ++ t221).size + 4 ≤ 9223372036854775807) = true := decide_eq_true c17
     try have c17b2 : (9223372036854775807 < ((⟨#[101, 120, 112, 111, 114, 116, 32, 123, 32]⟩ : ByteArray) ++ t221).size + 4) = False := eq_false (Nat.not_lt.2 c17)
     try have c17b6 : (9223372036854775807 < 9 + t221.size + 4) = False := by have h_ := c17b2; simp only [ByteArray.size_append] at h_; exact h_
     obtain rfl := Option.some.inj H
     go_enter Tryd.func41, Tryd.ntmps41
     go_wp2_with (first | ((with_reducible refine gate_dst (N := 1) rfl ?_); refine box_event ?hg (N := 1) ?hd (cs := #[.int .i64 a0_0, .string a0_1, .string a0_2, .string a0_3]) (t := 80) ?hr ?_; (case hd => rfl); (case hg => rfl); (case hr => first | (go_simp; done) | (go_simp; rfl)); intro gb219 hg w18 hbox hb; have n0_ := Aside0.mk (below_step (by repeat (first | (with_reducible first | exact HB.out | apply below_alloc | apply pw_below_drewN | apply below_drew1) | exact HB.out)) hb); have n1_ := Aside0.mk (hbox); have n2_ := Aside0.mk ((by rw [hg]; exact (below_size (by repeat (first | (with_reducible first | exact HB.out | apply below_alloc | apply pw_below_drewN | apply below_drew1) | exact HB.out))) : w.heap.size ≤ gb219)); have n3_ := Aside0.mk ((by rw [hg]; exact (below_size (by repeat (first | (with_reducible first | exact HB.out | apply below_alloc | apply pw_below_drewN | apply below_drew1) | exact HB.out))) : w.heap.size ≤ gb219)); clear HB; have HB := n0_; have BK219 := n1_; have GW219 := n2_; have GE219 := n3_; clear n0_ n1_ n2_ n3_; clear hb hbox hg; have hcz19_0 : w18.cell? ⟨gb219, 0, none⟩ = some (.int .i64 a0_0) := (blk_cell BK219.out 0).trans rfl; have hcz19_1 : w18.cell? ⟨gb219, 1, none⟩ = some (.string a0_1) := (blk_cell BK219.out 1).trans rfl; have hcz19_2 : w18.cell? ⟨gb219, 2, none⟩ = some (.string a0_2) := (blk_cell BK219.out 2).trans rfl; have hcz19_3 : w18.cell? ⟨gb219, 3, none⟩ = some (.string a0_3) := (blk_cell BK219.out 3).trans rfl; have hfz19_0 := blk_frozen BK219.out 0; have hfz19_1 := blk_frozen BK219.out 1; have hfz19_2 := blk_frozen BK219.out 2; have hfz19_3 := blk_frozen BK219.out 3) | (go_at_call 51; (with_reducible refine (impl_asText.calls a0_2 a0_1 t221 _ A15.out).mono ?_); rintro e w' ⟨rfl, ⟨nd, rfl⟩⟩; (try first | exact ⟨rfl, _, World.drewN_drewN _ _ _⟩ | exact ⟨rfl, _, Eq.trans (World.drewN_drewN _ _ _) (congrArg (World.drewN _) (Nat.add_assoc _ _ _))⟩)))
     repeat (go_quiet (first | ((with_reducible refine gate_dst (N := 1) rfl ?_); refine box_event ?hg (N := 1) ?hd (cs := #[.int .i64 a0_0, .string a0_1, .string a0_2, .string a0_3]) (t := 80) ?hr ?_; (case hd => rfl); (case hg => rfl); (case hr => first | (go_simp; done) | (go_simp; rfl)); intro gb219 hg w18 hbox hb; have n0_ := Aside0.mk (below_step (by repeat (first | (with_reducible first | exact HB.out | apply below_alloc | apply pw_below_drewN | apply below_drew1) | exact HB.out)) hb); have n1_ := Aside0.mk (hbox); have n2_ := Aside0.mk ((by rw [hg]; exact (below_size (by repeat (first | (with_reducible first | exact HB.out | apply below_alloc | apply pw_below_drewN | apply below_drew1) | exact HB.out))) : w.heap.size ≤ gb219)); have n3_ := Aside0.mk ((by rw [hg]; exact (below_size (by repeat (first | (with_reducible first | exact HB.out | apply below_alloc | apply pw_below_drewN | apply below_drew1) | exact HB.out))) : w.heap.size ≤ gb219)); clear HB; have HB := n0_; have BK219 := n1_; have GW219 := n2_; have GE219 := n3_; clear n0_ n1_ n2_ n3_; clear hb hbox hg; have hcz19_0 : w18.cell? ⟨gb219, 0, none⟩ = some (.int .i64 a0_0) := (blk_cell BK219.out 0).trans rfl; have hcz19_1 : w18.cell? ⟨gb219, 1, none⟩ = some (.string a0_1) := (blk_cell BK219.out 1).trans rfl; have hcz19_2 : w18.cell? ⟨gb219, 2, none⟩ = some (.string a0_2) := (blk_cell BK219.out 2).trans rfl; have hcz19_3 : w18.cell? ⟨gb219, 3, none⟩ = some (.string a0_3) := (blk_cell BK219.out 3).trans rfl; have hfz19_0 := blk_frozen BK219.out 0; have hfz19_1 := blk_frozen BK219.out 1; have hfz19_2 := blk_frozen BK219.out 2; have hfz19_3 := blk_frozen BK219.out 3) | (go_at_call 51; (with_reducible refine (impl_asText.calls a0_2 a0_1 t221 _ A15.out).mono ?_); rintro e w' ⟨rfl, ⟨nd, rfl⟩⟩; (try first | exact ⟨rfl, _, World.drewN_drewN _ _ _⟩ | exact ⟨rfl, _, Eq.trans (World.drewN_drewN _ _ _) (congrArg (World.drewN _) (Nat.add_assoc _ _ _))⟩))); try go_wp2_with (first | ((with_reducible refine gate_dst (N := 1) rfl ?_); refine box_event ?hg (N := 1) ?hd (cs := #[.int .i64 a0_0, .string a0_1, .string a0_2, .string a0_3]) (t := 80) ?hr ?_; (case hd => rfl); (case hg => rfl); (case hr => first | (go_simp; done) | (go_simp; rfl)); intro gb219 hg w18 hbox hb; have n0_ := Aside0.mk (below_step (by repeat (first | (with_reducible first | exact HB.out | apply below_alloc | apply pw_below_drewN | apply below_drew1) | exact HB.out)) hb); have n1_ := Aside0.mk (hbox); have n2_ := Aside0.mk ((by rw [hg]; exact (below_size (by repeat (first | (with_reducible first | exact HB.out | apply below_alloc | apply pw_below_drewN | apply below_drew1) | exact HB.out))) : w.heap.size ≤ gb219)); have n3_ := Aside0.mk ((by rw [hg]; exact (below_size (by repeat (first | (with_reducible first | exact HB.out | apply below_alloc | apply pw_below_drewN | apply below_drew1) | exact HB.out))) : w.heap.size ≤ gb219)); clear HB; have HB := n0_; have BK219 := n1_; have GW219 := n2_; have GE219 := n3_; clear n0_ n1_ n2_ n3_; clear hb hbox hg; have hcz19_0 : w18.cell? ⟨gb219, 0, none⟩ = some (.int .i64 a0_0) := (blk_cell BK219.out 0).trans rfl; have hcz19_1 : w18.cell? ⟨gb219, 1, none⟩ = some (.string a0_1) := (blk_cell BK219.out 1).trans rfl; have hcz19_2 : w18.cell? ⟨gb219, 2, none⟩ = some (.string a0_2) := (blk_cell BK219.out 2).trans rfl; have hcz19_3 : w18.cell? ⟨gb219, 3, none⟩ = some (.string a0_3) := (blk_cell BK219.out 3).trans rfl; have hfz19_0 := blk_frozen BK219.out 0; have hfz19_1 := blk_frozen BK219.out 1; have hfz19_2 := blk_frozen BK219.out 2; have hfz19_3 := blk_frozen BK219.out 3) | (go_at_call 51; (with_reducible refine (impl_asText.calls a0_2 a0_1 t221 _ A15.out).mono ?_); rintro e w' ⟨rfl, ⟨nd, rfl⟩⟩; (try first | exact ⟨rfl, _, World.drewN_drewN _ _ _⟩ | exact ⟨rfl, _, Eq.trans (World.drewN_drewN _ _ _) (congrArg (World.drewN _) (Nat.add_assoc _ _ _))⟩))))
     go_ret
     exact ⟨by first | rfl | (simp [errW_none, errW_some] <;> rfl) | (simp [*, errW_none, errW_some] <;> rfl), by repeat (first | (with_reducible first | exact HB.out | apply below_alloc | apply pw_below_drewN | apply below_drew1 | refine below_set ?_ GE219.out) | exact HB.out)⟩
    ·rw [if_neg c17] at H
     exact absurd H (by simp)
   ·rw [if_neg c16] at H
    exact absurd H (by simp)

/-! ### strconv_Itoa: function 58 (a contract of mine) -/
def strconv_Itoa.f (a0 : Int) : Option ByteArray := if -9223372036854775808 ≤ a0 ∧ a0 ≤ 9223372036854775807 then some ⟨(Lib.itoa a0).toArray⟩ else none
theorem strconv_Itoa.calls (a0 : Int) (r : ByteArray) (w : World) (HT : TabsP w) (h : strconv_Itoa.f a0 = some r) :
  Calls Tryd.prog 58 #[.int .i64 a0] w fun e w' => e = .returned (.string r) ∧ Below w.heap.size w w' := by
 unfold strconv_Itoa.f at h
 by_cases c : -9223372036854775808 ≤ a0 ∧ a0 ≤ 9223372036854775807
 ·rw [if_pos c] at h
  obtain rfl := Option.some.inj h
  refine (Tryd.strconv_Itoa a0 c.1 c.2 w HT.pow).mono ?_
  rintro e w' ⟨rfl, k, os, rfl⟩
  exact ⟨rfl, Lib.below_grow _ w (Nat.le_refl _) k os⟩
 ·rw [if_neg c] at h
  cases h

/-! ### impl_Dec: function 55 -/
def impl_Dec.f (a0 : Int) : Option (ByteArray) := (strconv_Itoa.f a0).bind fun t222 => (some t222)
set_option maxHeartbeats 8000000 in
set_option maxRecDepth 100000 in
theorem impl_Dec.calls (a0 : Int) (r : ByteArray) (w : World) (HT : TabsP w) (h : impl_Dec.f a0 = some r) :
  Calls Tryd.prog 55 #[.int .i64 a0] w fun e w' => e = .returned (.string r) ∧ Below w.heap.size w w' := by
 have HTA := Aside0.mk HT
 clear HT
 have HB := Aside0.mk (Below.refl w.heap.size w)
 have H : ((strconv_Itoa.f a0).bind fun t222 => (some t222)) = some r := h
 clear h
 replace H := Option.bind_eq_some_iff.mp H
 obtain ⟨t222, A20, H⟩ := H
 replace H : (some t222) = some r := H
 have A2 := Aside0.mk A20
 clear A20
 obtain rfl := Option.some.inj H
 go_enter Tryd.func55, Tryd.ntmps55
 go_wp2_with (first | ((with_reducible refine gate_callee (f := 58) rfl ?_); refine goesL_ (some 4) rfl rfl Tryd.func58 (by kernel_rfl) rfl #[.int .i64 a0] rfl (by (try simp only [List.map_toArray, List.map_cons, List.map_nil]); first | done | rfl | (simp only [List.length_drop, List.length_take]; rfl)) ?_; (with_reducible refine (strconv_Itoa.calls a0 t222 _ (TabsP.below HTA.out (by repeat (first | (with_reducible first | exact HB.out | apply below_alloc | apply pw_below_drewN | apply below_drew1) | exact HB.out))) A2.out).mono ?_); rintro e w3 ⟨rfl, hb⟩; refine ⟨_, rfl, ?_⟩; have n0_ := Aside0.mk (below_step (by repeat (first | (with_reducible first | exact HB.out | apply below_alloc | apply pw_below_drewN | apply below_drew1) | exact HB.out)) hb); clear HB; have HB := n0_; clear n0_; (try clear hb); (try clear hb2); (try clear hk); (try clear hi)))
 go_ret
 exact ⟨by first | rfl | (simp [errW_none, errW_some] <;> rfl) | (simp [*, errW_none, errW_some] <;> rfl), by repeat (first | (with_reducible first | exact HB.out | apply below_alloc | apply pw_below_drewN | apply below_drew1) | exact HB.out)⟩

/-! ### impl_isSum: function 57 -/
def impl_isSum.f (a0_0 : Int) (a0_1 : Int) (a0_2 : ByteArray) (a0_3 : ByteArray) (a0_4 : Int) (a0_5 : Int) : Option (Bool) := if a0_0 = 6 then (some true) else (some (a0_0 == 7))
set_option maxHeartbeats 8000000 in
set_option maxRecDepth 100000 in
theorem impl_isSum.calls (a0_0 : Int) (a0_1 : Int) (a0_2 : ByteArray) (a0_3 : ByteArray) (a0_4 : Int) (a0_5 : Int) (r : Bool) (w : World) (h : impl_isSum.f a0_0 a0_1 a0_2 a0_3 a0_4 a0_5 = some r) :
  Calls Tryd.prog 57 #[.agg #[.int .i64 a0_0, .int .i64 a0_1, .string a0_2, .string a0_3, .int .i64 a0_4, .int .i64 a0_5]] w fun e w' => e = .returned (.bool r) ∧ Below w.heap.size w w' := by
 have hu75 := Tryd.underlying75
 have HB := Aside0.mk (Below.refl w.heap.size w)
 have H : (if a0_0 = 6 then (some true) else (some (a0_0 == 7))) = some r := h
 clear h
 by_cases c2 : a0_0 = 6
 ·rw [if_pos c2] at H
  have c2b0 : (a0_0 == 6) = true := beq_iff_eq.mpr c2
  have c2b1 : (a0_0 != 6) = false := bne_eq_false_iff_eq.mpr c2
  clear c2
  obtain rfl := Option.some.inj H
  go_enter Tryd.func57, Tryd.ntmps57
  go_wp2_with (first | ((with_reducible refine gate_dst (N := 1) rfl ?_); refine box_event ?hg (N := 1) ?hd (cs := #[.int .i64 a0_0, .int .i64 a0_1, .string a0_2, .string a0_3, .int .i64 a0_4, .int .i64 a0_5]) (t := 75) ?hr ?_; (case hd => rfl); (case hg => rfl); (case hr => first | (go_simp; done) | (go_simp; rfl)); intro gb223 hg w3 hbox hb; have n0_ := Aside0.mk (below_step (by repeat (first | (with_reducible first | exact HB.out | apply below_alloc | apply pw_below_drewN | apply below_drew1) | exact HB.out)) hb); have n1_ := Aside0.mk (hbox); have n2_ := Aside0.mk ((by rw [hg]; exact (below_size (by repeat (first | (with_reducible first | exact HB.out | apply below_alloc | apply pw_below_drewN | apply below_drew1) | exact HB.out))) : w.heap.size ≤ gb223)); have n3_ := Aside0.mk ((by rw [hg]; exact (below_size (by repeat (first | (with_reducible first | exact HB.out | apply below_alloc | apply pw_below_drewN | apply below_drew1) | exact HB.out))) : w.heap.size ≤ gb223)); clear HB; have HB := n0_; have BK223 := n1_; have GW223 := n2_; have GE223 := n3_; clear n0_ n1_ n2_ n3_; clear hb hbox hg; have hcz4_0 : w3.cell? ⟨gb223, 0, none⟩ = some (.int .i64 a0_0) := (blk_cell BK223.out 0).trans rfl; have hcz4_1 : w3.cell? ⟨gb223, 1, none⟩ = some (.int .i64 a0_1) := (blk_cell BK223.out 1).trans rfl; have hcz4_2 : w3.cell? ⟨gb223, 2, none⟩ = some (.string a0_2) := (blk_cell BK223.out 2).trans rfl; have hcz4_3 : w3.cell? ⟨gb223, 3, none⟩ = some (.string a0_3) := (blk_cell BK223.out 3).trans rfl; have hcz4_4 : w3.cell? ⟨gb223, 4, none⟩ = some (.int .i64 a0_4) := (blk_cell BK223.out 4).trans rfl; have hcz4_5 : w3.cell? ⟨gb223, 5, none⟩ = some (.int .i64 a0_5) := (blk_cell BK223.out 5).trans rfl; have hfz4_0 := blk_frozen BK223.out 0; have hfz4_1 := blk_frozen BK223.out 1; have hfz4_2 := blk_frozen BK223.out 2; have hfz4_3 := blk_frozen BK223.out 3; have hfz4_4 := blk_frozen BK223.out 4; have hfz4_5 := blk_frozen BK223.out 5))
  go_ret
  exact ⟨by first | rfl | (simp [errW_none, errW_some] <;> rfl) | (simp [*, errW_none, errW_some] <;> rfl), by repeat (first | (with_reducible first | exact HB.out | apply below_alloc | apply pw_below_drewN | apply below_drew1 | refine below_set ?_ GE223.out) | exact HB.out)⟩
 ·rw [if_neg c2] at H
  have c2b0 : (a0_0 == 6) = false := beq_eq_false_iff_ne.mpr c2
  have c2b1 : (a0_0 != 6) = true := bne_iff_ne.mpr c2
  obtain rfl := Option.some.inj H
  go_enter Tryd.func57, Tryd.ntmps57
  go_wp2_with (first | ((with_reducible refine gate_dst (N := 1) rfl ?_); refine box_event ?hg (N := 1) ?hd (cs := #[.int .i64 a0_0, .int .i64 a0_1, .string a0_2, .string a0_3, .int .i64 a0_4, .int .i64 a0_5]) (t := 75) ?hr ?_; (case hd => rfl); (case hg => rfl); (case hr => first | (go_simp; done) | (go_simp; rfl)); intro gb223 hg w5 hbox hb; have n0_ := Aside0.mk (below_step (by repeat (first | (with_reducible first | exact HB.out | apply below_alloc | apply pw_below_drewN | apply below_drew1) | exact HB.out)) hb); have n1_ := Aside0.mk (hbox); have n2_ := Aside0.mk ((by rw [hg]; exact (below_size (by repeat (first | (with_reducible first | exact HB.out | apply below_alloc | apply pw_below_drewN | apply below_drew1) | exact HB.out))) : w.heap.size ≤ gb223)); have n3_ := Aside0.mk ((by rw [hg]; exact (below_size (by repeat (first | (with_reducible first | exact HB.out | apply below_alloc | apply pw_below_drewN | apply below_drew1) | exact HB.out))) : w.heap.size ≤ gb223)); clear HB; have HB := n0_; have BK223 := n1_; have GW223 := n2_; have GE223 := n3_; clear n0_ n1_ n2_ n3_; clear hb hbox hg; have hcz6_0 : w5.cell? ⟨gb223, 0, none⟩ = some (.int .i64 a0_0) := (blk_cell BK223.out 0).trans rfl; have hcz6_1 : w5.cell? ⟨gb223, 1, none⟩ = some (.int .i64 a0_1) := (blk_cell BK223.out 1).trans rfl; have hcz6_2 : w5.cell? ⟨gb223, 2, none⟩ = some (.string a0_2) := (blk_cell BK223.out 2).trans rfl; have hcz6_3 : w5.cell? ⟨gb223, 3, none⟩ = some (.string a0_3) := (blk_cell BK223.out 3).trans rfl; have hcz6_4 : w5.cell? ⟨gb223, 4, none⟩ = some (.int .i64 a0_4) := (blk_cell BK223.out 4).trans rfl; have hcz6_5 : w5.cell? ⟨gb223, 5, none⟩ = some (.int .i64 a0_5) := (blk_cell BK223.out 5).trans rfl; have hfz6_0 := blk_frozen BK223.out 0; have hfz6_1 := blk_frozen BK223.out 1; have hfz6_2 := blk_frozen BK223.out 2; have hfz6_3 := blk_frozen BK223.out 3; have hfz6_4 := blk_frozen BK223.out 4; have hfz6_5 := blk_frozen BK223.out 5))
  go_ret
  exact ⟨by first | rfl | (simp [errW_none, errW_some] <;> rfl) | (simp [*, errW_none, errW_some] <;> rfl), by repeat (first | (with_reducible first | exact HB.out | apply below_alloc | apply pw_below_drewN | apply below_drew1 | refine below_set ?_ GE223.out) | exact HB.out)⟩

end Go.Proofs.YtnakdhpefkllmaaDoor.PFnExactKnown

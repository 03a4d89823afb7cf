-- Out of the kit's print, with contracts of mine among it (myprint.py).
import Derived.Test.YtnakdhpefkllmaaDoorPFnExactKnownx0
import Derived.Test.YtnakdhpefkllmaaDoorPFnExactKnownx5
import Derived.Test.YtnakdhpefkllmaaDoorPFnExactKnownx6
namespace Go.Proofs.YtnakdhpefkllmaaDoor.PFnExactKnown
open Go.RowKit Go.Proofs.YtnakdhpefkllmaaDoorW.PrintWords Go.Proofs.YtnakdhpefkllmaaDoorW.PrintLast Go.Proofs.YtnakdhpefkllmaaDoorW.PrintMore
attribute [local go_sem] max2_int min2_int max_two min_two max_three min_three max_four min_four   -- for this text's walks alone
set_option linter.unusedVariables false
set_option linter.unusedSimpArgs false

/-! ### impl_exprText: function 52 (a contract of mine) -/
def impl_exprText.cat (a b : ByteArray) : Option ByteArray := if a.size + b.size ≤ 9223372036854775807 then some (a ++ b) else none
def impl_exprText.br (m : Bool) (s : ByteArray) : Option ByteArray := if m = true then (impl_exprText.cat (⟨#[40]⟩ : ByteArray) s).bind fun t => impl_exprText.cat t (⟨#[41]⟩ : ByteArray) else some s
def impl_exprText.sum (e : S75) : Bool := if e.f0 = 6 then true else e.f0 == 7
def impl_exprText.op (e : S75) : Bool := decide (6 ≤ e.f0 ∧ e.f0 ≤ 8)
def impl_exprText.two (rec : Int → Option ByteArray) (a b : Int) (m n : Bool) (s : ByteArray) : Option ByteArray := (rec a).bind fun x => (impl_exprText.br m x).bind fun x => (impl_exprText.cat x s).bind fun x => (rec b).bind fun y => (impl_exprText.br n y).bind fun y => impl_exprText.cat x y
def impl_exprText.ok (l : List S75) (i : Int) : Prop := 0 ≤ i ∧ i < l.length
instance (l : List S75) (i : Int) : Decidable (impl_exprText.ok l i) := inferInstanceAs (Decidable (_ ∧ _))
def impl_exprText.g (rec : Int → Option ByteArray) (l : List S75) (e : S75) : Option ByteArray :=
 if e.f0 = 1 then impl_Dec.f e.f1 else if e.f0 = 2 then some e.f2 else if e.f0 = 3 then impl_exprText.cat e.f2 (⟨#[40, 41]⟩ : ByteArray)
 else if e.f0 = 4 then (impl_exprText.cat e.f2 (⟨#[46]⟩ : ByteArray)).bind fun x => impl_exprText.cat x e.f3
 else if e.f0 = 5 then (impl_exprText.cat e.f2 (⟨#[46]⟩ : ByteArray)).bind fun x => (impl_exprText.cat x e.f3).bind fun x => impl_exprText.cat x (⟨#[40, 41]⟩ : ByteArray)
 else if e.f0 = 6 then (if impl_exprText.ok l e.f5 then impl_exprText.two rec e.f4 e.f5 false (impl_exprText.sum (rd_T75 l e.f5)) (⟨#[32, 43, 32]⟩ : ByteArray) else none)
 else if e.f0 = 7 then (if impl_exprText.ok l e.f5 then impl_exprText.two rec e.f4 e.f5 false (impl_exprText.sum (rd_T75 l e.f5)) (⟨#[32, 45, 32]⟩ : ByteArray) else none)
 else if e.f0 = 8 then (if impl_exprText.ok l e.f4 ∧ impl_exprText.ok l e.f5 then impl_exprText.two rec e.f4 e.f5 (impl_exprText.sum (rd_T75 l e.f4)) (impl_exprText.op (rd_T75 l e.f5)) (⟨#[32, 42, 32]⟩ : ByteArray) else none)
 else some ⟨#[]⟩
def impl_exprText.f : Nat → List ByteArray → List S78 → List S80 → List S77 → List S75 → Int → Option ByteArray
 | 0, _, _, _, _, _, _ => none
 | k + 1, l0_0, l0_1, l0_2, l0_3, l0_4, a1 => if impl_exprText.ok l0_4 a1 then impl_exprText.g (fun i => impl_exprText.f k l0_0 l0_1 l0_2 l0_3 l0_4 i) l0_4 (rd_T75 l0_4 a1) else none
theorem impl_exprText.two_mono {r s : Int → Option ByteArray} (h : ∀ i, LeO (r i) (s i)) (a b : Int) (m n : Bool) (t : ByteArray) : LeO (impl_exprText.two r a b m n t) (impl_exprText.two s a b m n t) :=
 LeO.bind (h _) (fun _ => LeO.bind (LeO.refl _) (fun _ => LeO.bind (LeO.refl _) (fun _ => LeO.bind (h _) (fun _ => LeO.bind (LeO.refl _) (fun _ => LeO.refl _)))))
theorem impl_exprText.g_mono {r s : Int → Option ByteArray} (h : ∀ i, LeO (r i) (s i)) (l : List S75) (e : S75) : LeO (impl_exprText.g r l e) (impl_exprText.g s l e) := by
 unfold impl_exprText.g
 repeat' first
  | exact impl_exprText.two_mono h _ _ _ _ _
  | exact LeO.refl _
  | apply LeO.ite
theorem impl_exprText.mono : ∀ a0 a1 a2 a3 a4 a5 k, LeO (impl_exprText.f k a0 a1 a2 a3 a4 a5) (impl_exprText.f (k + 1) a0 a1 a2 a3 a4 a5) := by
 intro a0 a1 a2 a3 a4 a5 k
 induction k generalizing a5 with
 | zero => exact LeO.none _
 | succ k ih =>
  unfold impl_exprText.f
  exact LeO.ite (impl_exprText.g_mono (fun i => ih i) _ _) (LeO.refl _)
def impl_exprText.Good (P : Program) (F : Nat) (k : Nat) : Prop := ∀ (A0_0 : Option Addr) (c0_0 : Nat) (l0_0 : List (ByteArray)) (A0_1 : Option Addr) (c0_1 : Nat) (l0_1 : List (S78)) (A0_2 : Option Addr) (c0_2 : Nat) (l0_2 : List (S80)) (A0_3 : Option Addr) (c0_3 : Nat) (l0_3 : List (S77)) (A0_4 : Option Addr) (c0_4 : Nat) (l0_4 : List (S75)) (a1 : Int) (r : ByteArray) (w : World) (hr0_0 : Kd.C Kd.string w A0_0 l0_0.length l0_0) (hc0_0 : l0_0.length ≤ c0_0) (hr0_1 : Kd.C k78 w A0_1 l0_1.length l0_1) (hc0_1 : l0_1.length ≤ c0_1) (hr0_2 : Kd.C k80 w A0_2 l0_2.length l0_2) (hc0_2 : l0_2.length ≤ c0_2) (hr0_3 : Kd.C k77 w A0_3 l0_3.length l0_3) (hc0_3 : l0_3.length ≤ c0_3) (hr0_4 : Kd.C k75 w A0_4 l0_4.length l0_4) (hc0_4 : l0_4.length ≤ c0_4) (HT : TabsP w) (h : impl_exprText.f k l0_0 l0_1 l0_2 l0_3 l0_4 a1 = some r),
  Calls P F #[.agg #[.slice A0_0 l0_0.length c0_0, .slice A0_1 l0_1.length c0_1, .slice A0_2 l0_2.length c0_2, .slice A0_3 l0_3.length c0_3, .slice A0_4 l0_4.length c0_4], .int .i64 a1] w fun e w' => e = .returned (.string r) ∧ Below w.heap.size w w'
set_option maxHeartbeats 4000000 in
set_option maxRecDepth 100000 in
theorem impl_exprText.brk {k : Nat} (ih : impl_exprText.Good Tryd.prog 52 k) (A0_0 : Option Addr) (c0_0 : Nat) (l0_0 : List (ByteArray)) (A0_1 : Option Addr) (c0_1 : Nat) (l0_1 : List (S78)) (A0_2 : Option Addr) (c0_2 : Nat) (l0_2 : List (S80)) (A0_3 : Option Addr) (c0_3 : Nat) (l0_3 : List (S77)) (A0_4 : Option Addr) (c0_4 : Nat) (l0_4 : List (S75)) (a1 : Int) (m : Bool) (t r : ByteArray) (w : World) (hr0_0 : Kd.C Kd.string w A0_0 l0_0.length l0_0) (hc0_0 : l0_0.length ≤ c0_0) (hr0_1 : Kd.C k78 w A0_1 l0_1.length l0_1) (hc0_1 : l0_1.length ≤ c0_1) (hr0_2 : Kd.C k80 w A0_2 l0_2.length l0_2) (hc0_2 : l0_2.length ≤ c0_2) (hr0_3 : Kd.C k77 w A0_3 l0_3.length l0_3) (hc0_3 : l0_3.length ≤ c0_3) (hr0_4 : Kd.C k75 w A0_4 l0_4.length l0_4) (hc0_4 : l0_4.length ≤ c0_4) (HT : TabsP w) (h : impl_exprText.f k l0_0 l0_1 l0_2 l0_3 l0_4 a1 = some t) (hr : impl_exprText.br m t = some r) :
  Calls Tryd.prog 56 #[.agg #[.slice A0_0 l0_0.length c0_0, .slice A0_1 l0_1.length c0_1, .slice A0_2 l0_2.length c0_2, .slice A0_3 l0_3.length c0_3, .slice A0_4 l0_4.length c0_4], .int .i64 a1, .bool m] w fun e w' => e = .returned (.string r) ∧ Below w.heap.size w w' := by
 have HR0 := Aside0.mk hr0_0
 have HC0 := Aside0.mk hc0_0
 have HR1 := Aside0.mk hr0_1
 have HC1 := Aside0.mk hc0_1
 have HR2 := Aside0.mk hr0_2
 have HC2 := Aside0.mk hc0_2
 have HR3 := Aside0.mk hr0_3
 have HC3 := Aside0.mk hc0_3
 have HR4 := Aside0.mk hr0_4
 have HC4 := Aside0.mk hc0_4
 have HTA := Aside0.mk HT
 clear HT hr0_0 hc0_0 hr0_1 hc0_1 hr0_2 hc0_2 hr0_3 hc0_3 hr0_4 hc0_4
 have HI := Aside0.mk ih
 have HE := Aside0.mk h
 have HB := Aside0.mk hr
 clear ih h hr
 go_enter Tryd.func56, Tryd.ntmps56
 go_upto_region 2 with (first
  | ((with_reducible refine gate_dst (N := 3) rfl ?_); refine box_event ?hg (N := 3) ?hd (cs := #[.slice A0_0 l0_0.length c0_0, .slice A0_1 l0_1.length c0_1, .slice A0_2 l0_2.length c0_2, .slice A0_3 l0_3.length c0_3, .slice A0_4 l0_4.length c0_4]) (t := 37) ?hr ?_; (case hd => rfl); (case hg => rfl); (case hr => first | (go_simp; done) | (go_simp; rfl)); intro b3 hg w1 hbox hb; have HB1 := Aside0.mk hb; have y0 := (blk_cell hbox 0).trans rfl; have y1 := (blk_cell hbox 1).trans rfl; have y2 := (blk_cell hbox 2).trans rfl; have y3 := (blk_cell hbox 3).trans rfl; have y4 := (blk_cell hbox 4).trans rfl; clear hb hbox hg)
  | (go_at_call 52; refine (HI.out A0_0 c0_0 l0_0 A0_1 c0_1 l0_1 A0_2 c0_2 l0_2 A0_3 c0_3 l0_3 A0_4 c0_4 l0_4 a1 t _ (Kd.C_below HR0.out HB1.out) HC0.out (Kd.C_below HR1.out HB1.out) HC1.out (Kd.C_below HR2.out HB1.out) HC2.out (Kd.C_below HR3.out HB1.out) HC3.out (Kd.C_below HR4.out HB1.out) HC4.out (TabsP.below HTA.out HB1.out) HE.out).mono ?_; rintro e w2 ⟨rfl, hb⟩; replace HB1 := Aside0.mk (below_step HB1.out hb); clear hb))
 have hr := HB.out
 clear HB HE HI
 cases m with
 | false =>
  obtain rfl := Option.some.inj hr
  clear hr
  go_wp2
  go_ret
  exact ⟨rfl, HB1.out⟩
 | true =>
  unfold impl_exprText.br at hr
  rw [if_pos rfl] at hr
  unfold impl_exprText.cat at hr
  by_cases c1 : (⟨#[40]⟩ : ByteArray).size + t.size ≤ 9223372036854775807
  case neg => rw [if_neg c1] at hr; cases hr
  rw [if_pos c1, Option.bind_some] at hr
  by_cases c2 : ((⟨#[40]⟩ : ByteArray) ++ t).size + (⟨#[41]⟩ : ByteArray).size ≤ 9223372036854775807
  case neg => rw [if_neg c2] at hr; cases hr
  rw [if_pos c2] at hr
  obtain rfl := Option.some.inj hr
  clear hr
  have d1 : 1 + t.size ≤ 9223372036854775807 := c1
  have d2 : 1 + t.size + 1 ≤ 9223372036854775807 := by rw [ByteArray.size_append] at c2; exact c2
  clear c1 c2
  go_wp2
  go_ret
  exact ⟨rfl, HB1.out⟩
theorem impl_exprText.cat_some {a b r : ByteArray} (h : impl_exprText.cat a b = some r) : a.size + b.size ≤ 9223372036854775807 ∧ r = a ++ b := by
 unfold impl_exprText.cat at h
 by_cases c : a.size + b.size ≤ 9223372036854775807
 ·rw [if_pos c] at h; exact ⟨c, (Option.some.inj h).symm⟩
 ·rw [if_neg c] at h; cases h
theorem impl_exprText.two_some {rec : Int → Option ByteArray} {a b : Int} {m n : Bool} {s r : ByteArray} (h : impl_exprText.two rec a b m n s = some r) :
  ∃ x x' y y', rec a = some x ∧ impl_exprText.br m x = some x' ∧ rec b = some y ∧ impl_exprText.br n y = some y' ∧ x'.size + s.size ≤ 9223372036854775807 ∧ (x' ++ s).size + y'.size ≤ 9223372036854775807 ∧ r = x' ++ s ++ y' := by
 unfold impl_exprText.two at h
 obtain ⟨x, h1, h⟩ := Option.bind_eq_some_iff.1 h
 obtain ⟨x', h2, h⟩ := Option.bind_eq_some_iff.1 h
 obtain ⟨z, h3, h⟩ := Option.bind_eq_some_iff.1 h
 obtain ⟨y, h4, h⟩ := Option.bind_eq_some_iff.1 h
 obtain ⟨y', h5, h⟩ := Option.bind_eq_some_iff.1 h
 obtain ⟨c1, rfl⟩ := impl_exprText.cat_some h3
 obtain ⟨c2, rfl⟩ := impl_exprText.cat_some h
 exact ⟨x, x', y, y', h1, h2, h4, h5, c1, c2, rfl⟩
theorem impl_exprText.isSum (e : S75) : impl_isSum.f e.f0 e.f1 e.f2 e.f3 e.f4 e.f5 = some (impl_exprText.sum e) := by
 unfold impl_isSum.f impl_exprText.sum
 by_cases c : e.f0 = 6
 ·rw [if_pos c, if_pos c]
 ·rw [if_neg c, if_neg c]
theorem impl_exprText.isOp (e : S75) : impl_isOp.f e.f0 = some (impl_exprText.op e) := by
 unfold impl_isOp.f impl_in.f impl_exprText.op
 by_cases c : e.f0 ≥ 6
 ·rw [if_pos c, Option.bind_some]; congr 1; exact decide_eq_decide.2 ⟨fun h => ⟨c, h⟩, fun h => h.2⟩
 ·rw [if_neg c, Option.bind_some]; congr 1; exact (decide_eq_false (fun h => c h.1)).symm
theorem impl_exprText.six {W : World} {gb T : Nat} {a b c d e f u v z y x t : Value} (h : W.heap[gb]? = some (.cells #[a, b, c, d, e, f] T (0, 0))) : ((((((W.setCell ⟨gb, 0, none⟩ u).setCell ⟨gb, 1, none⟩ v).setCell ⟨gb, 2, none⟩ z).setCell ⟨gb, 3, none⟩ y).setCell ⟨gb, 4, none⟩ x).setCell ⟨gb, 5, none⟩ t).heap[gb]? = some (.cells #[u, v, z, y, x, t] T (0, 0)) := by
 simp [World.setCell, Array.getElem?_modify, h]
set_option maxHeartbeats 8000000 in
set_option maxRecDepth 100000 in
theorem impl_exprText.good : ∀ k, impl_exprText.Good Tryd.prog 52 k := by
 intro k
 induction k with
 | zero => intro A0_0 c0_0 l0_0 A0_1 c0_1 l0_1 A0_2 c0_2 l0_2 A0_3 c0_3 l0_3 A0_4 c0_4 l0_4 a1 r w _ _ _ _ _ _ _ _ _ _ HT h; cases h
 | succ k ih =>
 intro A0_0 c0_0 l0_0 A0_1 c0_1 l0_1 A0_2 c0_2 l0_2 A0_3 c0_3 l0_3 A0_4 c0_4 l0_4 a1 r w hr0_0 hc0_0 hr0_1 hc0_1 hr0_2 hc0_2 hr0_3 hc0_3 hr0_4 hc0_4 HT h
 have HR0 := Aside0.mk hr0_0
 have HC0 := Aside0.mk hc0_0
 have HR1 := Aside0.mk hr0_1
 have HC1 := Aside0.mk hc0_1
 have HR2 := Aside0.mk hr0_2
 have HC2 := Aside0.mk hc0_2
 have HR3 := Aside0.mk hr0_3
 have HC3 := Aside0.mk hc0_3
 have HR4 := Aside0.mk hr0_4
 have HC4 := Aside0.mk hc0_4
 have HTA := Aside0.mk HT
 clear HT hr0_0 hc0_0 hr0_1 hc0_1 hr0_2 hc0_2 hr0_3 hc0_3 hr0_4 hc0_4
 have HI := Aside0.mk ih
 clear ih
 unfold impl_exprText.f at h
 by_cases c0 : impl_exprText.ok l0_4 a1
 case neg => rw [if_neg c0] at h; cases h
 rw [if_pos c0] at h
 have HE := Aside0.mk h
 clear h
 obtain ⟨p0, p1⟩ := c0
 obtain ⟨ad, ead, x0, x1, x2, x3, x4, x5⟩ := at_T75 HR4.out a1 p0 p1
 subst ead
 go_enter Tryd.func52, Tryd.ntmps52
 go_upto_region 2 with (first
  | ((with_reducible refine gate_dst (N := 2) rfl ?_); refine box_event ?hg (N := 2) ?hd (cs := #[.slice A0_0 l0_0.length c0_0, .slice A0_1 l0_1.length c0_1, .slice A0_2 l0_2.length c0_2, .slice A0_3 l0_3.length c0_3, .slice (some ad) l0_4.length c0_4]) (t := 37) ?hr ?_; (case hd => rfl); (case hg => rfl); (case hr => first | (go_simp; done) | (go_simp; rfl)); intro b2 hg w1 hbox hb; have HB := Aside0.mk hb; have BX2 := Aside0.mk hbox; have y0 := (blk_cell hbox 0).trans rfl; have y1 := (blk_cell hbox 1).trans rfl; have y2 := (blk_cell hbox 2).trans rfl; have y3 := (blk_cell hbox 3).trans rfl; have y4 := (blk_cell hbox 4).trans rfl; replace x0 := (hb.cell (World.block_lt_of_cell? w _ x0)).trans x0; replace x1 := (hb.cell (World.block_lt_of_cell? w _ x1)).trans x1; replace x2 := (hb.cell (World.block_lt_of_cell? w _ x2)).trans x2; replace x3 := (hb.cell (World.block_lt_of_cell? w _ x3)).trans x3; replace x4 := (hb.cell (World.block_lt_of_cell? w _ x4)).trans x4; replace x5 := (hb.cell (World.block_lt_of_cell? w _ x5)).trans x5; clear hb hbox hg)
  | ((with_reducible refine gate_dst (N := 5) rfl ?_); refine box_event ?hg (N := 5) ?hd (cs := #[.int .i64 0, .int .i64 0, .string (⟨#[]⟩ : ByteArray), .string (⟨#[]⟩ : ByteArray), .int .i64 0, .int .i64 0]) (t := 75) ?hr ?_; (case hd => rfl); (case hg => rfl); (case hr => first | (go_simp; done) | (go_simp; rfl)); intro b5 hg wb hbox hb; have HN := Aside0.mk (show b2 ≠ b5 by rw [hg]; exact Nat.ne_of_lt (blk_lt BX2.out)); have HGE := Aside0.mk (show w.heap.size ≤ b5 by rw [hg]; exact below_size HB.out); replace HB := Aside0.mk (below_step HB.out hb); have BX2b := Aside0.mk (blk_below BX2.out hb); have BX5 := Aside0.mk hbox; have z0 := (blk_cell hbox 0).trans rfl; have zf0 := blk_frozen hbox 0; have z1 := (blk_cell hbox 1).trans rfl; have zf1 := blk_frozen hbox 1; have z2 := (blk_cell hbox 2).trans rfl; have zf2 := blk_frozen hbox 2; have z3 := (blk_cell hbox 3).trans rfl; have zf3 := blk_frozen hbox 3; have z4 := (blk_cell hbox 4).trans rfl; have zf4 := blk_frozen hbox 4; have z5 := (blk_cell hbox 5).trans rfl; have zf5 := blk_frozen hbox 5; clear hb hbox hg y0 y1 y2 y3 y4))
 have B2 := Aside0.mk (blk_far (p := ⟨b5, 5, none⟩) (blk_far (p := ⟨b5, 4, none⟩) (blk_far (p := ⟨b5, 3, none⟩) (blk_far (p := ⟨b5, 2, none⟩) (blk_far (p := ⟨b5, 1, none⟩) (blk_far (p := ⟨b5, 0, none⟩) BX2b.out HN.out (.int .i64 (rd_T75 l0_4 a1).f0)) HN.out (.int .i64 (rd_T75 l0_4 a1).f1)) HN.out (.string (rd_T75 l0_4 a1).f2)) HN.out (.string (rd_T75 l0_4 a1).f3)) HN.out (.int .i64 (rd_T75 l0_4 a1).f4)) HN.out (.int .i64 (rd_T75 l0_4 a1).f5))
 have B5 := Aside0.mk (impl_exprText.six (u := (.int .i64 (rd_T75 l0_4 a1).f0)) (v := (.int .i64 (rd_T75 l0_4 a1).f1)) (z := (.string (rd_T75 l0_4 a1).f2)) (y := (.string (rd_T75 l0_4 a1).f3)) (x := (.int .i64 (rd_T75 l0_4 a1).f4)) (t := (.int .i64 (rd_T75 l0_4 a1).f5)) BX5.out)
 have HBX := Aside0.mk (below_set (j := 5) (v := (.int .i64 (rd_T75 l0_4 a1).f5)) (below_set (j := 4) (v := (.int .i64 (rd_T75 l0_4 a1).f4)) (below_set (j := 3) (v := (.string (rd_T75 l0_4 a1).f3)) (below_set (j := 2) (v := (.string (rd_T75 l0_4 a1).f2)) (below_set (j := 1) (v := (.int .i64 (rd_T75 l0_4 a1).f1)) (below_set (j := 0) (v := (.int .i64 (rd_T75 l0_4 a1).f0)) HB.out HGE.out) HGE.out) HGE.out) HGE.out) HGE.out) HGE.out)
 clear BX2 BX2b BX5 HB z0 zf0 z1 zf1 z2 zf2 z3 zf3 z4 zf4 z5 zf5 x0 x1 x2 x3 x4 x5
 generalize ((((((wb.setCell ⟨b5, 0, none⟩ (.int .i64 (rd_T75 l0_4 a1).f0)).setCell ⟨b5, 1, none⟩ (.int .i64 (rd_T75 l0_4 a1).f1)).setCell ⟨b5, 2, none⟩ (.string (rd_T75 l0_4 a1).f2)).setCell ⟨b5, 3, none⟩ (.string (rd_T75 l0_4 a1).f3)).setCell ⟨b5, 4, none⟩ (.int .i64 (rd_T75 l0_4 a1).f4)).setCell ⟨b5, 5, none⟩ (.int .i64 (rd_T75 l0_4 a1).f5)) = wx at B2 B5 HBX ⊢
 generalize rd_T75 l0_4 a1 = x at HE B5 ⊢
 obtain ⟨f0, f1, f2, f3, f4, f5⟩ := x
 have HE := HE.out
 unfold impl_exprText.g at HE
 dsimp only at HE B5
 have v0 := (blk_cell B5.out 0).trans rfl
 have v1 := (blk_cell B5.out 1).trans rfl
 have v2 := (blk_cell B5.out 2).trans rfl
 have v3 := (blk_cell B5.out 3).trans rfl
 have v4 := (blk_cell B5.out 4).trans rfl
 have v5 := (blk_cell B5.out 5).trans rfl
 have u0 := (blk_cell B2.out 0).trans rfl
 have u1 := (blk_cell B2.out 1).trans rfl
 have u2 := (blk_cell B2.out 2).trans rfl
 have u3 := (blk_cell B2.out 3).trans rfl
 have u4 := (blk_cell B2.out 4).trans rfl
 clear B2 B5
 by_cases k1 : f0 = 1
 ·subst k1
  rw [if_pos rfl] at HE
  have HE1 := Aside0.mk HE
  clear HE
  go_wp2_with (first | (go_at_call 55; refine (impl_Dec.calls f1 r _ (TabsP.below HTA.out HBX.out) HE1.out).mono ?_; rintro e w' ⟨rfl, hb⟩; have HB9 := Aside0.mk (below_step HBX.out hb); clear hb))
  go_ret
  exact ⟨rfl, HB9.out⟩
 rw [if_neg k1] at HE
 by_cases k2 : f0 = 2
 ·subst k2
  rw [if_pos rfl] at HE
  obtain rfl := Option.some.inj HE
  clear HE k1
  go_wp2
  go_ret
  exact ⟨rfl, HBX.out⟩
 rw [if_neg k2] at HE
 by_cases k3 : f0 = 3
 ·subst k3
  rw [if_pos rfl] at HE
  obtain ⟨d1, rfl⟩ := impl_exprText.cat_some HE
  replace d1 : f2.size + 2 ≤ 9223372036854775807 := d1
  clear HE k1 k2
  go_wp2
  go_ret
  exact ⟨rfl, HBX.out⟩
 rw [if_neg k3] at HE
 by_cases k4 : f0 = 4
 ·subst k4
  rw [if_pos rfl] at HE
  obtain ⟨z, h1, HE⟩ := Option.bind_eq_some_iff.1 HE
  obtain ⟨d1, rfl⟩ := impl_exprText.cat_some h1
  obtain ⟨d2, rfl⟩ := impl_exprText.cat_some HE
  rw [ByteArray.size_append] at d2
  replace d1 : f2.size + 1 ≤ 9223372036854775807 := d1
  replace d2 : f2.size + 1 + f3.size ≤ 9223372036854775807 := d2
  clear HE h1 k1 k2 k3
  go_wp2
  go_ret
  exact ⟨rfl, HBX.out⟩
 rw [if_neg k4] at HE
 by_cases k5 : f0 = 5
 ·subst k5
  rw [if_pos rfl] at HE
  obtain ⟨z, h1, HE⟩ := Option.bind_eq_some_iff.1 HE
  obtain ⟨d1, rfl⟩ := impl_exprText.cat_some h1
  obtain ⟨z, h2, HE⟩ := Option.bind_eq_some_iff.1 HE
  obtain ⟨d2, rfl⟩ := impl_exprText.cat_some h2
  obtain ⟨d3, rfl⟩ := impl_exprText.cat_some HE
  rw [ByteArray.size_append] at d2
  rw [ByteArray.size_append, ByteArray.size_append] at d3
  replace d1 : f2.size + 1 ≤ 9223372036854775807 := d1
  replace d2 : f2.size + 1 + f3.size ≤ 9223372036854775807 := d2
  replace d3 : f2.size + 1 + f3.size + 2 ≤ 9223372036854775807 := d3
  clear HE h1 h2 k1 k2 k3 k4
  go_wp2
  go_ret
  exact ⟨rfl, HBX.out⟩
 rw [if_neg k5] at HE
 by_cases k6 : f0 = 6
 ·subst k6
  rw [if_pos rfl] at HE
  by_cases c5 : impl_exprText.ok l0_4 f5
  case neg => rw [if_neg c5] at HE; cases HE
  rw [if_pos c5] at HE
  obtain ⟨x, x', y, y', e1, e2, e3, e4, d1, d2, rfl⟩ := impl_exprText.two_some HE
  obtain rfl : x = x' := Option.some.inj e2
  rw [ByteArray.size_append] at d2
  replace d1 : (9223372036854775807 < x.size + 3) = False := eq_false (Nat.not_lt.2 d1)
  replace d2 : (9223372036854775807 < x.size + 3 + y'.size) = False := eq_false (Nat.not_lt.2 d2)
  have E1 := Aside0.mk e1
  have E3 := Aside0.mk e3
  have E4 := Aside0.mk e4
  obtain ⟨r0, r1⟩ := c5
  obtain ⟨adq, eadq, q0, q1, q2, q3, q4, q5⟩ := at_T75 HR4.out f5 (And.intro r0 r1).1 (And.intro r0 r1).2
  obtain rfl := Option.some.inj eadq
  clear eadq
  clear HE e1 e2 e3 e4 k1 k2 k3 k4 k5
  generalize rd_T75 l0_4 f5 = z at *
  replace q0 := (HBX.out.cell (World.block_lt_of_cell? w _ q0)).trans q0
  replace q1 := (HBX.out.cell (World.block_lt_of_cell? w _ q1)).trans q1
  replace q2 := (HBX.out.cell (World.block_lt_of_cell? w _ q2)).trans q2
  replace q3 := (HBX.out.cell (World.block_lt_of_cell? w _ q3)).trans q3
  replace q4 := (HBX.out.cell (World.block_lt_of_cell? w _ q4)).trans q4
  replace q5 := (HBX.out.cell (World.block_lt_of_cell? w _ q5)).trans q5
  go_upto_region 14 with fail
  refine wp_region_quiet_below (by kernel_rfl) (by kernel_rfl) ?_
  replace u0 := cell_regrown u0
  replace u1 := cell_regrown u1
  replace u2 := cell_regrown u2
  replace u3 := cell_regrown u3
  replace u4 := cell_regrown u4
  replace v4 := cell_regrown v4
  replace v5 := cell_regrown v5
  replace q0 := cell_regrown q0
  replace q1 := cell_regrown q1
  replace q2 := cell_regrown q2
  replace q3 := cell_regrown q3
  replace q4 := cell_regrown q4
  replace q5 := cell_regrown q5
  repeat (first | go_big_quiet_skip | quiet_step (first | (go_at_call 52; exact Calls.regrown_of (HI.out A0_0 c0_0 l0_0 A0_1 c0_1 l0_1 A0_2 c0_2 l0_2 A0_3 c0_3 l0_3 (some ad) c0_4 l0_4 f4 x _ (Kd.C_below HR0.out (below_step HBX.out (below_regrown _ _ _))) HC0.out (Kd.C_below HR1.out (below_step HBX.out (below_regrown _ _ _))) HC1.out (Kd.C_below HR2.out (below_step HBX.out (below_regrown _ _ _))) HC2.out (Kd.C_below HR3.out (below_step HBX.out (below_regrown _ _ _))) HC3.out (Kd.C_below HR4.out (below_step HBX.out (below_regrown _ _ _))) HC4.out (TabsP.below HTA.out (below_step HBX.out (below_regrown _ _ _))) E1.out)) | (go_at_call 57; exact Calls.regrown_of (impl_isSum.calls z.f0 z.f1 z.f2 z.f3 z.f4 z.f5 _ _ (impl_exprText.isSum z))) | (go_at_call_of 56 (Value.int .i64 f5); exact Calls.regrown_of (impl_exprText.brk HI.out A0_0 c0_0 l0_0 A0_1 c0_1 l0_1 A0_2 c0_2 l0_2 A0_3 c0_3 l0_3 (some ad) c0_4 l0_4 f5 (impl_exprText.sum z) y y' _ (Kd.C_below HR0.out (below_step HBX.out (below_regrown _ _ _))) HC0.out (Kd.C_below HR1.out (below_step HBX.out (below_regrown _ _ _))) HC1.out (Kd.C_below HR2.out (below_step HBX.out (below_regrown _ _ _))) HC2.out (Kd.C_below HR3.out (below_step HBX.out (below_regrown _ _ _))) HC3.out (Kd.C_below HR4.out (below_step HBX.out (below_regrown _ _ _))) HC4.out (TabsP.below HTA.out (below_step HBX.out (below_regrown _ _ _))) E3.out E4.out))))
  refine wpQuiet_nil ?_
  intro _ hw'
  obtain ⟨⟨nq, osq⟩, hw''⟩ := hw'
  subst hw''
  have hb := below_regrown wx nq osq
  generalize Sort.grow (redrawn wx nq) osq = wy at hb ⊢
  have HBY := Aside0.mk (below_step HBX.out hb)
  clear hb u0 u1 u2 u3 u4 v4 v5 q0 q1 q2 q3 q4 q5
  go_wp2
  go_ret
  exact ⟨rfl, HBY.out⟩
 rw [if_neg k6] at HE
 by_cases k7 : f0 = 7
 ·subst k7
  rw [if_pos rfl] at HE
  by_cases c5 : impl_exprText.ok l0_4 f5
  case neg => rw [if_neg c5] at HE; cases HE
  rw [if_pos c5] at HE
  obtain ⟨x, x', y, y', e1, e2, e3, e4, d1, d2, rfl⟩ := impl_exprText.two_some HE
  obtain rfl : x = x' := Option.some.inj e2
  rw [ByteArray.size_append] at d2
  replace d1 : (9223372036854775807 < x.size + 3) = False := eq_false (Nat.not_lt.2 d1)
  replace d2 : (9223372036854775807 < x.size + 3 + y'.size) = False := eq_false (Nat.not_lt.2 d2)
  have E1 := Aside0.mk e1
  have E3 := Aside0.mk e3
  have E4 := Aside0.mk e4
  obtain ⟨r0, r1⟩ := c5
  obtain ⟨adq, eadq, q0, q1, q2, q3, q4, q5⟩ := at_T75 HR4.out f5 (And.intro r0 r1).1 (And.intro r0 r1).2
  obtain rfl := Option.some.inj eadq
  clear eadq
  clear HE e1 e2 e3 e4 k1 k2 k3 k4 k5 k6
  generalize rd_T75 l0_4 f5 = z at *
  replace q0 := (HBX.out.cell (World.block_lt_of_cell? w _ q0)).trans q0
  replace q1 := (HBX.out.cell (World.block_lt_of_cell? w _ q1)).trans q1
  replace q2 := (HBX.out.cell (World.block_lt_of_cell? w _ q2)).trans q2
  replace q3 := (HBX.out.cell (World.block_lt_of_cell? w _ q3)).trans q3
  replace q4 := (HBX.out.cell (World.block_lt_of_cell? w _ q4)).trans q4
  replace q5 := (HBX.out.cell (World.block_lt_of_cell? w _ q5)).trans q5
  go_upto_region 16 with fail
  refine wp_region_quiet_below (by kernel_rfl) (by kernel_rfl) ?_
  replace u0 := cell_regrown u0
  replace u1 := cell_regrown u1
  replace u2 := cell_regrown u2
  replace u3 := cell_regrown u3
  replace u4 := cell_regrown u4
  replace v4 := cell_regrown v4
  replace v5 := cell_regrown v5
  replace q0 := cell_regrown q0
  replace q1 := cell_regrown q1
  replace q2 := cell_regrown q2
  replace q3 := cell_regrown q3
  replace q4 := cell_regrown q4
  replace q5 := cell_regrown q5
  repeat (first | go_big_quiet_skip | quiet_step (first | (go_at_call 52; exact Calls.regrown_of (HI.out A0_0 c0_0 l0_0 A0_1 c0_1 l0_1 A0_2 c0_2 l0_2 A0_3 c0_3 l0_3 (some ad) c0_4 l0_4 f4 x _ (Kd.C_below HR0.out (below_step HBX.out (below_regrown _ _ _))) HC0.out (Kd.C_below HR1.out (below_step HBX.out (below_regrown _ _ _))) HC1.out (Kd.C_below HR2.out (below_step HBX.out (below_regrown _ _ _))) HC2.out (Kd.C_below HR3.out (below_step HBX.out (below_regrown _ _ _))) HC3.out (Kd.C_below HR4.out (below_step HBX.out (below_regrown _ _ _))) HC4.out (TabsP.below HTA.out (below_step HBX.out (below_regrown _ _ _))) E1.out)) | (go_at_call 57; exact Calls.regrown_of (impl_isSum.calls z.f0 z.f1 z.f2 z.f3 z.f4 z.f5 _ _ (impl_exprText.isSum z))) | (go_at_call_of 56 (Value.int .i64 f5); exact Calls.regrown_of (impl_exprText.brk HI.out A0_0 c0_0 l0_0 A0_1 c0_1 l0_1 A0_2 c0_2 l0_2 A0_3 c0_3 l0_3 (some ad) c0_4 l0_4 f5 (impl_exprText.sum z) y y' _ (Kd.C_below HR0.out (below_step HBX.out (below_regrown _ _ _))) HC0.out (Kd.C_below HR1.out (below_step HBX.out (below_regrown _ _ _))) HC1.out (Kd.C_below HR2.out (below_step HBX.out (below_regrown _ _ _))) HC2.out (Kd.C_below HR3.out (below_step HBX.out (below_regrown _ _ _))) HC3.out (Kd.C_below HR4.out (below_step HBX.out (below_regrown _ _ _))) HC4.out (TabsP.below HTA.out (below_step HBX.out (below_regrown _ _ _))) E3.out E4.out))))
  refine wpQuiet_nil ?_
  intro _ hw'
  obtain ⟨⟨nq, osq⟩, hw''⟩ := hw'
  subst hw''
  have hb := below_regrown wx nq osq
  generalize Sort.grow (redrawn wx nq) osq = wy at hb ⊢
  have HBY := Aside0.mk (below_step HBX.out hb)
  clear hb u0 u1 u2 u3 u4 v4 v5 q0 q1 q2 q3 q4 q5
  go_wp2
  go_ret
  exact ⟨rfl, HBY.out⟩
 rw [if_neg k7] at HE
 by_cases k8 : f0 = 8
 ·subst k8
  rw [if_pos rfl] at HE
  by_cases c5 : impl_exprText.ok l0_4 f4 ∧ impl_exprText.ok l0_4 f5
  case neg => rw [if_neg c5] at HE; cases HE
  rw [if_pos c5] at HE
  obtain ⟨x, x', y, y', e1, e2, e3, e4, d1, d2, rfl⟩ := impl_exprText.two_some HE
  rw [ByteArray.size_append] at d2
  replace d1 : (9223372036854775807 < x'.size + 3) = False := eq_false (Nat.not_lt.2 d1)
  replace d2 : (9223372036854775807 < x'.size + 3 + y'.size) = False := eq_false (Nat.not_lt.2 d2)
  have E1 := Aside0.mk e1
  have E2 := Aside0.mk e2
  have E3 := Aside0.mk e3
  have E4 := Aside0.mk e4
  obtain ⟨⟨g0, g1⟩, r0, r1⟩ := c5
  obtain ⟨adt, eadt, t0, t1, t2, t3, t4, t5⟩ := at_T75 HR4.out f4 (And.intro g0 g1).1 (And.intro g0 g1).2
  obtain rfl := Option.some.inj eadt
  clear eadt
  obtain ⟨adq, eadq, q0, q1, q2, q3, q4, q5⟩ := at_T75 HR4.out f5 (And.intro r0 r1).1 (And.intro r0 r1).2
  obtain rfl := Option.some.inj eadq
  clear eadq
  clear HE e1 e2 e3 e4 k1 k2 k3 k4 k5 k6 k7
  generalize rd_T75 l0_4 f4 = s at *
  generalize rd_T75 l0_4 f5 = z at *
  replace t0 := (HBX.out.cell (World.block_lt_of_cell? w _ t0)).trans t0
  replace t1 := (HBX.out.cell (World.block_lt_of_cell? w _ t1)).trans t1
  replace t2 := (HBX.out.cell (World.block_lt_of_cell? w _ t2)).trans t2
  replace t3 := (HBX.out.cell (World.block_lt_of_cell? w _ t3)).trans t3
  replace t4 := (HBX.out.cell (World.block_lt_of_cell? w _ t4)).trans t4
  replace t5 := (HBX.out.cell (World.block_lt_of_cell? w _ t5)).trans t5
  replace q0 := (HBX.out.cell (World.block_lt_of_cell? w _ q0)).trans q0
  replace q1 := (HBX.out.cell (World.block_lt_of_cell? w _ q1)).trans q1
  replace q2 := (HBX.out.cell (World.block_lt_of_cell? w _ q2)).trans q2
  replace q3 := (HBX.out.cell (World.block_lt_of_cell? w _ q3)).trans q3
  replace q4 := (HBX.out.cell (World.block_lt_of_cell? w _ q4)).trans q4
  replace q5 := (HBX.out.cell (World.block_lt_of_cell? w _ q5)).trans q5
  go_upto_region 18 with fail
  refine wp_region_quiet_below (by kernel_rfl) (by kernel_rfl) ?_
  replace u0 := cell_regrown u0
  replace u1 := cell_regrown u1
  replace u2 := cell_regrown u2
  replace u3 := cell_regrown u3
  replace u4 := cell_regrown u4
  replace v4 := cell_regrown v4
  replace v5 := cell_regrown v5
  replace q0 := cell_regrown q0
  replace q1 := cell_regrown q1
  replace q2 := cell_regrown q2
  replace q3 := cell_regrown q3
  replace q4 := cell_regrown q4
  replace q5 := cell_regrown q5
  replace t0 := cell_regrown t0
  replace t1 := cell_regrown t1
  replace t2 := cell_regrown t2
  replace t3 := cell_regrown t3
  replace t4 := cell_regrown t4
  replace t5 := cell_regrown t5
  repeat (first | go_big_quiet_skip | quiet_step (first | (go_at_call 57; exact Calls.regrown_of (impl_isSum.calls s.f0 s.f1 s.f2 s.f3 s.f4 s.f5 _ _ (impl_exprText.isSum s))) | (go_at_call 43; exact Calls.regrown_of ((impl_isOp.calls z.f0 _ _ (impl_exprText.isOp z)).mono fun _ _ h => ⟨h.1, by obtain ⟨n, hn⟩ := h.2; rw [hn]; exact pw_below_drewN (Below.refl _ _) _⟩)) | (go_at_call_of 56 (Value.int .i64 f4); exact Calls.regrown_of (impl_exprText.brk HI.out A0_0 c0_0 l0_0 A0_1 c0_1 l0_1 A0_2 c0_2 l0_2 A0_3 c0_3 l0_3 (some ad) c0_4 l0_4 f4 (impl_exprText.sum s) x x' _ (Kd.C_below HR0.out (below_step HBX.out (below_regrown _ _ _))) HC0.out (Kd.C_below HR1.out (below_step HBX.out (below_regrown _ _ _))) HC1.out (Kd.C_below HR2.out (below_step HBX.out (below_regrown _ _ _))) HC2.out (Kd.C_below HR3.out (below_step HBX.out (below_regrown _ _ _))) HC3.out (Kd.C_below HR4.out (below_step HBX.out (below_regrown _ _ _))) HC4.out (TabsP.below HTA.out (below_step HBX.out (below_regrown _ _ _))) E1.out E2.out)) | (go_at_call_of 56 (Value.int .i64 f5); exact Calls.regrown_of (impl_exprText.brk HI.out A0_0 c0_0 l0_0 A0_1 c0_1 l0_1 A0_2 c0_2 l0_2 A0_3 c0_3 l0_3 (some ad) c0_4 l0_4 f5 (impl_exprText.op z) y y' _ (Kd.C_below HR0.out (below_step HBX.out (below_regrown _ _ _))) HC0.out (Kd.C_below HR1.out (below_step HBX.out (below_regrown _ _ _))) HC1.out (Kd.C_below HR2.out (below_step HBX.out (below_regrown _ _ _))) HC2.out (Kd.C_below HR3.out (below_step HBX.out (below_regrown _ _ _))) HC3.out (Kd.C_below HR4.out (below_step HBX.out (below_regrown _ _ _))) HC4.out (TabsP.below HTA.out (below_step HBX.out (below_regrown _ _ _))) E3.out E4.out))))
  refine wpQuiet_nil ?_
  intro _ hw'
  obtain ⟨⟨nq, osq⟩, hw''⟩ := hw'
  subst hw''
  have hb := below_regrown wx nq osq
  generalize Sort.grow (redrawn wx nq) osq = wy at hb ⊢
  have HBY := Aside0.mk (below_step HBX.out hb)
  clear hb u0 u1 u2 u3 u4 v4 v5 q0 q1 q2 q3 q4 q5 t0 t1 t2 t3 t4 t5
  go_wp2
  go_ret
  exact ⟨rfl, HBY.out⟩
 rw [if_neg k8] at HE
 obtain rfl := Option.some.inj HE
 clear HE
 have j1 : (f0 == 1) = false := beq_eq_false_iff_ne.2 k1
 have j2 : (f0 == 2) = false := beq_eq_false_iff_ne.2 k2
 have j3 : (f0 == 3) = false := beq_eq_false_iff_ne.2 k3
 have j4 : (f0 == 4) = false := beq_eq_false_iff_ne.2 k4
 have j5 : (f0 == 5) = false := beq_eq_false_iff_ne.2 k5
 have j6 : (f0 == 6) = false := beq_eq_false_iff_ne.2 k6
 have j7 : (f0 == 7) = false := beq_eq_false_iff_ne.2 k7
 have j8 : (f0 == 8) = false := beq_eq_false_iff_ne.2 k8
 clear k1 k2 k3 k4 k5 k6 k7 k8
 go_wp2
 go_ret
 exact ⟨rfl, HBX.out⟩
theorem impl_exprText.calls (k : Nat) (A0_0 : Option Addr) (c0_0 : Nat) (l0_0 : List (ByteArray)) (A0_1 : Option Addr) (c0_1 : Nat) (l0_1 : List (S78)) (A0_2 : Option Addr) (c0_2 : Nat) (l0_2 : List (S80)) (A0_3 : Option Addr) (c0_3 : Nat) (l0_3 : List (S77)) (A0_4 : Option Addr) (c0_4 : Nat) (l0_4 : List (S75)) (a1 : Int) (r : ByteArray) (w : World) (hr0_0 : Kd.C Kd.string w A0_0 l0_0.length l0_0) (hc0_0 : l0_0.length ≤ c0_0) (hr0_1 : Kd.C k78 w A0_1 l0_1.length l0_1) (hc0_1 : l0_1.length ≤ c0_1) (hr0_2 : Kd.C k80 w A0_2 l0_2.length l0_2) (hc0_2 : l0_2.length ≤ c0_2) (hr0_3 : Kd.C k77 w A0_3 l0_3.length l0_3) (hc0_3 : l0_3.length ≤ c0_3) (hr0_4 : Kd.C k75 w A0_4 l0_4.length l0_4) (hc0_4 : l0_4.length ≤ c0_4) (HT : TabsP w) (h : impl_exprText.f k l0_0 l0_1 l0_2 l0_3 l0_4 a1 = some r) :
  Calls Tryd.prog 52 #[.agg #[.slice A0_0 l0_0.length c0_0, .slice A0_1 l0_1.length c0_1, .slice A0_2 l0_2.length c0_2, .slice A0_3 l0_3.length c0_3, .slice A0_4 l0_4.length c0_4], .int .i64 a1] w fun e w' => e = .returned (.string r) ∧ Below w.heap.size w w' :=
 impl_exprText.good k A0_0 c0_0 l0_0 A0_1 c0_1 l0_1 A0_2 c0_2 l0_2 A0_3 c0_3 l0_3 A0_4 c0_4 l0_4 a1 r w hr0_0 hc0_0 hr0_1 hc0_1 hr0_2 hc0_2 hr0_3 hc0_3 hr0_4 hc0_4 HT h

/-! ### impl_behind: function 53 -/
def impl_behind.f (a0 : ByteArray) (a1 : ByteArray) : Option (ByteArray) := if a0.size + 1 ≤ 9223372036854775807 then (if (a0 ++ (⟨#[32]⟩ : ByteArray)).size + a1.size ≤ 9223372036854775807 then (some ((a0 ++ (⟨#[32]⟩ : ByteArray)) ++ a1)) else (none)) else (none)
set_option maxHeartbeats 8000000 in
set_option maxRecDepth 100000 in
theorem impl_behind.calls (a0 : ByteArray) (a1 : ByteArray) (r : ByteArray) (w : World) (h : impl_behind.f a0 a1 = some r) :
  Calls Tryd.prog 53 #[.string a0, .string a1] w fun e w' => e = .returned (.string r) ∧ Drawn0 w w' := by
 have H : (if a0.size + 1 ≤ 9223372036854775807 then (if (a0 ++ (⟨#[32]⟩ : ByteArray)).size + a1.size ≤ 9223372036854775807 then (some ((a0 ++ (⟨#[32]⟩ : ByteArray)) ++ a1)) else (none)) else (none)) = some r := h
 clear h
 by_cases c3 : a0.size + 1 ≤ 9223372036854775807
 ·rw [if_pos c3] at H
  have c3b0 := eq_true c3
  have c3b1 : decide (a0.size + 1 ≤ 9223372036854775807) = true := decide_eq_true c3
  try have c3b2 : (9223372036854775807 < a0.size + 1) = False := eq_false (Nat.not_lt.2 c3)
  by_cases c4 : (a0 ++ (⟨#[32]⟩ : ByteArray)).size + a1.size ≤ 9223372036854775807
  ·rw [if_pos c4] at H
   have c4b0 := eq_true c4
   have c4b1 : decide ((a0 ++ (⟨#[32]⟩ : ByteArray)).size + a1.size ≤ 9223372036854775807) = true := decide_eq_true c4
   try have c4b2 : (9223372036854775807 < (a0 ++ (⟨#[32]⟩ : ByteArray)).size + a1.size) = False := eq_false (Nat.not_lt.2 c4)
   try have c4b6 : (9223372036854775807 < a0.size + 1 + a1.size) = False := by have h_ := c4b2; simp only [ByteArray.size_append] at h_; exact h_
   obtain rfl := Option.some.inj H
   go_enter Tryd.func53, Tryd.ntmps53
   go_wp2
   go_ret
   exact ⟨by first | rfl | (simp; done) | (simp [*]; done), by repeat (first | exact Drawn0.refl _ | apply Drawn0.step)⟩
  ·rw [if_neg c4] at H
   exact absurd H (by simp)
 ·rw [if_neg c3] at H
  exact absurd H (by simp)

/-! ### impl_stmtText: function 42 -/
def impl_stmtText.j0 : Nat → ByteArray → Bool → Int → ByteArray → Int → Option (ByteArray)
 | 0, _, _, _, _, _ => none
 | k + 1, x5, x10, x226000, x226001, x226002 => if x10 = true then ((impl_behind.f (⟨#[101, 120, 112, 111, 114, 116, 32, 100, 101, 102, 97, 117, 108, 116]⟩ : ByteArray) x5).bind fun t227 => (if t227.size + 2 ≤ 9223372036854775807 then (some (t227 ++ (⟨#[59, 10]⟩ : ByteArray))) else (none))) else (if x226000 = 1 then (if 4 + x226001.size ≤ 9223372036854775807 then (if ((⟨#[108, 101, 116, 32]⟩ : ByteArray) ++ x226001).size + 3 ≤ 9223372036854775807 then (if (((⟨#[108, 101, 116, 32]⟩ : ByteArray) ++ x226001) ++ (⟨#[32, 61, 32]⟩ : ByteArray)).size + x5.size ≤ 9223372036854775807 then (if ((((⟨#[108, 101, 116, 32]⟩ : ByteArray) ++ x226001) ++ (⟨#[32, 61, 32]⟩ : ByteArray)) ++ x5).size + 2 ≤ 9223372036854775807 then (some (((((⟨#[108, 101, 116, 32]⟩ : ByteArray) ++ x226001) ++ (⟨#[32, 61, 32]⟩ : ByteArray)) ++ x5) ++ (⟨#[59, 10]⟩ : ByteArray))) else (none)) else (none)) else (none)) else (none)) else (if x226000 = 2 then (if 9 + x226001.size ≤ 9223372036854775807 then (if ((⟨#[102, 117, 110, 99, 116, 105, 111, 110, 32]⟩ : ByteArray) ++ x226001).size + 5 ≤ 9223372036854775807 then ((impl_behind.f (⟨#[114, 101, 116, 117, 114, 110]⟩ : ByteArray) x5).bind fun t228 => (if (((⟨#[102, 117, 110, 99, 116, 105, 111, 110, 32]⟩ : ByteArray) ++ x226001) ++ (⟨#[40, 41, 32, 123, 32]⟩ : ByteArray)).size + t228.size ≤ 9223372036854775807 then (if ((((⟨#[102, 117, 110, 99, 116, 105, 111, 110, 32]⟩ : ByteArray) ++ x226001) ++ (⟨#[40, 41, 32, 123, 32]⟩ : ByteArray)) ++ t228).size + 4 ≤ 9223372036854775807 then (some (((((⟨#[102, 117, 110, 99, 116, 105, 111, 110, 32]⟩ : ByteArray) ++ x226001) ++ (⟨#[40, 41, 32, 123, 32]⟩ : ByteArray)) ++ t228) ++ (⟨#[59, 32, 125, 10]⟩ : ByteArray))) else (none)) else (none))) else (none)) else (none)) else (if x226000 = 3 then (if x226001.size + 3 ≤ 9223372036854775807 then (if (x226001 ++ (⟨#[32, 61, 32]⟩ : ByteArray)).size + x5.size ≤ 9223372036854775807 then (if ((x226001 ++ (⟨#[32, 61, 32]⟩ : ByteArray)) ++ x5).size + 2 ≤ 9223372036854775807 then (some (((x226001 ++ (⟨#[32, 61, 32]⟩ : ByteArray)) ++ x5) ++ (⟨#[59, 10]⟩ : ByteArray))) else (none)) else (none)) else (none)) else (if x226000 = 4 then (if 6 + x5.size ≤ 9223372036854775807 then (if ((⟨#[112, 114, 105, 110, 116, 40]⟩ : ByteArray) ++ x5).size + 3 ≤ 9223372036854775807 then (some (((⟨#[112, 114, 105, 110, 116, 40]⟩ : ByteArray) ++ x5) ++ (⟨#[41, 59, 10]⟩ : ByteArray))) else (none)) else (none)) else (if x226000 = 5 then ((impl_behind.f (⟨#[116, 104, 114, 111, 119]⟩ : ByteArray) x5).bind fun t229 => (if t229.size + 2 ≤ 9223372036854775807 then (some (t229 ++ (⟨#[59, 10]⟩ : ByteArray))) else (none))) else ((impl_behind.f (⟨#[102, 97, 105, 108]⟩ : ByteArray) x5).bind fun t230 => (if t230.size + 2 ≤ 9223372036854775807 then (some (t230 ++ (⟨#[59, 10]⟩ : ByteArray))) else (none))))))))
def impl_stmtText.f (k : Nat) (l0_0 : List ByteArray) (l0_1 : List (S78)) (l0_2 : List (S80)) (l0_3 : List (S77)) (l0_4 : List (S75)) (a1_0 : Int) (a1_1 : ByteArray) (a1_2 : Int) : Option (ByteArray) := (impl_exprText.f k l0_0 l0_1 l0_2 l0_3 l0_4 a1_2).bind fun t226 => (if a1_0 = 1 then (impl_stmtText.j0 k t226 (a1_1.toList == ([42, 100, 101, 102, 97, 117, 108, 116] : List UInt8)) a1_0 a1_1 a1_2) else (impl_stmtText.j0 k t226 false a1_0 a1_1 a1_2))
theorem impl_stmtText.mono_l : ∀ k, (∀ y0 y1 y2 y3 y4, LeO (impl_stmtText.j0 k y0 y1 y2 y3 y4) (impl_stmtText.j0 (k + 1) y0 y1 y2 y3 y4))
 | 0 => fun _ _ _ _ _ r h => by simp [impl_stmtText.j0] at h
 | k + 1 => by
  have ih0 := impl_stmtText.mono_l k
  ·intro y0 y1 y2 y3 y4
   unfold impl_stmtText.j0
   repeat' first
   | (with_reducible exact ih0 _ _ _ _ _)
   | (with_reducible exact impl_exprText.mono _ _ _ _ _ _ _)
   | (with_reducible exact LeO.refl _)
   | (with_reducible exact LeO.none _)
   | (with_reducible refine LeO.ite ?_ ?_)
   | (with_reducible refine LeO.bind ?_ (fun _ => ?_))
   | exact ih0 _ _ _ _ _
   | exact impl_exprText.mono _ _ _ _ _ _ _
   | exact LeO.none _
   | refine LeO.ite ?_ ?_
   | refine LeO.bind ?_ (fun _ => ?_)
theorem impl_stmtText.mono : ∀ a0 a1 a2 a3 a4 a5 a6 a7 k, LeO (impl_stmtText.f k a0 a1 a2 a3 a4 a5 a6 a7) (impl_stmtText.f (k + 1) a0 a1 a2 a3 a4 a5 a6 a7) := by
 intro a0 a1 a2 a3 a4 a5 a6 a7 k
 have ih0 := impl_stmtText.mono_l k
 unfold impl_stmtText.f
 repeat' first
   | (with_reducible exact ih0 _ _ _ _ _)
   | (with_reducible exact impl_exprText.mono _ _ _ _ _ _ _)
   | (with_reducible exact LeO.refl _)
   | (with_reducible exact LeO.none _)
   | (with_reducible refine LeO.ite ?_ ?_)
   | (with_reducible refine LeO.bind ?_ (fun _ => ?_))
   | exact ih0 _ _ _ _ _
   | exact impl_exprText.mono _ _ _ _ _ _ _
   | exact LeO.none _
   | refine LeO.ite ?_ ?_
   | refine LeO.bind ?_ (fun _ => ?_)
set_option maxHeartbeats 8000000 in
set_option maxRecDepth 100000 in
theorem impl_stmtText.calls (k : Nat) (A0_0 : Option Addr) (c0_0 : Nat) (l0_0 : List ByteArray) (A0_1 : Option Addr) (c0_1 : Nat) (l0_1 : List (S78)) (A0_2 : Option Addr) (c0_2 : Nat) (l0_2 : List (S80)) (A0_3 : Option Addr) (c0_3 : Nat) (l0_3 : List (S77)) (A0_4 : Option Addr) (c0_4 : Nat) (l0_4 : List (S75)) (a1_0 : Int) (a1_1 : ByteArray) (a1_2 : Int) (r : ByteArray) (w : World) (hr0_0 : Kd.C Kd.string w A0_0 l0_0.length l0_0) (hc0_0 : l0_0.length ≤ c0_0) (hr0_1 : Kd.C k78 w A0_1 l0_1.length l0_1) (hc0_1 : l0_1.length ≤ c0_1) (hr0_2 : Kd.C k80 w A0_2 l0_2.length l0_2) (hc0_2 : l0_2.length ≤ c0_2) (hr0_3 : Kd.C k77 w A0_3 l0_3.length l0_3) (hc0_3 : l0_3.length ≤ c0_3) (hr0_4 : Kd.C k75 w A0_4 l0_4.length l0_4) (hc0_4 : l0_4.length ≤ c0_4) (HT : TabsP w) (h : impl_stmtText.f k l0_0 l0_1 l0_2 l0_3 l0_4 a1_0 a1_1 a1_2 = some r) :
  Calls Tryd.prog 42 #[.agg #[.slice A0_0 l0_0.length c0_0, .slice A0_1 l0_1.length c0_1, .slice A0_2 l0_2.length c0_2, .slice A0_3 l0_3.length c0_3, .slice A0_4 l0_4.length c0_4], .agg #[.int .i64 a1_0, .string a1_1, .int .i64 a1_2]] w fun e w' => e = .returned (.string r) ∧ Below w.heap.size w w' := by
 have HTA := Aside0.mk HT
 clear HT
 have hu37 := Tryd.underlying37
 have hu77 := Tryd.underlying77
 have HR0_0 := Aside0.mk hr0_0
 have HC0_0 := Aside0.mk hc0_0
 clear hr0_0 hc0_0
 have HR0_1 := Aside0.mk hr0_1
 have HC0_1 := Aside0.mk hc0_1
 clear hr0_1 hc0_1
 have HR0_2 := Aside0.mk hr0_2
 have HC0_2 := Aside0.mk hc0_2
 clear hr0_2 hc0_2
 have HR0_3 := Aside0.mk hr0_3
 have HC0_3 := Aside0.mk hc0_3
 clear hr0_3 hc0_3
 have HR0_4 := Aside0.mk hr0_4
 have HC0_4 := Aside0.mk hc0_4
 clear hr0_4 hc0_4
 have HB := Aside0.mk (Below.refl w.heap.size w)
 have H : ((impl_exprText.f k l0_0 l0_1 l0_2 l0_3 l0_4 a1_2).bind fun t226 => (if a1_0 = 1 then (impl_stmtText.j0 k t226 (a1_1.toList == ([42, 100, 101, 102, 97, 117, 108, 116] : List UInt8)) a1_0 a1_1 a1_2) else (impl_stmtText.j0 k t226 false a1_0 a1_1 a1_2))) = some r := h
 clear h
 replace H := Option.bind_eq_some_iff.mp H
 obtain ⟨t226, A30, H⟩ := H
 replace H : (if a1_0 = 1 then (impl_stmtText.j0 k t226 (a1_1.toList == ([42, 100, 101, 102, 97, 117, 108, 116] : List UInt8)) a1_0 a1_1 a1_2) else (impl_stmtText.j0 k t226 false a1_0 a1_1 a1_2)) = some r := H
 have A3 := Aside0.mk A30
 clear A30
 have HC4 := Aside0.mk H
 clear H
 go_enter Tryd.func42, Tryd.ntmps42
 go_upto_region 2 with (first | ((with_reducible refine gate_dst (N := 2) rfl ?_); refine box_event ?hg (N := 2) ?hd (cs := #[.slice A0_0 l0_0.length c0_0, .slice A0_1 l0_1.length c0_1, .slice A0_2 l0_2.length c0_2, .slice A0_3 l0_3.length c0_3, .slice A0_4 l0_4.length c0_4]) (t := 37) ?hr ?_; (case hd => rfl); (case hg => rfl); (case hr => first | (go_simp; done) | (go_simp; rfl)); intro gb224 hg w5 hbox hb; have n0_ := Aside0.mk (below_step (by repeat (first | (with_reducible first | exact HB.out | apply below_alloc | apply pw_below_drewN | apply below_drew1) | exact HB.out)) hb); have n1_ := Aside0.mk (hbox); have n2_ := Aside0.mk ((by rw [hg]; exact (below_size (by repeat (first | (with_reducible first | exact HB.out | apply below_alloc | apply pw_below_drewN | apply below_drew1) | exact HB.out))) : w.heap.size ≤ gb224)); have n3_ := Aside0.mk ((by rw [hg]; exact (below_size (by repeat (first | (with_reducible first | exact HB.out | apply below_alloc | apply pw_below_drewN | apply below_drew1) | exact HB.out))) : w.heap.size ≤ gb224)); clear HB; have HB := n0_; have BK224 := n1_; have GW224 := n2_; have GE224 := n3_; clear n0_ n1_ n2_ n3_; clear hb hbox hg) | ((with_reducible refine gate_dst (N := 3) rfl ?_); refine box_event ?hg (N := 3) ?hd (cs := #[.int .i64 a1_0, .string a1_1, .int .i64 a1_2]) (t := 77) ?hr ?_; (case hd => rfl); (case hg => rfl); (case hr => first | (go_simp; done) | (go_simp; rfl)); intro gb225 hg w6 hbox hb; have n0_ := Aside0.mk (blk_below (g := gb224) (o := .cells #[.slice A0_0 l0_0.length c0_0, .slice A0_1 l0_1.length c0_1, .slice A0_2 l0_2.length c0_2, .slice A0_3 l0_3.length c0_3, .slice A0_4 l0_4.length c0_4] 37 (0, 0)) (by (with_reducible repeat (first | refine blk_drewN ?_ _ | refine blk_drew ?_ | refine blk_alloc ?_ _)); exact BK224.out) hb); have n1_ := Aside0.mk (below_step (by repeat (first | (with_reducible first | exact HB.out | apply below_alloc | apply pw_below_drewN | apply below_drew1 | refine below_set ?_ GE224.out) | exact HB.out)) hb); have n2_ := Aside0.mk (hbox); have n3_ := Aside0.mk ((by rw [hg]; exact (below_size (by repeat (first | (with_reducible first | exact HB.out | apply below_alloc | apply pw_below_drewN | apply below_drew1 | refine below_set ?_ GE224.out) | exact HB.out))) : w.heap.size ≤ gb225)); have n4_ := Aside0.mk ((by rw [hg]; exact (below_size (by repeat (first | (with_reducible first | exact HB.out | apply below_alloc | apply pw_below_drewN | apply below_drew1 | refine below_set ?_ GE224.out) | exact HB.out))) : w.heap.size ≤ gb225)); have n5_ := Aside0.mk ((by rw [hg]; exact Nat.ne_of_lt (blk_lt (g := gb224) (o := .cells #[.slice A0_0 l0_0.length c0_0, .slice A0_1 l0_1.length c0_1, .slice A0_2 l0_2.length c0_2, .slice A0_3 l0_3.length c0_3, .slice A0_4 l0_4.length c0_4] 37 (0, 0)) (by (with_reducible repeat (first | refine blk_drewN ?_ _ | refine blk_drew ?_ | refine blk_alloc ?_ _)); exact BK224.out)) : gb224 ≠ gb225)); have n6_ := Aside0.mk ((by rw [hg]; exact Nat.ne_of_gt (blk_lt (g := gb224) (o := .cells #[.slice A0_0 l0_0.length c0_0, .slice A0_1 l0_1.length c0_1, .slice A0_2 l0_2.length c0_2, .slice A0_3 l0_3.length c0_3, .slice A0_4 l0_4.length c0_4] 37 (0, 0)) (by (with_reducible repeat (first | refine blk_drewN ?_ _ | refine blk_drew ?_ | refine blk_alloc ?_ _)); exact BK224.out)) : gb225 ≠ gb224)); clear BK224; clear HB; have BK224 := n0_; have HB := n1_; have BK225 := n2_; have GW225 := n3_; have GE225 := n4_; have NB224_225 := n5_; have NB225_224 := n6_; clear n0_ n1_ n2_ n3_ n4_ n5_ n6_; clear hb hbox hg; have hnb7 := NB224_225.out; have hnc7 := NB225_224.out; have hcz8_0 : w6.cell? ⟨gb224, 0, none⟩ = some (.slice A0_0 l0_0.length c0_0) := (blk_cell BK224.out 0).trans rfl; have hcz8_1 : w6.cell? ⟨gb224, 1, none⟩ = some (.slice A0_1 l0_1.length c0_1) := (blk_cell BK224.out 1).trans rfl; have hcz8_2 : w6.cell? ⟨gb224, 2, none⟩ = some (.slice A0_2 l0_2.length c0_2) := (blk_cell BK224.out 2).trans rfl; have hcz8_3 : w6.cell? ⟨gb224, 3, none⟩ = some (.slice A0_3 l0_3.length c0_3) := (blk_cell BK224.out 3).trans rfl; have hcz8_4 : w6.cell? ⟨gb224, 4, none⟩ = some (.slice A0_4 l0_4.length c0_4) := (blk_cell BK224.out 4).trans rfl; have hfz8_0 := blk_frozen BK224.out 0; have hfz8_1 := blk_frozen BK224.out 1; have hfz8_2 := blk_frozen BK224.out 2; have hfz8_3 := blk_frozen BK224.out 3; have hfz8_4 := blk_frozen BK224.out 4; have hcz9_0 : w6.cell? ⟨gb225, 0, none⟩ = some (.int .i64 a1_0) := (blk_cell BK225.out 0).trans rfl; have hcz9_1 : w6.cell? ⟨gb225, 1, none⟩ = some (.string a1_1) := (blk_cell BK225.out 1).trans rfl; have hcz9_2 : w6.cell? ⟨gb225, 2, none⟩ = some (.int .i64 a1_2) := (blk_cell BK225.out 2).trans rfl; have hfz9_0 := blk_frozen BK225.out 0; have hfz9_1 := blk_frozen BK225.out 1; have hfz9_2 := blk_frozen BK225.out 2) | (go_at_call 52; (with_reducible refine (impl_exprText.calls k _ _ l0_0 _ _ l0_1 _ _ l0_2 _ _ l0_3 _ _ l0_4 a1_2 t226 _ ?side1 ?side2 ?side3 ?side4 ?side5 ?side6 ?side7 ?side8 ?side9 ?side10 (TabsP.below HTA.out (by repeat (first | (with_reducible first | exact HB.out | apply below_alloc | apply pw_below_drewN | apply below_drew1 | refine below_set ?_ GE224.out | refine below_set ?_ GE225.out) | exact HB.out))) A3.out).mono ?_); (case side1 => repeat (first | exact (Kd.C_below HR0_0.out HB.out) | (with_reducible refine Kd.C_alloc ?_ _) | (with_reducible refine Kd.C_drewN ?_ _) | (with_reducible refine Kd.C_drew ?_))); (case side2 => exact HC0_0.out); (case side3 => repeat (first | exact (Kd.C_below HR0_1.out HB.out) | (with_reducible refine Kd.C_alloc ?_ _) | (with_reducible refine Kd.C_drewN ?_ _) | (with_reducible refine Kd.C_drew ?_))); (case side4 => exact HC0_1.out); (case side5 => repeat (first | exact (Kd.C_below HR0_2.out HB.out) | (with_reducible refine Kd.C_alloc ?_ _) | (with_reducible refine Kd.C_drewN ?_ _) | (with_reducible refine Kd.C_drew ?_))); (case side6 => exact HC0_2.out); (case side7 => repeat (first | exact (Kd.C_below HR0_3.out HB.out) | (with_reducible refine Kd.C_alloc ?_ _) | (with_reducible refine Kd.C_drewN ?_ _) | (with_reducible refine Kd.C_drew ?_))); (case side8 => exact HC0_3.out); (case side9 => repeat (first | exact (Kd.C_below HR0_4.out HB.out) | (with_reducible refine Kd.C_alloc ?_ _) | (with_reducible refine Kd.C_drewN ?_ _) | (with_reducible refine Kd.C_drew ?_))); (case side10 => exact HC0_4.out); rintro e w10 ⟨rfl, hb⟩; have n0_ := Aside0.mk (blk_below (g := gb224) (o := .cells #[.slice A0_0 l0_0.length c0_0, .slice A0_1 l0_1.length c0_1, .slice A0_2 l0_2.length c0_2, .slice A0_3 l0_3.length c0_3, .slice A0_4 l0_4.length c0_4] 37 (0, 0)) (by (with_reducible repeat (first | refine blk_drewN ?_ _ | refine blk_drew ?_ | refine blk_alloc ?_ _)); exact BK224.out) hb); have n1_ := Aside0.mk (blk_below (g := gb225) (o := .cells #[.int .i64 a1_0, .string a1_1, .int .i64 a1_2] 77 (0, 0)) (by (with_reducible repeat (first | refine blk_drewN ?_ _ | refine blk_drew ?_ | refine blk_alloc ?_ _)); exact BK225.out) hb); have n2_ := Aside0.mk (below_step (by repeat (first | (with_reducible first | exact HB.out | apply below_alloc | apply pw_below_drewN | apply below_drew1 | refine below_set ?_ GE224.out | refine below_set ?_ GE225.out) | exact HB.out)) hb); clear BK224; clear BK225; clear HB; have BK224 := n0_; have BK225 := n1_; have HB := n2_; clear n0_ n1_ n2_; (try clear hb); (try clear hb2); (try clear hk); (try clear hi)))
 repeat (go_quiet (first | ((with_reducible refine gate_dst (N := 2) rfl ?_); refine box_event ?hg (N := 2) ?hd (cs := #[.slice A0_0 l0_0.length c0_0, .slice A0_1 l0_1.length c0_1, .slice A0_2 l0_2.length c0_2, .slice A0_3 l0_3.length c0_3, .slice A0_4 l0_4.length c0_4]) (t := 37) ?hr ?_; (case hd => rfl); (case hg => rfl); (case hr => first | (go_simp; done) | (go_simp; rfl)); intro gb224 hg w5 hbox hb; have n0_ := Aside0.mk (below_step (by repeat (first | (with_reducible first | exact HB.out | apply below_alloc | apply pw_below_drewN | apply below_drew1) | exact HB.out)) hb); have n1_ := Aside0.mk (hbox); have n2_ := Aside0.mk ((by rw [hg]; exact (below_size (by repeat (first | (with_reducible first | exact HB.out | apply below_alloc | apply pw_below_drewN | apply below_drew1) | exact HB.out))) : w.heap.size ≤ gb224)); have n3_ := Aside0.mk ((by rw [hg]; exact (below_size (by repeat (first | (with_reducible first | exact HB.out | apply below_alloc | apply pw_below_drewN | apply below_drew1) | exact HB.out))) : w.heap.size ≤ gb224)); clear HB; have HB := n0_; have BK224 := n1_; have GW224 := n2_; have GE224 := n3_; clear n0_ n1_ n2_ n3_; clear hb hbox hg) | ((with_reducible refine gate_dst (N := 3) rfl ?_); refine box_event ?hg (N := 3) ?hd (cs := #[.int .i64 a1_0, .string a1_1, .int .i64 a1_2]) (t := 77) ?hr ?_; (case hd => rfl); (case hg => rfl); (case hr => first | (go_simp; done) | (go_simp; rfl)); intro gb225 hg w6 hbox hb; have n0_ := Aside0.mk (blk_below (g := gb224) (o := .cells #[.slice A0_0 l0_0.length c0_0, .slice A0_1 l0_1.length c0_1, .slice A0_2 l0_2.length c0_2, .slice A0_3 l0_3.length c0_3, .slice A0_4 l0_4.length c0_4] 37 (0, 0)) (by (with_reducible repeat (first | refine blk_drewN ?_ _ | refine blk_drew ?_ | refine blk_alloc ?_ _)); exact BK224.out) hb); have n1_ := Aside0.mk (below_step (by repeat (first | (with_reducible first | exact HB.out | apply below_alloc | apply pw_below_drewN | apply below_drew1 | refine below_set ?_ GE224.out) | exact HB.out)) hb); have n2_ := Aside0.mk (hbox); have n3_ := Aside0.mk ((by rw [hg]; exact (below_size (by repeat (first | (with_reducible first | exact HB.out | apply below_alloc | apply pw_below_drewN | apply below_drew1 | refine below_set ?_ GE224.out) | exact HB.out))) : w.heap.size ≤ gb225)); have n4_ := Aside0.mk ((by rw [hg]; exact (below_size (by repeat (first | (with_reducible first | exact HB.out | apply below_alloc | apply pw_below_drewN | apply below_drew1 | refine below_set ?_ GE224.out) | exact HB.out))) : w.heap.size ≤ gb225)); have n5_ := Aside0.mk ((by rw [hg]; exact Nat.ne_of_lt (blk_lt (g := gb224) (o := .cells #[.slice A0_0 l0_0.length c0_0, .slice A0_1 l0_1.length c0_1, .slice A0_2 l0_2.length c0_2, .slice A0_3 l0_3.length c0_3, .slice A0_4 l0_4.length c0_4] 37 (0, 0)) (by (with_reducible repeat (first | refine blk_drewN ?_ _ | refine blk_drew ?_ | refine blk_alloc ?_ _)); exact BK224.out)) : gb224 ≠ gb225)); have n6_ := Aside0.mk ((by rw [hg]; exact Nat.ne_of_gt (blk_lt (g := gb224) (o := .cells #[.slice A0_0 l0_0.length c0_0, .slice A0_1 l0_1.length c0_1, .slice A0_2 l0_2.length c0_2, .slice A0_3 l0_3.length c0_3, .slice A0_4 l0_4.length c0_4] 37 (0, 0)) (by (with_reducible repeat (first | refine blk_drewN ?_ _ | refine blk_drew ?_ | refine blk_alloc ?_ _)); exact BK224.out)) : gb225 ≠ gb224)); clear BK224; clear HB; have BK224 := n0_; have HB := n1_; have BK225 := n2_; have GW225 := n3_; have GE225 := n4_; have NB224_225 := n5_; have NB225_224 := n6_; clear n0_ n1_ n2_ n3_ n4_ n5_ n6_; clear hb hbox hg; have hnb7 := NB224_225.out; have hnc7 := NB225_224.out; have hcz8_0 : w6.cell? ⟨gb224, 0, none⟩ = some (.slice A0_0 l0_0.length c0_0) := (blk_cell BK224.out 0).trans rfl; have hcz8_1 : w6.cell? ⟨gb224, 1, none⟩ = some (.slice A0_1 l0_1.length c0_1) := (blk_cell BK224.out 1).trans rfl; have hcz8_2 : w6.cell? ⟨gb224, 2, none⟩ = some (.slice A0_2 l0_2.length c0_2) := (blk_cell BK224.out 2).trans rfl; have hcz8_3 : w6.cell? ⟨gb224, 3, none⟩ = some (.slice A0_3 l0_3.length c0_3) := (blk_cell BK224.out 3).trans rfl; have hcz8_4 : w6.cell? ⟨gb224, 4, none⟩ = some (.slice A0_4 l0_4.length c0_4) := (blk_cell BK224.out 4).trans rfl; have hfz8_0 := blk_frozen BK224.out 0; have hfz8_1 := blk_frozen BK224.out 1; have hfz8_2 := blk_frozen BK224.out 2; have hfz8_3 := blk_frozen BK224.out 3; have hfz8_4 := blk_frozen BK224.out 4; have hcz9_0 : w6.cell? ⟨gb225, 0, none⟩ = some (.int .i64 a1_0) := (blk_cell BK225.out 0).trans rfl; have hcz9_1 : w6.cell? ⟨gb225, 1, none⟩ = some (.string a1_1) := (blk_cell BK225.out 1).trans rfl; have hcz9_2 : w6.cell? ⟨gb225, 2, none⟩ = some (.int .i64 a1_2) := (blk_cell BK225.out 2).trans rfl; have hfz9_0 := blk_frozen BK225.out 0; have hfz9_1 := blk_frozen BK225.out 1; have hfz9_2 := blk_frozen BK225.out 2) | (go_at_call 52; (with_reducible refine (impl_exprText.calls k _ _ l0_0 _ _ l0_1 _ _ l0_2 _ _ l0_3 _ _ l0_4 a1_2 t226 _ ?side1 ?side2 ?side3 ?side4 ?side5 ?side6 ?side7 ?side8 ?side9 ?side10 (TabsP.below HTA.out (by repeat (first | (with_reducible first | exact HB.out | apply below_alloc | apply pw_below_drewN | apply below_drew1 | refine below_set ?_ GE224.out | refine below_set ?_ GE225.out) | exact HB.out))) A3.out).mono ?_); (case side1 => repeat (first | exact (Kd.C_below HR0_0.out HB.out) | (with_reducible refine Kd.C_alloc ?_ _) | (with_reducible refine Kd.C_drewN ?_ _) | (with_reducible refine Kd.C_drew ?_))); (case side2 => exact HC0_0.out); (case side3 => repeat (first | exact (Kd.C_below HR0_1.out HB.out) | (with_reducible refine Kd.C_alloc ?_ _) | (with_reducible refine Kd.C_drewN ?_ _) | (with_reducible refine Kd.C_drew ?_))); (case side4 => exact HC0_1.out); (case side5 => repeat (first | exact (Kd.C_below HR0_2.out HB.out) | (with_reducible refine Kd.C_alloc ?_ _) | (with_reducible refine Kd.C_drewN ?_ _) | (with_reducible refine Kd.C_drew ?_))); (case side6 => exact HC0_2.out); (case side7 => repeat (first | exact (Kd.C_below HR0_3.out HB.out) | (with_reducible refine Kd.C_alloc ?_ _) | (with_reducible refine Kd.C_drewN ?_ _) | (with_reducible refine Kd.C_drew ?_))); (case side8 => exact HC0_3.out); (case side9 => repeat (first | exact (Kd.C_below HR0_4.out HB.out) | (with_reducible refine Kd.C_alloc ?_ _) | (with_reducible refine Kd.C_drewN ?_ _) | (with_reducible refine Kd.C_drew ?_))); (case side10 => exact HC0_4.out); rintro e w10 ⟨rfl, hb⟩; have n0_ := Aside0.mk (blk_below (g := gb224) (o := .cells #[.slice A0_0 l0_0.length c0_0, .slice A0_1 l0_1.length c0_1, .slice A0_2 l0_2.length c0_2, .slice A0_3 l0_3.length c0_3, .slice A0_4 l0_4.length c0_4] 37 (0, 0)) (by (with_reducible repeat (first | refine blk_drewN ?_ _ | refine blk_drew ?_ | refine blk_alloc ?_ _)); exact BK224.out) hb); have n1_ := Aside0.mk (blk_below (g := gb225) (o := .cells #[.int .i64 a1_0, .string a1_1, .int .i64 a1_2] 77 (0, 0)) (by (with_reducible repeat (first | refine blk_drewN ?_ _ | refine blk_drew ?_ | refine blk_alloc ?_ _)); exact BK225.out) hb); have n2_ := Aside0.mk (below_step (by repeat (first | (with_reducible first | exact HB.out | apply below_alloc | apply pw_below_drewN | apply below_drew1 | refine below_set ?_ GE224.out | refine below_set ?_ GE225.out) | exact HB.out)) hb); clear BK224; clear BK225; clear HB; have BK224 := n0_; have BK225 := n1_; have HB := n2_; clear n0_ n1_ n2_; (try clear hb); (try clear hb2); (try clear hk); (try clear hi))); go_upto_region 2 with (first | ((with_reducible refine gate_dst (N := 2) rfl ?_); refine box_event ?hg (N := 2) ?hd (cs := #[.slice A0_0 l0_0.length c0_0, .slice A0_1 l0_1.length c0_1, .slice A0_2 l0_2.length c0_2, .slice A0_3 l0_3.length c0_3, .slice A0_4 l0_4.length c0_4]) (t := 37) ?hr ?_; (case hd => rfl); (case hg => rfl); (case hr => first | (go_simp; done) | (go_simp; rfl)); intro gb224 hg w5 hbox hb; have n0_ := Aside0.mk (below_step (by repeat (first | (with_reducible first | exact HB.out | apply below_alloc | apply pw_below_drewN | apply below_drew1) | exact HB.out)) hb); have n1_ := Aside0.mk (hbox); have n2_ := Aside0.mk ((by rw [hg]; exact (below_size (by repeat (first | (with_reducible first | exact HB.out | apply below_alloc | apply pw_below_drewN | apply below_drew1) | exact HB.out))) : w.heap.size ≤ gb224)); have n3_ := Aside0.mk ((by rw [hg]; exact (below_size (by repeat (first | (with_reducible first | exact HB.out | apply below_alloc | apply pw_below_drewN | apply below_drew1) | exact HB.out))) : w.heap.size ≤ gb224)); clear HB; have HB := n0_; have BK224 := n1_; have GW224 := n2_; have GE224 := n3_; clear n0_ n1_ n2_ n3_; clear hb hbox hg) | ((with_reducible refine gate_dst (N := 3) rfl ?_); refine box_event ?hg (N := 3) ?hd (cs := #[.int .i64 a1_0, .string a1_1, .int .i64 a1_2]) (t := 77) ?hr ?_; (case hd => rfl); (case hg => rfl); (case hr => first | (go_simp; done) | (go_simp; rfl)); intro gb225 hg w6 hbox hb; have n0_ := Aside0.mk (blk_below (g := gb224) (o := .cells #[.slice A0_0 l0_0.length c0_0, .slice A0_1 l0_1.length c0_1, .slice A0_2 l0_2.length c0_2, .slice A0_3 l0_3.length c0_3, .slice A0_4 l0_4.length c0_4] 37 (0, 0)) (by (with_reducible repeat (first | refine blk_drewN ?_ _ | refine blk_drew ?_ | refine blk_alloc ?_ _)); exact BK224.out) hb); have n1_ := Aside0.mk (below_step (by repeat (first | (with_reducible first | exact HB.out | apply below_alloc | apply pw_below_drewN | apply below_drew1 | refine below_set ?_ GE224.out) | exact HB.out)) hb); have n2_ := Aside0.mk (hbox); have n3_ := Aside0.mk ((by rw [hg]; exact (below_size (by repeat (first | (with_reducible first | exact HB.out | apply below_alloc | apply pw_below_drewN | apply below_drew1 | refine below_set ?_ GE224.out) | exact HB.out))) : w.heap.size ≤ gb225)); have n4_ := Aside0.mk ((by rw [hg]; exact (below_size (by repeat (first | (with_reducible first | exact HB.out | apply below_alloc | apply pw_below_drewN | apply below_drew1 | refine below_set ?_ GE224.out) | exact HB.out))) : w.heap.size ≤ gb225)); have n5_ := Aside0.mk ((by rw [hg]; exact Nat.ne_of_lt (blk_lt (g := gb224) (o := .cells #[.slice A0_0 l0_0.length c0_0, .slice A0_1 l0_1.length c0_1, .slice A0_2 l0_2.length c0_2, .slice A0_3 l0_3.length c0_3, .slice A0_4 l0_4.length c0_4] 37 (0, 0)) (by (with_reducible repeat (first | refine blk_drewN ?_ _ | refine blk_drew ?_ | refine blk_alloc ?_ _)); exact BK224.out)) : gb224 ≠ gb225)); have n6_ := Aside0.mk ((by rw [hg]; exact Nat.ne_of_gt (blk_lt (g := gb224) (o := .cells #[.slice A0_0 l0_0.length c0_0, .slice A0_1 l0_1.length c0_1, .slice A0_2 l0_2.length c0_2, .slice A0_3 l0_3.length c0_3, .slice A0_4 l0_4.length c0_4] 37 (0, 0)) (by (with_reducible repeat (first | refine blk_drewN ?_ _ | refine blk_drew ?_ | refine blk_alloc ?_ _)); exact BK224.out)) : gb225 ≠ gb224)); clear BK224; clear HB; have BK224 := n0_; have HB := n1_; have BK225 := n2_; have GW225 := n3_; have GE225 := n4_; have NB224_225 := n5_; have NB225_224 := n6_; clear n0_ n1_ n2_ n3_ n4_ n5_ n6_; clear hb hbox hg; have hnb7 := NB224_225.out; have hnc7 := NB225_224.out; have hcz8_0 : w6.cell? ⟨gb224, 0, none⟩ = some (.slice A0_0 l0_0.length c0_0) := (blk_cell BK224.out 0).trans rfl; have hcz8_1 : w6.cell? ⟨gb224, 1, none⟩ = some (.slice A0_1 l0_1.length c0_1) := (blk_cell BK224.out 1).trans rfl; have hcz8_2 : w6.cell? ⟨gb224, 2, none⟩ = some (.slice A0_2 l0_2.length c0_2) := (blk_cell BK224.out 2).trans rfl; have hcz8_3 : w6.cell? ⟨gb224, 3, none⟩ = some (.slice A0_3 l0_3.length c0_3) := (blk_cell BK224.out 3).trans rfl; have hcz8_4 : w6.cell? ⟨gb224, 4, none⟩ = some (.slice A0_4 l0_4.length c0_4) := (blk_cell BK224.out 4).trans rfl; have hfz8_0 := blk_frozen BK224.out 0; have hfz8_1 := blk_frozen BK224.out 1; have hfz8_2 := blk_frozen BK224.out 2; have hfz8_3 := blk_frozen BK224.out 3; have hfz8_4 := blk_frozen BK224.out 4; have hcz9_0 : w6.cell? ⟨gb225, 0, none⟩ = some (.int .i64 a1_0) := (blk_cell BK225.out 0).trans rfl; have hcz9_1 : w6.cell? ⟨gb225, 1, none⟩ = some (.string a1_1) := (blk_cell BK225.out 1).trans rfl; have hcz9_2 : w6.cell? ⟨gb225, 2, none⟩ = some (.int .i64 a1_2) := (blk_cell BK225.out 2).trans rfl; have hfz9_0 := blk_frozen BK225.out 0; have hfz9_1 := blk_frozen BK225.out 1; have hfz9_2 := blk_frozen BK225.out 2) | (go_at_call 52; (with_reducible refine (impl_exprText.calls k _ _ l0_0 _ _ l0_1 _ _ l0_2 _ _ l0_3 _ _ l0_4 a1_2 t226 _ ?side1 ?side2 ?side3 ?side4 ?side5 ?side6 ?side7 ?side8 ?side9 ?side10 (TabsP.below HTA.out (by repeat (first | (with_reducible first | exact HB.out | apply below_alloc | apply pw_below_drewN | apply below_drew1 | refine below_set ?_ GE224.out | refine below_set ?_ GE225.out) | exact HB.out))) A3.out).mono ?_); (case side1 => repeat (first | exact (Kd.C_below HR0_0.out HB.out) | (with_reducible refine Kd.C_alloc ?_ _) | (with_reducible refine Kd.C_drewN ?_ _) | (with_reducible refine Kd.C_drew ?_))); (case side2 => exact HC0_0.out); (case side3 => repeat (first | exact (Kd.C_below HR0_1.out HB.out) | (with_reducible refine Kd.C_alloc ?_ _) | (with_reducible refine Kd.C_drewN ?_ _) | (with_reducible refine Kd.C_drew ?_))); (case side4 => exact HC0_1.out); (case side5 => repeat (first | exact (Kd.C_below HR0_2.out HB.out) | (with_reducible refine Kd.C_alloc ?_ _) | (with_reducible refine Kd.C_drewN ?_ _) | (with_reducible refine Kd.C_drew ?_))); (case side6 => exact HC0_2.out); (case side7 => repeat (first | exact (Kd.C_below HR0_3.out HB.out) | (with_reducible refine Kd.C_alloc ?_ _) | (with_reducible refine Kd.C_drewN ?_ _) | (with_reducible refine Kd.C_drew ?_))); (case side8 => exact HC0_3.out); (case side9 => repeat (first | exact (Kd.C_below HR0_4.out HB.out) | (with_reducible refine Kd.C_alloc ?_ _) | (with_reducible refine Kd.C_drewN ?_ _) | (with_reducible refine Kd.C_drew ?_))); (case side10 => exact HC0_4.out); rintro e w10 ⟨rfl, hb⟩; have n0_ := Aside0.mk (blk_below (g := gb224) (o := .cells #[.slice A0_0 l0_0.length c0_0, .slice A0_1 l0_1.length c0_1, .slice A0_2 l0_2.length c0_2, .slice A0_3 l0_3.length c0_3, .slice A0_4 l0_4.length c0_4] 37 (0, 0)) (by (with_reducible repeat (first | refine blk_drewN ?_ _ | refine blk_drew ?_ | refine blk_alloc ?_ _)); exact BK224.out) hb); have n1_ := Aside0.mk (blk_below (g := gb225) (o := .cells #[.int .i64 a1_0, .string a1_1, .int .i64 a1_2] 77 (0, 0)) (by (with_reducible repeat (first | refine blk_drewN ?_ _ | refine blk_drew ?_ | refine blk_alloc ?_ _)); exact BK225.out) hb); have n2_ := Aside0.mk (below_step (by repeat (first | (with_reducible first | exact HB.out | apply below_alloc | apply pw_below_drewN | apply below_drew1 | refine below_set ?_ GE224.out | refine below_set ?_ GE225.out) | exact HB.out)) hb); clear BK224; clear BK225; clear HB; have BK224 := n0_; have BK225 := n1_; have HB := n2_; clear n0_ n1_ n2_; (try clear hb); (try clear hb2); (try clear hk); (try clear hi))))
 (try simp only [Act.put, List.setIfInBounds_toArray, List.set_cons_zero, List.set_cons_succ])
 go_cut [10] (fun v10 wc => ∃ (kq : Nat) (x10_3 : Bool), v10 = .bool x10_3 ∧ Aside0 (impl_stmtText.j0 kq t226 x10_3 a1_0 a1_1 a1_2 = some r) ∧ Aside0 (kq ≤ k) ∧ Aside0 (wc.heap[gb224]? = some (.cells #[(.slice A0_0 l0_0.length c0_0), (.slice A0_1 l0_1.length c0_1), (.slice A0_2 l0_2.length c0_2), (.slice A0_3 l0_3.length c0_3), (.slice A0_4 l0_4.length c0_4)] 37 (0, 0))) ∧ Aside0 (wc.heap[gb225]? = some (.cells #[.int .i64 a1_0, .string a1_1, .int .i64 a1_2] 77 (0, 0))) ∧ Aside0 (Below w.heap.size w wc))
 case first =>
  have H := HC4.out
  clear HC4
  by_cases c11 : a1_0 = 1
  ·rw [if_pos c11] at H
   have c11b0 : (a1_0 == 1) = true := beq_iff_eq.mpr c11
   have c11b1 : (a1_0 != 1) = false := bne_eq_false_iff_eq.mpr c11
   clear c11
   (first | rw [c11b0] | (simp only [i64_w, i32_w]; rw [c11b0]) | skip)
   have H' := Aside0.mk H
   clear H
   have hnb12 := NB225_224.out
   have hnc12 := NB224_225.out
   have hcz13_0 : w10.cell? ⟨gb225, 0, none⟩ = some (.int .i64 a1_0) := (blk_cell BK225.out 0).trans rfl
   have hcz13_1 : w10.cell? ⟨gb225, 1, none⟩ = some (.string a1_1) := (blk_cell BK225.out 1).trans rfl
   have hcz13_2 : w10.cell? ⟨gb225, 2, none⟩ = some (.int .i64 a1_2) := (blk_cell BK225.out 2).trans rfl
   have hfz13_0 := blk_frozen BK225.out 0
   have hfz13_1 := blk_frozen BK225.out 1
   have hfz13_2 := blk_frozen BK225.out 2
   go_wp2
   repeat (go_quiet (fail); try go_wp2)
   go_meet
   case rel => exact ⟨_, ((a1_1.toList == ([42, 100, 101, 102, 97, 117, 108, 116] : List UInt8))), (by first | rfl | (simp; done) | (simp [*]; done)), H', ⟨by first | omega | exact Nat.le_refl _⟩, ⟨by (with_reducible repeat (first | refine blk_drewN ?_ _ | refine blk_drew ?_ | refine blk_alloc ?_ _)); exact BK224.out⟩, ⟨by (with_reducible repeat (first | refine blk_drewN ?_ _ | refine blk_drew ?_ | refine blk_alloc ?_ _)); exact BK225.out⟩, ⟨by repeat (first | (with_reducible first | exact HB.out | apply below_alloc | apply pw_below_drewN | apply below_drew1 | refine below_set ?_ GE224.out | refine below_set ?_ GE225.out) | exact HB.out)⟩⟩
  ·rw [if_neg c11] at H
   have c11b0 : (a1_0 == 1) = false := beq_eq_false_iff_ne.mpr c11
   have c11b1 : (a1_0 != 1) = true := bne_iff_ne.mpr c11
   (first | rw [c11b0] | (simp only [i64_w, i32_w]; rw [c11b0]) | skip)
   have H' := Aside0.mk H
   clear H
   have hnb14 := NB225_224.out
   have hnc14 := NB224_225.out
   have hcz15_0 : w10.cell? ⟨gb225, 0, none⟩ = some (.int .i64 a1_0) := (blk_cell BK225.out 0).trans rfl
   have hcz15_1 : w10.cell? ⟨gb225, 1, none⟩ = some (.string a1_1) := (blk_cell BK225.out 1).trans rfl
   have hcz15_2 : w10.cell? ⟨gb225, 2, none⟩ = some (.int .i64 a1_2) := (blk_cell BK225.out 2).trans rfl
   have hfz15_0 := blk_frozen BK225.out 0
   have hfz15_1 := blk_frozen BK225.out 1
   have hfz15_2 := blk_frozen BK225.out 2
   go_wp2
   repeat (go_quiet (fail); try go_wp2)
   go_meet
   case rel => exact ⟨_, (false), (by first | rfl | (simp; done) | (simp [*]; done)), H', ⟨by first | omega | exact Nat.le_refl _⟩, ⟨by (with_reducible repeat (first | refine blk_drewN ?_ _ | refine blk_drew ?_ | refine blk_alloc ?_ _)); exact BK224.out⟩, ⟨by (with_reducible repeat (first | refine blk_drewN ?_ _ | refine blk_drew ?_ | refine blk_alloc ?_ _)); exact BK225.out⟩, ⟨by repeat (first | (with_reducible first | exact HB.out | apply below_alloc | apply pw_below_drewN | apply below_drew1 | refine below_set ?_ GE224.out | refine below_set ?_ GE225.out) | exact HB.out)⟩⟩
 case rest =>
  clear HC4
  try clear c1
  try clear p2
  try clear c4
  try clear c7
  try clear c11
  try clear c11b0
  try clear c11b1
  try clear c12
  try clear c14
  try clear hcz13_0
  try clear hcz13_1
  try clear hcz13_2
  try clear hcz15_0
  try clear hcz15_1
  try clear hcz15_2
  try clear hcz8_0
  try clear hcz8_1
  try clear hcz8_2
  try clear hcz8_3
  try clear hcz8_4
  try clear hcz9_0
  try clear hcz9_1
  try clear hcz9_2
  try clear hfz13_0
  try clear hfz13_1
  try clear hfz13_2
  try clear hfz15_0
  try clear hfz15_1
  try clear hfz15_2
  try clear hfz8_0
  try clear hfz8_1
  try clear hfz8_2
  try clear hfz8_3
  try clear hfz8_4
  try clear hfz9_0
  try clear hfz9_1
  try clear hfz9_2
  obtain ⟨kq, x10_3, rfl, HA, HJ3, BK224, BK225, HB⟩ := hcut
  cases kq with
  | zero => exact absurd HA.out (by simp [impl_stmtText.j0])
  | succ kj3 =>
   have H := HA.out
   clear HA
   simp only [impl_stmtText.j0] at H
   by_cases c16 : x10_3 = true
   ·subst c16
    have H1 : ((impl_behind.f (⟨#[101, 120, 112, 111, 114, 116, 32, 100, 101, 102, 97, 117, 108, 116]⟩ : ByteArray) t226).bind fun t227 => (if t227.size + 2 ≤ 9223372036854775807 then (some (t227 ++ (⟨#[59, 10]⟩ : ByteArray))) else (none))) = some r := by rw [if_pos rfl] at H; exact H
    clear H
    have H := H1
    clear H1
    replace H := Option.bind_eq_some_iff.mp H
    obtain ⟨t227, A170, H⟩ := H
    replace H : (if t227.size + 2 ≤ 9223372036854775807 then (some (t227 ++ (⟨#[59, 10]⟩ : ByteArray))) else (none)) = some r := H
    have A17 := Aside0.mk A170
    clear A170
    by_cases c18 : t227.size + 2 ≤ 9223372036854775807
    ·rw [if_pos c18] at H
     have c18b0 := eq_true c18
     have c18b1 : decide (t227.size + 2 ≤ 9223372036854775807) = true := decide_eq_true c18
     try have c18b2 : (9223372036854775807 < t227.size + 2) = False := eq_false (Nat.not_lt.2 c18)
     obtain rfl := Option.some.inj H
     go_wp2_with (first | (go_at_call 53; (with_reducible refine (impl_behind.calls (⟨#[101, 120, 112, 111, 114, 116, 32, 100, 101, 102, 97, 117, 108, 116]⟩ : ByteArray) t226 t227 _ A17.out).mono ?_); rintro e w' ⟨rfl, ⟨nd, rfl⟩⟩; (try first | exact ⟨rfl, _, World.drewN_drewN _ _ _⟩ | exact ⟨rfl, _, Eq.trans (World.drewN_drewN _ _ _) (congrArg (World.drewN _) (Nat.add_assoc _ _ _))⟩)))
     repeat (go_quiet (first | (go_at_call 53; (with_reducible refine (impl_behind.calls (⟨#[101, 120, 112, 111, 114, 116, 32, 100, 101, 102, 97, 117, 108, 116]⟩ : ByteArray) t226 t227 _ A17.out).mono ?_); rintro e w' ⟨rfl, ⟨nd, rfl⟩⟩; (try first | exact ⟨rfl, _, World.drewN_drewN _ _ _⟩ | exact ⟨rfl, _, Eq.trans (World.drewN_drewN _ _ _) (congrArg (World.drewN _) (Nat.add_assoc _ _ _))⟩))); try go_wp2_with (first | (go_at_call 53; (with_reducible refine (impl_behind.calls (⟨#[101, 120, 112, 111, 114, 116, 32, 100, 101, 102, 97, 117, 108, 116]⟩ : ByteArray) t226 t227 _ A17.out).mono ?_); rintro e w' ⟨rfl, ⟨nd, rfl⟩⟩; (try first | exact ⟨rfl, _, World.drewN_drewN _ _ _⟩ | exact ⟨rfl, _, Eq.trans (World.drewN_drewN _ _ _) (congrArg (World.drewN _) (Nat.add_assoc _ _ _))⟩))))
     go_ret
     exact ⟨by first | rfl | (simp [errW_none, errW_some] <;> rfl) | (simp [*, errW_none, errW_some] <;> rfl), by repeat (first | (with_reducible first | exact HB.out | apply below_alloc | apply pw_below_drewN | apply below_drew1 | refine below_set ?_ GE224.out | refine below_set ?_ GE225.out) | exact HB.out)⟩
    ·rw [if_neg c18] at H
     exact absurd H (by simp)
   ·replace c16 := Bool.eq_false_iff.mpr c16
    subst c16
    have H1 : (if a1_0 = 1 then (if 4 + a1_1.size ≤ 9223372036854775807 then (if ((⟨#[108, 101, 116, 32]⟩ : ByteArray) ++ a1_1).size + 3 ≤ 9223372036854775807 then (if (((⟨#[108, 101, 116, 32]⟩ : ByteArray) ++ a1_1) ++ (⟨#[32, 61, 32]⟩ : ByteArray)).size + t226.size ≤ 9223372036854775807 then (if ((((⟨#[108, 101, 116, 32]⟩ : ByteArray) ++ a1_1) ++ (⟨#[32, 61, 32]⟩ : ByteArray)) ++ t226).size + 2 ≤ 9223372036854775807 then (some (((((⟨#[108, 101, 116, 32]⟩ : ByteArray) ++ a1_1) ++ (⟨#[32, 61, 32]⟩ : ByteArray)) ++ t226) ++ (⟨#[59, 10]⟩ : ByteArray))) else (none)) else (none)) else (none)) else (none)) else (if a1_0 = 2 then (if 9 + a1_1.size ≤ 9223372036854775807 then (if ((⟨#[102, 117, 110, 99, 116, 105, 111, 110, 32]⟩ : ByteArray) ++ a1_1).size + 5 ≤ 9223372036854775807 then ((impl_behind.f (⟨#[114, 101, 116, 117, 114, 110]⟩ : ByteArray) t226).bind fun t228 => (if (((⟨#[102, 117, 110, 99, 116, 105, 111, 110, 32]⟩ : ByteArray) ++ a1_1) ++ (⟨#[40, 41, 32, 123, 32]⟩ : ByteArray)).size + t228.size ≤ 9223372036854775807 then (if ((((⟨#[102, 117, 110, 99, 116, 105, 111, 110, 32]⟩ : ByteArray) ++ a1_1) ++ (⟨#[40, 41, 32, 123, 32]⟩ : ByteArray)) ++ t228).size + 4 ≤ 9223372036854775807 then (some (((((⟨#[102, 117, 110, 99, 116, 105, 111, 110, 32]⟩ : ByteArray) ++ a1_1) ++ (⟨#[40, 41, 32, 123, 32]⟩ : ByteArray)) ++ t228) ++ (⟨#[59, 32, 125, 10]⟩ : ByteArray))) else (none)) else (none))) else (none)) else (none)) else (if a1_0 = 3 then (if a1_1.size + 3 ≤ 9223372036854775807 then (if (a1_1 ++ (⟨#[32, 61, 32]⟩ : ByteArray)).size + t226.size ≤ 9223372036854775807 then (if ((a1_1 ++ (⟨#[32, 61, 32]⟩ : ByteArray)) ++ t226).size + 2 ≤ 9223372036854775807 then (some (((a1_1 ++ (⟨#[32, 61, 32]⟩ : ByteArray)) ++ t226) ++ (⟨#[59, 10]⟩ : ByteArray))) else (none)) else (none)) else (none)) else (if a1_0 = 4 then (if 6 + t226.size ≤ 9223372036854775807 then (if ((⟨#[112, 114, 105, 110, 116, 40]⟩ : ByteArray) ++ t226).size + 3 ≤ 9223372036854775807 then (some (((⟨#[112, 114, 105, 110, 116, 40]⟩ : ByteArray) ++ t226) ++ (⟨#[41, 59, 10]⟩ : ByteArray))) else (none)) else (none)) else (if a1_0 = 5 then ((impl_behind.f (⟨#[116, 104, 114, 111, 119]⟩ : ByteArray) t226).bind fun t229 => (if t229.size + 2 ≤ 9223372036854775807 then (some (t229 ++ (⟨#[59, 10]⟩ : ByteArray))) else (none))) else ((impl_behind.f (⟨#[102, 97, 105, 108]⟩ : ByteArray) t226).bind fun t230 => (if t230.size + 2 ≤ 9223372036854775807 then (some (t230 ++ (⟨#[59, 10]⟩ : ByteArray))) else (none)))))))) = some r := by rw [if_neg (show ¬ (false = true) by decide)] at H; exact H
    clear H
    have H := H1
    clear H1
    by_cases c19 : a1_0 = 1
    ·rw [if_pos c19] at H
     have c19b0 : (a1_0 == 1) = true := beq_iff_eq.mpr c19
     have c19b1 : (a1_0 != 1) = false := bne_eq_false_iff_eq.mpr c19
     clear c19
     by_cases c20 : 4 + a1_1.size ≤ 9223372036854775807
     ·rw [if_pos c20] at H
      have c20b0 := eq_true c20
      have c20b1 : decide (4 + a1_1.size ≤ 9223372036854775807) = true := decide_eq_true c20
      try have c20b2 : (9223372036854775807 < 4 + a1_1.size) = False := eq_false (Nat.not_lt.2 c20)
      by_cases c21 : ((⟨#[108, 101, 116, 32]⟩ : ByteArray) ++ a1_1).size + 3 ≤ 9223372036854775807
      ·rw [if_pos c21] at H
       have c21b0 := eq_true c21
       have c21b1 : decide (((⟨#[108, 101, 116, 32]⟩ : ByteArray) ++ a1_1).size + 3 ≤ 9223372036854775807) = true := decide_eq_true c21
       try have c21b2 : (9223372036854775807 < ((⟨#[108, 101, 116, 32]⟩ : ByteArray) ++ a1_1).size + 3) = False := eq_false (Nat.not_lt.2 c21)
       try have c21b6 : (9223372036854775807 < 4 + a1_1.size + 3) = False := by have h_ := c21b2; simp only [ByteArray.size_append] at h_; exact h_
       by_cases c22 : (((⟨#[108, 101, 116, 32]⟩ : ByteArray) ++ a1_1) ++ (⟨#[32, 61, 32]⟩ : ByteArray)).size + t226.size ≤ 9223372036854775807
       ·rw [if_pos c22] at H
        have c22b0 := eq_true c22
        have c22b1 : decide ((((⟨#[108, 101, 116, 32]⟩ : ByteArray) ++ a1_1) ++ (⟨#[32, 61, 32]⟩ : ByteArray)).size + t226.size ≤ 9223372036854775807) = true := decide_eq_true c22
        try have c22b2 : (9223372036854775807 < (((⟨#[108, 101, 116, 32]⟩ : ByteArray) ++ a1_1) ++ (⟨#[32, 61, 32]⟩ : ByteArray)).size + t226.size) = False := eq_false (Nat.not_lt.2 c22)
        try have c22b6 : (9223372036854775807 < 4 + a1_1.size + 3 + t226.size) = False := by have h_ := c22b2; simp only [ByteArray.size_append] at h_; exact h_
        by_cases c23 : ((((⟨#[108, 101, 116, 32]⟩ : ByteArray) ++ a1_1) ++ (⟨#[32, 61, 32]⟩ : ByteArray)) ++ t226).size + 2 ≤ 9223372036854775807
        ·rw [if_pos c23] at H
         have c23b0 := eq_true c23
         have c23b1 : decide (((((⟨#[108, 101, 116, 32]⟩ : ByteArray) ++ a1_1) ++ (⟨#[32, 61, 32]⟩ : ByteArray)) ++ t226).size + 2 ≤ 9223372036854775807) = true := decide_eq_true c23
         try have c23b2 : (9223372036854775807 < ((((⟨#[108, 101, 116, 32]⟩ : ByteArray) ++ a1_1) ++ (⟨#[32, 61, 32]⟩ : ByteArray)) ++ t226).size + 2) = False := eq_false (Nat.not_lt.2 c23)
         try have c23b6 : (9223372036854775807 < 4 + a1_1.size + 3 + t226.size + 2) = False := by have h_ := c23b2; simp only [ByteArray.size_append] at h_; exact h_
         obtain rfl := Option.some.inj H
         have hnb24 := NB225_224.out
         have hnc24 := NB224_225.out
         have hcz25_0 : wc.cell? ⟨gb225, 0, none⟩ = some (.int .i64 a1_0) := (blk_cell BK225.out 0).trans rfl
         have hcz25_1 : wc.cell? ⟨gb225, 1, none⟩ = some (.string a1_1) := (blk_cell BK225.out 1).trans rfl
         have hcz25_2 : wc.cell? ⟨gb225, 2, none⟩ = some (.int .i64 a1_2) := (blk_cell BK225.out 2).trans rfl
         have hfz25_0 := blk_frozen BK225.out 0
         have hfz25_1 := blk_frozen BK225.out 1
         have hfz25_2 := blk_frozen BK225.out 2
         go_wp2
         repeat (go_quiet (fail); try go_wp2)
         go_ret
         exact ⟨by first | rfl | (simp [errW_none, errW_some] <;> rfl) | (simp [*, errW_none, errW_some] <;> rfl), by repeat (first | (with_reducible first | exact HB.out | apply below_alloc | apply pw_below_drewN | apply below_drew1 | refine below_set ?_ GE224.out | refine below_set ?_ GE225.out) | exact HB.out)⟩
        ·rw [if_neg c23] at H
         exact absurd H (by simp)
       ·rw [if_neg c22] at H
        exact absurd H (by simp)
      ·rw [if_neg c21] at H
       exact absurd H (by simp)
     ·rw [if_neg c20] at H
      exact absurd H (by simp)
    ·rw [if_neg c19] at H
     have c19b0 : (a1_0 == 1) = false := beq_eq_false_iff_ne.mpr c19
     have c19b1 : (a1_0 != 1) = true := bne_iff_ne.mpr c19
     by_cases c26 : a1_0 = 2
     ·rw [if_pos c26] at H
      have c26b0 : (a1_0 == 2) = true := beq_iff_eq.mpr c26
      have c26b1 : (a1_0 != 2) = false := bne_eq_false_iff_eq.mpr c26
      clear c26
      by_cases c27 : 9 + a1_1.size ≤ 9223372036854775807
      ·rw [if_pos c27] at H
       have c27b0 := eq_true c27
       have c27b1 : decide (9 + a1_1.size ≤ 9223372036854775807) = true := decide_eq_true c27
       try have c27b2 : (9223372036854775807 < 9 + a1_1.size) = False := eq_false (Nat.not_lt.2 c27)
       by_cases c28 : ((⟨#[102, 117, 110, 99, 116, 105, 111, 110, 32]⟩ : ByteArray) ++ a1_1).size + 5 ≤ 9223372036854775807
       ·rw [if_pos c28] at H
        have c28b0 := eq_true c28
        have c28b1 : decide (((⟨#[102, 117, 110, 99, 116, 105, 111, 110, 32]⟩ : ByteArray) ++ a1_1).size + 5 ≤ 9223372036854775807) = true := decide_eq_true c28
        try have c28b2 : (9223372036854775807 < ((⟨#[102, 117, 110, 99, 116, 105, 111, 110, 32]⟩ : ByteArray) ++ a1_1).size + 5) = False := eq_false (Nat.not_lt.2 c28)
        try have c28b6 : (9223372036854775807 < 9 + a1_1.size + 5) = False := by have h_ := c28b2; simp only [ByteArray.size_append] at h_; exact h_
        replace H := Option.bind_eq_some_iff.mp H
        obtain ⟨t228, A290, H⟩ := H
        replace H : (if (((⟨#[102, 117, 110, 99, 116, 105, 111, 110, 32]⟩ : ByteArray) ++ a1_1) ++ (⟨#[40, 41, 32, 123, 32]⟩ : ByteArray)).size + t228.size ≤ 9223372036854775807 then (if ((((⟨#[102, 117, 110, 99, 116, 105, 111, 110, 32]⟩ : ByteArray) ++ a1_1) ++ (⟨#[40, 41, 32, 123, 32]⟩ : ByteArray)) ++ t228).size + 4 ≤ 9223372036854775807 then (some (((((⟨#[102, 117, 110, 99, 116, 105, 111, 110, 32]⟩ : ByteArray) ++ a1_1) ++ (⟨#[40, 41, 32, 123, 32]⟩ : ByteArray)) ++ t228) ++ (⟨#[59, 32, 125, 10]⟩ : ByteArray))) else (none)) else (none)) = some r := H
        have A29 := Aside0.mk A290
        clear A290
        by_cases c30 : (((⟨#[102, 117, 110, 99, 116, 105, 111, 110, 32]⟩ : ByteArray) ++ a1_1) ++ (⟨#[40, 41, 32, 123, 32]⟩ : ByteArray)).size + t228.size ≤ 9223372036854775807
        ·rw [if_pos c30] at H
         have c30b0 := eq_true c30
         have c30b1 : decide ((((⟨#[102, 117, 110, 99, 116, 105, 111, 110, 32]⟩ : ByteArray) ++ a1_1) ++ (⟨#[40, 41, 32, 123, 32]⟩ : ByteArray)).size + t228.size ≤ 9223372036854775807) = true := decide_eq_true c30
         try have c30b2 : (9223372036854775807 < (((⟨#[102, 117, 110, 99, 116, 105, 111, 110, 32]⟩ : ByteArray) ++ a1_1) ++ (⟨#[40, 41, 32, 123, 32]⟩ : ByteArray)).size + t228.size) = False := eq_false (Nat.not_lt.2 c30)
         try have c30b6 : (9223372036854775807 < 9 + a1_1.size + 5 + t228.size) = False := by have h_ := c30b2; simp only [ByteArray.size_append] at h_; exact h_
         by_cases c31 : ((((⟨#[102, 117, 110, 99, 116, 105, 111, 110, 32]⟩ : ByteArray) ++ a1_1) ++ (⟨#[40, 41, 32, 123, 32]⟩ : ByteArray)) ++ t228).size + 4 ≤ 9223372036854775807
         ·rw [if_pos c31] at H
          have c31b0 := eq_true c31
          have c31b1 : decide (((((⟨#[102, 117, 110, 99, 116, 105, 111, 110, 32]⟩ : ByteArray) ++ a1_1) ++ (⟨#[40, 41, 32, 123, 32]⟩ : ByteArray)) ++ t228).size + 4 ≤ 9223372036854775807) = true := decide_eq_true c31
          try have c31b2 : (9223372036854775807 < ((((⟨#[102, 117, 110, 99, 116, 105, 111, 110, 32]⟩ : ByteArray) ++ a1_1) ++ (⟨#[40, 41, 32, 123, 32]⟩ : ByteArray)) ++ t228).size + 4) = False := eq_false (Nat.not_lt.2 c31)
          try have c31b6 : (9223372036854775807 < 9 + a1_1.size + 5 + t228.size + 4) = False := by have h_ := c31b2; simp only [ByteArray.size_append] at h_; exact h_
          obtain rfl := Option.some.inj H
          have hnb32 := NB225_224.out
          have hnc32 := NB224_225.out
          have hcz33_0 : wc.cell? ⟨gb225, 0, none⟩ = some (.int .i64 a1_0) := (blk_cell BK225.out 0).trans rfl
          have hcz33_1 : wc.cell? ⟨gb225, 1, none⟩ = some (.string a1_1) := (blk_cell BK225.out 1).trans rfl
          have hcz33_2 : wc.cell? ⟨gb225, 2, none⟩ = some (.int .i64 a1_2) := (blk_cell BK225.out 2).trans rfl
          have hfz33_0 := blk_frozen BK225.out 0
          have hfz33_1 := blk_frozen BK225.out 1
          have hfz33_2 := blk_frozen BK225.out 2
          go_wp2_with (first | (go_at_call 53; (with_reducible refine (impl_behind.calls (⟨#[114, 101, 116, 117, 114, 110]⟩ : ByteArray) t226 t228 _ A29.out).mono ?_); rintro e w' ⟨rfl, ⟨nd, rfl⟩⟩; (try first | exact ⟨rfl, _, World.drewN_drewN _ _ _⟩ | exact ⟨rfl, _, Eq.trans (World.drewN_drewN _ _ _) (congrArg (World.drewN _) (Nat.add_assoc _ _ _))⟩)))
          repeat (go_quiet (first | (go_at_call 53; (with_reducible refine (impl_behind.calls (⟨#[114, 101, 116, 117, 114, 110]⟩ : ByteArray) t226 t228 _ A29.out).mono ?_); rintro e w' ⟨rfl, ⟨nd, rfl⟩⟩; (try first | exact ⟨rfl, _, World.drewN_drewN _ _ _⟩ | exact ⟨rfl, _, Eq.trans (World.drewN_drewN _ _ _) (congrArg (World.drewN _) (Nat.add_assoc _ _ _))⟩))); try go_wp2_with (first | (go_at_call 53; (with_reducible refine (impl_behind.calls (⟨#[114, 101, 116, 117, 114, 110]⟩ : ByteArray) t226 t228 _ A29.out).mono ?_); rintro e w' ⟨rfl, ⟨nd, rfl⟩⟩; (try first | exact ⟨rfl, _, World.drewN_drewN _ _ _⟩ | exact ⟨rfl, _, Eq.trans (World.drewN_drewN _ _ _) (congrArg (World.drewN _) (Nat.add_assoc _ _ _))⟩))))
          go_ret
          exact ⟨by first | rfl | (simp [errW_none, errW_some] <;> rfl) | (simp [*, errW_none, errW_some] <;> rfl), by repeat (first | (with_reducible first | exact HB.out | apply below_alloc | apply pw_below_drewN | apply below_drew1 | refine below_set ?_ GE224.out | refine below_set ?_ GE225.out) | exact HB.out)⟩
         ·rw [if_neg c31] at H
          exact absurd H (by simp)
        ·rw [if_neg c30] at H
         exact absurd H (by simp)
       ·rw [if_neg c28] at H
        exact absurd H (by simp)
      ·rw [if_neg c27] at H
       exact absurd H (by simp)
     ·rw [if_neg c26] at H
      have c26b0 : (a1_0 == 2) = false := beq_eq_false_iff_ne.mpr c26
      have c26b1 : (a1_0 != 2) = true := bne_iff_ne.mpr c26
      by_cases c34 : a1_0 = 3
      ·rw [if_pos c34] at H
       have c34b0 : (a1_0 == 3) = true := beq_iff_eq.mpr c34
       have c34b1 : (a1_0 != 3) = false := bne_eq_false_iff_eq.mpr c34
       clear c34
       by_cases c35 : a1_1.size + 3 ≤ 9223372036854775807
       ·rw [if_pos c35] at H
        have c35b0 := eq_true c35
        have c35b1 : decide (a1_1.size + 3 ≤ 9223372036854775807) = true := decide_eq_true c35
        try have c35b2 : (9223372036854775807 < a1_1.size + 3) = False := eq_false (Nat.not_lt.2 c35)
        by_cases c36 : (a1_1 ++ (⟨#[32, 61, 32]⟩ : ByteArray)).size + t226.size ≤ 9223372036854775807
        ·rw [if_pos c36] at H
         have c36b0 := eq_true c36
         have c36b1 : decide ((a1_1 ++ (⟨#[32, 61, 32]⟩ : ByteArray)).size + t226.size ≤ 9223372036854775807) = true := decide_eq_true c36
         try have c36b2 : (9223372036854775807 < (a1_1 ++ (⟨#[32, 61, 32]⟩ : ByteArray)).size + t226.size) = False := eq_false (Nat.not_lt.2 c36)
         try have c36b6 : (9223372036854775807 < a1_1.size + 3 + t226.size) = False := by have h_ := c36b2; simp only [ByteArray.size_append] at h_; exact h_
         by_cases c37 : ((a1_1 ++ (⟨#[32, 61, 32]⟩ : ByteArray)) ++ t226).size + 2 ≤ 9223372036854775807
         ·rw [if_pos c37] at H
          have c37b0 := eq_true c37
          have c37b1 : decide (((a1_1 ++ (⟨#[32, 61, 32]⟩ : ByteArray)) ++ t226).size + 2 ≤ 9223372036854775807) = true := decide_eq_true c37
          try have c37b2 : (9223372036854775807 < ((a1_1 ++ (⟨#[32, 61, 32]⟩ : ByteArray)) ++ t226).size + 2) = False := eq_false (Nat.not_lt.2 c37)
          try have c37b6 : (9223372036854775807 < a1_1.size + 3 + t226.size + 2) = False := by have h_ := c37b2; simp only [ByteArray.size_append] at h_; exact h_
          obtain rfl := Option.some.inj H
          have hnb38 := NB225_224.out
          have hnc38 := NB224_225.out
          have hcz39_0 : wc.cell? ⟨gb225, 0, none⟩ = some (.int .i64 a1_0) := (blk_cell BK225.out 0).trans rfl
          have hcz39_1 : wc.cell? ⟨gb225, 1, none⟩ = some (.string a1_1) := (blk_cell BK225.out 1).trans rfl
          have hcz39_2 : wc.cell? ⟨gb225, 2, none⟩ = some (.int .i64 a1_2) := (blk_cell BK225.out 2).trans rfl
          have hfz39_0 := blk_frozen BK225.out 0
          have hfz39_1 := blk_frozen BK225.out 1
          have hfz39_2 := blk_frozen BK225.out 2
          go_wp2
          repeat (go_quiet (fail); try go_wp2)
          go_ret
          exact ⟨by first | rfl | (simp [errW_none, errW_some] <;> rfl) | (simp [*, errW_none, errW_some] <;> rfl), by repeat (first | (with_reducible first | exact HB.out | apply below_alloc | apply pw_below_drewN | apply below_drew1 | refine below_set ?_ GE224.out | refine below_set ?_ GE225.out) | exact HB.out)⟩
         ·rw [if_neg c37] at H
          exact absurd H (by simp)
        ·rw [if_neg c36] at H
         exact absurd H (by simp)
       ·rw [if_neg c35] at H
        exact absurd H (by simp)
      ·rw [if_neg c34] at H
       have c34b0 : (a1_0 == 3) = false := beq_eq_false_iff_ne.mpr c34
       have c34b1 : (a1_0 != 3) = true := bne_iff_ne.mpr c34
       by_cases c40 : a1_0 = 4
       ·rw [if_pos c40] at H
        have c40b0 : (a1_0 == 4) = true := beq_iff_eq.mpr c40
        have c40b1 : (a1_0 != 4) = false := bne_eq_false_iff_eq.mpr c40
        clear c40
        by_cases c41 : 6 + t226.size ≤ 9223372036854775807
        ·rw [if_pos c41] at H
         have c41b0 := eq_true c41
         have c41b1 : decide (6 + t226.size ≤ 9223372036854775807) = true := decide_eq_true c41
         try have c41b2 : (9223372036854775807 < 6 + t226.size) = False := eq_false (Nat.not_lt.2 c41)
         by_cases c42 : ((⟨#[112, 114, 105, 110, 116, 40]⟩ : ByteArray) ++ t226).size + 3 ≤ 9223372036854775807
         ·rw [if_pos c42] at H
          have c42b0 := eq_true c42
          have c42b1 : decide (((⟨#[112, 114, 105, 110, 116, 40]⟩ : ByteArray) ++ t226).size + 3 ≤ 9223372036854775807) = true := decide_eq_true c42
          try have c42b2 : (9223372036854775807 < ((⟨#[112, 114, 105, 110, 116, 40]⟩ : ByteArray) ++ t226).size + 3) = False := eq_false (Nat.not_lt.2 c42)
          try have c42b6 : (9223372036854775807 < 6 + t226.size + 3) = False := by have h_ := c42b2; simp only [ByteArray.size_append] at h_; exact h_
          obtain rfl := Option.some.inj H
          have hnb43 := NB225_224.out
          have hnc43 := NB224_225.out
          have hcz44_0 : wc.cell? ⟨gb225, 0, none⟩ = some (.int .i64 a1_0) := (blk_cell BK225.out 0).trans rfl
          have hcz44_1 : wc.cell? ⟨gb225, 1, none⟩ = some (.string a1_1) := (blk_cell BK225.out 1).trans rfl
          have hcz44_2 : wc.cell? ⟨gb225, 2, none⟩ = some (.int .i64 a1_2) := (blk_cell BK225.out 2).trans rfl
          have hfz44_0 := blk_frozen BK225.out 0
          have hfz44_1 := blk_frozen BK225.out 1
          have hfz44_2 := blk_frozen BK225.out 2
          go_wp2
          repeat (go_quiet (fail); try go_wp2)
          go_ret
          exact ⟨by first | rfl | (simp [errW_none, errW_some] <;> rfl) | (simp [*, errW_none, errW_some] <;> rfl), by repeat (first | (with_reducible first | exact HB.out | apply below_alloc | apply pw_below_drewN | apply below_drew1 | refine below_set ?_ GE224.out | refine below_set ?_ GE225.out) | exact HB.out)⟩
         ·rw [if_neg c42] at H
          exact absurd H (by simp)
        ·rw [if_neg c41] at H
         exact absurd H (by simp)
       ·rw [if_neg c40] at H
        have c40b0 : (a1_0 == 4) = false := beq_eq_false_iff_ne.mpr c40
        have c40b1 : (a1_0 != 4) = true := bne_iff_ne.mpr c40
        by_cases c45 : a1_0 = 5
        ·rw [if_pos c45] at H
         have c45b0 : (a1_0 == 5) = true := beq_iff_eq.mpr c45
         have c45b1 : (a1_0 != 5) = false := bne_eq_false_iff_eq.mpr c45
         clear c45
         replace H := Option.bind_eq_some_iff.mp H
         obtain ⟨t229, A460, H⟩ := H
         replace H : (if t229.size + 2 ≤ 9223372036854775807 then (some (t229 ++ (⟨#[59, 10]⟩ : ByteArray))) else (none)) = some r := H
         have A46 := Aside0.mk A460
         clear A460
         by_cases c47 : t229.size + 2 ≤ 9223372036854775807
         ·rw [if_pos c47] at H
          have c47b0 := eq_true c47
          have c47b1 : decide (t229.size + 2 ≤ 9223372036854775807) = true := decide_eq_true c47
          try have c47b2 : (9223372036854775807 < t229.size + 2) = False := eq_false (Nat.not_lt.2 c47)
          obtain rfl := Option.some.inj H
          have hnb48 := NB225_224.out
          have hnc48 := NB224_225.out
          have hcz49_0 : wc.cell? ⟨gb225, 0, none⟩ = some (.int .i64 a1_0) := (blk_cell BK225.out 0).trans rfl
          have hcz49_1 : wc.cell? ⟨gb225, 1, none⟩ = some (.string a1_1) := (blk_cell BK225.out 1).trans rfl
          have hcz49_2 : wc.cell? ⟨gb225, 2, none⟩ = some (.int .i64 a1_2) := (blk_cell BK225.out 2).trans rfl
          have hfz49_0 := blk_frozen BK225.out 0
          have hfz49_1 := blk_frozen BK225.out 1
          have hfz49_2 := blk_frozen BK225.out 2
          go_wp2_with (first | (go_at_call 53; (with_reducible refine (impl_behind.calls (⟨#[116, 104, 114, 111, 119]⟩ : ByteArray) t226 t229 _ A46.out).mono ?_); rintro e w' ⟨rfl, ⟨nd, rfl⟩⟩; (try first | exact ⟨rfl, _, World.drewN_drewN _ _ _⟩ | exact ⟨rfl, _, Eq.trans (World.drewN_drewN _ _ _) (congrArg (World.drewN _) (Nat.add_assoc _ _ _))⟩)))
          repeat (go_quiet (first | (go_at_call 53; (with_reducible refine (impl_behind.calls (⟨#[116, 104, 114, 111, 119]⟩ : ByteArray) t226 t229 _ A46.out).mono ?_); rintro e w' ⟨rfl, ⟨nd, rfl⟩⟩; (try first | exact ⟨rfl, _, World.drewN_drewN _ _ _⟩ | exact ⟨rfl, _, Eq.trans (World.drewN_drewN _ _ _) (congrArg (World.drewN _) (Nat.add_assoc _ _ _))⟩))); try go_wp2_with (first | (go_at_call 53; (with_reducible refine (impl_behind.calls (⟨#[116, 104, 114, 111, 119]⟩ : ByteArray) t226 t229 _ A46.out).mono ?_); rintro e w' ⟨rfl, ⟨nd, rfl⟩⟩; (try first | exact ⟨rfl, _, World.drewN_drewN _ _ _⟩ | exact ⟨rfl, _, Eq.trans (World.drewN_drewN _ _ _) (congrArg (World.drewN _) (Nat.add_assoc _ _ _))⟩))))
          go_ret
          exact ⟨by first | rfl | (simp [errW_none, errW_some] <;> rfl) | (simp [*, errW_none, errW_some] <;> rfl), by repeat (first | (with_reducible first | exact HB.out | apply below_alloc | apply pw_below_drewN | apply below_drew1 | refine below_set ?_ GE224.out | refine below_set ?_ GE225.out) | exact HB.out)⟩
         ·rw [if_neg c47] at H
          exact absurd H (by simp)
        ·rw [if_neg c45] at H
         have c45b0 : (a1_0 == 5) = false := beq_eq_false_iff_ne.mpr c45
         have c45b1 : (a1_0 != 5) = true := bne_iff_ne.mpr c45
         replace H := Option.bind_eq_some_iff.mp H
         obtain ⟨t230, A500, H⟩ := H
         replace H : (if t230.size + 2 ≤ 9223372036854775807 then (some (t230 ++ (⟨#[59, 10]⟩ : ByteArray))) else (none)) = some r := H
         have A50 := Aside0.mk A500
         clear A500
         by_cases c51 : t230.size + 2 ≤ 9223372036854775807
         ·rw [if_pos c51] at H
          have c51b0 := eq_true c51
          have c51b1 : decide (t230.size + 2 ≤ 9223372036854775807) = true := decide_eq_true c51
          try have c51b2 : (9223372036854775807 < t230.size + 2) = False := eq_false (Nat.not_lt.2 c51)
          obtain rfl := Option.some.inj H
          have hnb52 := NB225_224.out
          have hnc52 := NB224_225.out
          have hcz53_0 : wc.cell? ⟨gb225, 0, none⟩ = some (.int .i64 a1_0) := (blk_cell BK225.out 0).trans rfl
          have hcz53_1 : wc.cell? ⟨gb225, 1, none⟩ = some (.string a1_1) := (blk_cell BK225.out 1).trans rfl
          have hcz53_2 : wc.cell? ⟨gb225, 2, none⟩ = some (.int .i64 a1_2) := (blk_cell BK225.out 2).trans rfl
          have hfz53_0 := blk_frozen BK225.out 0
          have hfz53_1 := blk_frozen BK225.out 1
          have hfz53_2 := blk_frozen BK225.out 2
          go_wp2_with (first | (go_at_call 53; (with_reducible refine (impl_behind.calls (⟨#[102, 97, 105, 108]⟩ : ByteArray) t226 t230 _ A50.out).mono ?_); rintro e w' ⟨rfl, ⟨nd, rfl⟩⟩; (try first | exact ⟨rfl, _, World.drewN_drewN _ _ _⟩ | exact ⟨rfl, _, Eq.trans (World.drewN_drewN _ _ _) (congrArg (World.drewN _) (Nat.add_assoc _ _ _))⟩)))
          repeat (go_quiet (first | (go_at_call 53; (with_reducible refine (impl_behind.calls (⟨#[102, 97, 105, 108]⟩ : ByteArray) t226 t230 _ A50.out).mono ?_); rintro e w' ⟨rfl, ⟨nd, rfl⟩⟩; (try first | exact ⟨rfl, _, World.drewN_drewN _ _ _⟩ | exact ⟨rfl, _, Eq.trans (World.drewN_drewN _ _ _) (congrArg (World.drewN _) (Nat.add_assoc _ _ _))⟩))); try go_wp2_with (first | (go_at_call 53; (with_reducible refine (impl_behind.calls (⟨#[102, 97, 105, 108]⟩ : ByteArray) t226 t230 _ A50.out).mono ?_); rintro e w' ⟨rfl, ⟨nd, rfl⟩⟩; (try first | exact ⟨rfl, _, World.drewN_drewN _ _ _⟩ | exact ⟨rfl, _, Eq.trans (World.drewN_drewN _ _ _) (congrArg (World.drewN _) (Nat.add_assoc _ _ _))⟩))))
          go_ret
          exact ⟨by first | rfl | (simp [errW_none, errW_some] <;> rfl) | (simp [*, errW_none, errW_some] <;> rfl), by repeat (first | (with_reducible first | exact HB.out | apply below_alloc | apply pw_below_drewN | apply below_drew1 | refine below_set ?_ GE224.out | refine below_set ?_ GE225.out) | exact HB.out)⟩
         ·rw [if_neg c51] at H
          exact absurd H (by simp)

end Go.Proofs.YtnakdhpefkllmaaDoor.PFnExactKnown

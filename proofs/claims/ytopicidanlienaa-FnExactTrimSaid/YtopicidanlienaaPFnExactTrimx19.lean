-- The law's functions out of a printed text; its contract by hand.
import Derived.Test.YtopicidanlienaaPFnExactTrimx0
import Derived.Test.YtopicidanlienaaPFnExactTrimx2
import Derived.Test.YtopicidanlienaaPFnExactTrimx3
import Derived.Test.YtopicidanlienaaPFnExactTrimx5
import Derived.Test.YtopicidanlienaaPFnExactTrimx6
import Derived.Test.YtopicidanlienaaPFnExactTrimx10
import Derived.Test.YtopicidanlienaaPFnExactTrimx12
import Derived.Test.YtopicidanlienaaPFnExactTrimx18
namespace Go.Proofs.Ytopicidanlienaa.PFnExactTrim
open Go.RowKit Go.Proofs.YtopicidanlienaaW.PrintWords Go.Proofs.YtopicidanlienaaW.PrintLast Go.Proofs.YtopicidanlienaaW.PrintMore
attribute [local go_sem] max2_int min2_int max_two min_two max_three min_three max_four min_four   -- for this text's walks alone
set_option linter.unusedVariables false
set_option linter.unusedSimpArgs false

/-! ### laws_FnExactTrim: function 5 -/
def laws_FnExactTrim.j0 : Nat → Bool → List ByteArray → List (S77) → List (S79) → List (S81) → List (S83) → List ByteArray → List (S73) → List (S55) → List (S53) → List (S50) → List ByteArray → List (S73) → List (S55) → List (S53) → List (S50) → Option (Bool)
 | 0, _, _, _, _, _, _, _, _, _, _, _, _, _, _, _, _ => none
 | k + 1, x42, x487000, x487001, x487002, x487003, x487004, x519000, x519001, x519002, x519003, x519004, x551000, x551001, x551002, x551003, x551004 => if x42 = true then (some false) else ((laws_markMod.f k x551000 x551001 x551002 x551003 x551004 1).bind fun bt575 => ((laws_heldMod.f k bt575.2.1 bt575.2.2.1 bt575.2.2.2.1 bt575.2.2.2.2.1 bt575.2.2.2.2.2 1).bind fun t581 => (if t581 < 0 then (some false) else (if t581 = bt575.1 then ((laws_toMod.f k x487000 x487001 x487002 x487003 x487004).bind fun bt582 => ((impl_Trim.f k bt582.1 bt582.2.1 bt582.2.2.1 bt582.2.2.2.1 bt582.2.2.2.2).bind fun bt597 => ((laws_eqMod.f k bt597.1 bt597.2.1 bt597.2.2.1 bt597.2.2.2.1 bt597.2.2.2.2 x519000 x519001 x519002 x519003 x519004).bind fun t613 => (if t613 = true then ((laws_heldMod.f k bt575.2.1 bt575.2.2.1 bt575.2.2.2.1 bt575.2.2.2.2.1 bt575.2.2.2.2.2 1).bind fun t614 => (if t614 < 0 then (some false) else (if t614 = bt575.1 then (some true) else (some false)))) else (some false))))) else (some false)))))
def laws_FnExactTrim.f (k : Nat) (l0_0 : List ByteArray) (l0_1 : List (S77)) (l0_2 : List (S79)) (l0_3 : List (S81)) (l0_4 : List (S83)) : Option (Bool) := (laws_szMod.f k l0_0 l0_1 l0_2 l0_3 l0_4 1048576).bind fun t487 => (if t487 < 0 then (some true) else ((laws_toMod.f k l0_0 l0_1 l0_2 l0_3 l0_4).bind fun bt488 => ((spec_Trim.f k bt488.1 bt488.2.1 bt488.2.2.1 bt488.2.2.2.1 bt488.2.2.2.2).bind fun bt503 => ((laws_toMod.f k l0_0 l0_1 l0_2 l0_3 l0_4).bind fun bt519 => ((impl_Trim.f k bt519.1 bt519.2.1 bt519.2.2.1 bt519.2.2.2.1 bt519.2.2.2.2).bind fun bt535 => ((laws_eqMod.f k bt535.1 bt535.2.1 bt535.2.2.1 bt535.2.2.2.1 bt535.2.2.2.2 bt503.1 bt503.2.1 bt503.2.2.1 bt503.2.2.2.1 bt503.2.2.2.2).bind fun t551 => (if t551 = true then ((laws_toMod.f k l0_0 l0_1 l0_2 l0_3 l0_4).bind fun bt552 => ((laws_eqMod.f k bt519.1 bt519.2.1 bt519.2.2.1 bt519.2.2.2.1 bt519.2.2.2.2 bt552.1 bt552.2.1 bt552.2.2.1 bt552.2.2.2.1 bt552.2.2.2.2).bind fun t567 => (if t567 = true then ((laws_markMod.f k bt519.1 bt519.2.1 bt519.2.2.1 bt519.2.2.2.1 bt519.2.2.2.2 1).bind fun bt568 => (if bt568.1 < 0 then (laws_FnExactTrim.j0 k true l0_0 l0_1 l0_2 l0_3 l0_4 bt503.1 bt503.2.1 bt503.2.2.1 bt503.2.2.2.1 bt503.2.2.2.2 bt535.1 bt535.2.1 bt535.2.2.1 bt535.2.2.2.1 bt535.2.2.2.2) else ((laws_eqMod.f k bt535.1 bt535.2.1 bt535.2.2.1 bt535.2.2.2.1 bt535.2.2.2.2 bt503.1 bt503.2.1 bt503.2.2.1 bt503.2.2.2.1 bt503.2.2.2.2).bind fun t574 => (laws_FnExactTrim.j0 k (!t574) l0_0 l0_1 l0_2 l0_3 l0_4 bt503.1 bt503.2.1 bt503.2.2.1 bt503.2.2.2.1 bt503.2.2.2.2 bt535.1 bt535.2.1 bt535.2.2.1 bt535.2.2.2.1 bt535.2.2.2.2)))) else (some false)))) else (some false))))))))
theorem laws_FnExactTrim.mono_l : ∀ k, (∀ y0 y1 y2 y3 y4 y5 y6 y7 y8 y9 y10 y11 y12 y13 y14 y15, LeO (laws_FnExactTrim.j0 k y0 y1 y2 y3 y4 y5 y6 y7 y8 y9 y10 y11 y12 y13 y14 y15) (laws_FnExactTrim.j0 (k + 1) y0 y1 y2 y3 y4 y5 y6 y7 y8 y9 y10 y11 y12 y13 y14 y15))
 | 0 => fun _ _ _ _ _ _ _ _ _ _ _ _ _ _ _ _ r h => by simp [laws_FnExactTrim.j0] at h
 | k + 1 => by
  have ih0 := laws_FnExactTrim.mono_l k
  ·intro y0 y1 y2 y3 y4 y5 y6 y7 y8 y9 y10 y11 y12 y13 y14 y15
   unfold laws_FnExactTrim.j0
   repeat' (first | (with_reducible first | exact ih0 _ _ _ _ _ _ _ _ _ _ _ _ _ _ _ _ | exact impl_Trim.mono _ _ _ _ _ _ | exact laws_eqMod.mono _ _ _ _ _ _ _ _ _ _ _ | exact laws_heldMod.mono _ _ _ _ _ _ _ | exact laws_markMod.mono _ _ _ _ _ _ _ | exact laws_szMod.mono _ _ _ _ _ _ _ | exact laws_toMod.mono _ _ _ _ _ _ | exact spec_Trim.mono _ _ _ _ _ _ | exact LeO.refl _ | exact LeO.none _ | refine LeO.ite ?_ ?_ | refine LeO.bind ?_ (fun _ => ?_)) | exact LeO.none _ | refine LeO.ite ?_ ?_ | refine LeO.bind ?_ (fun _ => ?_))
theorem laws_FnExactTrim.mono : ∀ a0 a1 a2 a3 a4 k, LeO (laws_FnExactTrim.f k a0 a1 a2 a3 a4) (laws_FnExactTrim.f (k + 1) a0 a1 a2 a3 a4) := by
 intro a0 a1 a2 a3 a4 k
 have ih0 := laws_FnExactTrim.mono_l k
 unfold laws_FnExactTrim.f
 repeat' (first | (with_reducible first | exact ih0 _ _ _ _ _ _ _ _ _ _ _ _ _ _ _ _ | exact impl_Trim.mono _ _ _ _ _ _ | exact laws_eqMod.mono _ _ _ _ _ _ _ _ _ _ _ | exact laws_heldMod.mono _ _ _ _ _ _ _ | exact laws_markMod.mono _ _ _ _ _ _ _ | exact laws_szMod.mono _ _ _ _ _ _ _ | exact laws_toMod.mono _ _ _ _ _ _ | exact spec_Trim.mono _ _ _ _ _ _ | exact LeO.refl _ | exact LeO.none _ | refine LeO.ite ?_ ?_ | refine LeO.bind ?_ (fun _ => ?_)) | exact LeO.none _ | refine LeO.ite ?_ ?_ | refine LeO.bind ?_ (fun _ => ?_))
def MV (B : Nat) (ok : Nat → Prop) (W : World) (A0 : Option Addr) (c0 : Nat) (A1 : Option Addr) (c1 : Nat) (A2 : Option Addr) (c2 : Nat) (A3 : Option Addr) (c3 : Nat) (A4 : Option Addr) (c4 : Nat) (l0 : List ByteArray) (l1 : List S73) (l2 : List S55) (l3 : List S53) (l4 : List S50) : Prop :=
 Kd.R Kd.string 9 W B ok (.slice A0 l0.length c0) l0 ∧ Kd.R k73 73 W B ok (.slice A1 l1.length c1) l1 ∧ Kd.R k55 55 W B ok (.slice A2 l2.length c2) l2 ∧ Kd.R k53 53 W B ok (.slice A3 l3.length c3) l3 ∧ Kd.R k50 50 W B ok (.slice A4 l4.length c4) l4
def MB (B : Nat) (ok : Nat → Prop) (W : World) (b : Nat) (A0 : Option Addr) (c0 : Nat) (A1 : Option Addr) (c1 : Nat) (A2 : Option Addr) (c2 : Nat) (A3 : Option Addr) (c3 : Nat) (A4 : Option Addr) (c4 : Nat) (l0 : List ByteArray) (l1 : List S73) (l2 : List S55) (l3 : List S53) (l4 : List S50) : Prop := W.heap[b]? = some (.cells #[.slice A0 l0.length c0, .slice A1 l1.length c1, .slice A2 l2.length c2, .slice A3 l3.length c3, .slice A4 l4.length c4] 36 (0, 0)) ∧ MV B ok W A0 c0 A1 c1 A2 c2 A3 c3 A4 c4 l0 l1 l2 l3 l4
section
variable {B : Nat} {ok ok' : Nat → Prop} {W W' : World} {b : Nat} {A0 A1 A2 A3 A4 : Option Addr} {c0 c1 c2 c3 c4 : Nat} {l0 : List ByteArray} {l1 : List S73} {l2 : List S55} {l3 : List S53} {l4 : List S50}
theorem MV_mono (h : MV B ok W A0 c0 A1 c1 A2 c2 A3 c3 A4 c4 l0 l1 l2 l3 l4) (hk : ∀ k, ok k → ok' k) : MV B ok' W A0 c0 A1 c1 A2 c2 A3 c3 A4 c4 l0 l1 l2 l3 l4 := ⟨Kd.R_mono h.1 hk, Kd.R_mono h.2.1 hk, Kd.R_mono h.2.2.1 hk, Kd.R_mono h.2.2.2.1 hk, Kd.R_mono h.2.2.2.2 hk⟩
theorem MV_below (h : MV B ok W A0 c0 A1 c1 A2 c2 A3 c3 A4 c4 l0 l1 l2 l3 l4) (hb : Below W.heap.size W W') : MV B ok W' A0 c0 A1 c1 A2 c2 A3 c3 A4 c4 l0 l1 l2 l3 l4 := ⟨Kd.R_below h.1 hb, Kd.R_below h.2.1 hb, Kd.R_below h.2.2.1 hb, Kd.R_below h.2.2.2.1 hb, Kd.R_below h.2.2.2.2 hb⟩
theorem MV_lower {B' : Nat} (h : MV B ok W A0 c0 A1 c1 A2 c2 A3 c3 A4 c4 l0 l1 l2 l3 l4) (hb : B' ≤ B) : MV B' ok W A0 c0 A1 c1 A2 c2 A3 c3 A4 c4 l0 l1 l2 l3 l4 := ⟨Kd.R_lower h.1 hb, Kd.R_lower h.2.1 hb, Kd.R_lower h.2.2.1 hb, Kd.R_lower h.2.2.2.1 hb, Kd.R_lower h.2.2.2.2 hb⟩
theorem MV_kept {S : Nat → Prop} (h : MV B ok W A0 c0 A1 c1 A2 c2 A3 c3 A4 c4 l0 l1 l2 l3 l4) (hk : Kept W W' S) (hn : ∀ k, ok k → ¬ S k) : MV B ok W' A0 c0 A1 c1 A2 c2 A3 c3 A4 c4 l0 l1 l2 l3 l4 := ⟨Kd.R_kept h.1 hk hn, Kd.R_kept h.2.1 hk hn, Kd.R_kept h.2.2.1 hk hn, Kd.R_kept h.2.2.2.1 hk hn, Kd.R_kept h.2.2.2.2 hk hn⟩
theorem MV_bound {cs : Array Value} (h : MV B ok W A0 c0 A1 c1 A2 c2 A3 c3 A4 c4 l0 l1 l2 l3 l4) (hx : W.heap[b]? = some (.cells cs 36 (0, 0))) : MV B (fun k => (B ≤ k ∧ k < W.heap.size) ∧ k ≠ b) W A0 c0 A1 c1 A2 c2 A3 c3 A4 c4 l0 l1 l2 l3 l4 := ⟨Kd.R_mono (Kd.R_types (Kd.R_bound h.1) hx (by decide)) (fun _ hk => ⟨⟨hk.1.2.1, hk.1.2.2.1⟩, hk.2⟩), Kd.R_mono (Kd.R_types (Kd.R_bound h.2.1) hx (by decide)) (fun _ hk => ⟨⟨hk.1.2.1, hk.1.2.2.1⟩, hk.2⟩), Kd.R_mono (Kd.R_types (Kd.R_bound h.2.2.1) hx (by decide)) (fun _ hk => ⟨⟨hk.1.2.1, hk.1.2.2.1⟩, hk.2⟩), Kd.R_mono (Kd.R_types (Kd.R_bound h.2.2.2.1) hx (by decide)) (fun _ hk => ⟨⟨hk.1.2.1, hk.1.2.2.1⟩, hk.2⟩), Kd.R_mono (Kd.R_types (Kd.R_bound h.2.2.2.2) hx (by decide)) (fun _ hk => ⟨⟨hk.1.2.1, hk.1.2.2.1⟩, hk.2⟩)⟩
theorem MB_below (h : MB B ok W b A0 c0 A1 c1 A2 c2 A3 c3 A4 c4 l0 l1 l2 l3 l4) (hb : Below W.heap.size W W') : MB B ok W' b A0 c0 A1 c1 A2 c2 A3 c3 A4 c4 l0 l1 l2 l3 l4 := ⟨blk_below h.1 hb, MV_below h.2 hb⟩
theorem MB_kept {S : Nat → Prop} (h : MB B ok W b A0 c0 A1 c1 A2 c2 A3 c3 A4 c4 l0 l1 l2 l3 l4) (hk : Kept W W' S) (hn : ∀ k, ok k → ¬ S k) (hb : ¬ S b) : MB B ok W' b A0 c0 A1 c1 A2 c2 A3 c3 A4 c4 l0 l1 l2 l3 l4 := ⟨blk_kept h.1 hk hb, MV_kept h.2 hk hn⟩
theorem MB_new {W1 : World} (h : MV B ok W A0 c0 A1 c1 A2 c2 A3 c3 A4 c4 l0 l1 l2 l3 l4) (hx : W1.heap[b]? = some (.cells #[.slice none 0 0, .slice none 0 0, .slice none 0 0, .slice none 0 0, .slice none 0 0] 36 (0, 0))) (hb : Below W.heap.size W W1) (hge : W.heap.size ≤ b) : ∀ W2, W2 = (((((W1.setCell ⟨b, 0, none⟩ (.slice A0 l0.length c0)).setCell ⟨b, 1, none⟩ (.slice A1 l1.length c1)).setCell ⟨b, 2, none⟩ (.slice A2 l2.length c2)).setCell ⟨b, 3, none⟩ (.slice A3 l3.length c3)).setCell ⟨b, 4, none⟩ (.slice A4 l4.length c4)) → MB B (fun k => (B ≤ k ∧ k < W2.heap.size) ∧ k ≠ b) W2 b A0 c0 A1 c1 A2 c2 A3 c3 A4 c4 l0 l1 l2 l3 l4 ∧ Below W.heap.size W W2 ∧ b < W2.heap.size := by
 rintro W2 rfl
 have hx2 := impl_Trim.five (u := (.slice A0 l0.length c0)) (v := (.slice A1 l1.length c1)) (z := (.slice A2 l2.length c2)) (y := (.slice A3 l3.length c3)) (x := (.slice A4 l4.length c4)) hx
 have hb2 := (below_set (j := 4) (v := (.slice A4 l4.length c4)) (below_set (j := 3) (v := (.slice A3 l3.length c3)) (below_set (j := 2) (v := (.slice A2 l2.length c2)) (below_set (j := 1) (v := (.slice A1 l1.length c1)) (below_set (j := 0) (v := (.slice A0 l0.length c0)) hb hge) hge) hge) hge) hge)
 exact ⟨⟨hx2, MV_bound (MV_below h hb2) hx2⟩, hb2, blk_lt hx2⟩
theorem c_sp (k : Nat) {r0 : List ByteArray} {r1 : List S73} {r2 : List S55} {r3 : List S53} {r4 : List S50} (h : MV B ok W A0 c0 A1 c1 A2 c2 A3 c3 A4 c4 l0 l1 l2 l3 l4) (e : spec_Trim.f k l0 l1 l2 l3 l4 = some (r0, r1, r2, r3, r4)) :
  Calls Try.prog 17 #[.agg #[.slice A0 l0.length c0, .slice A1 l1.length c1, .slice A2 l2.length c2, .slice A3 l3.length c3, .slice A4 l4.length c4]] W (fun e w' => ∃ A0 c0 A1 c1 A2 c2 A3 c3 A4 c4, e = .returned (.agg #[.slice A0 r0.length c0, .slice A1 r1.length c1, .slice A2 r2.length c2, .slice A3 r3.length c3, .slice A4 r4.length c4]) ∧ MV W.heap.size (fun _ => True) w' A0 c0 A1 c1 A2 c2 A3 c3 A4 c4 r0 r1 r2 r3 r4 ∧ Below W.heap.size W w') := by
 refine (spec_Trim.calls k _ _ l0 _ _ l1 _ _ l2 _ _ l3 _ _ l4 r0 r1 r2 r3 r4 _ (Kd.R_reads' h.1).2.2 (Kd.R_reads' h.1).2.1 (Kd.R_reads' h.2.1).2.2 (Kd.R_reads' h.2.1).2.1 (Kd.R_reads' h.2.2.1).2.2 (Kd.R_reads' h.2.2.1).2.1 (Kd.R_reads' h.2.2.2.1).2.2 (Kd.R_reads' h.2.2.2.1).2.1 (Kd.R_reads' h.2.2.2.2).2.2 (Kd.R_reads' h.2.2.2.2).2.1 e).mono ?_
 rintro e w' ⟨v0, v1, v2, v3, v4, rfl, o0, o1, o2, o3, o4, hb⟩
 obtain ⟨A0, c0, rfl, _, _⟩ := Kd.R_reads o0
 obtain ⟨A1, c1, rfl, _, _⟩ := Kd.R_reads o1
 obtain ⟨A2, c2, rfl, _, _⟩ := Kd.R_reads o2
 obtain ⟨A3, c3, rfl, _, _⟩ := Kd.R_reads o3
 obtain ⟨A4, c4, rfl, _, _⟩ := Kd.R_reads o4
 exact ⟨A0, c0, A1, c1, A2, c2, A3, c3, A4, c4, rfl, ⟨o0, o1, o2, o3, o4⟩, hb⟩
theorem c_im (k : Nat) {r0 : List ByteArray} {r1 : List S73} {r2 : List S55} {r3 : List S53} {r4 : List S50} (h : MV B ok W A0 c0 A1 c1 A2 c2 A3 c3 A4 c4 l0 l1 l2 l3 l4) (e : impl_Trim.f k l0 l1 l2 l3 l4 = some (r0, r1, r2, r3, r4)) :
  Calls Try.prog 18 #[.agg #[.slice A0 l0.length c0, .slice A1 l1.length c1, .slice A2 l2.length c2, .slice A3 l3.length c3, .slice A4 l4.length c4]] W (fun e w' => ∃ A0 c0 A1 c1 A2 c2 A3 c3 A4 c4, e = .returned (.agg #[.slice A0 r0.length c0, .slice A1 r1.length c1, .slice A2 r2.length c2, .slice A3 r3.length c3, .slice A4 r4.length c4]) ∧ MV W.heap.size (fun _ => True) w' A0 c0 A1 c1 A2 c2 A3 c3 A4 c4 r0 r1 r2 r3 r4 ∧ Below W.heap.size W w') := by
 refine (impl_Trim.calls k _ _ l0 _ _ l1 _ _ l2 _ _ l3 _ _ l4 r0 r1 r2 r3 r4 _ (Kd.R_reads' h.1).2.2 (Kd.R_reads' h.1).2.1 (Kd.R_reads' h.2.1).2.2 (Kd.R_reads' h.2.1).2.1 (Kd.R_reads' h.2.2.1).2.2 (Kd.R_reads' h.2.2.1).2.1 (Kd.R_reads' h.2.2.2.1).2.2 (Kd.R_reads' h.2.2.2.1).2.1 (Kd.R_reads' h.2.2.2.2).2.2 (Kd.R_reads' h.2.2.2.2).2.1 e).mono ?_
 rintro e w' ⟨v0, v1, v2, v3, v4, rfl, o0, o1, o2, o3, o4, hb⟩
 obtain ⟨A0, c0, rfl, _, _⟩ := Kd.R_reads o0
 obtain ⟨A1, c1, rfl, _, _⟩ := Kd.R_reads o1
 obtain ⟨A2, c2, rfl, _, _⟩ := Kd.R_reads o2
 obtain ⟨A3, c3, rfl, _, _⟩ := Kd.R_reads o3
 obtain ⟨A4, c4, rfl, _, _⟩ := Kd.R_reads o4
 exact ⟨A0, c0, A1, c1, A2, c2, A3, c3, A4, c4, rfl, ⟨o0, o1, o2, o3, o4⟩, hb⟩
theorem c_he (k : Nat) {n r : Int} (h : MV B ok W A0 c0 A1 c1 A2 c2 A3 c3 A4 c4 l0 l1 l2 l3 l4) (e : laws_heldMod.f k l0 l1 l2 l3 l4 n = some r) : Calls Try.prog 19 #[.agg #[.slice A0 l0.length c0, .slice A1 l1.length c1, .slice A2 l2.length c2, .slice A3 l3.length c3, .slice A4 l4.length c4], .int .i64 n] W (fun e w' => e = .returned (.int .i64 r) ∧ Below W.heap.size W w') := laws_heldMod.calls k _ _ l0 _ _ l1 _ _ l2 _ _ l3 _ _ l4 n r _ (Kd.R_reads' h.1).2.2 (Kd.R_reads' h.1).2.1 (Kd.R_reads' h.2.1).2.2 (Kd.R_reads' h.2.1).2.1 (Kd.R_reads' h.2.2.1).2.2 (Kd.R_reads' h.2.2.1).2.1 (Kd.R_reads' h.2.2.2.1).2.2 (Kd.R_reads' h.2.2.2.1).2.1 (Kd.R_reads' h.2.2.2.2).2.2 (Kd.R_reads' h.2.2.2.2).2.1 e
theorem c_mk (k : Nat) {n r : Int} {w0 : World} {r0 : List ByteArray} {r1 : List S73} {r2 : List S55} {r3 : List S53} {r4 : List S50} (hB : Below w0.heap.size w0 W) (h : MV w0.heap.size ok W A0 c0 A1 c1 A2 c2 A3 c3 A4 c4 l0 l1 l2 l3 l4) (e : laws_markMod.f k l0 l1 l2 l3 l4 n = some (r, r0, r1, r2, r3, r4)) :
  Calls Try.prog 12 #[.agg #[.slice A0 l0.length c0, .slice A1 l1.length c1, .slice A2 l2.length c2, .slice A3 l3.length c3, .slice A4 l4.length c4], .int .i64 n] W (fun e w' => e = .returned (.int .i64 r) ∧ (l0.length = r0.length ∧ l1.length = r1.length ∧ l2.length = r2.length ∧ l3.length = r3.length ∧ l4.length = r4.length) ∧ MV w0.heap.size (fun _ => True) w' A0 c0 A1 c1 A2 c2 A3 c3 A4 c4 r0 r1 r2 r3 r4 ∧ Below w0.heap.size w0 w' ∧ Kept W w' ok) := by
 refine (laws_markMod.calls k ok _ l0 ok _ l1 ok _ l2 ok _ l3 ok _ l4 n r r0 r1 r2 r3 r4 w0 _ hB h.1 h.2.1 h.2.2.1 h.2.2.2.1 h.2.2.2.2 e).mono ?_
 rintro e w' ⟨rfl, o0, o1, o2, o3, o4, hb, hk⟩
 have e0 := (Kd.R_reads' o0).1
 rw [e0] at o0
 have e1 := (Kd.R_reads' o1).1
 rw [e1] at o1
 have e2 := (Kd.R_reads' o2).1
 rw [e2] at o2
 have e3 := (Kd.R_reads' o3).1
 rw [e3] at o3
 have e4 := (Kd.R_reads' o4).1
 rw [e4] at o4
 exact ⟨rfl, ⟨e0, e1, e2, e3, e4⟩, ⟨Kd.R_mono o0 (fun _ _ => trivial), Kd.R_mono o1 (fun _ _ => trivial), Kd.R_mono o2 (fun _ _ => trivial), Kd.R_mono o3 (fun _ _ => trivial), Kd.R_mono o4 (fun _ _ => trivial)⟩, hb, hk.mono (fun _ h => by rcases h with h | h | h | h | h <;> exact h)⟩
end
theorem c_eq (k : Nat) {W : World} {B B' : Nat} {ok ok' : Nat → Prop} {A0 : Option Addr} {c0 : Nat} {A1 : Option Addr} {c1 : Nat} {A2 : Option Addr} {c2 : Nat} {A3 : Option Addr} {c3 : Nat} {A4 : Option Addr} {c4 : Nat} {A'0 : Option Addr} {c'0 : Nat} {A'1 : Option Addr} {c'1 : Nat} {A'2 : Option Addr} {c'2 : Nat} {A'3 : Option Addr} {c'3 : Nat} {A'4 : Option Addr} {c'4 : Nat} {l0 : List ByteArray} {l1 : List S73} {l2 : List S55} {l3 : List S53} {l4 : List S50} {m0 : List ByteArray} {m1 : List S73} {m2 : List S55} {m3 : List S53} {m4 : List S50} (h : MV B ok W A0 c0 A1 c1 A2 c2 A3 c3 A4 c4 l0 l1 l2 l3 l4) (h' : MV B' ok' W A'0 c'0 A'1 c'1 A'2 c'2 A'3 c'3 A'4 c'4 m0 m1 m2 m3 m4) (e : laws_eqMod.f k l0 l1 l2 l3 l4 m0 m1 m2 m3 m4 = some true) : Calls Try.prog 11 #[.agg #[.slice A0 l0.length c0, .slice A1 l1.length c1, .slice A2 l2.length c2, .slice A3 l3.length c3, .slice A4 l4.length c4], .agg #[.slice A'0 m0.length c'0, .slice A'1 m1.length c'1, .slice A'2 m2.length c'2, .slice A'3 m3.length c'3, .slice A'4 m4.length c'4]] W (fun e w' => e = .returned (.bool true) ∧ Below W.heap.size W w') := laws_eqMod.calls k _ _ l0 _ _ l1 _ _ l2 _ _ l3 _ _ l4 _ _ m0 _ _ m1 _ _ m2 _ _ m3 _ _ m4 true _ (Kd.R_reads' h.1).2.2 (Kd.R_reads' h.1).2.1 (Kd.R_reads' h.2.1).2.2 (Kd.R_reads' h.2.1).2.1 (Kd.R_reads' h.2.2.1).2.2 (Kd.R_reads' h.2.2.1).2.1 (Kd.R_reads' h.2.2.2.1).2.2 (Kd.R_reads' h.2.2.2.1).2.1 (Kd.R_reads' h.2.2.2.2).2.2 (Kd.R_reads' h.2.2.2.2).2.1 (Kd.R_reads' h'.1).2.2 (Kd.R_reads' h'.1).2.1 (Kd.R_reads' h'.2.1).2.2 (Kd.R_reads' h'.2.1).2.1 (Kd.R_reads' h'.2.2.1).2.2 (Kd.R_reads' h'.2.2.1).2.1 (Kd.R_reads' h'.2.2.2.1).2.2 (Kd.R_reads' h'.2.2.2.1).2.1 (Kd.R_reads' h'.2.2.2.2).2.2 (Kd.R_reads' h'.2.2.2.2).2.1 e rfl
theorem c_to (k : Nat) (A0_0 : Option Addr) (c0_0 : Nat) (l0_0 : List (ByteArray)) (A0_1 : Option Addr) (c0_1 : Nat) (l0_1 : List (S77)) (A0_2 : Option Addr) (c0_2 : Nat) (l0_2 : List (S79)) (A0_3 : Option Addr) (c0_3 : Nat) (l0_3 : List (S81)) (A0_4 : Option Addr) (c0_4 : Nat) (l0_4 : List (S83)) {r0 : List ByteArray} {r1 : List S73} {r2 : List S55} {r3 : List S53} {r4 : List S50} (w W : World) (hr0_0 : Kd.C Kd.string w A0_0 l0_0.length l0_0) (hc0_0 : l0_0.length ≤ c0_0) (hr0_1 : Kd.C k77 w A0_1 l0_1.length l0_1) (hc0_1 : l0_1.length ≤ c0_1) (hr0_2 : Kd.C k79 w A0_2 l0_2.length l0_2) (hc0_2 : l0_2.length ≤ c0_2) (hr0_3 : Kd.C k81 w A0_3 l0_3.length l0_3) (hc0_3 : l0_3.length ≤ c0_3) (hr0_4 : Kd.C k83 w A0_4 l0_4.length l0_4) (hc0_4 : l0_4.length ≤ c0_4) (HB : Below w.heap.size w W) (e : laws_toMod.f k l0_0 l0_1 l0_2 l0_3 l0_4 = some (r0, r1, r2, r3, r4)) :
  Calls Try.prog 8 #[.agg #[.slice A0_0 l0_0.length c0_0, .slice A0_1 l0_1.length c0_1, .slice A0_2 l0_2.length c0_2, .slice A0_3 l0_3.length c0_3, .slice A0_4 l0_4.length c0_4]] W (fun e w' => ∃ A0 c0 A1 c1 A2 c2 A3 c3 A4 c4, e = .returned (.agg #[.slice A0 r0.length c0, .slice A1 r1.length c1, .slice A2 r2.length c2, .slice A3 r3.length c3, .slice A4 r4.length c4]) ∧ MV W.heap.size (fun _ => True) w' A0 c0 A1 c1 A2 c2 A3 c3 A4 c4 r0 r1 r2 r3 r4 ∧ Below W.heap.size W w') := by
 refine (laws_toMod.calls k A0_0 c0_0 l0_0 A0_1 c0_1 l0_1 A0_2 c0_2 l0_2 A0_3 c0_3 l0_3 A0_4 c0_4 l0_4 r0 r1 r2 r3 r4 _ (Kd.C_below hr0_0 HB) hc0_0 (Kd.C_below hr0_1 HB) hc0_1 (Kd.C_below hr0_2 HB) hc0_2 (Kd.C_below hr0_3 HB) hc0_3 (Kd.C_below hr0_4 HB) hc0_4 e).mono ?_
 rintro e w' ⟨v0, v1, v2, v3, v4, rfl, o0, o1, o2, o3, o4, hb⟩
 obtain ⟨A0, c0, rfl, _, _⟩ := Kd.R_reads o0
 obtain ⟨A1, c1, rfl, _, _⟩ := Kd.R_reads o1
 obtain ⟨A2, c2, rfl, _, _⟩ := Kd.R_reads o2
 obtain ⟨A3, c3, rfl, _, _⟩ := Kd.R_reads o3
 obtain ⟨A4, c4, rfl, _, _⟩ := Kd.R_reads o4
 exact ⟨A0, c0, A1, c1, A2, c2, A3, c3, A4, c4, rfl, ⟨o0, o1, o2, o3, o4⟩, hb⟩
set_option maxHeartbeats 8000000 in
set_option maxRecDepth 100000 in
theorem laws_FnExactTrim.calls (k : Nat) (A0_0 : Option Addr) (c0_0 : Nat) (l0_0 : List (ByteArray)) (A0_1 : Option Addr) (c0_1 : Nat) (l0_1 : List (S77)) (A0_2 : Option Addr) (c0_2 : Nat) (l0_2 : List (S79)) (A0_3 : Option Addr) (c0_3 : Nat) (l0_3 : List (S81)) (A0_4 : Option Addr) (c0_4 : Nat) (l0_4 : List (S83)) (r : Bool) (w : World) (hr0_0 : Kd.C Kd.string w A0_0 l0_0.length l0_0) (hc0_0 : l0_0.length ≤ c0_0) (hr0_1 : Kd.C k77 w A0_1 l0_1.length l0_1) (hc0_1 : l0_1.length ≤ c0_1) (hr0_2 : Kd.C k79 w A0_2 l0_2.length l0_2) (hc0_2 : l0_2.length ≤ c0_2) (hr0_3 : Kd.C k81 w A0_3 l0_3.length l0_3) (hc0_3 : l0_3.length ≤ c0_3) (hr0_4 : Kd.C k83 w A0_4 l0_4.length l0_4) (hc0_4 : l0_4.length ≤ c0_4) (h : laws_FnExactTrim.f k l0_0 l0_1 l0_2 l0_3 l0_4 = some r) (hr_ : r = true) :
  Calls Try.prog 5 #[.agg #[.slice A0_0 l0_0.length c0_0, .slice A0_1 l0_1.length c0_1, .slice A0_2 l0_2.length c0_2, .slice A0_3 l0_3.length c0_3, .slice A0_4 l0_4.length c0_4]] w fun e w' => e = .returned (.bool r) ∧ Below w.heap.size w w' := by
 subst hr_
 have HR0 := Aside0.mk hr0_0
 have HC0 := Aside0.mk hc0_0
 have HR1 := Aside0.mk hr0_1
 have HC1 := Aside0.mk hc0_1
 have HR2 := Aside0.mk hr0_2
 have HC2 := Aside0.mk hc0_2
 have HR3 := Aside0.mk hr0_3
 have HC3 := Aside0.mk hc0_3
 have HR4 := Aside0.mk hr0_4
 have HC4 := Aside0.mk hc0_4
 clear hr0_0 hc0_0 hr0_1 hc0_1 hr0_2 hc0_2 hr0_3 hc0_3 hr0_4 hc0_4
 have H := h
 clear h
 unfold laws_FnExactTrim.f at H
 replace H := bnd H
 obtain ⟨t, A2, H⟩ := H
 have HH := Aside0.mk H
 clear H
 go_enter Try.func5, Try.ntmps5
 go_upto_region 3 with (first
  | ((with_reducible refine gate_dst (N := 1) rfl ?_); refine box_event ?hg (N := 1) ?hd (cs := #[.slice A0_0 l0_0.length c0_0, .slice A0_1 l0_1.length c0_1, .slice A0_2 l0_2.length c0_2, .slice A0_3 l0_3.length c0_3, .slice A0_4 l0_4.length c0_4]) (t := 28) ?hr ?_; (case hd => rfl); (case hg => rfl); (case hr => first | (go_simp; done) | (go_simp; rfl)); intro b1 hg w1 hbox hb; have HB := Aside0.mk hb; have B1 := Aside0.mk hbox; have y0 := (blk_cell hbox 0).trans rfl; have y1 := (blk_cell hbox 1).trans rfl; have y2 := (blk_cell hbox 2).trans rfl; have y3 := (blk_cell hbox 3).trans rfl; have y4 := (blk_cell hbox 4).trans rfl; clear hb hbox hg)
  | (go_at_call 6; refine (laws_szMod.calls k A0_0 c0_0 l0_0 A0_1 c0_1 l0_1 A0_2 c0_2 l0_2 A0_3 c0_3 l0_3 A0_4 c0_4 l0_4 1048576 t _ (Kd.C_below HR0.out HB.out) HC0.out (Kd.C_below HR1.out HB.out) HC1.out (Kd.C_below HR2.out HB.out) HC2.out (Kd.C_below HR3.out HB.out) HC3.out (Kd.C_below HR4.out HB.out) HC4.out A2.out).mono ?_; rintro e w2 ⟨rfl, hb⟩; replace HB := Aside0.mk (below_step HB.out hb); replace B1 := Aside0.mk (blk_below B1.out hb); clear hb y0 y1 y2 y3 y4))
 have H := HH.out
 clear HH
 by_cases c3 : t < 0
 ·clear H
  have d3 : decide (t < 0) = true := decide_eq_true c3
  go_wp2
  go_ret
  exact ⟨rfl, HB.out⟩
 have d3 : decide (t < 0) = false := decide_eq_false c3
 rw [if_neg c3] at H
 replace H := bnd H
 obtain ⟨⟨x0, x1, x2, x3, x4⟩, A7, H⟩ := H
 replace H := bnd H
 obtain ⟨⟨s0, s1, s2, s3, s4⟩, A8, H⟩ := H
 replace H := bnd H
 obtain ⟨⟨y0, y1, y2, y3, y4⟩, A9, H⟩ := H
 replace H := bnd H
 obtain ⟨⟨g0, g1, g2, g3, g4⟩, A10, H⟩ := H
 replace H := bnd H
 obtain ⟨b1_, A11, H⟩ := H
 dsimp only at A7 A8 A9 A10 A11 H
 cases b1_ with
 | false => cases H
 | true =>
 rw [if_pos rfl] at H
 replace H := bnd H
 obtain ⟨⟨u0, u1, u2, u3, u4⟩, A13, H⟩ := H
 replace H := bnd H
 obtain ⟨b2_, A14, H⟩ := H
 dsimp only at A13 A14 H
 cases b2_ with
 | false => cases H
 | true =>
 rw [if_pos rfl] at H
 replace H := bnd H
 obtain ⟨⟨n1, p0, p1, p2, p3, p4⟩, A16, H⟩ := H
 dsimp only at A16 H
 have HH := Aside0.mk H
 clear H
 have SZ : Aside0 (Below w2.heap.size w2 w2) := ⟨Below.refl _ _⟩
 have f0 := (blk_cell B1.out 0).trans rfl
 have f1 := (blk_cell B1.out 1).trans rfl
 have f2 := (blk_cell B1.out 2).trans rfl
 have f3 := (blk_cell B1.out 3).trans rfl
 have f4 := (blk_cell B1.out 4).trans rfl
 go_upto_region 6 with (first
  | (go_at_call 8; refine (c_to k A0_0 c0_0 l0_0 A0_1 c0_1 l0_1 A0_2 c0_2 l0_2 A0_3 c0_3 l0_3 A0_4 c0_4 l0_4 w _ HR0.out HC0.out HR1.out HC1.out HR2.out HC2.out HR3.out HC3.out HR4.out HC4.out HB.out A7.out).mono ?_; rintro e w3 ⟨A30, c30, A31, c31, A32, c32, A33, c33, A34, c34, rfl, hM, hb⟩; have M3 := Aside0.mk hM; have S3 := Aside0.mk hb; clear hM hb f0 f1 f2 f3 f4)
  | (go_at_call 17; refine (c_sp k M3.out A8.out).mono ?_; rintro e w4 ⟨A40, c40, A41, c41, A42, c42, A43, c43, A44, c44, rfl, hM, hb⟩; have M4 := Aside0.mk hM; have S4 := Aside0.mk (below_step S3.out hb); clear hM hb)
  | ((with_reducible refine gate_dst (N := 4) rfl ?_); refine box_event ?hg (N := 4) ?hd (cs := #[.slice none 0 0, .slice none 0 0, .slice none 0 0, .slice none 0 0, .slice none 0 0]) (t := 36) ?hr ?_; (case hd => rfl); (case hg => rfl); (case hr => first | (go_simp; done) | (go_simp; rfl)); intro b4 hg wb hbox hb; have GE := Aside0.mk (show w4.heap.size ≤ b4 from Nat.le_of_eq hg.symm); have SB := Aside0.mk hb; have BX := Aside0.mk hbox; have z0 := (blk_cell hbox 0).trans rfl; have zf0 := blk_frozen hbox 0; have z1 := (blk_cell hbox 1).trans rfl; have zf1 := blk_frozen hbox 1; have z2 := (blk_cell hbox 2).trans rfl; have zf2 := blk_frozen hbox 2; have z3 := (blk_cell hbox 3).trans rfl; have zf3 := blk_frozen hbox 3; have z4 := (blk_cell hbox 4).trans rfl; have zf4 := blk_frozen hbox 4; clear hb hbox hg))
 obtain ⟨NB, NS, NL⟩ := MB_new M4.out BX.out SB.out GE.out _ rfl
 have K4 := Aside0.mk NB
 have L4 := Aside0.mk NL
 have ST := Aside0.mk (below_step S4.out NS)
 clear NB NS NL BX SB GE M3 M4 S3 S4 z0 zf0 z1 zf1 z2 zf2 z3 zf3 z4 zf4
 generalize (((((wb.setCell ⟨b4, 0, none⟩ (.slice A40 s0.length c40)).setCell ⟨b4, 1, none⟩ (.slice A41 s1.length c41)).setCell ⟨b4, 2, none⟩ (.slice A42 s2.length c42)).setCell ⟨b4, 3, none⟩ (.slice A43 s3.length c43)).setCell ⟨b4, 4, none⟩ (.slice A44 s4.length c44)) = w5 at K4 L4 ST ⊢
 replace HB := Aside0.mk (below_step HB.out ST.out)
 have LB1 := Aside0.mk (Nat.lt_of_lt_of_le (blk_lt B1.out) ST.out.size)
 replace B1 := Aside0.mk (blk_below B1.out ST.out)
 have Z5 := Aside0.mk HB.out.size
 clear ST SZ
 have f0 := (blk_cell B1.out 0).trans rfl
 have f1 := (blk_cell B1.out 1).trans rfl
 have f2 := (blk_cell B1.out 2).trans rfl
 have f3 := (blk_cell B1.out 3).trans rfl
 have f4 := (blk_cell B1.out 4).trans rfl
 go_upto_region 7 with (first
  | (go_at_call 8; refine (c_to k A0_0 c0_0 l0_0 A0_1 c0_1 l0_1 A0_2 c0_2 l0_2 A0_3 c0_3 l0_3 A0_4 c0_4 l0_4 w _ HR0.out HC0.out HR1.out HC1.out HR2.out HC2.out HR3.out HC3.out HR4.out HC4.out HB.out A9.out).mono ?_; rintro e w6 ⟨A50, c50, A51, c51, A52, c52, A53, c53, A54, c54, rfl, hM, hb⟩; have M5 := Aside0.mk (MV_lower hM (Nat.le_refl _)); have S5 := Aside0.mk hb; clear hM hb f0 f1 f2 f3 f4)
  | ((with_reducible refine gate_dst (N := 5) rfl ?_); refine box_event ?hg (N := 5) ?hd (cs := #[.slice none 0 0, .slice none 0 0, .slice none 0 0, .slice none 0 0, .slice none 0 0]) (t := 36) ?hr ?_; (case hd => rfl); (case hg => rfl); (case hr => first | (go_simp; done) | (go_simp; rfl)); intro b5 hg wb hbox hb; have GE := Aside0.mk (show w6.heap.size ≤ b5 from Nat.le_of_eq hg.symm); have SB := Aside0.mk hb; have BX := Aside0.mk hbox; have z0 := (blk_cell hbox 0).trans rfl; have zf0 := blk_frozen hbox 0; have z1 := (blk_cell hbox 1).trans rfl; have zf1 := blk_frozen hbox 1; have z2 := (blk_cell hbox 2).trans rfl; have zf2 := blk_frozen hbox 2; have z3 := (blk_cell hbox 3).trans rfl; have zf3 := blk_frozen hbox 3; have z4 := (blk_cell hbox 4).trans rfl; have zf4 := blk_frozen hbox 4; clear hb hbox hg))
 obtain ⟨NB, NS, NL⟩ := MB_new M5.out BX.out SB.out GE.out _ rfl
 have K5 := Aside0.mk NB
 have L5 := Aside0.mk NL
 have G5 := Aside0.mk (Nat.le_trans S5.out.size GE.out)
 have ST := Aside0.mk (below_step S5.out NS)
 clear NB NS NL BX SB GE M5 S5 z0 zf0 z1 zf1 z2 zf2 z3 zf3 z4 zf4
 generalize (((((wb.setCell ⟨b5, 0, none⟩ (.slice A50 y0.length c50)).setCell ⟨b5, 1, none⟩ (.slice A51 y1.length c51)).setCell ⟨b5, 2, none⟩ (.slice A52 y2.length c52)).setCell ⟨b5, 3, none⟩ (.slice A53 y3.length c53)).setCell ⟨b5, 4, none⟩ (.slice A54 y4.length c54)) = w7 at K5 L5 ST ⊢
 replace HB := Aside0.mk (below_step HB.out ST.out)
 replace B1 := Aside0.mk (blk_below B1.out ST.out)
 replace K4 := Aside0.mk (MB_below K4.out ST.out)
 have Z7 := Aside0.mk ST.out.size
 have Y7 := Aside0.mk HB.out.size
 clear ST
 have f0 := (blk_cell K5.out.1 0).trans rfl
 have f1 := (blk_cell K5.out.1 1).trans rfl
 have f2 := (blk_cell K5.out.1 2).trans rfl
 have f3 := (blk_cell K5.out.1 3).trans rfl
 have f4 := (blk_cell K5.out.1 4).trans rfl
 go_upto_region 8 with (first
  | (go_at_call 18; refine (c_im k K5.out.2 A10.out).mono ?_; rintro e w8 ⟨A60, c60, A61, c61, A62, c62, A63, c63, A64, c64, rfl, hM, hb⟩; have M6 := Aside0.mk hM; have S6 := Aside0.mk hb; clear hM hb f0 f1 f2 f3 f4)
  | ((with_reducible refine gate_dst (N := 6) rfl ?_); refine box_event ?hg (N := 6) ?hd (cs := #[.slice none 0 0, .slice none 0 0, .slice none 0 0, .slice none 0 0, .slice none 0 0]) (t := 36) ?hr ?_; (case hd => rfl); (case hg => rfl); (case hr => first | (go_simp; done) | (go_simp; rfl)); intro b6 hg wb hbox hb; have GE := Aside0.mk (show w8.heap.size ≤ b6 from Nat.le_of_eq hg.symm); have SB := Aside0.mk hb; have BX := Aside0.mk hbox; have z0 := (blk_cell hbox 0).trans rfl; have zf0 := blk_frozen hbox 0; have z1 := (blk_cell hbox 1).trans rfl; have zf1 := blk_frozen hbox 1; have z2 := (blk_cell hbox 2).trans rfl; have zf2 := blk_frozen hbox 2; have z3 := (blk_cell hbox 3).trans rfl; have zf3 := blk_frozen hbox 3; have z4 := (blk_cell hbox 4).trans rfl; have zf4 := blk_frozen hbox 4; clear hb hbox hg))
 obtain ⟨NB, NS, NL⟩ := MB_new M6.out BX.out SB.out GE.out _ rfl
 have K6 := Aside0.mk NB
 have L6 := Aside0.mk NL
 have G6 := Aside0.mk (Nat.le_trans S6.out.size GE.out)
 have ST := Aside0.mk (below_step S6.out NS)
 clear NB NS NL BX SB GE M6 S6 z0 zf0 z1 zf1 z2 zf2 z3 zf3 z4 zf4
 generalize (((((wb.setCell ⟨b6, 0, none⟩ (.slice A60 g0.length c60)).setCell ⟨b6, 1, none⟩ (.slice A61 g1.length c61)).setCell ⟨b6, 2, none⟩ (.slice A62 g2.length c62)).setCell ⟨b6, 3, none⟩ (.slice A63 g3.length c63)).setCell ⟨b6, 4, none⟩ (.slice A64 g4.length c64)) = w9 at K6 L6 ST ⊢
 replace HB := Aside0.mk (below_step HB.out ST.out)
 replace B1 := Aside0.mk (blk_below B1.out ST.out)
 replace K4 := Aside0.mk (MB_below K4.out ST.out)
 replace K5 := Aside0.mk (MB_below K5.out ST.out)
 clear ST
 have f0 := (blk_cell K6.out.1 0).trans rfl
 have f1 := (blk_cell K6.out.1 1).trans rfl
 have f2 := (blk_cell K6.out.1 2).trans rfl
 have f3 := (blk_cell K6.out.1 3).trans rfl
 have f4 := (blk_cell K6.out.1 4).trans rfl
 have e0 := (blk_cell K4.out.1 0).trans rfl
 have e1 := (blk_cell K4.out.1 1).trans rfl
 have e2 := (blk_cell K4.out.1 2).trans rfl
 have e3 := (blk_cell K4.out.1 3).trans rfl
 have e4 := (blk_cell K4.out.1 4).trans rfl
 go_upto_region 10 with (first
  | (go_at_call 11; refine (c_eq k K6.out.2 K4.out.2 A11.out).mono ?_; rintro e w10 ⟨rfl, hb⟩; replace HB := Aside0.mk (below_step HB.out hb); replace B1 := Aside0.mk (blk_below B1.out hb); replace K4 := Aside0.mk (MB_below K4.out hb); replace K5 := Aside0.mk (MB_below K5.out hb); replace K6 := Aside0.mk (MB_below K6.out hb); clear hb f0 f1 f2 f3 f4 e0 e1 e2 e3 e4))
 replace HB := Aside0.mk (below_drew1 HB.out)
 replace B1 := Aside0.mk (blk_drew B1.out)
 have HD := below_drew1 (Below.refl w10.heap.size w10)
 replace K4 := Aside0.mk (MB_below K4.out HD)
 replace K5 := Aside0.mk (MB_below K5.out HD)
 replace K6 := Aside0.mk (MB_below K6.out HD)
 clear HD
 refine start_ (n := 5) (S := fun w' => w'.cell? ⟨b5, 0, none⟩ = some (.slice A50 y0.length c50) ∧ w'.cell? ⟨b5, 1, none⟩ = some (.slice A51 y1.length c51) ∧ w'.cell? ⟨b5, 2, none⟩ = some (.slice A52 y2.length c52) ∧ w'.cell? ⟨b5, 3, none⟩ = some (.slice A53 y3.length c53) ∧ w'.cell? ⟨b5, 4, none⟩ = some (.slice A54 y4.length c54) ∧ w'.cell? ⟨b1, 0, none⟩ = some (.slice A0_0 l0_0.length c0_0) ∧ w'.cell? ⟨b1, 1, none⟩ = some (.slice A0_1 l0_1.length c0_1) ∧ w'.cell? ⟨b1, 2, none⟩ = some (.slice A0_2 l0_2.length c0_2) ∧ w'.cell? ⟨b1, 3, none⟩ = some (.slice A0_3 l0_3.length c0_3) ∧ w'.cell? ⟨b1, 4, none⟩ = some (.slice A0_4 l0_4.length c0_4)) (ds := []) #[false, false, false, false, false] (by kernel_rfl) rfl rfl ⟨(blk_cell K5.out.1 0).trans rfl, (blk_cell K5.out.1 1).trans rfl, (blk_cell K5.out.1 2).trans rfl, (blk_cell K5.out.1 3).trans rfl, (blk_cell K5.out.1 4).trans rfl, (blk_cell B1.out 0).trans rfl, (blk_cell B1.out 1).trans rfl, (blk_cell B1.out 2).trans rfl, (blk_cell B1.out 3).trans rfl, (blk_cell B1.out 4).trans rfl⟩ (fun hHeld => ?_)
 generalize w10.drew = w11 at K4 K5 K6 HB B1 hHeld ⊢
 refine take_ (i := 0) (N := some 27) (v := ?_) (a' := ?_) #[true, false, false, false, false] rfl rfl (by kernel_rfl) (fun _ _ _ h => h) (Or.inl ⟨by rfl, ?_⟩) hHeld ?_ ?_
 rotate_left
 ·rintro w' ⟨s0, s1, s2, s3, s4, s5, s6, s7, s8, s9⟩
  go_simp
  with_reducible rfl
 rotate_left
 ·simp only [Act.put, List.setIfInBounds_toArray, List.set_cons_zero, List.set_cons_succ, i64_w, i32_w]
  rfl
 refine take_ (i := 1) (N := some 28) (v := ?_) (a' := ?_) #[true, true, false, false, false] rfl rfl (by kernel_rfl) (fun _ _ _ h => h) (Or.inl ⟨by rfl, ?_⟩) hHeld ?_ ?_
 rotate_left
 ·rintro w' ⟨s0, s1, s2, s3, s4, s5, s6, s7, s8, s9⟩
  go_simp
  with_reducible rfl
 rotate_left
 ·simp only [Act.put, List.setIfInBounds_toArray, List.set_cons_zero, List.set_cons_succ, i64_w, i32_w]
  rfl
 refine one_ (i := 2) (N := some 29) #[true, true, true, false, false] rfl rfl (by kernel_rfl) (by decide) (fun K hK => ?_)
 refine goes_ Try.func8 (by kernel_rfl) rfl #[.agg #[.slice A0_0 l0_0.length c0_0, .slice A0_1 l0_1.length c0_1, .slice A0_2 l0_2.length c0_2, .slice A0_3 l0_3.length c0_3, .slice A0_4 l0_4.length c0_4]] (by rfl) rfl rfl (by (try simp only [List.map_toArray, List.map_cons, List.map_nil]); first | done | rfl) ?_
 refine (c_to k A0_0 c0_0 l0_0 A0_1 c0_1 l0_1 A0_2 c0_2 l0_2 A0_3 c0_3 l0_3 A0_4 c0_4 l0_4 w _ HR0.out HC0.out HR1.out HC1.out HR2.out HC2.out HR3.out HC3.out HR4.out HC4.out HB.out A13.out).mono ?_
 rintro e w12 ⟨A70, c70, A71, c71, A72, c72, A73, c73, A74, c74, rfl, hM, hb⟩
 refine ⟨_, rfl, ?_⟩
 have M7 := Aside0.mk hM
 replace HB := Aside0.mk (below_step HB.out hb)
 replace B1 := Aside0.mk (blk_below B1.out hb)
 replace K4 := Aside0.mk (MB_below K4.out hb)
 replace K5 := Aside0.mk (MB_below K5.out hb)
 replace K6 := Aside0.mk (MB_below K6.out hb)
 clear hM hb hHeld
 refine hK _ _ ⟨(blk_cell K5.out.1 0).trans rfl, (blk_cell K5.out.1 1).trans rfl, (blk_cell K5.out.1 2).trans rfl, (blk_cell K5.out.1 3).trans rfl, (blk_cell K5.out.1 4).trans rfl, (blk_cell B1.out 0).trans rfl, (blk_cell B1.out 1).trans rfl, (blk_cell B1.out 2).trans rfl, (blk_cell B1.out 3).trans rfl, (blk_cell B1.out 4).trans rfl⟩ (fun hHeld => ?_)
 clear hK K
 refine norm_ (a' := ?_) ?_ ?_
 rotate_left
 ·show Act.put _ (some 29) _ = _
  simp only [Act.put, List.setIfInBounds_toArray, List.set_cons_zero, List.set_cons_succ, i64_w, i32_w]
  rfl
 refine one_ (i := 3) (N := some 30) #[true, true, true, true, false] rfl rfl (by kernel_rfl) (by decide) (fun K hK => ?_)
 refine goes_ Try.func11 (by kernel_rfl) rfl #[.agg #[.slice A50 y0.length c50, .slice A51 y1.length c51, .slice A52 y2.length c52, .slice A53 y3.length c53, .slice A54 y4.length c54], .agg #[.slice A70 u0.length c70, .slice A71 u1.length c71, .slice A72 u2.length c72, .slice A73 u3.length c73, .slice A74 u4.length c74]] (by rfl) rfl rfl (by (try simp only [List.map_toArray, List.map_cons, List.map_nil]); first | done | rfl) ?_
 refine (c_eq k K5.out.2 M7.out A14.out).mono ?_
 rintro e w13 ⟨rfl, hb⟩
 refine ⟨_, rfl, ?_⟩
 replace HB := Aside0.mk (below_step HB.out hb)
 replace B1 := Aside0.mk (blk_below B1.out hb)
 replace K4 := Aside0.mk (MB_below K4.out hb)
 replace K5 := Aside0.mk (MB_below K5.out hb)
 replace K6 := Aside0.mk (MB_below K6.out hb)
 clear M7 hb hHeld
 refine hK _ _ ⟨(blk_cell K5.out.1 0).trans rfl, (blk_cell K5.out.1 1).trans rfl, (blk_cell K5.out.1 2).trans rfl, (blk_cell K5.out.1 3).trans rfl, (blk_cell K5.out.1 4).trans rfl, (blk_cell B1.out 0).trans rfl, (blk_cell B1.out 1).trans rfl, (blk_cell B1.out 2).trans rfl, (blk_cell B1.out 3).trans rfl, (blk_cell B1.out 4).trans rfl⟩ (fun hHeld => ?_)
 clear hK K
 refine norm_ (a' := ?_) ?_ ?_
 rotate_left
 ·show Act.put _ (some 30) _ = _
  simp only [Act.put, List.setIfInBounds_toArray, List.set_cons_zero, List.set_cons_succ, i64_w, i32_w]
  rfl
 refine pure_ (i := 4) (N := some 31) (v := ?_) (a' := ?_) #[true, true, true, true, true] rfl rfl (by kernel_rfl) (fun _ _ _ h => h) (Or.inl ⟨by rfl, ?_⟩) ?_ ?_
 rotate_left
 ·intro w'
  go_simp
  with_reducible rfl
 rotate_left
 ·simp only [Act.put, List.setIfInBounds_toArray, List.set_cons_zero, List.set_cons_succ, i64_w, i32_w]
  rfl
 refine done_ (by kernel_rfl) ?_
 clear hHeld
 have H := HH.out
 clear HH
 by_cases c4 : n1 < 0
 ·rw [if_pos c4] at H
  cases k with
  | zero => cases H
  | succ k => simp [laws_FnExactTrim.j0] at H
 rw [if_neg c4] at H
 have d4 : decide (n1 < 0) = false := decide_eq_false c4
 replace H := bnd H
 obtain ⟨b3_, A17, H⟩ := H
 try dsimp only at A17
 cases k with
 | zero => cases H
 | succ k =>
 cases b3_ with
 | false => simp [laws_FnExactTrim.j0] at H
 | true =>
 simp only [laws_FnExactTrim.j0, Bool.not_true, Bool.false_eq_true, if_false] at H
 replace H := bnd H
 obtain ⟨⟨n2, q0, q1, q2, q3, q4⟩, A18, H⟩ := H
 replace H := bnd H
 obtain ⟨n3, A19, H⟩ := H
 try dsimp only at A18 A19 H
 by_cases c5 : n3 < 0
 ·rw [if_pos c5] at H; cases H
 rw [if_neg c5] at H
 have d5 : decide (n3 < 0) = false := decide_eq_false c5
 by_cases c6 : n3 = n2
 case neg => rw [if_neg c6] at H; cases H
 rw [if_pos c6] at H
 subst c6
 replace H := bnd H
 obtain ⟨⟨x0', x1', x2', x3', x4'⟩, A20, H⟩ := H
 replace H := bnd H
 obtain ⟨⟨g0', g1', g2', g3', g4'⟩, A21, H⟩ := H
 replace H := bnd H
 obtain ⟨b4_, A22, H⟩ := H
 try dsimp only at A20 A21 A22 H
 cases b4_ with
 | false => cases H
 | true =>
 rw [if_pos rfl] at H
 replace H := bnd H
 obtain ⟨n4, A23, H⟩ := H
 by_cases c7 : n4 < 0
 ·rw [if_pos c7] at H; cases H
 rw [if_neg c7] at H
 have d7 : decide (n4 < 0) = false := decide_eq_false c7
 by_cases c8 : n4 = n3
 case neg => rw [if_neg c8] at H; cases H
 subst c8
 clear H
 have f0 := (blk_cell K5.out.1 0).trans rfl
 have f1 := (blk_cell K5.out.1 1).trans rfl
 have f2 := (blk_cell K5.out.1 2).trans rfl
 have f3 := (blk_cell K5.out.1 3).trans rfl
 have f4 := (blk_cell K5.out.1 4).trans rfl
 go_upto_region 14 with (first
  | (go_at_call 12; refine (c_mk (k + 1) HB.out (MV_lower K5.out.2 Z5.out) A16.out).mono ?_; rintro e w14 ⟨rfl, _, _, hB2, hk⟩; have T4 := MB_kept K4.out hk (fun q h h2 => by have := h.1.2; have := h2.1.1; omega) (fun h2 => by have := L4.out; have := h2.1.1; omega); have T6 := MB_kept K6.out hk (fun q h h2 => by have := h.1.1; have := h2.1.2; omega) (fun h2 => by have := G6.out; have := h2.1.2; omega); have T1 := blk_kept B1.out hk (fun h2 => by have := LB1.out; have := h2.1.1; omega); replace HB := Aside0.mk hB2; replace B1 := Aside0.mk T1; replace K4 := Aside0.mk T4; replace K6 := Aside0.mk T6; clear K5 T1 T4 T6 hB2 hk f0 f1 f2 f3 f4))
 have f0 := (blk_cell K6.out.1 0).trans rfl
 have f1 := (blk_cell K6.out.1 1).trans rfl
 have f2 := (blk_cell K6.out.1 2).trans rfl
 have f3 := (blk_cell K6.out.1 3).trans rfl
 have f4 := (blk_cell K6.out.1 4).trans rfl
 have e0 := (blk_cell K4.out.1 0).trans rfl
 have e1 := (blk_cell K4.out.1 1).trans rfl
 have e2 := (blk_cell K4.out.1 2).trans rfl
 have e3 := (blk_cell K4.out.1 3).trans rfl
 have e4 := (blk_cell K4.out.1 4).trans rfl
 go_upto_region 17 with (first
  | (go_at_call 11; refine (c_eq (k + 1) K6.out.2 K4.out.2 A17.out).mono ?_; rintro e w15 ⟨rfl, hb⟩; replace HB := Aside0.mk (below_step HB.out hb); replace B1 := Aside0.mk (blk_below B1.out hb); replace K4 := Aside0.mk (MB_below K4.out hb); replace K6 := Aside0.mk (MB_below K6.out hb); clear hb f0 f1 f2 f3 f4 e0 e1 e2 e3 e4))
 have f0 := (blk_cell K6.out.1 0).trans rfl
 have f1 := (blk_cell K6.out.1 1).trans rfl
 have f2 := (blk_cell K6.out.1 2).trans rfl
 have f3 := (blk_cell K6.out.1 3).trans rfl
 have f4 := (blk_cell K6.out.1 4).trans rfl
 go_upto_region 19 with (first
  | (go_at_call 12; refine (c_mk k HB.out (MV_lower K6.out.2 Y7.out) A18.out).mono ?_; rintro e w16 ⟨rfl, ⟨a0, a1, a2, a3, a4⟩, hM, hB2, hk⟩; have T6 := blk_kept K6.out.1 hk (fun h2 => h2.2 rfl); rw [a0, a1, a2, a3, a4] at T6; have T4 := MB_kept K4.out hk (fun q h h2 => by have := h.1.2; have := h2.1.1; have := Z7.out; omega) (fun h2 => by have := L4.out; have := h2.1.1; have := Z7.out; omega); have T1 := blk_kept B1.out hk (fun h2 => by have := LB1.out; have := h2.1.1; have := Z7.out; omega); replace HB := Aside0.mk hB2; replace B1 := Aside0.mk T1; replace K4 := Aside0.mk T4; replace K6 := Aside0.mk (And.intro T6 hM); clear T1 T4 T6 hM hB2 hk a0 a1 a2 a3 a4 f0 f1 f2 f3 f4))
 have f0 := (blk_cell K6.out.1 0).trans rfl
 have f1 := (blk_cell K6.out.1 1).trans rfl
 have f2 := (blk_cell K6.out.1 2).trans rfl
 have f3 := (blk_cell K6.out.1 3).trans rfl
 have f4 := (blk_cell K6.out.1 4).trans rfl
 go_upto_region 24 with (first
  | (go_at_call 19; refine (c_he k K6.out.2 A19.out).mono ?_; rintro e w17 ⟨rfl, hb⟩; replace HB := Aside0.mk (below_step HB.out hb); replace B1 := Aside0.mk (blk_below B1.out hb); replace K4 := Aside0.mk (MB_below K4.out hb); have T6 := Aside0.mk (And.intro (blk_below K6.out.1 hb) (MV_below K6.out.2 hb)); clear K6; have K6 := T6; clear T6; clear hb f0 f1 f2 f3 f4))
 have f0 := (blk_cell B1.out 0).trans rfl
 have f1 := (blk_cell B1.out 1).trans rfl
 have f2 := (blk_cell B1.out 2).trans rfl
 have f3 := (blk_cell B1.out 3).trans rfl
 have f4 := (blk_cell B1.out 4).trans rfl
 go_upto_region 25 with (first
  | (go_at_call 8; refine (c_to k A0_0 c0_0 l0_0 A0_1 c0_1 l0_1 A0_2 c0_2 l0_2 A0_3 c0_3 l0_3 A0_4 c0_4 l0_4 w _ HR0.out HC0.out HR1.out HC1.out HR2.out HC2.out HR3.out HC3.out HR4.out HC4.out HB.out A20.out).mono ?_; rintro e w18 ⟨A80, c80, A81, c81, A82, c82, A83, c83, A84, c84, rfl, hM, hb⟩; have M8 := Aside0.mk hM; have S8 := Aside0.mk hb; clear hM hb f0 f1 f2 f3 f4)
  | (go_at_call 18; refine (c_im k M8.out A21.out).mono ?_; rintro e w19 ⟨A90, c90, A91, c91, A92, c92, A93, c93, A94, c94, rfl, hM, hb⟩; have M9 := Aside0.mk hM; have S9 := Aside0.mk (below_step S8.out hb); clear hM hb)
  | ((with_reducible refine gate_dst (N := 10) rfl ?_); refine box_event ?hg (N := 10) ?hd (cs := #[.slice none 0 0, .slice none 0 0, .slice none 0 0, .slice none 0 0, .slice none 0 0]) (t := 36) ?hr ?_; (case hd => rfl); (case hg => rfl); (case hr => first | (go_simp; done) | (go_simp; rfl)); intro bA hg wb hbox hb; have GE := Aside0.mk (show w19.heap.size ≤ bA from Nat.le_of_eq hg.symm); have SB := Aside0.mk hb; have BX := Aside0.mk hbox; have z0 := (blk_cell hbox 0).trans rfl; have zf0 := blk_frozen hbox 0; have z1 := (blk_cell hbox 1).trans rfl; have zf1 := blk_frozen hbox 1; have z2 := (blk_cell hbox 2).trans rfl; have zf2 := blk_frozen hbox 2; have z3 := (blk_cell hbox 3).trans rfl; have zf3 := blk_frozen hbox 3; have z4 := (blk_cell hbox 4).trans rfl; have zf4 := blk_frozen hbox 4; clear hb hbox hg))
 obtain ⟨NB, NS, NL⟩ := MB_new M9.out BX.out SB.out GE.out _ rfl
 have KA := Aside0.mk NB
 have ST := Aside0.mk (below_step S9.out NS)
 clear NB NS NL BX SB GE M8 M9 S8 S9 z0 zf0 z1 zf1 z2 zf2 z3 zf3 z4 zf4
 generalize (((((wb.setCell ⟨bA, 0, none⟩ (.slice A90 g0'.length c90)).setCell ⟨bA, 1, none⟩ (.slice A91 g1'.length c91)).setCell ⟨bA, 2, none⟩ (.slice A92 g2'.length c92)).setCell ⟨bA, 3, none⟩ (.slice A93 g3'.length c93)).setCell ⟨bA, 4, none⟩ (.slice A94 g4'.length c94)) = w20 at KA ST ⊢
 replace HB := Aside0.mk (below_step HB.out ST.out)
 replace K4 := Aside0.mk (MB_below K4.out ST.out)
 have T6 := Aside0.mk (And.intro (blk_below K6.out.1 ST.out) (MV_below K6.out.2 ST.out))
 clear K6
 have K6 := T6
 clear T6 ST B1
 have f0 := (blk_cell KA.out.1 0).trans rfl
 have f1 := (blk_cell KA.out.1 1).trans rfl
 have f2 := (blk_cell KA.out.1 2).trans rfl
 have f3 := (blk_cell KA.out.1 3).trans rfl
 have f4 := (blk_cell KA.out.1 4).trans rfl
 have e0 := (blk_cell K4.out.1 0).trans rfl
 have e1 := (blk_cell K4.out.1 1).trans rfl
 have e2 := (blk_cell K4.out.1 2).trans rfl
 have e3 := (blk_cell K4.out.1 3).trans rfl
 have e4 := (blk_cell K4.out.1 4).trans rfl
 go_upto_region 28 with (first
  | (go_at_call 11; refine (c_eq k KA.out.2 K4.out.2 A22.out).mono ?_; rintro e w21 ⟨rfl, hb⟩; replace HB := Aside0.mk (below_step HB.out hb); have T6 := Aside0.mk (And.intro (blk_below K6.out.1 hb) (MV_below K6.out.2 hb)); clear K6; have K6 := T6; clear T6 hb KA K4 f0 f1 f2 f3 f4 e0 e1 e2 e3 e4))
 have f0 := (blk_cell K6.out.1 0).trans rfl
 have f1 := (blk_cell K6.out.1 1).trans rfl
 have f2 := (blk_cell K6.out.1 2).trans rfl
 have f3 := (blk_cell K6.out.1 3).trans rfl
 have f4 := (blk_cell K6.out.1 4).trans rfl
 go_wp2_with (first
  | (go_at_call 19; refine (c_he k K6.out.2 A23.out).mono ?_; rintro e w22 ⟨rfl, hb⟩; replace HB := Aside0.mk (below_step HB.out hb); clear hb K6 f0 f1 f2 f3 f4))
 go_ret
 exact ⟨rfl, HB.out⟩

end Go.Proofs.Ytopicidanlienaa.PFnExactTrim

import Derived.Test.YtopicidanlienaaPFnExactTrimx0
import Derived.Test.YtopicidanlienaaChainL
namespace Go.Proofs.Ytopicidanlienaa.PFnExactTrim
open Go.RowKit Go.Proofs.YtopicidanlienaaW.PrintWords Go.Proofs.YtopicidanlienaaW.PrintLast Go.Proofs.YtopicidanlienaaW.PrintMore Go.Proofs.Ytopicidanlienaa.OrdL Go.Proofs.Ytopicidanlienaa.ChainL
set_option linter.unusedVariables false
set_option linter.unusedSimpArgs false
structure I14 (w : World) (s0 s1 s2 s3 s4 : Value) (l0 : List ByteArray) (l1 : List S73) (l2 : List S55) (l3 : List S53) (l4 : List S50) (L : Array Bool) (a : Act) (W : World) : Prop where
 sz : a.tmps.size = 24
 lz : L.size = 22
 df : a.defers = []
 t1 : a.tmps[1]? = some (.pointer (some ⟨w.heap.size, 0, none⟩))
 t2 : a.tmps[2]? = some (.pointer (some ⟨w.heap.size + 1, 0, none⟩))
 bel : Below w.heap.size w W
 bx : W.heap[w.heap.size]? = some (.cells #[s0, s1, s2, s3, s4] 36 (0, 0))
 rb : ∃ cs, W.heap[w.heap.size + 1]? = some (.cells cs 36 (0, 0)) ∧ cs.size = 5
 hz : w.heap.size + 2 ≤ W.heap.size
 c0 : Ch Kd.string 9 (w.heap.size + 2) w.heap.size s0 l0 0 L a W
 c1 : Ch k73 73 (w.heap.size + 2) w.heap.size s1 l1 1 L a W
 c2 : Ch k55 55 (w.heap.size + 2) w.heap.size s2 l2 2 L a W
 c3 : Ch k53 53 (w.heap.size + 2) w.heap.size s3 l3 3 L a W
 c4 : Ch k50 50 (w.heap.size + 2) w.heap.size s4 l4 4 L a W
 cl : L.getD 20 false = true → ∀ k, k < 5 → L.getD (4 * k + 3) false = true
 cm : L.getD 21 false = true → L.getD 20 false = true
 b20 : L.getD 20 false = true → ∃ v0 v1 v2 v3 v4, a.tmps[23]? = some (.agg #[v0, v1, v2, v3, v4]) ∧ Kd.R Kd.string 9 W (w.heap.size + 2) (fun _ => True) v0 l0 ∧ Kd.R k73 73 W (w.heap.size + 2) (fun _ => True) v1 l1 ∧ Kd.R k55 55 W (w.heap.size + 2) (fun _ => True) v2 l2 ∧ Kd.R k53 53 W (w.heap.size + 2) (fun _ => True) v3 l3 ∧ Kd.R k50 50 W (w.heap.size + 2) (fun _ => True) v4 l4
 b21 : L.getD 21 false = true → ∃ v0 v1 v2 v3 v4, W.heap[w.heap.size + 1]? = some (.cells #[v0, v1, v2, v3, v4] 36 (0, 0)) ∧ Kd.R Kd.string 9 W (w.heap.size + 2) (fun _ => True) v0 l0 ∧ Kd.R k73 73 W (w.heap.size + 2) (fun _ => True) v1 l1 ∧ Kd.R k55 55 W (w.heap.size + 2) (fun _ => True) v2 l2 ∧ Kd.R k53 53 W (w.heap.size + 2) (fun _ => True) v3 l3 ∧ Kd.R k50 50 W (w.heap.size + 2) (fun _ => True) v4 l4
variable {w : World} {s0 s1 s2 s3 s4 : Value} {l0 : List ByteArray} {l1 : List S73} {l2 : List S55} {l3 : List S53} {l4 : List S50} {L : Array Bool} {a : Act} {W : World}
theorem I14.next (h : I14 w s0 s1 s2 s3 s4 l0 l1 l2 l3 l4 L a W) {i t : Nat} {v : Value} {W' : World} (hi : i < 20) (ht : 3 ≤ t) (ht2 : t ≤ 22) (hb : Below (w.heap.size + 2) W W') (r0 : L.getD 20 false = true → ∀ v xs, Kd.R Kd.string 9 W (w.heap.size + 2) (fun _ => True) v xs → Kd.R Kd.string 9 W' (w.heap.size + 2) (fun _ => True) v xs) (r1 : L.getD 20 false = true → ∀ v xs, Kd.R k73 73 W (w.heap.size + 2) (fun _ => True) v xs → Kd.R k73 73 W' (w.heap.size + 2) (fun _ => True) v xs) (r2 : L.getD 20 false = true → ∀ v xs, Kd.R k55 55 W (w.heap.size + 2) (fun _ => True) v xs → Kd.R k55 55 W' (w.heap.size + 2) (fun _ => True) v xs) (r3 : L.getD 20 false = true → ∀ v xs, Kd.R k53 53 W (w.heap.size + 2) (fun _ => True) v xs → Kd.R k53 53 W' (w.heap.size + 2) (fun _ => True) v xs) (r4 : L.getD 20 false = true → ∀ v xs, Kd.R k50 50 W (w.heap.size + 2) (fun _ => True) v xs → Kd.R k50 50 W' (w.heap.size + 2) (fun _ => True) v xs) (k0' : Ch Kd.string 9 (w.heap.size + 2) w.heap.size s0 l0 0 (L.setIfInBounds i true) (a.put (some t) v) W') (k1' : Ch k73 73 (w.heap.size + 2) w.heap.size s1 l1 1 (L.setIfInBounds i true) (a.put (some t) v) W') (k2' : Ch k55 55 (w.heap.size + 2) w.heap.size s2 l2 2 (L.setIfInBounds i true) (a.put (some t) v) W') (k3' : Ch k53 53 (w.heap.size + 2) w.heap.size s3 l3 3 (L.setIfInBounds i true) (a.put (some t) v) W') (k4' : Ch k50 50 (w.heap.size + 2) w.heap.size s4 l4 4 (L.setIfInBounds i true) (a.put (some t) v) W') : I14 w s0 s1 s2 s3 s4 l0 l1 l2 l3 l4 (L.setIfInBounds i true) (a.put (some t) v) W' := by
 have hbb : Below w.heap.size W W' := ⟨hb.os, hb.tape, hb.output, hb.size, fun k hk => hb.block k (by omega)⟩
 refine ⟨put_size.trans h.sz, by simpa using h.lz, h.df, by rw [put_ne (by omega)]; exact h.t1, by rw [put_ne (by omega)]; exact h.t2, h.bel.trans hbb, by rw [hb.block _ (by omega)]; exact h.bx, ?_, Nat.le_trans h.hz hb.size, k0', k1', k2', k3', k4', fun q k hk => ?_, fun q => ?_, fun q => ?_, fun q => ?_⟩
 ·obtain ⟨cs, h1, h2⟩ := h.rb
  exact ⟨cs, by rw [hb.block _ (by omega)]; exact h1, h2⟩
 ·rw [set_ne (by omega)] at q
  by_cases e : i = 4 * k + 3
  ·subst e
   rw [Array.getD_eq_getD_getElem?, Array.getElem?_setIfInBounds_self_of_lt (by rw [h.lz]; omega)]; rfl
  ·rw [set_ne e]; exact h.cl q k hk
 ·rw [set_ne (by omega)] at q ⊢; exact h.cm q
 ·rw [set_ne (by omega)] at q
  obtain ⟨v0, v1, v2, v3, v4, h1, g0, g1, g2, g3, g4⟩ := h.b20 q
  exact ⟨v0, v1, v2, v3, v4, by rw [put_ne (by omega)]; exact h1, r0 q _ _ g0, r1 q _ _ g1, r2 q _ _ g2, r3 q _ _ g3, r4 q _ _ g4⟩
 ·rw [set_ne (by omega)] at q
  obtain ⟨v0, v1, v2, v3, v4, h1, g0, g1, g2, g3, g4⟩ := h.b21 q
  have q := h.cm q
  exact ⟨v0, v1, v2, v3, v4, by rw [hb.block _ (by omega)]; exact h1, r0 q _ _ g0, r1 q _ _ g1, r2 q _ _ g2, r3 q _ _ g3, r4 q _ _ g4⟩
theorem eval_tmp {a : Act} {t : Nat} {v : Value} (h : a.tmps[t]? = some v) : a.eval (.tmp t) = v := by
 simp [Act.eval, Array.getD_eq_getD_getElem?, h]
theorem wanted_of {ops : Array Oper} {o : Oper} (h : o.guard = none) {t : Array Value} : Region.wanted o (yielded ops t) = true := by
 simp [Region.wanted, h]
variable {ops : Array Oper} {Q : Exit → Act → World → Prop}
theorem I14.lit0 (h : I14 w s0 s1 s2 s3 s4 l0 l1 l2 l3 l4 L a W) {o : Oper} (ho : ops[0]? = some o) (eo : o = { dst := some 3, op := Op.buildSlice 22 0 #[], type := 22, pos := o.pos, after := o.after, guard := none }) : wpOp Try.prog ops Q 0 (I14 w s0 s1 s2 s3 s4 l0 l1 l2 l3 l4 (L.setIfInBounds 0 true)) a W := by
 have hg0 : o.guard = none := by rw [eo]
 have hd0 : o.dst = some 3 := by rw [eo]
 refine wpOp_if ho (Kd.R_lit_step Kd.string (w0 := W) (w.heap.size + 2) 9 (wanted_of hg0) hd0 (xs := []) (inner := []) (ok := fun _ => True) (okp := fun _ => True) ?_ (Reps.none _ _) (fun _ hk => hk) trivial ⟨rfl, rfl, rfl, Nat.le_refl _, fun _ _ => rfl⟩ h.hz (by simp) ?_)
 ·rw [eo]; go_simp
 ·intro v1 w1 hr1 hb1 hg hat
  rw [hd0]
  exact h.next (i := 0) (t := 3) (by omega) (by omega) (by omega) hb1 (fun _ _ _ hx => Kd.R_step hx (fun k _ hk => hg.block k hk (by simp))) (fun _ _ _ hx => Kd.R_step hx (fun k _ hk => hg.block k hk (by simp))) (fun _ _ _ hx => Kd.R_step hx (fun k _ hk => hg.block k hk (by simp))) (fun _ _ _ hx => Kd.R_step hx (fun k _ hk => hg.block k hk (by simp))) (fun _ _ _ hx => Kd.R_step hx (fun k _ hk => hg.block k hk (by simp))) (h.c0.own0 (by rw [h.sz]; omega) (fun _ _ hx => Kd.R_step hx (fun k _ hk => hg.block k hk (by simp))) hr1) (h.c1.frame (fun _ _ hx => Kd.R_step hx (fun k _ hk => hg.block k hk (by simp))) (fun t h1 h2 => put_ne (by omega)) (fun j h1 h2 => set_ne (by omega))) (h.c2.frame (fun _ _ hx => Kd.R_step hx (fun k _ hk => hg.block k hk (by simp))) (fun t h1 h2 => put_ne (by omega)) (fun j h1 h2 => set_ne (by omega))) (h.c3.frame (fun _ _ hx => Kd.R_step hx (fun k _ hk => hg.block k hk (by simp))) (fun t h1 h2 => put_ne (by omega)) (fun j h1 h2 => set_ne (by omega))) (h.c4.frame (fun _ _ hx => Kd.R_step hx (fun k _ hk => hg.block k hk (by simp))) (fun t h1 h2 => put_ne (by omega)) (fun j h1 h2 => set_ne (by omega)))
theorem I14.lit1 (h : I14 w s0 s1 s2 s3 s4 l0 l1 l2 l3 l4 L a W) {o : Oper} (ho : ops[4]? = some o) (eo : o = { dst := some 7, op := Op.buildSlice 31 0 #[], type := 31, pos := o.pos, after := o.after, guard := none }) : wpOp Try.prog ops Q 4 (I14 w s0 s1 s2 s3 s4 l0 l1 l2 l3 l4 (L.setIfInBounds 4 true)) a W := by
 have hg0 : o.guard = none := by rw [eo]
 have hd0 : o.dst = some 7 := by rw [eo]
 refine wpOp_if ho (Kd.R_lit_step k73 (w0 := W) (w.heap.size + 2) 73 (wanted_of hg0) hd0 (xs := []) (inner := []) (ok := fun _ => True) (okp := fun _ => True) ?_ (Reps.none _ _) (fun _ hk => hk) trivial ⟨rfl, rfl, rfl, Nat.le_refl _, fun _ _ => rfl⟩ h.hz (by simp) ?_)
 ·rw [eo]; go_simp
 ·intro v1 w1 hr1 hb1 hg hat
  rw [hd0]
  exact h.next (i := 4) (t := 7) (by omega) (by omega) (by omega) hb1 (fun _ _ _ hx => Kd.R_step hx (fun k _ hk => hg.block k hk (by simp))) (fun _ _ _ hx => Kd.R_step hx (fun k _ hk => hg.block k hk (by simp))) (fun _ _ _ hx => Kd.R_step hx (fun k _ hk => hg.block k hk (by simp))) (fun _ _ _ hx => Kd.R_step hx (fun k _ hk => hg.block k hk (by simp))) (fun _ _ _ hx => Kd.R_step hx (fun k _ hk => hg.block k hk (by simp))) (h.c0.frame (fun _ _ hx => Kd.R_step hx (fun k _ hk => hg.block k hk (by simp))) (fun t h1 h2 => put_ne (by omega)) (fun j h1 h2 => set_ne (by omega))) (h.c1.own0 (by rw [h.sz]; omega) (fun _ _ hx => Kd.R_step hx (fun k _ hk => hg.block k hk (by simp))) hr1) (h.c2.frame (fun _ _ hx => Kd.R_step hx (fun k _ hk => hg.block k hk (by simp))) (fun t h1 h2 => put_ne (by omega)) (fun j h1 h2 => set_ne (by omega))) (h.c3.frame (fun _ _ hx => Kd.R_step hx (fun k _ hk => hg.block k hk (by simp))) (fun t h1 h2 => put_ne (by omega)) (fun j h1 h2 => set_ne (by omega))) (h.c4.frame (fun _ _ hx => Kd.R_step hx (fun k _ hk => hg.block k hk (by simp))) (fun t h1 h2 => put_ne (by omega)) (fun j h1 h2 => set_ne (by omega)))
theorem I14.lit2 (h : I14 w s0 s1 s2 s3 s4 l0 l1 l2 l3 l4 L a W) {o : Oper} (ho : ops[8]? = some o) (eo : o = { dst := some 11, op := Op.buildSlice 32 0 #[], type := 32, pos := o.pos, after := o.after, guard := none }) : wpOp Try.prog ops Q 8 (I14 w s0 s1 s2 s3 s4 l0 l1 l2 l3 l4 (L.setIfInBounds 8 true)) a W := by
 have hg0 : o.guard = none := by rw [eo]
 have hd0 : o.dst = some 11 := by rw [eo]
 refine wpOp_if ho (Kd.R_lit_step k55 (w0 := W) (w.heap.size + 2) 55 (wanted_of hg0) hd0 (xs := []) (inner := []) (ok := fun _ => True) (okp := fun _ => True) ?_ (Reps.none _ _) (fun _ hk => hk) trivial ⟨rfl, rfl, rfl, Nat.le_refl _, fun _ _ => rfl⟩ h.hz (by simp) ?_)
 ·rw [eo]; go_simp
 ·intro v1 w1 hr1 hb1 hg hat
  rw [hd0]
  exact h.next (i := 8) (t := 11) (by omega) (by omega) (by omega) hb1 (fun _ _ _ hx => Kd.R_step hx (fun k _ hk => hg.block k hk (by simp))) (fun _ _ _ hx => Kd.R_step hx (fun k _ hk => hg.block k hk (by simp))) (fun _ _ _ hx => Kd.R_step hx (fun k _ hk => hg.block k hk (by simp))) (fun _ _ _ hx => Kd.R_step hx (fun k _ hk => hg.block k hk (by simp))) (fun _ _ _ hx => Kd.R_step hx (fun k _ hk => hg.block k hk (by simp))) (h.c0.frame (fun _ _ hx => Kd.R_step hx (fun k _ hk => hg.block k hk (by simp))) (fun t h1 h2 => put_ne (by omega)) (fun j h1 h2 => set_ne (by omega))) (h.c1.frame (fun _ _ hx => Kd.R_step hx (fun k _ hk => hg.block k hk (by simp))) (fun t h1 h2 => put_ne (by omega)) (fun j h1 h2 => set_ne (by omega))) (h.c2.own0 (by rw [h.sz]; omega) (fun _ _ hx => Kd.R_step hx (fun k _ hk => hg.block k hk (by simp))) hr1) (h.c3.frame (fun _ _ hx => Kd.R_step hx (fun k _ hk => hg.block k hk (by simp))) (fun t h1 h2 => put_ne (by omega)) (fun j h1 h2 => set_ne (by omega))) (h.c4.frame (fun _ _ hx => Kd.R_step hx (fun k _ hk => hg.block k hk (by simp))) (fun t h1 h2 => put_ne (by omega)) (fun j h1 h2 => set_ne (by omega)))
theorem I14.lit3 (h : I14 w s0 s1 s2 s3 s4 l0 l1 l2 l3 l4 L a W) {o : Oper} (ho : ops[12]? = some o) (eo : o = { dst := some 15, op := Op.buildSlice 33 0 #[], type := 33, pos := o.pos, after := o.after, guard := none }) : wpOp Try.prog ops Q 12 (I14 w s0 s1 s2 s3 s4 l0 l1 l2 l3 l4 (L.setIfInBounds 12 true)) a W := by
 have hg0 : o.guard = none := by rw [eo]
 have hd0 : o.dst = some 15 := by rw [eo]
 refine wpOp_if ho (Kd.R_lit_step k53 (w0 := W) (w.heap.size + 2) 53 (wanted_of hg0) hd0 (xs := []) (inner := []) (ok := fun _ => True) (okp := fun _ => True) ?_ (Reps.none _ _) (fun _ hk => hk) trivial ⟨rfl, rfl, rfl, Nat.le_refl _, fun _ _ => rfl⟩ h.hz (by simp) ?_)
 ·rw [eo]; go_simp
 ·intro v1 w1 hr1 hb1 hg hat
  rw [hd0]
  exact h.next (i := 12) (t := 15) (by omega) (by omega) (by omega) hb1 (fun _ _ _ hx => Kd.R_step hx (fun k _ hk => hg.block k hk (by simp))) (fun _ _ _ hx => Kd.R_step hx (fun k _ hk => hg.block k hk (by simp))) (fun _ _ _ hx => Kd.R_step hx (fun k _ hk => hg.block k hk (by simp))) (fun _ _ _ hx => Kd.R_step hx (fun k _ hk => hg.block k hk (by simp))) (fun _ _ _ hx => Kd.R_step hx (fun k _ hk => hg.block k hk (by simp))) (h.c0.frame (fun _ _ hx => Kd.R_step hx (fun k _ hk => hg.block k hk (by simp))) (fun t h1 h2 => put_ne (by omega)) (fun j h1 h2 => set_ne (by omega))) (h.c1.frame (fun _ _ hx => Kd.R_step hx (fun k _ hk => hg.block k hk (by simp))) (fun t h1 h2 => put_ne (by omega)) (fun j h1 h2 => set_ne (by omega))) (h.c2.frame (fun _ _ hx => Kd.R_step hx (fun k _ hk => hg.block k hk (by simp))) (fun t h1 h2 => put_ne (by omega)) (fun j h1 h2 => set_ne (by omega))) (h.c3.own0 (by rw [h.sz]; omega) (fun _ _ hx => Kd.R_step hx (fun k _ hk => hg.block k hk (by simp))) hr1) (h.c4.frame (fun _ _ hx => Kd.R_step hx (fun k _ hk => hg.block k hk (by simp))) (fun t h1 h2 => put_ne (by omega)) (fun j h1 h2 => set_ne (by omega)))
theorem I14.lit4 (h : I14 w s0 s1 s2 s3 s4 l0 l1 l2 l3 l4 L a W) {o : Oper} (ho : ops[16]? = some o) (eo : o = { dst := some 19, op := Op.buildSlice 34 0 #[], type := 34, pos := o.pos, after := o.after, guard := none }) : wpOp Try.prog ops Q 16 (I14 w s0 s1 s2 s3 s4 l0 l1 l2 l3 l4 (L.setIfInBounds 16 true)) a W := by
 have hg0 : o.guard = none := by rw [eo]
 have hd0 : o.dst = some 19 := by rw [eo]
 refine wpOp_if ho (Kd.R_lit_step k50 (w0 := W) (w.heap.size + 2) 50 (wanted_of hg0) hd0 (xs := []) (inner := []) (ok := fun _ => True) (okp := fun _ => True) ?_ (Reps.none _ _) (fun _ hk => hk) trivial ⟨rfl, rfl, rfl, Nat.le_refl _, fun _ _ => rfl⟩ h.hz (by simp) ?_)
 ·rw [eo]; go_simp
 ·intro v1 w1 hr1 hb1 hg hat
  rw [hd0]
  exact h.next (i := 16) (t := 19) (by omega) (by omega) (by omega) hb1 (fun _ _ _ hx => Kd.R_step hx (fun k _ hk => hg.block k hk (by simp))) (fun _ _ _ hx => Kd.R_step hx (fun k _ hk => hg.block k hk (by simp))) (fun _ _ _ hx => Kd.R_step hx (fun k _ hk => hg.block k hk (by simp))) (fun _ _ _ hx => Kd.R_step hx (fun k _ hk => hg.block k hk (by simp))) (fun _ _ _ hx => Kd.R_step hx (fun k _ hk => hg.block k hk (by simp))) (h.c0.frame (fun _ _ hx => Kd.R_step hx (fun k _ hk => hg.block k hk (by simp))) (fun t h1 h2 => put_ne (by omega)) (fun j h1 h2 => set_ne (by omega))) (h.c1.frame (fun _ _ hx => Kd.R_step hx (fun k _ hk => hg.block k hk (by simp))) (fun t h1 h2 => put_ne (by omega)) (fun j h1 h2 => set_ne (by omega))) (h.c2.frame (fun _ _ hx => Kd.R_step hx (fun k _ hk => hg.block k hk (by simp))) (fun t h1 h2 => put_ne (by omega)) (fun j h1 h2 => set_ne (by omega))) (h.c3.frame (fun _ _ hx => Kd.R_step hx (fun k _ hk => hg.block k hk (by simp))) (fun t h1 h2 => put_ne (by omega)) (fun j h1 h2 => set_ne (by omega))) (h.c4.own0 (by rw [h.sz]; omega) (fun _ _ hx => Kd.R_step hx (fun k _ hk => hg.block k hk (by simp))) hr1)
theorem I14.fa0 (h : I14 w s0 s1 s2 s3 s4 l0 l1 l2 l3 l4 L a W) {o : Oper} (ho : ops[1]? = some o) (eo : o = { dst := some 4, op := Op.fieldAddr 36 (Operand.tmp 1) 0, type := 0, pos := o.pos, after := o.after, guard := none }) : wpOp Try.prog ops Q 1 (I14 w s0 s1 s2 s3 s4 l0 l1 l2 l3 l4 (L.setIfInBounds 1 true)) a W := by
 have hu := Try.underlying36
 have e1 := h.t1
 have hr : (execOp a.eval o).run Try.prog W = .ok (.value (.pointer (some ⟨w.heap.size, 0, none⟩))) W := by rw [eo]; go_simp
 refine wpOp_of ho (by rw [eo]) ?_
 unfold Oper.wp
 rw [hr, Oper.upon_value, show o.dst = some 4 by rw [eo]]
 exact h.next (i := 1) (t := 4) (by omega) (by omega) (by omega) ⟨rfl, rfl, rfl, Nat.le_refl _, fun _ _ => rfl⟩ (fun _ _ _ hx => hx) (fun _ _ _ hx => hx) (fun _ _ _ hx => hx) (fun _ _ _ hx => hx) (fun _ _ _ hx => hx) (h.c0.own1 (by rw [h.sz]; omega)) (h.c1.frame (fun _ _ hx => hx) (fun t h1 h2 => put_ne (by omega)) (fun j h1 h2 => set_ne (by omega))) (h.c2.frame (fun _ _ hx => hx) (fun t h1 h2 => put_ne (by omega)) (fun j h1 h2 => set_ne (by omega))) (h.c3.frame (fun _ _ hx => hx) (fun t h1 h2 => put_ne (by omega)) (fun j h1 h2 => set_ne (by omega))) (h.c4.frame (fun _ _ hx => hx) (fun t h1 h2 => put_ne (by omega)) (fun j h1 h2 => set_ne (by omega)))
theorem I14.ld0 (h : I14 w s0 s1 s2 s3 s4 l0 l1 l2 l3 l4 L a W) {o : Oper} (ho : ops[2]? = some o) (h1 : L.getD 1 false = true) (eo : o = { dst := some 5, op := Op.load 22 (Operand.tmp 4), type := 22, pos := o.pos, after := o.after, guard := none }) (hs : ∃ A n c, s0 = .slice A n c) : wpOp Try.prog ops Q 2 (I14 w s0 s1 s2 s3 s4 l0 l1 l2 l3 l4 (L.setIfInBounds 2 true)) a W := by
 obtain ⟨A_, n_, c_, rfl⟩ := hs
 have hu := Try.underlying22
 have hp := h.c0.e1 h1
 have hc : W.cell? ⟨w.heap.size, 0, none⟩ = some (.slice A_ n_ c_) := blk_cell h.bx 0
 have hf := blk_frozen h.bx 0
 have e1 : a.tmps[4]? = some (.pointer (some ⟨w.heap.size, 0, none⟩)) := hp
 have hr : (execOp a.eval o).run Try.prog W = .ok (.value (.slice A_ n_ c_)) W := by rw [eo]; go_simp
 refine wpOp_of ho (by rw [eo]) ?_
 unfold Oper.wp
 rw [hr, Oper.upon_value, show o.dst = some 5 by rw [eo]]
 exact h.next (i := 2) (t := 5) (by omega) (by omega) (by omega) ⟨rfl, rfl, rfl, Nat.le_refl _, fun _ _ => rfl⟩ (fun _ _ _ hx => hx) (fun _ _ _ hx => hx) (fun _ _ _ hx => hx) (fun _ _ _ hx => hx) (fun _ _ _ hx => hx) (h.c0.own2 (by rw [h.sz]; omega)) (h.c1.frame (fun _ _ hx => hx) (fun t h1 h2 => put_ne (by omega)) (fun j h1 h2 => set_ne (by omega))) (h.c2.frame (fun _ _ hx => hx) (fun t h1 h2 => put_ne (by omega)) (fun j h1 h2 => set_ne (by omega))) (h.c3.frame (fun _ _ hx => hx) (fun t h1 h2 => put_ne (by omega)) (fun j h1 h2 => set_ne (by omega))) (h.c4.frame (fun _ _ hx => hx) (fun t h1 h2 => put_ne (by omega)) (fun j h1 h2 => set_ne (by omega)))
theorem I14.fa1 (h : I14 w s0 s1 s2 s3 s4 l0 l1 l2 l3 l4 L a W) {o : Oper} (ho : ops[5]? = some o) (eo : o = { dst := some 8, op := Op.fieldAddr 36 (Operand.tmp 1) 1, type := 0, pos := o.pos, after := o.after, guard := none }) : wpOp Try.prog ops Q 5 (I14 w s0 s1 s2 s3 s4 l0 l1 l2 l3 l4 (L.setIfInBounds 5 true)) a W := by
 have hu := Try.underlying36
 have e1 := h.t1
 have hr : (execOp a.eval o).run Try.prog W = .ok (.value (.pointer (some ⟨w.heap.size, 1, none⟩))) W := by rw [eo]; go_simp
 refine wpOp_of ho (by rw [eo]) ?_
 unfold Oper.wp
 rw [hr, Oper.upon_value, show o.dst = some 8 by rw [eo]]
 exact h.next (i := 5) (t := 8) (by omega) (by omega) (by omega) ⟨rfl, rfl, rfl, Nat.le_refl _, fun _ _ => rfl⟩ (fun _ _ _ hx => hx) (fun _ _ _ hx => hx) (fun _ _ _ hx => hx) (fun _ _ _ hx => hx) (fun _ _ _ hx => hx) (h.c0.frame (fun _ _ hx => hx) (fun t h1 h2 => put_ne (by omega)) (fun j h1 h2 => set_ne (by omega))) (h.c1.own1 (by rw [h.sz]; omega)) (h.c2.frame (fun _ _ hx => hx) (fun t h1 h2 => put_ne (by omega)) (fun j h1 h2 => set_ne (by omega))) (h.c3.frame (fun _ _ hx => hx) (fun t h1 h2 => put_ne (by omega)) (fun j h1 h2 => set_ne (by omega))) (h.c4.frame (fun _ _ hx => hx) (fun t h1 h2 => put_ne (by omega)) (fun j h1 h2 => set_ne (by omega)))
theorem I14.ld1 (h : I14 w s0 s1 s2 s3 s4 l0 l1 l2 l3 l4 L a W) {o : Oper} (ho : ops[6]? = some o) (h1 : L.getD 5 false = true) (eo : o = { dst := some 9, op := Op.load 31 (Operand.tmp 8), type := 31, pos := o.pos, after := o.after, guard := none }) (hs : ∃ A n c, s1 = .slice A n c) : wpOp Try.prog ops Q 6 (I14 w s0 s1 s2 s3 s4 l0 l1 l2 l3 l4 (L.setIfInBounds 6 true)) a W := by
 obtain ⟨A_, n_, c_, rfl⟩ := hs
 have hu := Try.underlying31
 have hp := h.c1.e1 h1
 have hc : W.cell? ⟨w.heap.size, 1, none⟩ = some (.slice A_ n_ c_) := blk_cell h.bx 1
 have hf := blk_frozen h.bx 1
 have e1 : a.tmps[8]? = some (.pointer (some ⟨w.heap.size, 1, none⟩)) := hp
 have hr : (execOp a.eval o).run Try.prog W = .ok (.value (.slice A_ n_ c_)) W := by rw [eo]; go_simp
 refine wpOp_of ho (by rw [eo]) ?_
 unfold Oper.wp
 rw [hr, Oper.upon_value, show o.dst = some 9 by rw [eo]]
 exact h.next (i := 6) (t := 9) (by omega) (by omega) (by omega) ⟨rfl, rfl, rfl, Nat.le_refl _, fun _ _ => rfl⟩ (fun _ _ _ hx => hx) (fun _ _ _ hx => hx) (fun _ _ _ hx => hx) (fun _ _ _ hx => hx) (fun _ _ _ hx => hx) (h.c0.frame (fun _ _ hx => hx) (fun t h1 h2 => put_ne (by omega)) (fun j h1 h2 => set_ne (by omega))) (h.c1.own2 (by rw [h.sz]; omega)) (h.c2.frame (fun _ _ hx => hx) (fun t h1 h2 => put_ne (by omega)) (fun j h1 h2 => set_ne (by omega))) (h.c3.frame (fun _ _ hx => hx) (fun t h1 h2 => put_ne (by omega)) (fun j h1 h2 => set_ne (by omega))) (h.c4.frame (fun _ _ hx => hx) (fun t h1 h2 => put_ne (by omega)) (fun j h1 h2 => set_ne (by omega)))
theorem I14.fa2 (h : I14 w s0 s1 s2 s3 s4 l0 l1 l2 l3 l4 L a W) {o : Oper} (ho : ops[9]? = some o) (eo : o = { dst := some 12, op := Op.fieldAddr 36 (Operand.tmp 1) 2, type := 0, pos := o.pos, after := o.after, guard := none }) : wpOp Try.prog ops Q 9 (I14 w s0 s1 s2 s3 s4 l0 l1 l2 l3 l4 (L.setIfInBounds 9 true)) a W := by
 have hu := Try.underlying36
 have e1 := h.t1
 have hr : (execOp a.eval o).run Try.prog W = .ok (.value (.pointer (some ⟨w.heap.size, 2, none⟩))) W := by rw [eo]; go_simp
 refine wpOp_of ho (by rw [eo]) ?_
 unfold Oper.wp
 rw [hr, Oper.upon_value, show o.dst = some 12 by rw [eo]]
 exact h.next (i := 9) (t := 12) (by omega) (by omega) (by omega) ⟨rfl, rfl, rfl, Nat.le_refl _, fun _ _ => rfl⟩ (fun _ _ _ hx => hx) (fun _ _ _ hx => hx) (fun _ _ _ hx => hx) (fun _ _ _ hx => hx) (fun _ _ _ hx => hx) (h.c0.frame (fun _ _ hx => hx) (fun t h1 h2 => put_ne (by omega)) (fun j h1 h2 => set_ne (by omega))) (h.c1.frame (fun _ _ hx => hx) (fun t h1 h2 => put_ne (by omega)) (fun j h1 h2 => set_ne (by omega))) (h.c2.own1 (by rw [h.sz]; omega)) (h.c3.frame (fun _ _ hx => hx) (fun t h1 h2 => put_ne (by omega)) (fun j h1 h2 => set_ne (by omega))) (h.c4.frame (fun _ _ hx => hx) (fun t h1 h2 => put_ne (by omega)) (fun j h1 h2 => set_ne (by omega)))
theorem I14.ld2 (h : I14 w s0 s1 s2 s3 s4 l0 l1 l2 l3 l4 L a W) {o : Oper} (ho : ops[10]? = some o) (h1 : L.getD 9 false = true) (eo : o = { dst := some 13, op := Op.load 32 (Operand.tmp 12), type := 32, pos := o.pos, after := o.after, guard := none }) (hs : ∃ A n c, s2 = .slice A n c) : wpOp Try.prog ops Q 10 (I14 w s0 s1 s2 s3 s4 l0 l1 l2 l3 l4 (L.setIfInBounds 10 true)) a W := by
 obtain ⟨A_, n_, c_, rfl⟩ := hs
 have hu := Try.underlying32
 have hp := h.c2.e1 h1
 have hc : W.cell? ⟨w.heap.size, 2, none⟩ = some (.slice A_ n_ c_) := blk_cell h.bx 2
 have hf := blk_frozen h.bx 2
 have e1 : a.tmps[12]? = some (.pointer (some ⟨w.heap.size, 2, none⟩)) := hp
 have hr : (execOp a.eval o).run Try.prog W = .ok (.value (.slice A_ n_ c_)) W := by rw [eo]; go_simp
 refine wpOp_of ho (by rw [eo]) ?_
 unfold Oper.wp
 rw [hr, Oper.upon_value, show o.dst = some 13 by rw [eo]]
 exact h.next (i := 10) (t := 13) (by omega) (by omega) (by omega) ⟨rfl, rfl, rfl, Nat.le_refl _, fun _ _ => rfl⟩ (fun _ _ _ hx => hx) (fun _ _ _ hx => hx) (fun _ _ _ hx => hx) (fun _ _ _ hx => hx) (fun _ _ _ hx => hx) (h.c0.frame (fun _ _ hx => hx) (fun t h1 h2 => put_ne (by omega)) (fun j h1 h2 => set_ne (by omega))) (h.c1.frame (fun _ _ hx => hx) (fun t h1 h2 => put_ne (by omega)) (fun j h1 h2 => set_ne (by omega))) (h.c2.own2 (by rw [h.sz]; omega)) (h.c3.frame (fun _ _ hx => hx) (fun t h1 h2 => put_ne (by omega)) (fun j h1 h2 => set_ne (by omega))) (h.c4.frame (fun _ _ hx => hx) (fun t h1 h2 => put_ne (by omega)) (fun j h1 h2 => set_ne (by omega)))
theorem I14.fa3 (h : I14 w s0 s1 s2 s3 s4 l0 l1 l2 l3 l4 L a W) {o : Oper} (ho : ops[13]? = some o) (eo : o = { dst := some 16, op := Op.fieldAddr 36 (Operand.tmp 1) 3, type := 0, pos := o.pos, after := o.after, guard := none }) : wpOp Try.prog ops Q 13 (I14 w s0 s1 s2 s3 s4 l0 l1 l2 l3 l4 (L.setIfInBounds 13 true)) a W := by
 have hu := Try.underlying36
 have e1 := h.t1
 have hr : (execOp a.eval o).run Try.prog W = .ok (.value (.pointer (some ⟨w.heap.size, 3, none⟩))) W := by rw [eo]; go_simp
 refine wpOp_of ho (by rw [eo]) ?_
 unfold Oper.wp
 rw [hr, Oper.upon_value, show o.dst = some 16 by rw [eo]]
 exact h.next (i := 13) (t := 16) (by omega) (by omega) (by omega) ⟨rfl, rfl, rfl, Nat.le_refl _, fun _ _ => rfl⟩ (fun _ _ _ hx => hx) (fun _ _ _ hx => hx) (fun _ _ _ hx => hx) (fun _ _ _ hx => hx) (fun _ _ _ hx => hx) (h.c0.frame (fun _ _ hx => hx) (fun t h1 h2 => put_ne (by omega)) (fun j h1 h2 => set_ne (by omega))) (h.c1.frame (fun _ _ hx => hx) (fun t h1 h2 => put_ne (by omega)) (fun j h1 h2 => set_ne (by omega))) (h.c2.frame (fun _ _ hx => hx) (fun t h1 h2 => put_ne (by omega)) (fun j h1 h2 => set_ne (by omega))) (h.c3.own1 (by rw [h.sz]; omega)) (h.c4.frame (fun _ _ hx => hx) (fun t h1 h2 => put_ne (by omega)) (fun j h1 h2 => set_ne (by omega)))
theorem I14.ld3 (h : I14 w s0 s1 s2 s3 s4 l0 l1 l2 l3 l4 L a W) {o : Oper} (ho : ops[14]? = some o) (h1 : L.getD 13 false = true) (eo : o = { dst := some 17, op := Op.load 33 (Operand.tmp 16), type := 33, pos := o.pos, after := o.after, guard := none }) (hs : ∃ A n c, s3 = .slice A n c) : wpOp Try.prog ops Q 14 (I14 w s0 s1 s2 s3 s4 l0 l1 l2 l3 l4 (L.setIfInBounds 14 true)) a W := by
 obtain ⟨A_, n_, c_, rfl⟩ := hs
 have hu := Try.underlying33
 have hp := h.c3.e1 h1
 have hc : W.cell? ⟨w.heap.size, 3, none⟩ = some (.slice A_ n_ c_) := blk_cell h.bx 3
 have hf := blk_frozen h.bx 3
 have e1 : a.tmps[16]? = some (.pointer (some ⟨w.heap.size, 3, none⟩)) := hp
 have hr : (execOp a.eval o).run Try.prog W = .ok (.value (.slice A_ n_ c_)) W := by rw [eo]; go_simp
 refine wpOp_of ho (by rw [eo]) ?_
 unfold Oper.wp
 rw [hr, Oper.upon_value, show o.dst = some 17 by rw [eo]]
 exact h.next (i := 14) (t := 17) (by omega) (by omega) (by omega) ⟨rfl, rfl, rfl, Nat.le_refl _, fun _ _ => rfl⟩ (fun _ _ _ hx => hx) (fun _ _ _ hx => hx) (fun _ _ _ hx => hx) (fun _ _ _ hx => hx) (fun _ _ _ hx => hx) (h.c0.frame (fun _ _ hx => hx) (fun t h1 h2 => put_ne (by omega)) (fun j h1 h2 => set_ne (by omega))) (h.c1.frame (fun _ _ hx => hx) (fun t h1 h2 => put_ne (by omega)) (fun j h1 h2 => set_ne (by omega))) (h.c2.frame (fun _ _ hx => hx) (fun t h1 h2 => put_ne (by omega)) (fun j h1 h2 => set_ne (by omega))) (h.c3.own2 (by rw [h.sz]; omega)) (h.c4.frame (fun _ _ hx => hx) (fun t h1 h2 => put_ne (by omega)) (fun j h1 h2 => set_ne (by omega)))
theorem I14.fa4 (h : I14 w s0 s1 s2 s3 s4 l0 l1 l2 l3 l4 L a W) {o : Oper} (ho : ops[17]? = some o) (eo : o = { dst := some 20, op := Op.fieldAddr 36 (Operand.tmp 1) 4, type := 0, pos := o.pos, after := o.after, guard := none }) : wpOp Try.prog ops Q 17 (I14 w s0 s1 s2 s3 s4 l0 l1 l2 l3 l4 (L.setIfInBounds 17 true)) a W := by
 have hu := Try.underlying36
 have e1 := h.t1
 have hr : (execOp a.eval o).run Try.prog W = .ok (.value (.pointer (some ⟨w.heap.size, 4, none⟩))) W := by rw [eo]; go_simp
 refine wpOp_of ho (by rw [eo]) ?_
 unfold Oper.wp
 rw [hr, Oper.upon_value, show o.dst = some 20 by rw [eo]]
 exact h.next (i := 17) (t := 20) (by omega) (by omega) (by omega) ⟨rfl, rfl, rfl, Nat.le_refl _, fun _ _ => rfl⟩ (fun _ _ _ hx => hx) (fun _ _ _ hx => hx) (fun _ _ _ hx => hx) (fun _ _ _ hx => hx) (fun _ _ _ hx => hx) (h.c0.frame (fun _ _ hx => hx) (fun t h1 h2 => put_ne (by omega)) (fun j h1 h2 => set_ne (by omega))) (h.c1.frame (fun _ _ hx => hx) (fun t h1 h2 => put_ne (by omega)) (fun j h1 h2 => set_ne (by omega))) (h.c2.frame (fun _ _ hx => hx) (fun t h1 h2 => put_ne (by omega)) (fun j h1 h2 => set_ne (by omega))) (h.c3.frame (fun _ _ hx => hx) (fun t h1 h2 => put_ne (by omega)) (fun j h1 h2 => set_ne (by omega))) (h.c4.own1 (by rw [h.sz]; omega))
theorem I14.ld4 (h : I14 w s0 s1 s2 s3 s4 l0 l1 l2 l3 l4 L a W) {o : Oper} (ho : ops[18]? = some o) (h1 : L.getD 17 false = true) (eo : o = { dst := some 21, op := Op.load 34 (Operand.tmp 20), type := 34, pos := o.pos, after := o.after, guard := none }) (hs : ∃ A n c, s4 = .slice A n c) : wpOp Try.prog ops Q 18 (I14 w s0 s1 s2 s3 s4 l0 l1 l2 l3 l4 (L.setIfInBounds 18 true)) a W := by
 obtain ⟨A_, n_, c_, rfl⟩ := hs
 have hu := Try.underlying34
 have hp := h.c4.e1 h1
 have hc : W.cell? ⟨w.heap.size, 4, none⟩ = some (.slice A_ n_ c_) := blk_cell h.bx 4
 have hf := blk_frozen h.bx 4
 have e1 : a.tmps[20]? = some (.pointer (some ⟨w.heap.size, 4, none⟩)) := hp
 have hr : (execOp a.eval o).run Try.prog W = .ok (.value (.slice A_ n_ c_)) W := by rw [eo]; go_simp
 refine wpOp_of ho (by rw [eo]) ?_
 unfold Oper.wp
 rw [hr, Oper.upon_value, show o.dst = some 21 by rw [eo]]
 exact h.next (i := 18) (t := 21) (by omega) (by omega) (by omega) ⟨rfl, rfl, rfl, Nat.le_refl _, fun _ _ => rfl⟩ (fun _ _ _ hx => hx) (fun _ _ _ hx => hx) (fun _ _ _ hx => hx) (fun _ _ _ hx => hx) (fun _ _ _ hx => hx) (h.c0.frame (fun _ _ hx => hx) (fun t h1 h2 => put_ne (by omega)) (fun j h1 h2 => set_ne (by omega))) (h.c1.frame (fun _ _ hx => hx) (fun t h1 h2 => put_ne (by omega)) (fun j h1 h2 => set_ne (by omega))) (h.c2.frame (fun _ _ hx => hx) (fun t h1 h2 => put_ne (by omega)) (fun j h1 h2 => set_ne (by omega))) (h.c3.frame (fun _ _ hx => hx) (fun t h1 h2 => put_ne (by omega)) (fun j h1 h2 => set_ne (by omega))) (h.c4.own2 (by rw [h.sz]; omega))
theorem I14.ap0 (h : I14 w s0 s1 s2 s3 s4 l0 l1 l2 l3 l4 L a W) {o : Oper} (ho : ops[3]? = some o) (hp0 : L.getD 0 false = true) (hp2 : L.getD 2 false = true) (h3 : L.getD 3 false = false)
  (eo : o = { dst := some 6, op := Op.call { callee := Callee.builtin Builtin.append, args := #[Operand.tmp 3, Operand.tmp 5], argTypes := #[22, 22] }, type := 22, pos := o.pos, after := o.after, guard := none })
  {A_ : Option Addr} {c_ : Nat} (hs : s0 = .slice A_ l0.length c_) (hC : Kd.C Kd.string w A_ l0.length l0) (hq : l0.length < 8796093022208) : wpOp Try.prog ops Q 3 (I14 w s0 s1 s2 s3 s4 l0 l1 l2 l3 l4 (L.setIfInBounds 3 true)) a W := by
 have hg0 : o.guard = none := by rw [eo]
 have hd0 : o.dst = some 6 := by rw [eo]
 obtain ⟨v, hv, hR⟩ := h.c0.e0 hp0
 have hR := hR h3
 have hsl := h.c0.e2 hp2
 rw [hs] at hsl
 refine wpOp_if ho (Kd.R_append_rows_step Kd.string (w0 := W) (w.heap.size + 2) (wanted_of hg0) (.tmp 3) (.tmp 5) 22 9 (.string ⟨#[]⟩) 16 (by rw [eo]) Try.underlying22 info9 rfl (by decide) (by decide) v ([] : List ByteArray) l0 A_ l0.length c_ (fun _ => True) (fun _ => False) (eval_tmp hv) (eval_tmp hsl) hR (Kd.C_below hC h.bel) (fun _ _ hx => hx) (fun _ hx => hx.elim) (fun _ _ => trivial) ⟨rfl, rfl, rfl, Nat.le_refl _, fun _ _ => rfl⟩ h.hz (by simp only [List.length_nil]; omega) ?_)
 intro v1 w1 hr1 hb1 hg hat
 rw [hd0]
 exact h.next (i := 3) (t := 6) (by omega) (by omega) (by omega) hb1 (fun q => absurd (h.cl q 0 (by omega)) (by rw [h3]; simp)) (fun q => absurd (h.cl q 0 (by omega)) (by rw [h3]; simp)) (fun q => absurd (h.cl q 0 (by omega)) (by rw [h3]; simp)) (fun q => absurd (h.cl q 0 (by omega)) (by rw [h3]; simp)) (fun q => absurd (h.cl q 0 (by omega)) (by rw [h3]; simp)) (h.c0.own3 (by rw [h.sz]; omega) (by rw [h.lz]; omega) hr1) (h.c1.frame (fun _ _ hx => Kd.R_over' hx (Kd.R_typed hR) (by decide) hg) (fun t h1 h2 => put_ne (by omega)) (fun j h1 h2 => set_ne (by omega))) (h.c2.frame (fun _ _ hx => Kd.R_over' hx (Kd.R_typed hR) (by decide) hg) (fun t h1 h2 => put_ne (by omega)) (fun j h1 h2 => set_ne (by omega))) (h.c3.frame (fun _ _ hx => Kd.R_over' hx (Kd.R_typed hR) (by decide) hg) (fun t h1 h2 => put_ne (by omega)) (fun j h1 h2 => set_ne (by omega))) (h.c4.frame (fun _ _ hx => Kd.R_over' hx (Kd.R_typed hR) (by decide) hg) (fun t h1 h2 => put_ne (by omega)) (fun j h1 h2 => set_ne (by omega)))
theorem I14.ap1 (h : I14 w s0 s1 s2 s3 s4 l0 l1 l2 l3 l4 L a W) {o : Oper} (ho : ops[7]? = some o) (hp0 : L.getD 4 false = true) (hp2 : L.getD 6 false = true) (h3 : L.getD 7 false = false)
  (eo : o = { dst := some 10, op := Op.call { callee := Callee.builtin Builtin.append, args := #[Operand.tmp 7, Operand.tmp 9], argTypes := #[31, 31] }, type := 31, pos := o.pos, after := o.after, guard := none })
  {A_ : Option Addr} {c_ : Nat} (hs : s1 = .slice A_ l1.length c_) (hC : Kd.C k73 w A_ l1.length l1) (hq : l1.length < 2932031007402) : wpOp Try.prog ops Q 7 (I14 w s0 s1 s2 s3 s4 l0 l1 l2 l3 l4 (L.setIfInBounds 7 true)) a W := by
 have hg0 : o.guard = none := by rw [eo]
 have hd0 : o.dst = some 10 := by rw [eo]
 obtain ⟨v, hv, hR⟩ := h.c1.e0 hp0
 have hR := hR h3
 have hsl := h.c1.e2 hp2
 rw [hs] at hsl
 refine wpOp_if ho (Kd.R_append_rows_step k73 (w0 := W) (w.heap.size + 2) (wanted_of hg0) (.tmp 7) (.tmp 9) 31 73 (.agg #[(.string ⟨#[]⟩), (.string ⟨#[]⟩), (.string ⟨#[]⟩)]) 48 (by rw [eo]) Try.underlying31 info73 rfl (by decide) (by decide) v ([] : List S73) l1 A_ l1.length c_ (fun _ => True) (fun _ => False) (eval_tmp hv) (eval_tmp hsl) hR (Kd.C_below hC h.bel) (fun _ _ hx => hx) (fun _ hx => hx.elim) (fun _ _ => trivial) ⟨rfl, rfl, rfl, Nat.le_refl _, fun _ _ => rfl⟩ h.hz (by simp only [List.length_nil]; omega) ?_)
 intro v1 w1 hr1 hb1 hg hat
 rw [hd0]
 exact h.next (i := 7) (t := 10) (by omega) (by omega) (by omega) hb1 (fun q => absurd (h.cl q 1 (by omega)) (by rw [h3]; simp)) (fun q => absurd (h.cl q 1 (by omega)) (by rw [h3]; simp)) (fun q => absurd (h.cl q 1 (by omega)) (by rw [h3]; simp)) (fun q => absurd (h.cl q 1 (by omega)) (by rw [h3]; simp)) (fun q => absurd (h.cl q 1 (by omega)) (by rw [h3]; simp)) (h.c0.frame (fun _ _ hx => Kd.R_over' hx (Kd.R_typed hR) (by decide) hg) (fun t h1 h2 => put_ne (by omega)) (fun j h1 h2 => set_ne (by omega))) (h.c1.own3 (by rw [h.sz]; omega) (by rw [h.lz]; omega) hr1) (h.c2.frame (fun _ _ hx => Kd.R_over' hx (Kd.R_typed hR) (by decide) hg) (fun t h1 h2 => put_ne (by omega)) (fun j h1 h2 => set_ne (by omega))) (h.c3.frame (fun _ _ hx => Kd.R_over' hx (Kd.R_typed hR) (by decide) hg) (fun t h1 h2 => put_ne (by omega)) (fun j h1 h2 => set_ne (by omega))) (h.c4.frame (fun _ _ hx => Kd.R_over' hx (Kd.R_typed hR) (by decide) hg) (fun t h1 h2 => put_ne (by omega)) (fun j h1 h2 => set_ne (by omega)))
theorem I14.ap2 (h : I14 w s0 s1 s2 s3 s4 l0 l1 l2 l3 l4 L a W) {o : Oper} (ho : ops[11]? = some o) (hp0 : L.getD 8 false = true) (hp2 : L.getD 10 false = true) (h3 : L.getD 11 false = false)
  (eo : o = { dst := some 14, op := Op.call { callee := Callee.builtin Builtin.append, args := #[Operand.tmp 11, Operand.tmp 13], argTypes := #[32, 32] }, type := 32, pos := o.pos, after := o.after, guard := none })
  {A_ : Option Addr} {c_ : Nat} (hs : s2 = .slice A_ l2.length c_) (hC : Kd.C k55 w A_ l2.length l2) (hq : l2.length < 2513169434916) : wpOp Try.prog ops Q 11 (I14 w s0 s1 s2 s3 s4 l0 l1 l2 l3 l4 (L.setIfInBounds 11 true)) a W := by
 have hg0 : o.guard = none := by rw [eo]
 have hd0 : o.dst = some 14 := by rw [eo]
 obtain ⟨v, hv, hR⟩ := h.c2.e0 hp0
 have hR := hR h3
 have hsl := h.c2.e2 hp2
 rw [hs] at hsl
 refine wpOp_if ho (Kd.R_append_rows_step k55 (w0 := W) (w.heap.size + 2) (wanted_of hg0) (.tmp 11) (.tmp 13) 32 55 (.agg #[(.int .i64 0), (.string ⟨#[]⟩), (.string ⟨#[]⟩), (.string ⟨#[]⟩)]) 56 (by rw [eo]) Try.underlying32 info55 rfl (by decide) (by decide) v ([] : List S55) l2 A_ l2.length c_ (fun _ => True) (fun _ => False) (eval_tmp hv) (eval_tmp hsl) hR (Kd.C_below hC h.bel) (fun _ _ hx => hx) (fun _ hx => hx.elim) (fun _ _ => trivial) ⟨rfl, rfl, rfl, Nat.le_refl _, fun _ _ => rfl⟩ h.hz (by simp only [List.length_nil]; omega) ?_)
 intro v1 w1 hr1 hb1 hg hat
 rw [hd0]
 exact h.next (i := 11) (t := 14) (by omega) (by omega) (by omega) hb1 (fun q => absurd (h.cl q 2 (by omega)) (by rw [h3]; simp)) (fun q => absurd (h.cl q 2 (by omega)) (by rw [h3]; simp)) (fun q => absurd (h.cl q 2 (by omega)) (by rw [h3]; simp)) (fun q => absurd (h.cl q 2 (by omega)) (by rw [h3]; simp)) (fun q => absurd (h.cl q 2 (by omega)) (by rw [h3]; simp)) (h.c0.frame (fun _ _ hx => Kd.R_over' hx (Kd.R_typed hR) (by decide) hg) (fun t h1 h2 => put_ne (by omega)) (fun j h1 h2 => set_ne (by omega))) (h.c1.frame (fun _ _ hx => Kd.R_over' hx (Kd.R_typed hR) (by decide) hg) (fun t h1 h2 => put_ne (by omega)) (fun j h1 h2 => set_ne (by omega))) (h.c2.own3 (by rw [h.sz]; omega) (by rw [h.lz]; omega) hr1) (h.c3.frame (fun _ _ hx => Kd.R_over' hx (Kd.R_typed hR) (by decide) hg) (fun t h1 h2 => put_ne (by omega)) (fun j h1 h2 => set_ne (by omega))) (h.c4.frame (fun _ _ hx => Kd.R_over' hx (Kd.R_typed hR) (by decide) hg) (fun t h1 h2 => put_ne (by omega)) (fun j h1 h2 => set_ne (by omega)))
theorem I14.ap3 (h : I14 w s0 s1 s2 s3 s4 l0 l1 l2 l3 l4 L a W) {o : Oper} (ho : ops[15]? = some o) (hp0 : L.getD 12 false = true) (hp2 : L.getD 14 false = true) (h3 : L.getD 15 false = false)
  (eo : o = { dst := some 18, op := Op.call { callee := Callee.builtin Builtin.append, args := #[Operand.tmp 15, Operand.tmp 17], argTypes := #[33, 33] }, type := 33, pos := o.pos, after := o.after, guard := none })
  {A_ : Option Addr} {c_ : Nat} (hs : s3 = .slice A_ l3.length c_) (hC : Kd.C k53 w A_ l3.length l3) (hq : l3.length < 4398046511104) : wpOp Try.prog ops Q 15 (I14 w s0 s1 s2 s3 s4 l0 l1 l2 l3 l4 (L.setIfInBounds 15 true)) a W := by
 have hg0 : o.guard = none := by rw [eo]
 have hd0 : o.dst = some 18 := by rw [eo]
 obtain ⟨v, hv, hR⟩ := h.c3.e0 hp0
 have hR := hR h3
 have hsl := h.c3.e2 hp2
 rw [hs] at hsl
 refine wpOp_if ho (Kd.R_append_rows_step k53 (w0 := W) (w.heap.size + 2) (wanted_of hg0) (.tmp 15) (.tmp 17) 33 53 (.agg #[(.int .i64 0), (.string ⟨#[]⟩), (.int .i64 0)]) 32 (by rw [eo]) Try.underlying33 info53 rfl (by decide) (by decide) v ([] : List S53) l3 A_ l3.length c_ (fun _ => True) (fun _ => False) (eval_tmp hv) (eval_tmp hsl) hR (Kd.C_below hC h.bel) (fun _ _ hx => hx) (fun _ hx => hx.elim) (fun _ _ => trivial) ⟨rfl, rfl, rfl, Nat.le_refl _, fun _ _ => rfl⟩ h.hz (by simp only [List.length_nil]; omega) ?_)
 intro v1 w1 hr1 hb1 hg hat
 rw [hd0]
 exact h.next (i := 15) (t := 18) (by omega) (by omega) (by omega) hb1 (fun q => absurd (h.cl q 3 (by omega)) (by rw [h3]; simp)) (fun q => absurd (h.cl q 3 (by omega)) (by rw [h3]; simp)) (fun q => absurd (h.cl q 3 (by omega)) (by rw [h3]; simp)) (fun q => absurd (h.cl q 3 (by omega)) (by rw [h3]; simp)) (fun q => absurd (h.cl q 3 (by omega)) (by rw [h3]; simp)) (h.c0.frame (fun _ _ hx => Kd.R_over' hx (Kd.R_typed hR) (by decide) hg) (fun t h1 h2 => put_ne (by omega)) (fun j h1 h2 => set_ne (by omega))) (h.c1.frame (fun _ _ hx => Kd.R_over' hx (Kd.R_typed hR) (by decide) hg) (fun t h1 h2 => put_ne (by omega)) (fun j h1 h2 => set_ne (by omega))) (h.c2.frame (fun _ _ hx => Kd.R_over' hx (Kd.R_typed hR) (by decide) hg) (fun t h1 h2 => put_ne (by omega)) (fun j h1 h2 => set_ne (by omega))) (h.c3.own3 (by rw [h.sz]; omega) (by rw [h.lz]; omega) hr1) (h.c4.frame (fun _ _ hx => Kd.R_over' hx (Kd.R_typed hR) (by decide) hg) (fun t h1 h2 => put_ne (by omega)) (fun j h1 h2 => set_ne (by omega)))
theorem I14.ap4 (h : I14 w s0 s1 s2 s3 s4 l0 l1 l2 l3 l4 L a W) {o : Oper} (ho : ops[19]? = some o) (hp0 : L.getD 16 false = true) (hp2 : L.getD 18 false = true) (h3 : L.getD 19 false = false)
  (eo : o = { dst := some 22, op := Op.call { callee := Callee.builtin Builtin.append, args := #[Operand.tmp 19, Operand.tmp 21], argTypes := #[34, 34] }, type := 34, pos := o.pos, after := o.after, guard := none })
  {A_ : Option Addr} {c_ : Nat} (hs : s4 = .slice A_ l4.length c_) (hC : Kd.C k50 w A_ l4.length l4) (hq : l4.length < 2199023255552) : wpOp Try.prog ops Q 19 (I14 w s0 s1 s2 s3 s4 l0 l1 l2 l3 l4 (L.setIfInBounds 19 true)) a W := by
 have hg0 : o.guard = none := by rw [eo]
 have hd0 : o.dst = some 22 := by rw [eo]
 obtain ⟨v, hv, hR⟩ := h.c4.e0 hp0
 have hR := hR h3
 have hsl := h.c4.e2 hp2
 rw [hs] at hsl
 refine wpOp_if ho (Kd.R_append_rows_step k50 (w0 := W) (w.heap.size + 2) (wanted_of hg0) (.tmp 19) (.tmp 21) 34 50 (.agg #[(.int .i64 0), (.int .i64 0), (.string ⟨#[]⟩), (.string ⟨#[]⟩), (.int .i64 0), (.int .i64 0)]) 64 (by rw [eo]) Try.underlying34 info50 rfl (by decide) (by decide) v ([] : List S50) l4 A_ l4.length c_ (fun _ => True) (fun _ => False) (eval_tmp hv) (eval_tmp hsl) hR (Kd.C_below hC h.bel) (fun _ _ hx => hx) (fun _ hx => hx.elim) (fun _ _ => trivial) ⟨rfl, rfl, rfl, Nat.le_refl _, fun _ _ => rfl⟩ h.hz (by simp only [List.length_nil]; omega) ?_)
 intro v1 w1 hr1 hb1 hg hat
 rw [hd0]
 exact h.next (i := 19) (t := 22) (by omega) (by omega) (by omega) hb1 (fun q => absurd (h.cl q 4 (by omega)) (by rw [h3]; simp)) (fun q => absurd (h.cl q 4 (by omega)) (by rw [h3]; simp)) (fun q => absurd (h.cl q 4 (by omega)) (by rw [h3]; simp)) (fun q => absurd (h.cl q 4 (by omega)) (by rw [h3]; simp)) (fun q => absurd (h.cl q 4 (by omega)) (by rw [h3]; simp)) (h.c0.frame (fun _ _ hx => Kd.R_over' hx (Kd.R_typed hR) (by decide) hg) (fun t h1 h2 => put_ne (by omega)) (fun j h1 h2 => set_ne (by omega))) (h.c1.frame (fun _ _ hx => Kd.R_over' hx (Kd.R_typed hR) (by decide) hg) (fun t h1 h2 => put_ne (by omega)) (fun j h1 h2 => set_ne (by omega))) (h.c2.frame (fun _ _ hx => Kd.R_over' hx (Kd.R_typed hR) (by decide) hg) (fun t h1 h2 => put_ne (by omega)) (fun j h1 h2 => set_ne (by omega))) (h.c3.frame (fun _ _ hx => Kd.R_over' hx (Kd.R_typed hR) (by decide) hg) (fun t h1 h2 => put_ne (by omega)) (fun j h1 h2 => set_ne (by omega))) (h.c4.own3 (by rw [h.sz]; omega) (by rw [h.lz]; omega) hr1)
theorem I14.bd (h : I14 w s0 s1 s2 s3 s4 l0 l1 l2 l3 l4 L a W) {o : Oper} (ho : ops[20]? = some o) (hall : ∀ k, k < 5 → L.getD (4 * k + 3) false = true) (h21 : L.getD 21 false = false)
  (eo : o = { dst := some 23, op := Op.build 36 #[(0, Operand.tmp 6), (1, Operand.tmp 10), (2, Operand.tmp 14), (3, Operand.tmp 18), (4, Operand.tmp 22)], type := 36, pos := o.pos, after := o.after, guard := none }) : wpOp Try.prog ops Q 20 (I14 w s0 s1 s2 s3 s4 l0 l1 l2 l3 l4 (L.setIfInBounds 20 true)) a W := by
 have hu := Try.underlying36
 obtain ⟨v0, hv0, hR0⟩ := h.c0.e3 (hall 0 (by omega))
 have e0 : a.tmps[6]? = some v0 := hv0
 obtain ⟨v1, hv1, hR1⟩ := h.c1.e3 (hall 1 (by omega))
 have e1 : a.tmps[10]? = some v1 := hv1
 obtain ⟨v2, hv2, hR2⟩ := h.c2.e3 (hall 2 (by omega))
 have e2 : a.tmps[14]? = some v2 := hv2
 obtain ⟨v3, hv3, hR3⟩ := h.c3.e3 (hall 3 (by omega))
 have e3 : a.tmps[18]? = some v3 := hv3
 obtain ⟨v4, hv4, hR4⟩ := h.c4.e3 (hall 4 (by omega))
 have e4 : a.tmps[22]? = some v4 := hv4
 have hr : (execOp a.eval o).run Try.prog W = .ok (.value (.agg #[v0, v1, v2, v3, v4])) W := by
  obtain ⟨A0_, c0_, rfl⟩ := Kd.R_slice hR0
  obtain ⟨A1_, c1_, rfl⟩ := Kd.R_slice hR1
  obtain ⟨A2_, c2_, rfl⟩ := Kd.R_slice hR2
  obtain ⟨A3_, c3_, rfl⟩ := Kd.R_slice hR3
  obtain ⟨A4_, c4_, rfl⟩ := Kd.R_slice hR4
  rw [eo]
  go_simp
 refine wpOp_of ho (by rw [eo]) ?_
 unfold Oper.wp
 rw [hr, Oper.upon_value, show o.dst = some 23 by rw [eo]]
 refine ⟨put_size.trans h.sz, by simpa using h.lz, h.df, by rw [put_ne (by omega)]; exact h.t1, by rw [put_ne (by omega)]; exact h.t2, h.bel, h.bx, h.rb, h.hz, h.c0.frame (fun _ _ hx => hx) (fun t h1 h2 => put_ne (by omega)) (fun j h1 h2 => set_ne (by omega)), h.c1.frame (fun _ _ hx => hx) (fun t h1 h2 => put_ne (by omega)) (fun j h1 h2 => set_ne (by omega)), h.c2.frame (fun _ _ hx => hx) (fun t h1 h2 => put_ne (by omega)) (fun j h1 h2 => set_ne (by omega)), h.c3.frame (fun _ _ hx => hx) (fun t h1 h2 => put_ne (by omega)) (fun j h1 h2 => set_ne (by omega)), h.c4.frame (fun _ _ hx => hx) (fun t h1 h2 => put_ne (by omega)) (fun j h1 h2 => set_ne (by omega)), fun q k hk => ?_, fun q => ?_, fun q => ?_, fun q => ?_⟩
 ·rw [set_ne (by omega)]; exact hall k hk
 ·rw [set_ne (by omega), h21] at q; cases q
 ·exact ⟨v0, v1, v2, v3, v4, put_eq (by rw [h.sz]; omega), hR0, hR1, hR2, hR3, hR4⟩
 ·rw [set_ne (by omega), h21] at q; cases q
set_option maxRecDepth 100000 in
theorem st_run {r : Operand → Value} {W : World} {g : Nat} {x0 x1 x2 x3 x4 : Value} {B0 : Option Addr} {m0 d0 : Nat} {B1 : Option Addr} {m1 d1 : Nat} {B2 : Option Addr} {m2 d2 : Nat} {B3 : Option Addr} {m3 d3 : Nat} {B4 : Option Addr} {m4 d4 : Nat} (h2 : r (.tmp 2) = .pointer (some ⟨g, 0, none⟩)) (h23 : r (.tmp 23) = .agg #[.slice B0 m0 d0, .slice B1 m1 d1, .slice B2 m2 d2, .slice B3 m3 d3, .slice B4 m4 d4])
  (y0 : W.cell? ⟨g, 0, none⟩ = some x0) (y1 : W.cell? ⟨g, 1, none⟩ = some x1) (y2 : W.cell? ⟨g, 2, none⟩ = some x2) (y3 : W.cell? ⟨g, 3, none⟩ = some x3) (y4 : W.cell? ⟨g, 4, none⟩ = some x4)
  (z0 : W.frozen? ⟨g, 0, none⟩ = false) (z1 : W.frozen? ⟨g, 1, none⟩ = false) (z2 : W.frozen? ⟨g, 2, none⟩ = false) (z3 : W.frozen? ⟨g, 3, none⟩ = false) (z4 : W.frozen? ⟨g, 4, none⟩ = false) (ps : String) (af : Array Edge) :
  (execOp r { dst := none, op := Op.store 36 (Operand.tmp 2) (Operand.tmp 23), type := 0, pos := ps, after := af, guard := none }).run Try.prog W = .ok .skip (((((W.setCell ⟨g, 0, none⟩ (.slice B0 m0 d0)).setCell ⟨g, 1, none⟩ (.slice B1 m1 d1)).setCell ⟨g, 2, none⟩ (.slice B2 m2 d2)).setCell ⟨g, 3, none⟩ (.slice B3 m3 d3)).setCell ⟨g, 4, none⟩ (.slice B4 m4 d4)) := by
 have hu := Try.underlying36
 go_simp
theorem other_set {W : World} {g k o : Nat} {v : Value} (h : k ≠ g) : (W.setCell ⟨g, o, none⟩ v).heap[k]? = W.heap[k]? := Below.heap_setCell _ _ _ _ h
theorem size_set {W : World} {p : Addr} {v : Value} : (W.setCell p v).heap.size = W.heap.size := by simp [World.setCell]
set_option maxHeartbeats 4000000 in
set_option maxRecDepth 100000 in
theorem I14.st (h : I14 w s0 s1 s2 s3 s4 l0 l1 l2 l3 l4 L a W) {o : Oper} (ho : ops[21]? = some o) (h20 : L.getD 20 false = true)
  (eo : o = { dst := none, op := Op.store 36 (Operand.tmp 2) (Operand.tmp 23), type := 0, pos := o.pos, after := o.after, guard := none }) : wpOp Try.prog ops Q 21 (I14 w s0 s1 s2 s3 s4 l0 l1 l2 l3 l4 (L.setIfInBounds 21 true)) a W := by
 obtain ⟨v0, v1, v2, v3, v4, h23, hR0, hR1, hR2, hR3, hR4⟩ := h.b20 h20
 obtain ⟨cs, hcs, hsz⟩ := h.rb
 obtain ⟨x0, x1, x2, x3, x4, rfl⟩ : ∃ x0 x1 x2 x3 x4, cs = #[x0, x1, x2, x3, x4] := by
  obtain ⟨l⟩ := cs
  match l, hsz with
  | [x0, x1, x2, x3, x4], _ => exact ⟨x0, x1, x2, x3, x4, rfl⟩
 obtain ⟨A0_, c0_, rfl⟩ := Kd.R_slice hR0
 obtain ⟨A1_, c1_, rfl⟩ := Kd.R_slice hR1
 obtain ⟨A2_, c2_, rfl⟩ := Kd.R_slice hR2
 obtain ⟨A3_, c3_, rfl⟩ := Kd.R_slice hR3
 obtain ⟨A4_, c4_, rfl⟩ := Kd.R_slice hR4
 have hr := st_run (r := a.eval) (eval_tmp h.t2) (eval_tmp h23) (blk_cell hcs 0) (blk_cell hcs 1) (blk_cell hcs 2) (blk_cell hcs 3) (blk_cell hcs 4) (blk_frozen hcs 0) (blk_frozen hcs 1) (blk_frozen hcs 2) (blk_frozen hcs 3) (blk_frozen hcs 4) o.pos o.after
 refine wpOp_of ho (by rw [eo]) ?_
 unfold Oper.wp
 rw [eo, hr, Oper.upon_skip]
 have hb : (((((W.setCell ⟨w.heap.size + 1, 0, none⟩ (.slice A0_ l0.length c0_)).setCell ⟨w.heap.size + 1, 1, none⟩ (.slice A1_ l1.length c1_)).setCell ⟨w.heap.size + 1, 2, none⟩ (.slice A2_ l2.length c2_)).setCell ⟨w.heap.size + 1, 3, none⟩ (.slice A3_ l3.length c3_)).setCell ⟨w.heap.size + 1, 4, none⟩ (.slice A4_ l4.length c4_)).heap[w.heap.size + 1]? = some (.cells #[.slice A0_ l0.length c0_, .slice A1_ l1.length c1_, .slice A2_ l2.length c2_, .slice A3_ l3.length c3_, .slice A4_ l4.length c4_] 36 (0, 0)) := (blk_put (blk_put (blk_put (blk_put (blk_put hcs 0 (.slice A0_ l0.length c0_) rfl) 1 (.slice A1_ l1.length c1_) rfl) 2 (.slice A2_ l2.length c2_) rfl) 3 (.slice A3_ l3.length c3_) rfl) 4 (.slice A4_ l4.length c4_) rfl)
 have hot : ∀ k, k ≠ w.heap.size + 1 → (((((W.setCell ⟨w.heap.size + 1, 0, none⟩ (.slice A0_ l0.length c0_)).setCell ⟨w.heap.size + 1, 1, none⟩ (.slice A1_ l1.length c1_)).setCell ⟨w.heap.size + 1, 2, none⟩ (.slice A2_ l2.length c2_)).setCell ⟨w.heap.size + 1, 3, none⟩ (.slice A3_ l3.length c3_)).setCell ⟨w.heap.size + 1, 4, none⟩ (.slice A4_ l4.length c4_)).heap[k]? = W.heap[k]? := fun k hk => by rw [other_set hk, other_set hk, other_set hk, other_set hk, other_set hk]
 have hsz : (((((W.setCell ⟨w.heap.size + 1, 0, none⟩ (.slice A0_ l0.length c0_)).setCell ⟨w.heap.size + 1, 1, none⟩ (.slice A1_ l1.length c1_)).setCell ⟨w.heap.size + 1, 2, none⟩ (.slice A2_ l2.length c2_)).setCell ⟨w.heap.size + 1, 3, none⟩ (.slice A3_ l3.length c3_)).setCell ⟨w.heap.size + 1, 4, none⟩ (.slice A4_ l4.length c4_)).heap.size = W.heap.size := by rw [size_set, size_set, size_set, size_set, size_set]
 have hos : (((((W.setCell ⟨w.heap.size + 1, 0, none⟩ (.slice A0_ l0.length c0_)).setCell ⟨w.heap.size + 1, 1, none⟩ (.slice A1_ l1.length c1_)).setCell ⟨w.heap.size + 1, 2, none⟩ (.slice A2_ l2.length c2_)).setCell ⟨w.heap.size + 1, 3, none⟩ (.slice A3_ l3.length c3_)).setCell ⟨w.heap.size + 1, 4, none⟩ (.slice A4_ l4.length c4_)).os = W.os ∧ (((((W.setCell ⟨w.heap.size + 1, 0, none⟩ (.slice A0_ l0.length c0_)).setCell ⟨w.heap.size + 1, 1, none⟩ (.slice A1_ l1.length c1_)).setCell ⟨w.heap.size + 1, 2, none⟩ (.slice A2_ l2.length c2_)).setCell ⟨w.heap.size + 1, 3, none⟩ (.slice A3_ l3.length c3_)).setCell ⟨w.heap.size + 1, 4, none⟩ (.slice A4_ l4.length c4_)).tape = W.tape ∧ (((((W.setCell ⟨w.heap.size + 1, 0, none⟩ (.slice A0_ l0.length c0_)).setCell ⟨w.heap.size + 1, 1, none⟩ (.slice A1_ l1.length c1_)).setCell ⟨w.heap.size + 1, 2, none⟩ (.slice A2_ l2.length c2_)).setCell ⟨w.heap.size + 1, 3, none⟩ (.slice A3_ l3.length c3_)).setCell ⟨w.heap.size + 1, 4, none⟩ (.slice A4_ l4.length c4_)).output = W.output := ⟨rfl, rfl, rfl⟩
 generalize (((((W.setCell ⟨w.heap.size + 1, 0, none⟩ (.slice A0_ l0.length c0_)).setCell ⟨w.heap.size + 1, 1, none⟩ (.slice A1_ l1.length c1_)).setCell ⟨w.heap.size + 1, 2, none⟩ (.slice A2_ l2.length c2_)).setCell ⟨w.heap.size + 1, 3, none⟩ (.slice A3_ l3.length c3_)).setCell ⟨w.heap.size + 1, 4, none⟩ (.slice A4_ l4.length c4_)) = W' at hb hot hsz hos ⊢
 have rk : ∀ {α : Type} {d : Kd α} {e : TypeId} {v : Value} {xs : List α}, Kd.R d e W (w.heap.size + 2) (fun _ => True) v xs → Kd.R d e W' (w.heap.size + 2) (fun _ => True) v xs := fun hx => Kd.R_mono (Kd.R_step (Kd.R_bound hx) (fun k hk _ => hot k (by have := hk.2.1; omega))) (fun _ hk => hk.1)
 refine ⟨h.sz, by simpa using h.lz, h.df, h.t1, h.t2, ⟨hos.1.trans h.bel.os, hos.2.1.trans h.bel.tape, hos.2.2.trans h.bel.output, by rw [hsz]; exact h.bel.size, fun k hk => (hot k (by omega)).trans (h.bel.block k hk)⟩, (hot _ (by omega)).trans h.bx, ⟨_, hb, rfl⟩, by rw [hsz]; exact h.hz, h.c0.frame (fun _ _ hx => rk hx) (fun t h1 h2 => rfl) (fun j h1 h2 => set_ne (by omega)), h.c1.frame (fun _ _ hx => rk hx) (fun t h1 h2 => rfl) (fun j h1 h2 => set_ne (by omega)), h.c2.frame (fun _ _ hx => rk hx) (fun t h1 h2 => rfl) (fun j h1 h2 => set_ne (by omega)), h.c3.frame (fun _ _ hx => rk hx) (fun t h1 h2 => rfl) (fun j h1 h2 => set_ne (by omega)), h.c4.frame (fun _ _ hx => rk hx) (fun t h1 h2 => rfl) (fun j h1 h2 => set_ne (by omega)), fun q k hk => ?_, fun q => ?_, fun q => ?_, fun q => ?_⟩
 ·rw [set_ne (by omega)] at q ⊢; exact h.cl q k hk
 ·rw [set_ne (by omega)]; exact h20
 ·exact ⟨_, _, _, _, _, h23, rk hR0, rk hR1, rk hR2, rk hR3, rk hR4⟩
 ·exact ⟨_, _, _, _, _, hb, rk hR0, rk hR1, rk hR2, rk hR3, rk hR4⟩
theorem asz (w : World) (o : Obj) : (w.alloc o).heap.size = w.heap.size + 1 := by simp
theorem HB3 (w : World) (x y : Array Value) : ((w.alloc (.cells x 36)).alloc (.cells y 36)).heap.size = w.heap.size + 2 := by rw [asz, asz]
theorem HB4 (w : World) (x y : Array Value) : Below w.heap.size w ((w.alloc (.cells x 36)).alloc (.cells y 36)) := below_alloc (below_alloc (Below.refl _ _) _) _
theorem HB5 {w W : World} {B n : Nat} (h : Below B w W) : Below B w { W with drawn := n } := ⟨h.os, h.tape, h.output, h.size, h.block⟩
theorem HB2 (w : World) (x y : Array Value) : ((w.alloc (.cells x 36)).alloc (.cells y 36)).heap[w.heap.size + 1]? = some (.cells y 36 (0, 0)) := by
 have e : (w.alloc (.cells x 36)).heap.size = w.heap.size + 1 := asz _ _
 rw [← e]
 exact blk_new _ _
theorem rep_false (n k : Nat) : (Array.replicate n false).getD k false = false := by
 rw [Array.getD_eq_getD_getElem?, Array.getElem?_replicate]; split <;> rfl
theorem rep_no {n k : Nat} {p : Prop} (h : (Array.replicate n false).getD k false = true) : p := by rw [rep_false] at h; cases h
def spec_l14Copy.f (l0_0 : List ByteArray) (l0_1 : List (S73)) (l0_2 : List (S55)) (l0_3 : List (S53)) (l0_4 : List (S50)) : Option (List ByteArray × (List (S73)) × (List (S55)) × (List (S53)) × (List (S50))) :=
 if l0_0.length < 8796093022208 ∧ l0_1.length < 2932031007402 ∧ l0_2.length < 2513169434916 ∧ l0_3.length < 4398046511104 ∧ l0_4.length < 2199023255552 then some (l0_0, l0_1, l0_2, l0_3, l0_4) else none
set_option maxHeartbeats 4000000 in
set_option maxRecDepth 100000 in
theorem spec_l14Copy.calls (A0_0 : Option Addr) (c0_0 : Nat) (l0_0 : List ByteArray) (A0_1 : Option Addr) (c0_1 : Nat) (l0_1 : List (S73)) (A0_2 : Option Addr) (c0_2 : Nat) (l0_2 : List (S55)) (A0_3 : Option Addr) (c0_3 : Nat) (l0_3 : List (S53)) (A0_4 : Option Addr) (c0_4 : Nat) (l0_4 : List (S50)) (r1 : List ByteArray) (r2 : List (S73)) (r3 : List (S55)) (r4 : List (S53)) (r5 : List (S50)) (w : World) (hr0_0 : Kd.C Kd.string w A0_0 l0_0.length l0_0) (hc0_0 : l0_0.length ≤ c0_0) (hr0_1 : Kd.C k73 w A0_1 l0_1.length l0_1) (hc0_1 : l0_1.length ≤ c0_1) (hr0_2 : Kd.C k55 w A0_2 l0_2.length l0_2) (hc0_2 : l0_2.length ≤ c0_2) (hr0_3 : Kd.C k53 w A0_3 l0_3.length l0_3) (hc0_3 : l0_3.length ≤ c0_3) (hr0_4 : Kd.C k50 w A0_4 l0_4.length l0_4) (hc0_4 : l0_4.length ≤ c0_4) (h : spec_l14Copy.f l0_0 l0_1 l0_2 l0_3 l0_4 = some (r1, r2, r3, r4, r5)) :
  Calls Try.prog 48 #[.agg #[.slice A0_0 l0_0.length c0_0, .slice A0_1 l0_1.length c0_1, .slice A0_2 l0_2.length c0_2, .slice A0_3 l0_3.length c0_3, .slice A0_4 l0_4.length c0_4]] w fun e w' => ∃ v0_ v1_ v2_ v3_ v4_ : Value, e = .returned (.agg #[v0_, v1_, v2_, v3_, v4_]) ∧ Kd.R Kd.string 9 w' w.heap.size (fun _ => True) v0_ r1 ∧ Kd.R k73 73 w' w.heap.size (fun _ => True) v1_ r2 ∧ Kd.R k55 55 w' w.heap.size (fun _ => True) v2_ r3 ∧ Kd.R k53 53 w' w.heap.size (fun _ => True) v3_ r4 ∧ Kd.R k50 50 w' w.heap.size (fun _ => True) v4_ r5 ∧ Below w.heap.size w w' := by
 unfold spec_l14Copy.f at h
 by_cases c : l0_0.length < 8796093022208 ∧ l0_1.length < 2932031007402 ∧ l0_2.length < 2513169434916 ∧ l0_3.length < 4398046511104 ∧ l0_4.length < 2199023255552
 case neg => rw [if_neg c] at h; cases h
 rw [if_pos c] at h
 simp only [Option.some.injEq, Prod.mk.injEq] at h
 obtain ⟨rfl, rfl, rfl, rfl, rfl⟩ := h
 obtain ⟨q0, q1, q2, q3, q4⟩ := c
 go_enter Try.func48, Try.ntmps48
 go_wp2
 rename_i K_ hK_
 refine region_inv (by kernel_rfl) (by kernel_rfl) (I14 w (.slice A0_0 l0_0.length c0_0) (.slice A0_1 l0_1.length c0_1) (.slice A0_2 l0_2.length c0_2) (.slice A0_3 l0_3.length c0_3) (.slice A0_4 l0_4.length c0_4) l0_0 l0_1 l0_2 l0_3 l0_4) ?_ ?_ ?_
 ·refine ⟨rfl, by simp, rfl, rfl, rfl, ?_, ?_, ⟨#[.slice none 0 0, .slice none 0 0, .slice none 0 0, .slice none 0 0, .slice none 0 0], ?_, rfl⟩, ?_, ⟨fun q => rep_no q, fun q => rep_no q, fun q => rep_no q, fun q => rep_no q⟩, ⟨fun q => rep_no q, fun q => rep_no q, fun q => rep_no q, fun q => rep_no q⟩, ⟨fun q => rep_no q, fun q => rep_no q, fun q => rep_no q, fun q => rep_no q⟩, ⟨fun q => rep_no q, fun q => rep_no q, fun q => rep_no q, fun q => rep_no q⟩, ⟨fun q => rep_no q, fun q => rep_no q, fun q => rep_no q, fun q => rep_no q⟩, fun q => rep_no q, fun q => rep_no q, fun q => rep_no q, fun q => rep_no q⟩
  ·exact HB5 (HB4 w _ _)
  ·exact blk_alloc (blk_new w _) _
  ·exact HB2 w _ _
  ·exact Nat.le_of_eq (HB3 w _ _).symm
 ·intro L a W i o hs hI ho hun hpre
  have hi : i < 22 := (Array.getElem?_eq_some_iff.1 ho).1
  rcases (by omega : i = 0 ∨ i = 1 ∨ i = 2 ∨ i = 3 ∨ i = 4 ∨ i = 5 ∨ i = 6 ∨ i = 7 ∨ i = 8 ∨ i = 9 ∨ i = 10 ∨ i = 11 ∨ i = 12 ∨ i = 13 ∨ i = 14 ∨ i = 15 ∨ i = 16 ∨ i = 17 ∨ i = 18 ∨ i = 19 ∨ i = 20 ∨ i = 21) with rfl | rfl | rfl | rfl | rfl | rfl | rfl | rfl | rfl | rfl | rfl | rfl | rfl | rfl | rfl | rfl | rfl | rfl | rfl | rfl | rfl | rfl
  ·obtain rfl := Option.some.inj ho; exact I14.lit0 hI ho rfl
  ·obtain rfl := Option.some.inj ho; exact I14.fa0 hI ho rfl
  ·obtain rfl := Option.some.inj ho; exact I14.ld0 hI ho (hpre 1 (by decide)) rfl ⟨_, _, _, rfl⟩
  ·obtain rfl := Option.some.inj ho; exact I14.ap0 hI ho (hpre 0 (by decide)) (hpre 2 (by decide)) hun rfl rfl hr0_0 (by omega)
  ·obtain rfl := Option.some.inj ho; exact I14.lit1 hI ho rfl
  ·obtain rfl := Option.some.inj ho; exact I14.fa1 hI ho rfl
  ·obtain rfl := Option.some.inj ho; exact I14.ld1 hI ho (hpre 5 (by decide)) rfl ⟨_, _, _, rfl⟩
  ·obtain rfl := Option.some.inj ho; exact I14.ap1 hI ho (hpre 4 (by decide)) (hpre 6 (by decide)) hun rfl rfl hr0_1 (by omega)
  ·obtain rfl := Option.some.inj ho; exact I14.lit2 hI ho rfl
  ·obtain rfl := Option.some.inj ho; exact I14.fa2 hI ho rfl
  ·obtain rfl := Option.some.inj ho; exact I14.ld2 hI ho (hpre 9 (by decide)) rfl ⟨_, _, _, rfl⟩
  ·obtain rfl := Option.some.inj ho; exact I14.ap2 hI ho (hpre 8 (by decide)) (hpre 10 (by decide)) hun rfl rfl hr0_2 (by omega)
  ·obtain rfl := Option.some.inj ho; exact I14.lit3 hI ho rfl
  ·obtain rfl := Option.some.inj ho; exact I14.fa3 hI ho rfl
  ·obtain rfl := Option.some.inj ho; exact I14.ld3 hI ho (hpre 13 (by decide)) rfl ⟨_, _, _, rfl⟩
  ·obtain rfl := Option.some.inj ho; exact I14.ap3 hI ho (hpre 12 (by decide)) (hpre 14 (by decide)) hun rfl rfl hr0_3 (by omega)
  ·obtain rfl := Option.some.inj ho; exact I14.lit4 hI ho rfl
  ·obtain rfl := Option.some.inj ho; exact I14.fa4 hI ho rfl
  ·obtain rfl := Option.some.inj ho; exact I14.ld4 hI ho (hpre 17 (by decide)) rfl ⟨_, _, _, rfl⟩
  ·obtain rfl := Option.some.inj ho; exact I14.ap4 hI ho (hpre 16 (by decide)) (hpre 18 (by decide)) hun rfl rfl hr0_4 (by omega)
  ·obtain rfl := Option.some.inj ho; exact I14.bd hI ho (fun k hk => hpre (4 * k + 3) (by rcases (by omega : k = 0 ∨ k = 1 ∨ k = 2 ∨ k = 3 ∨ k = 4) with rfl | rfl | rfl | rfl | rfl <;> decide)) (by cases q : L.getD 21 false with | false => rfl | true => exact absurd (hI.cm q) (by rw [hun]; simp)) rfl
  ·obtain rfl := Option.some.inj ho; exact I14.st hI ho (hpre 20 (by decide)) rfl
 ·intro L a W hall hI
  obtain ⟨v0, v1, v2, v3, v4, hb, g0, g1, g2, g3, g4⟩ := hI.b21 (hall 21 (by decide))
  refine hK_ a W ?_
  go_wp2
  refine bodyPost_ret (results_cell_row rfl a.tmps W (w.heap.size + 1) 36 #[v0, v1, v2, v3, v4] (0, 0) _ ?_ hb Try.underlying36 rfl (by kernel_rfl)) hI.df ?_
  ·rw [Array.getD_eq_getD_getElem?, hI.t2]; rfl
  ·exact ⟨v0, v1, v2, v3, v4, rfl, Kd.R_lower g0 (by omega), Kd.R_lower g1 (by omega), Kd.R_lower g2 (by omega), Kd.R_lower g3 (by omega), Kd.R_lower g4 (by omega), hI.bel⟩

end Go.Proofs.Ytopicidanlienaa.PFnExactTrim

-- Out of the kit's print, with contracts of mine among it (myprint.py).
import Derived.Test.YtkmcnjpgamaljaaDoorPFnExactPutFilex0
namespace Go.Proofs.YtkmcnjpgamaljaaDoor.PFnExactPutFile
open Go.RowKit Go.Proofs.YtkmcnjpgamaljaaDoorW.PrintWords Go.Proofs.YtkmcnjpgamaljaaDoorW.PrintLast Go.Proofs.YtkmcnjpgamaljaaDoorW.PrintMore
attribute [local go_sem] max2_int min2_int max_two min_two max_three min_three max_four min_four   -- for this text's walks alone
set_option linter.unusedVariables false
set_option linter.unusedSimpArgs false

/-! ### impl_fileAt: function 24 (a contract of mine) -/
def impl_fileAt.f (l0 : List S35) (a1 : ByteArray) : Option Int :=
 if l0.length ≤ 140737488355328 then some (Lib.idxBy (fun _ (y : S35) => y.f0.toList == a1.toList) l0 z35) else none
def impl_fileAt.enc (x : S35) : List Value := [.string x.f0, .string x.f1]
theorem impl_fileAt.pred (s : ByteArray) (B : Nat) (w : World) (hB : B < w.heap.size) (hcell : w.cell? ⟨B, 0, none⟩ = some (.string s)) :
  PredBelow Tryd.prog 37 #[.pointer (some ⟨B, 0, none⟩)] (fun x => .agg (impl_fileAt.enc x).toArray) (fun x => x.f0.toList == s.toList) w := fun W x hb => by
 have hc : W.cell? ⟨B, 0, none⟩ = some (.string s) := (hb.cell (p := ⟨B, 0, none⟩) hB).trans hcell
 have hBW : B < W.heap.size := Nat.lt_of_lt_of_le hB hb.size
 have hne : B ≠ W.heap.size := by omega
 show Calls Tryd.prog 37 #[.agg #[.string x.f0, .string x.f1], .pointer (some ⟨B, 0, none⟩)] W _
 go_enter Tryd.func37, Tryd.ntmps37
 go_wp2
 all_goals (go_ret; exact ⟨by simp_all, hb.alloc hb.size _⟩)
theorem impl_fileAt.empty (A : Option Addr) (c : Nat) (fv : Value) (w : World) :
  Calls Tryd.prog 36 #[.slice A 0 c, fv] w fun e w' => e = .returned (.int .i64 (-1)) ∧ w' = w := by
 go_enter Tryd.func36, Tryd.ntmps36
 go_wp2
 go_loopg [5, 8] 0 (fun _ _ s8 wr => s8 = .int .i64 0 ∧ wr = w)
 case atStart => exact ⟨rfl, rfl⟩
 case round =>
  obtain ⟨rfl, rfl⟩ := hrel
  go_wp2
  go_ret
  exact ⟨rfl, rfl⟩
set_option maxHeartbeats 1000000 in
theorem impl_fileAt.calls (A0 : Option Addr) (c0 : Nat) (l0 : List S35) (a1 : ByteArray) (r : Int) (w : World) (hr0 : Kd.C k35 w A0 l0.length l0) (hc0 : l0.length ≤ c0) (h : impl_fileAt.f l0 a1 = some r) :
  Calls Tryd.prog 24 #[.slice A0 l0.length c0, .string a1] w fun e w' => e = .returned (.int .i64 r) ∧ Below w.heap.size w w' := by
 unfold impl_fileAt.f at h
 by_cases c : l0.length ≤ 140737488355328
 case neg => rw [if_neg c] at h; cases h
 rw [if_pos c] at h
 obtain rfl := Option.some.inj h
 by_cases hn : l0 = []
 ·subst hn
  have hcon := impl_fileAt.empty A0 c0 (.func (.func 37) #[] #[.pointer (some ⟨w.heap.size, 0, none⟩)]) (w.alloc (.cells #[.string a1] 9))
  go_enter Tryd.func24, Tryd.ntmps24
  go_wp2_with (go_at_call 36; refine hcon.mono ?_; rintro e w' ⟨rfl, rfl⟩)
  go_ret
  exact ⟨rfl, (Below.refl _ w).alloc (Nat.le_refl _) _⟩
 ·have hp := List.length_pos_iff.2 hn
  obtain ⟨ad, e0, h00, h01⟩ := at_T35 hr0 0 (Int.le_refl _) (by omega)
  subst e0
  obtain ⟨b, o, s⟩ := ad
  have hs : s = none := by
   cases s with
   | none => rfl
   | some q =>
    exfalso
    simp only [Int.toNat_zero, Nat.zero_mul, Addr.add, if_true, World.cell?] at h00
    split at h00 <;> simp at h00
  subst hs
  have hb : b < w.heap.size := World.block_lt_of_cell? w _ (by simpa only [Int.toNat_zero, Nat.zero_mul, Addr.add, if_true] using h00)
  have cells : ∀ j, j < l0.length → w.cell? ⟨b, o + j * 2, none⟩ = some (.string (l0.getD j z35).f0) ∧ w.cell? ⟨b, o + j * 2 + 1, none⟩ = some (.string (l0.getD j z35).f1) := by
   intro j hj
   obtain ⟨ad, e1, h1, h2⟩ := at_T35 hr0 (j : Int) (by omega) (by omega)
   obtain rfl := Option.some.inj e1
   rw [Int.toNat_natCast] at h1 h2
   by_cases hj0 : j = 0
   ·subst hj0
    simp only [Nat.zero_mul, Addr.add, if_true, Nat.add_zero] at h1 h2 ⊢
    exact ⟨h1, h2⟩
   ·have hj2 : ¬ j * 2 = 0 := by omega
    simp only [Addr.add, if_neg hj2] at h1 h2
    exact ⟨h1, h2⟩
  haveI : Inhabited S35 := ⟨z35⟩
  have eg : ∀ args w, (callFunc 37 args).run Tryd.prog w = .ok (.enter 37 args) w := enters_of Tryd.func37 (by kernel_rfl) rfl
  have hcon := AnyQ.slices_IndexFunc Tryd.laysIF 2 Tryd.isAgg35 Tryd.sizeOf35 impl_fileAt.enc (fun _ => rfl) (fun x => x.f0.toList == a1.toList) 37 #[.pointer (some ⟨w.heap.size, 0, none⟩)] eg b o l0.length c0 l0 (w.alloc (.cells #[.string a1] 9))
   (impl_fileAt.pred a1 w.heap.size _ (by simp) (by simp)) (Nat.le_refl _) (by omega) (by simp; omega) (fun j hj i v hi => by
    refine Lib.cell?_alloc_some _ ?_
    have h1 := cells j hj
    have ej : l0[j]! = l0.getD j z35 := by rw [getElem!_pos l0 j hj, List.getD_eq_getElem?_getD, List.getElem?_eq_getElem hj]; rfl
    rw [ej] at hi
    generalize l0.getD j z35 = y at hi h1
    match i, hi with
    | 0, hi => simp [impl_fileAt.enc] at hi; rw [← hi]; exact h1.1
    | 1, hi => simp [impl_fileAt.enc] at hi; rw [← hi]; exact h1.2
    | i + 2, hi => simp [impl_fileAt.enc] at hi)
  change Calls Tryd.prog 36 _ _ _ at hcon
  rw [List.take_length] at hcon
  clear cells h00 h01 hr0
  have hd : ∀ z' : S35, Lib.idxBy (fun _ (y : S35) => y.f0.toList == a1.toList) l0 z' = Lib.idxBy (fun _ (y : S35) => y.f0.toList == a1.toList) l0 z35 := by
   intro z'
   unfold Lib.idxBy
   generalize 0 = k
   clear hn hp hc0 c h hcon
   induction l0 generalizing k with
   | nil => rfl
   | cons x r ih => simp only [Lib.idxByFrom, ih]
  rw [hd] at hcon
  generalize Lib.idxBy (fun _ (y : S35) => y.f0.toList == a1.toList) l0 z35 = r at hcon ⊢
  go_enter Tryd.func24, Tryd.ntmps24
  go_wp2_with (go_at_call 36; refine hcon.mono ?_; rintro e w' ⟨rfl, hb'⟩)
  go_ret
  exact ⟨rfl, ((Below.refl _ w).alloc (Nat.le_refl _) _).trans (hb'.mono (by simp))⟩

/-! ### impl_File_25: function 25 (a contract of mine) -/
def impl_File_25.f (l0 : List S35) : Option (List S35) := if l0.length * 32 ≤ 140737488355328 then some l0 else none
theorem impl_File_25.none_ {w : World} {l0 : List S35} (h : Kd.C k35 w none l0.length l0) : l0 = [] := by
 cases l0 with
 | nil => rfl
 | cons x r =>
  obtain ⟨ad, c, e, _⟩ := Kd.C_get h x 0 (Int.le_refl _) (by simp only [List.length_cons]; omega)
  cases e
set_option maxHeartbeats 4000000 in
set_option maxRecDepth 100000 in
theorem impl_File_25.calls (A0 : Option Addr) (c0 : Nat) (l0 : List S35) (r : List S35) (w : World) (hr0 : Kd.C k35 w A0 l0.length l0) (hc0 : l0.length ≤ c0) (h : impl_File_25.f l0 = some r) :
  Calls Tryd.prog 25 #[.slice A0 l0.length c0] w fun e w' => ∃ v0_ : Value, e = .returned (v0_) ∧ Kd.R k35 35 w' w.heap.size (fun _ => True) v0_ r ∧ Below w.heap.size w w' := by
 unfold impl_File_25.f at h
 by_cases c : l0.length * 32 ≤ 140737488355328
 case neg => rw [if_neg c] at h; cases h
 rw [if_pos c] at h
 obtain rfl := Option.some.inj h
 clear h
 have hq : ∀ (w : World) (a : Option Addr) (n c n' c' : Nat), (binOp .eql 24 (.slice a n c) (.slice none n' c')).run Tryd.prog w = .ok (.bool a.isNone) w := fun w a n c n' c' => Lib.run_eql_slice_nil w _ _ a n c n' c' Tryd.underlying24
 cases A0 with
 | none =>
  obtain rfl := impl_File_25.none_ hr0
  clear hr0 hc0 c
  go_enter Tryd.func25, Tryd.ntmps25
  go_wp2
  go_ret
  exact ⟨_, rfl, Kd.R_nil _ _ _ _ _, Below.refl _ _⟩
 | some ad =>
  have HR := Aside0.mk hr0
  have HC := Aside0.mk hc0
  have HL := Aside0.mk c
  clear hr0 hc0 c
  go_enter Tryd.func25, Tryd.ntmps25
  go_wp2_with (first
   | ((with_reducible refine gate_dst (N := 5) rfl ?_); refine Kd.R_lit k35 _ 35 ?hg (N := 5) ?hd (xs := ([] : List S35)) (inner := []) (ok := fun _ => True) (okp := fun _ => True) ?hr ?hp (fun _ hk => hk) trivial (Below.refl _ _) (Nat.le_refl _) (by simp) ?_; (case hd => rfl); (case hg => rfl); (case hr => first | (go_simp; done) | (go_simp; rfl)); (case hp => exact (Reps.none _ _)); intro v5 w1 ho1 hb1 hg_ hnew_; clear hg_ hnew_; have HO1 := Aside0.mk (show Kd.R k35 35 w1 w.heap.size (fun _ => True) v5 ([] : List S35) from ho1); have HB1 := Aside0.mk hb1; clear ho1 hb1)
   | ((with_reducible refine gate_builtin (b := .append) (xs := #[.tmp 5, .tmp 6]) rfl ?_); at_builtin; refine Kd.R_append_rows k35 (w0 := w) w.heap.size rfl (.tmp 5) (.tmp 6) 24 35 (.agg #[(.string ⟨#[]⟩), (.string ⟨#[]⟩)]) 32 rfl Tryd.underlying24 info35 rfl (by decide) (by omega) v5 ([] : List S35) l0 _ _ _ (fun _ => True) (fun _ => False) rfl rfl ?aO ?aR (fun _ _ h => h) (fun _ h => h.elim) ?aF ?aB ?aS ?aL ?_; (case aO => (with_reducible repeat (first | apply Kd.R_alloc | apply Kd.R_drewN | apply Kd.R_drew)); exact HO1.out); (case aR => repeat (first | exact (Kd.C_below HR.out HB1.out) | (with_reducible refine Kd.C_alloc ?_ _) | (with_reducible refine Kd.C_drewN ?_ _) | (with_reducible refine Kd.C_drew ?_))); (case aF => exact fun _ _ => trivial); (case aB => repeat (first | (with_reducible first | exact HB1.out | apply below_alloc | apply pw_below_drewN | apply below_drew1) | exact HB1.out)); (case aS => exact HB1.out.size); (case aL => have := HL.out; simp only [List.length_nil]; omega); intro v7 w2 ho2 hb2 hg2 hat2; have HO2 := Aside0.mk ho2; have HB2 := Aside0.mk hb2; clear ho2 hb2 hg2 hat2))
  go_ret
  exact ⟨_, rfl, HO2.out, HB2.out⟩

/-! ### impl_File_29: function 29 (a contract of mine) -/
def impl_File_29.f (l0 : List S35) (a1 : Int) (l2 : List S35) : Option (List S35) := if 0 ≤ a1 ∧ a1 ≤ l0.length ∧ l2.length = 1 ∧ l0.length ≤ 1048576 then some (l0.take a1.toNat ++ (l2 ++ l0.drop a1.toNat)) else none
def impl_File_29.enc (x : S35) : List Value := [.string x.f0, .string x.f1]
theorem impl_File_29.one (l : List S35) : ∀ u ∈ l.flatMap impl_File_29.enc, u.oneCell' = true := by
 intro u hu
 obtain ⟨x, _, hx⟩ := List.mem_flatMap.1 hu
 simp only [impl_File_29.enc, List.mem_cons, List.not_mem_nil, or_false] at hx
 rcases hx with rfl | rfl <;> rfl
/-- Where the row that is put in lies. -/
theorem impl_File_29.at_ {W : World} {A : Option Addr} {x : S35} (h : Kd.C k35 W A 1 [x]) : ∃ vb vo, A = some ⟨vb, vo, none⟩ ∧ W.cell? ⟨vb, vo, none⟩ = some (.string x.f0) ∧ W.cell? ⟨vb, vo + 1, none⟩ = some (.string x.f1) := by
 obtain ⟨ad, e0, h00, h01⟩ := at_T35 h 0 (Int.le_refl _) (by decide)
 obtain ⟨b, o, s⟩ := ad
 have hs : s = none := by
  cases s with
  | none => rfl
  | some q =>
   exfalso
   simp only [Int.toNat_zero, Nat.zero_mul, Addr.add, if_true, World.cell?] at h00
   split at h00 <;> simp at h00
 subst hs
 refine ⟨b, o, e0, ?_, ?_⟩
 ·simpa [Addr.add, rd_T35] using h00
 ·simpa [Addr.add, rd_T35] using h01
theorem impl_File_29.apart {W : World} {S : Nat → Prop} {A : Option Addr} {x : S35} {vb vo g : Nat} (h : ∀ W', Kept W W' S → Kd.C k35 W' A 1 [x]) (hA : A = some ⟨vb, vo, none⟩) (hg : S g) : vb ≠ g := by
 intro e
 subst e
 have h1 := h (W.setCell ⟨vb, vo, none⟩ (.int .i64 0)) (Kept.setCell (Kept.refl _ _) (.inl hg) _)
 obtain ⟨vb2, vo2, e2, h2, _⟩ := impl_File_29.at_ h1
 rw [hA] at e2
 obtain ⟨rfl, rfl⟩ : vb = vb2 ∧ vo = vo2 := by injection e2 with e2; injection e2 with a b c; exact ⟨a, b⟩
 obtain ⟨vb3, vo3, e3, h3, _⟩ := impl_File_29.at_ (h W (Kept.refl _ _))
 rw [hA] at e3
 obtain ⟨rfl, rfl⟩ : vb = vb3 ∧ vo = vo3 := by injection e3 with e3; injection e3 with a b c; exact ⟨a, b⟩
 have h4 : (W.setCell ⟨vb, vo, none⟩ (.int .i64 0)).cell? ⟨vb, vo, none⟩ = some (.int .i64 0) := World.cell?_setCell_same _ _ _ h3
 rw [h4] at h2
 cases h2
set_option maxHeartbeats 4000000 in
set_option maxRecDepth 100000 in
/-- At the end. -/
theorem impl_File_29.end_ (P0_ : Nat → Prop) (v : Value) (A : Option Addr) (cv : Nat) (l0 : List S35) (x : S35) (A2 : Option Addr) (c2 : Nat) (w0 w : World) (hv : v = .slice A l0.length cv) (hA : A = none → cv = 0) (hcv : l0.length ≤ cv) (hB : Below w0.heap.size w0 w) (ho0 : Kd.R k35 35 w w0.heap.size P0_ v l0) (hr : Kd.C k35 w A2 1 [x]) (hc3 : l0.length ≤ 1048576) :
  Calls Tryd.prog 29 #[v, .int .i64 (l0.length : Int), .slice A2 1 c2] w fun e w' => ∃ v0_ : Value, e = .returned (v0_) ∧ Kd.R k35 35 w' w0.heap.size (fun k_ => (P0_ k_ ∨ w.heap.size ≤ k_)) v0_ (l0 ++ [x]) ∧ Below w0.heap.size w0 w' ∧ Kept w w' (fun k_ => P0_ k_) := by
 have HO := Aside0.mk (Kd.R_mono (ok' := fun k_ => (P0_ k_ ∨ w.heap.size ≤ k_)) ho0 (fun k hk => .inl hk))
 have HP := Aside0.mk ho0.1
 have HR := Aside0.mk hr
 have HB := Aside0.mk hB
 have hl : (l0.length + 1) * 32 ≤ 140737488355328 := by omega
 have h1 : (0 : Int) ≤ (l0.length : Int) := by omega
 have h2 : (l0.length : Int) ≤ (cv : Int) := by omega
 clear ho0 hr hB
 subst hv
 go_enter Tryd.func29, Tryd.ntmps29
 go_wp2_with (first | ((with_reducible refine gate_builtin (b := .append) (xs := #[.tmp 23, .tmp 24]) rfl ?_); at_builtin; refine Kd.R_append_rows k35 (w0 := w0) w0.heap.size rfl (.tmp 23) (.tmp 24) 24 35 (.agg #[(.string ⟨#[]⟩), (.string ⟨#[]⟩)]) 32 rfl Tryd.underlying24 info35 rfl (by decide) (by omega) (.slice A l0.length cv) l0 [x] _ _ _ (fun k_ => (P0_ k_ ∨ w.heap.size ≤ k_)) (fun _ => False) rfl rfl HO.out HR.out (fun _ _ h => h) (fun _ h => h.elim) (fun _ hk => .inr hk) HB.out HB.out.size hl ?_; intro v1 w1 hO1 hB1 hg1 hat1; have HO1 := Aside0.mk hO1; have HB1 := Aside0.mk hB1; have HG1 := Aside0.mk hg1; clear hO1 hB1 hg1 hat1))
 all_goals (go_ret; exact ⟨_, rfl, HO1.out, HB1.out, Kept.of_grown HG1.out (Kept.refl _ _) (fun k hk => .inl (HP.out k hk))⟩)
set_option maxHeartbeats 4000000 in
set_option maxRecDepth 100000 in
/-- Within, where there is room. -/
theorem impl_File_29.room (P0_ : Nat → Prop) (l0 : List S35) (x : S35) (m k g cap vb vo c2 : Nat) (cur : Array Value) (w0 w : World) (hk : l0.length = m + 1 + k) (hB : Below w0.heap.size w0 w) (hb : w0.heap.size ≤ g) (hg : w.heap[g]? = some (.cells cur 35 (0, 0))) (hnc : m + 1 + k ≤ cap) (hmx : cap ≤ maxLen) (hs : cur.size = cap * 2) (ht : cur.toList.take ((m + 1 + k) * 2) = l0.flatMap impl_File_29.enc) (hok : P0_ g) (hv0 : w.cell? ⟨vb, vo, none⟩ = some (.string x.f0)) (hv1 : w.cell? ⟨vb, vo + 1, none⟩ = some (.string x.f1)) (hne : vb ≠ g) (hc3 : m + 1 + k ≤ 1048576) (hroom : m + 1 + k + 1 ≤ cap) :
  Calls Tryd.prog 29 #[.slice (some ⟨g, 0, none⟩) (m + 1 + k) cap, .int .i64 (m : Int), .slice (some ⟨vb, vo, none⟩) 1 c2] w fun e w' => ∃ v0_ : Value, e = .returned (v0_) ∧ Kd.R k35 35 w' w0.heap.size (fun k_ => (P0_ k_ ∨ w.heap.size ≤ k_)) v0_ (l0.take m ++ ([x] ++ l0.drop m)) ∧ Below w0.heap.size w0 w' ∧ Kept w w' (fun k_ => P0_ k_) := by
 have hsz : k35.sz = 2 := rfl
 have hl2 : ∀ x, (impl_File_29.enc x).length = 2 := fun _ => rfl
 obtain ⟨cs, hcs⟩ : ∃ cs, cs = l0.flatMap impl_File_29.enc := ⟨_, rfl⟩
 obtain ⟨tl, htl⟩ : ∃ tl, tl = (l0.drop m).flatMap impl_File_29.enc := ⟨_, rfl⟩
 have htll : tl.length = (k + 1) * 2 := by rw [htl, YtkmcnjpgamaljaaDoor.RowL.flat_len hl2, List.length_drop]; omega
 have honet : ∀ u ∈ tl, u.oneCell' = true := by rw [htl]; exact impl_File_29.one _
 have honev : ∀ u ∈ impl_File_29.enc x, u.oneCell' = true := by intro u hu; simp only [impl_File_29.enc, List.mem_cons, List.not_mem_nil, or_false] at hu; rcases hu with rfl | rfl <;> rfl
 have hcur : ∀ j, j < (m + 1 + k) * 2 → cur.toList[j]? = cs[j]? := fun j hj => by rw [hcs, ← ht, List.getElem?_take, if_pos hj]
 have hhl : ((l0.take m).flatMap impl_File_29.enc).length = m * 2 := by rw [YtkmcnjpgamaljaaDoor.RowL.flat_len hl2, List.length_take]; omega
 have hsp : cs = (l0.take m).flatMap impl_File_29.enc ++ tl := by rw [hcs, htl, ← List.flatMap_append, List.take_append_drop]
 have hcm : cur.toList.take (m * 2) = (l0.take m).flatMap impl_File_29.enc := by
  rw [show cur.toList.take (m * 2) = (cur.toList.take ((m + 1 + k) * 2)).take (m * 2) from by rw [List.take_take, Nat.min_eq_left (by omega)], ht, ← hcs, hsp]
  exact List.take_left' hhl
 have hsrct : ∀ j u, tl[j]? = some u → w.cell? ⟨g, m * 2 + j, none⟩ = some u := by
  intro j u hu
  have hlt := (List.getElem?_eq_some_iff.1 hu).1
  rw [YtkmcnjpgamaljaaDoor.RowL.cell_of hg, hcur _ (by omega), hsp, List.getElem?_append_right (by omega), hhl, Nat.add_sub_cancel_left]
  exact hu
 have hsrcv : ∀ j u, (impl_File_29.enc x)[j]? = some u → w.cell? ⟨vb, vo + j, none⟩ = some u := by
  intro j u hu
  match j, hu with
  | 0, hu => simp [impl_File_29.enc] at hu; rw [← hu]; exact hv0
  | 1, hu => simp [impl_File_29.enc] at hu; rw [← hu]; exact hv1
  | j + 2, hu => simp [impl_File_29.enc] at hu
 have hgw : g < w.heap.size := (Array.getElem?_eq_some_iff.1 hg).1
 have hvw : vb < w.heap.size := World.block_lt_of_cell? w _ hv0
 have hinf : (Tryd.prog.info? 35).map (·.size) = some 2 := by
  obtain ⟨i0, hi0, hz⟩ := Option.map_eq_some_iff.1 info35
  simp only [Prod.mk.injEq] at hz
  rw [hi0, Option.map_some, hz.2.1]
 have hrl : (l0.take m ++ ([x] ++ l0.drop m)).length = m + 1 + k + 1 := by simp only [List.length_append, List.length_take, List.length_drop, List.length_cons, List.length_nil]; omega
 have hrf : (l0.take m ++ ([x] ++ l0.drop m)).flatMap impl_File_29.enc = (l0.take m).flatMap impl_File_29.enc ++ (impl_File_29.enc x ++ tl) := by rw [List.flatMap_append, List.flatMap_append, htl]; simp
 obtain ⟨W1, hW1⟩ : ∃ W1, W1 = w.drew.setCells g ((m + 1) * 2) tl := ⟨_, rfl⟩
 have hg1 : W1.heap[g]? = some (.cells (YtkmcnjpgamaljaaDoor.RowL.lay cur ((m + 1) * 2) tl) 35 (0, 0)) := by rw [hW1]; exact YtkmcnjpgamaljaaDoor.RowL.heap_setCells g _ _ _ _ _ hg
 obtain ⟨W2, hW2⟩ : ∃ W2, W2 = W1.setCells g (m * 2) (impl_File_29.enc x) := ⟨_, rfl⟩
 have hg2 : W2.heap[g]? = some (.cells (YtkmcnjpgamaljaaDoor.RowL.lay (YtkmcnjpgamaljaaDoor.RowL.lay cur ((m + 1) * 2) tl) (m * 2) (impl_File_29.enc x)) 35 (0, 0)) := by rw [hW2]; exact YtkmcnjpgamaljaaDoor.RowL.heap_setCells g _ _ _ _ _ hg1
 have hel : (impl_File_29.enc x).length = 2 := rfl
 have hcell2 : (YtkmcnjpgamaljaaDoor.RowL.lay (YtkmcnjpgamaljaaDoor.RowL.lay cur ((m + 1) * 2) tl) (m * 2) (impl_File_29.enc x)).toList.take ((m + 1 + k + 1) * 2) = (l0.take m).flatMap impl_File_29.enc ++ (impl_File_29.enc x ++ tl) := by
  rw [YtkmcnjpgamaljaaDoor.RowL.lay_list _ _ _ (by rw [YtkmcnjpgamaljaaDoor.RowL.lay_size, hs, hel]; omega), YtkmcnjpgamaljaaDoor.RowL.lay_list _ _ _ (by rw [hs, htll]; omega), hel]
  have e1 : (cur.toList.take ((m + 1) * 2) ++ (tl ++ cur.toList.drop ((m + 1) * 2 + tl.length))).take (m * 2) = (l0.take m).flatMap impl_File_29.enc := by
   rw [List.take_append_of_le_length (by rw [List.length_take, Array.length_toList]; omega), List.take_take, Nat.min_eq_left (by omega), hcm]
  have e2 : (cur.toList.take ((m + 1) * 2) ++ (tl ++ cur.toList.drop ((m + 1) * 2 + tl.length))).drop (m * 2 + 2) = tl ++ cur.toList.drop ((m + 1) * 2 + tl.length) :=
   List.drop_left' (by rw [List.length_take, Array.length_toList]; omega)
  rw [e1, e2, ← List.append_assoc, ← List.append_assoc, List.append_assoc _ (impl_File_29.enc x)]
  rw [← List.append_assoc]
  exact List.take_left' (by simp only [List.length_append, hhl, hel, htll]; omega)
 have hres : Kd.R k35 35 W2 w0.heap.size (fun k_ => (P0_ k_ ∨ w.heap.size ≤ k_)) (.slice (some ⟨g, 0, none⟩) (m + 1 + k + 1) cap) (l0.take m ++ ([x] ++ l0.drop m)) := by
  have := YtkmcnjpgamaljaaDoor.RowL.R_shut (d := k35) (enc := impl_File_29.enc) (l := l0.take m ++ ([x] ++ l0.drop m)) (base := w0.heap.size) (ok := fun k_ => (P0_ k_ ∨ w.heap.size ≤ k_)) (fun w base ok x => ⟨_, _, rfl, rfl, rfl⟩) hl2 hb hg2 (by rw [hrl]; exact hroom) hmx (by rw [YtkmcnjpgamaljaaDoor.RowL.lay_size, YtkmcnjpgamaljaaDoor.RowL.lay_size]; exact hs) (by rw [hrl, hsz, hcell2, hrf]) (.inl hok)
  rw [hrl] at this
  exact this
 have hbel : Below w0.heap.size w0 W2 := by
  rw [hW2, hW1]
  exact YtkmcnjpgamaljaaDoor.RowL.below_cells hb _ _ _ (YtkmcnjpgamaljaaDoor.RowL.below_cells hb _ _ _ (below_drew1 hB))
 have hkept : Kept w W2 (fun k_ => P0_ k_) := by
  rw [hW2, hW1]
  exact YtkmcnjpgamaljaaDoor.RowL.kept_cells (S := fun k_ => P0_ k_) (.inl hok) _ _ _ (YtkmcnjpgamaljaaDoor.RowL.kept_cells (S := fun k_ => P0_ k_) (.inl hok) _ _ _ (Kept.drew (Kept.refl _ _)))
 obtain ⟨tA, kA, hsa, hkA⟩ : ∃ tA kA, w.shape? vb = some (tA, kA) ∧ kA ≠ 0 := by
  unfold World.cell? at hv0
  unfold World.shape?
  split at hv0
  ·next c e f hq =>
   rw [hq]
   refine ⟨_, _, rfl, fun h0 => ?_⟩
   simp only [Option.isSome_none, Bool.false_eq_true, if_false] at hv0
   have := (Array.getElem?_eq_some_iff.1 hv0).1
   omega
  ·cases hv0
 have hsb : w.shape? g = some (35, cap * 2) := by unfold World.shape?; rw [hg]; simp [hs]
 have hov : ∀ lb cb, (callFunc 38 #[.slice (some ⟨vb, vo, none⟩) 1 c2, .slice (some ⟨g, (m + 1) * 2, none⟩) lb cb]).run Tryd.prog w = .ok (.value (.bool false)) w := fun lb cb => by
  rw [run_callFunc_extern Tryd.func38 (by kernel_rfl) (by kernel_rfl) (by kernel_rfl) (e := Extern.SlicesOverlaps.overlaps #[24, 24] #[4]) (by kernel_rfl),
   YtkmcnjpgamaljaaDoor.RowL.run_overlaps_own w 24 4 35 Tryd.underlying24 2 Tryd.sizeOf35 ⟨vb, vo, none⟩ ⟨g, (m + 1) * 2, none⟩ 1 c2 lb cb hne tA 35 kA (cap * 2) hsa hsb hkA (fun o s => by simp [World.frozen?, hg])]
  rfl
 have hcp1 : ∀ ty dc sc, (Builtin.copy_ #[24, 24] ty #[.slice (some ⟨g, (m + 1) * 2, none⟩) (m + 1 + k - m) dc, .slice (some ⟨g, m * 2, none⟩) (m + 1 + k + 1 - m) sc]).run Tryd.prog w.drew = .ok (goInt (Nat.min (m + 1 + k + 1 - m) (m + 1 + k - m))) W1 := fun ty dc sc => by
  rw [hW1]
  exact YtkmcnjpgamaljaaDoor.RowL.run_copy_sized w.drew _ _ ty 35 g _ _ dc ⟨g, m * 2, none⟩ _ sc 2 tl Tryd.underlying24 hinf (by rw [htll]; show _ = min _ _ * 2; omega)
   (fun j v hj => by rw [Addr.add_lit]; exact hsrct j v hj)
   (fun j hj => by show (w.cell? _).isSome = true; rw [YtkmcnjpgamaljaaDoor.RowL.cell_of hg, List.getElem?_eq_getElem (by rw [Array.length_toList]; omega)]; rfl) (fun j hj => YtkmcnjpgamaljaaDoor.RowL.free_of hg _) honet
 have hcp2 : ∀ (W : World), (∀ x, W.cell? x = W1.cell? x) → (∀ x, W.frozen? x = W1.frozen? x) → ∀ ty dc, (Builtin.copy_ #[24, 24] ty #[.slice (some ⟨g, m * 2, none⟩) (m + 1 + k + 1 - m) dc, .slice (some ⟨vb, vo, none⟩) 1 c2]).run Tryd.prog W = .ok (goInt (Nat.min 1 (m + 1 + k + 1 - m))) (W.setCells g (m * 2) (impl_File_29.enc x)) := fun W hWc hWf ty dc =>
  YtkmcnjpgamaljaaDoor.RowL.run_copy_sized W _ _ ty 35 g _ _ dc ⟨vb, vo, none⟩ 1 c2 2 (impl_File_29.enc x) Tryd.underlying24 hinf (by rw [hel]; show _ = min _ _ * 2; omega)
   (fun j v hj => by
    rw [Addr.add_lit, hWc, hW1, World.cell?_setCells_out g _ _ _ _ (fun h _ => absurd h hne)]
    exact hsrcv j v hj)
   (fun j hj => by rw [hWc, YtkmcnjpgamaljaaDoor.RowL.cell_of hg1, List.getElem?_eq_getElem (by rw [Array.length_toList, YtkmcnjpgamaljaaDoor.RowL.lay_size]; omega)]; rfl)
   (fun j hj => by rw [hWf]; exact YtkmcnjpgamaljaaDoor.RowL.free_of hg1 _) honev
 have HRES := Aside0.mk hres
 have HBEL := Aside0.mk hbel
 have HKEPT := Aside0.mk hkept
 have HW2 := Aside0.mk hW2
 have mixed : Tryd.prog.follows .mixedOrders = true := by kernel_rfl
 have q0 : (0 : Int) ≤ (m : Int) := by omega
 have q1 : (m : Int) ≤ (m : Int) + 1 + (k : Int) := by omega
 have q2 : (m : Int) + 1 + (k : Int) ≤ (cap : Int) := by omega
 have q3 : ¬ ((m : Int) = (m : Int) + 1 + (k : Int)) := by omega
 have q4 : (m : Int) ≤ (cap : Int) := by omega
 have q5 : ¬ (cap = m) := by omega
 have q6 : (0 : Int) ≤ (m : Int) + 1 := by omega
 have q7 : (m : Int) + 1 ≤ (m : Int) + 1 + (k : Int) + 1 := by omega
 have q8 : (m : Int) ≤ (m : Int) + 1 + (k : Int) + 1 := by omega
 have qw : IntKind.i64.wrap ((m : Int) + 1) = (m : Int) + 1 := by rw [IntKind.wrap_i64]; omega
 have qt : ((m : Int) + 1).toNat = m + 1 := by omega
 have q9 : (m : Int) + 1 + (k : Int) + 1 ≤ (cap : Int) := by omega
 have q10 : ¬ (cap = m + 1) := by omega
 clear hres hbel hkept hW1 hW2 hsrct hsrcv hcur hsp hhl hcm hs ht hg hg1 hg2 hcell2 hB hb hok htl htll hcs hsa hsb hkA hv0 hv1
 go_enter Tryd.func29, Tryd.ntmps29
 go_wp2_with (simp only [hov])
 go_region_law_o (refine step_copy_runI rfl _ _ 24 24 rfl (.slice (some ⟨g, (m + 1) * 2, none⟩) (m + 1 + k - m) (cap - (m + 1))) (.slice (some ⟨g, m * 2, none⟩) (m + 1 + k + 1 - m) (cap - m)) (by simp [Act.eval, Act.put]) (by simp [Act.eval, Act.put]) (hcp1 3 (cap - (m + 1)) (cap - m)) ?_)
 go_wp2_with (at_builtin; refine wpList_copy_runI _ rfl _ _ 24 24 rfl _ _ rfl rfl (hcp2 _ (fun _ => rfl) (fun _ => rfl) _ _) ?_)
 rw [← HW2.out]
 go_ret
 exact ⟨_, rfl, HRES.out, HBEL.out, HKEPT.out⟩
set_option maxHeartbeats 4000000 in
set_option maxRecDepth 100000 in
/-- Within, where there is no room: a new row. -/
theorem impl_File_29.grow (P0_ : Nat → Prop) (l0 : List S35) (x : S35) (m k g cap vb vo c2 : Nat) (cur : Array Value) (w0 w : World) (hk : l0.length = m + 1 + k) (hB : Below w0.heap.size w0 w) (hb : w0.heap.size ≤ g) (hg : w.heap[g]? = some (.cells cur 35 (0, 0))) (hnc : m + 1 + k ≤ cap) (hmx : cap ≤ maxLen) (hs : cur.size = cap * 2) (ht : cur.toList.take ((m + 1 + k) * 2) = l0.flatMap impl_File_29.enc) (hok : P0_ g) (hv0 : w.cell? ⟨vb, vo, none⟩ = some (.string x.f0)) (hv1 : w.cell? ⟨vb, vo + 1, none⟩ = some (.string x.f1)) (hne : vb ≠ g) (hc3 : m + 1 + k ≤ 1048576) (hroom : cap < m + 1 + k + 1) :
  Calls Tryd.prog 29 #[.slice (some ⟨g, 0, none⟩) (m + 1 + k) cap, .int .i64 (m : Int), .slice (some ⟨vb, vo, none⟩) 1 c2] w fun e w' => ∃ v0_ : Value, e = .returned (v0_) ∧ Kd.R k35 35 w' w0.heap.size (fun k_ => (P0_ k_ ∨ w.heap.size ≤ k_)) v0_ (l0.take m ++ ([x] ++ l0.drop m)) ∧ Below w0.heap.size w0 w' ∧ Kept w w' (fun k_ => P0_ k_) := by
 have hsz : k35.sz = 2 := rfl
 have hl2 : ∀ x, (impl_File_29.enc x).length = 2 := fun _ => rfl
 obtain ⟨cs, hcs⟩ : ∃ cs, cs = l0.flatMap impl_File_29.enc := ⟨_, rfl⟩
 obtain ⟨tl, htl⟩ : ∃ tl, tl = (l0.drop m).flatMap impl_File_29.enc := ⟨_, rfl⟩
 have htll : tl.length = (k + 1) * 2 := by rw [htl, YtkmcnjpgamaljaaDoor.RowL.flat_len hl2, List.length_drop]; omega
 have honet : ∀ u ∈ tl, u.oneCell' = true := by rw [htl]; exact impl_File_29.one _
 have honev : ∀ u ∈ impl_File_29.enc x, u.oneCell' = true := by intro u hu; simp only [impl_File_29.enc, List.mem_cons, List.not_mem_nil, or_false] at hu; rcases hu with rfl | rfl <;> rfl
 have hcur : ∀ j, j < (m + 1 + k) * 2 → cur.toList[j]? = cs[j]? := fun j hj => by rw [hcs, ← ht, List.getElem?_take, if_pos hj]
 have hhl : ((l0.take m).flatMap impl_File_29.enc).length = m * 2 := by rw [YtkmcnjpgamaljaaDoor.RowL.flat_len hl2, List.length_take]; omega
 have hsp : cs = (l0.take m).flatMap impl_File_29.enc ++ tl := by rw [hcs, htl, ← List.flatMap_append, List.take_append_drop]
 have hcm : cur.toList.take (m * 2) = (l0.take m).flatMap impl_File_29.enc := by
  rw [show cur.toList.take (m * 2) = (cur.toList.take ((m + 1 + k) * 2)).take (m * 2) from by rw [List.take_take, Nat.min_eq_left (by omega)], ht, ← hcs, hsp]
  exact List.take_left' hhl
 have hsrct : ∀ j u, tl[j]? = some u → w.cell? ⟨g, m * 2 + j, none⟩ = some u := by
  intro j u hu
  have hlt := (List.getElem?_eq_some_iff.1 hu).1
  rw [YtkmcnjpgamaljaaDoor.RowL.cell_of hg, hcur _ (by omega), hsp, List.getElem?_append_right (by omega), hhl, Nat.add_sub_cancel_left]
  exact hu
 have hsrcv : ∀ j u, (impl_File_29.enc x)[j]? = some u → w.cell? ⟨vb, vo + j, none⟩ = some u := by
  intro j u hu
  match j, hu with
  | 0, hu => simp [impl_File_29.enc] at hu; rw [← hu]; exact hv0
  | 1, hu => simp [impl_File_29.enc] at hu; rw [← hu]; exact hv1
  | j + 2, hu => simp [impl_File_29.enc] at hu
 have hgw : g < w.heap.size := (Array.getElem?_eq_some_iff.1 hg).1
 have hvw : vb < w.heap.size := World.block_lt_of_cell? w _ hv0
 have hinf : (Tryd.prog.info? 35).map (·.size) = some 2 := by
  obtain ⟨i0, hi0, hz⟩ := Option.map_eq_some_iff.1 info35
  simp only [Prod.mk.injEq] at hz
  rw [hi0, Option.map_some, hz.2.1]
 have hrl : (l0.take m ++ ([x] ++ l0.drop m)).length = m + 1 + k + 1 := by simp only [List.length_append, List.length_take, List.length_drop, List.length_cons, List.length_nil]; omega
 have hrf : (l0.take m ++ ([x] ++ l0.drop m)).flatMap impl_File_29.enc = (l0.take m).flatMap impl_File_29.enc ++ (impl_File_29.enc x ++ tl) := by rw [List.flatMap_append, List.flatMap_append, htl]; simp
 obtain ⟨i0, hi0, hz⟩ := Option.map_eq_some_iff.1 info35
 simp only [Prod.mk.injEq] at hz
 obtain ⟨hz0, hz1, hz2⟩ := hz
 have hel : (impl_File_29.enc x).length = 2 := rfl
 have hold : (Builtin.firstCells i0.size m (.slice (some ⟨g, 0, none⟩) m cap)).run Tryd.prog w.drew = .ok ((l0.take m).flatMap impl_File_29.enc).toArray w.drew := by
  rw [hz1]
  exact run_firstCells_some w.drew 2 m ⟨g, 0, none⟩ m cap _ hhl (fun j v hj => by
   have hlt := (List.getElem?_eq_some_iff.1 hj).1
   rw [Addr.add_lit, Nat.zero_add]
   show w.cell? _ = _
   rw [YtkmcnjpgamaljaaDoor.RowL.cell_of hg, hcur _ (by omega), hsp, List.getElem?_append_left hlt]
   exact hj)
 have hkk : (m : Int) + 1 + (k : Int) + 1 - (m : Int) = ((k + 2 : Nat) : Int) := by omega
 obtain ⟨G, hG⟩ : ∃ G, G = grownCap w (m + (k + 2)) cap 35 := ⟨_, rfl⟩
 have hGn : m + (k + 2) ≤ G := by rw [hG]; exact grownCap_ge w _ _ _
 have hGm : G ≤ maxLen := by rw [hG]; exact grownCap_le_maxLen w _ _ _ (by unfold maxLen; omega)
 obtain ⟨ROW, hROW⟩ : ∃ ROW : Array Value, ROW = ((l0.take m).flatMap impl_File_29.enc).toArray ++ Builtin.zeroCells (Value.agg #[(.string ⟨#[]⟩), (.string ⟨#[]⟩)]).cells (k + 2) ++ Builtin.zeroCells (Value.agg #[(.string ⟨#[]⟩), (.string ⟨#[]⟩)]).cells (G - (m + (k + 2))) := ⟨_, rfl⟩
 have hrz : ∀ ty, (Builtin.append_ #[24, 3] ty #[.slice (some ⟨g, 0, none⟩) m cap, .int .i64 ((m : Int) + 1 + (k : Int) + 1 - (m : Int))]).run Tryd.prog w = .ok (.slice (some ⟨w.heap.size, 0, none⟩) (m + 1 + k + 1) G) (w.drew.alloc (.cells ROW 35)) := fun ty => by
  rw [show m + 1 + k + 1 = m + (k + 2) from by omega]
  have h := Lib.run_append_grow_zeros w 24 3 ty 35 i0 _ .i64 .i64 Tryd.underlying24 Tryd.underlying3 hi0 hz0 (some ⟨g, 0, none⟩) m cap _ hold (k + 2) (by omega) (by omega) (by omega) (by omega) (by rw [hz2]; omega) (by rw [hz2]; exact growslice_fits (by omega) (by omega))
  rw [hkk, hROW, hG]
  exact h
 have hRs : ROW.size = G * 2 := by
  rw [hROW]
  have z : ∀ n, (Builtin.zeroCells (Value.agg #[(.string ⟨#[]⟩), (.string ⟨#[]⟩)]).cells n).size = n * 2 := fun n => by simp [Builtin.zeroCells, Value.cells]
  rw [Array.size_append, Array.size_append, List.size_toArray, hhl, z, z]
  omega
 have hRt : ROW.toList.take (m * 2) = (l0.take m).flatMap impl_File_29.enc := by
  rw [hROW]
  simp only [Array.toList_append, List.append_assoc]
  exact List.take_left' hhl
 obtain ⟨W1, hW1⟩ : ∃ W1, W1 = w.drew.alloc (.cells ROW 35) := ⟨_, rfl⟩
 rw [← hW1] at hrz
 have hg1 : W1.heap[w.heap.size]? = some (.cells ROW 35 (0, 0)) := by rw [hW1]; exact Array.getElem?_push_size
 obtain ⟨W2, hW2⟩ : ∃ W2, W2 = W1.setCells w.heap.size (m * 2) (impl_File_29.enc x) := ⟨_, rfl⟩
 have hg2 : W2.heap[w.heap.size]? = some (.cells (YtkmcnjpgamaljaaDoor.RowL.lay ROW (m * 2) (impl_File_29.enc x)) 35 (0, 0)) := by rw [hW2]; exact YtkmcnjpgamaljaaDoor.RowL.heap_setCells _ _ _ _ _ _ hg1
 obtain ⟨W3, hW3⟩ : ∃ W3, W3 = W2.drew.setCells w.heap.size ((m + 1) * 2) tl := ⟨_, rfl⟩
 have hg3 : W3.heap[w.heap.size]? = some (.cells (YtkmcnjpgamaljaaDoor.RowL.lay (YtkmcnjpgamaljaaDoor.RowL.lay ROW (m * 2) (impl_File_29.enc x)) ((m + 1) * 2) tl) 35 (0, 0)) := by rw [hW3]; exact YtkmcnjpgamaljaaDoor.RowL.heap_setCells _ _ _ _ _ _ hg2
 have hcell2 : (YtkmcnjpgamaljaaDoor.RowL.lay (YtkmcnjpgamaljaaDoor.RowL.lay ROW (m * 2) (impl_File_29.enc x)) ((m + 1) * 2) tl).toList.take ((m + 1 + k + 1) * 2) = (l0.take m).flatMap impl_File_29.enc ++ (impl_File_29.enc x ++ tl) := by
  rw [YtkmcnjpgamaljaaDoor.RowL.lay_list _ _ _ (by rw [YtkmcnjpgamaljaaDoor.RowL.lay_size, hRs, htll]; omega), YtkmcnjpgamaljaaDoor.RowL.lay_list _ _ _ (by rw [hRs, hel]; omega), hRt]
  have e1 : ((l0.take m).flatMap impl_File_29.enc ++ (impl_File_29.enc x ++ ROW.toList.drop (m * 2 + (impl_File_29.enc x).length))).take ((m + 1) * 2) = (l0.take m).flatMap impl_File_29.enc ++ impl_File_29.enc x := by
   rw [← List.append_assoc]
   exact List.take_left' (by rw [List.length_append, hhl, hel]; omega)
  rw [e1, ← List.append_assoc, List.append_assoc _ (impl_File_29.enc x) tl]
  exact List.take_left' (by simp only [List.length_append, hhl, hel, htll]; omega)
 have hw0 : w0.heap.size ≤ w.heap.size := hB.size
 have hres : Kd.R k35 35 W3 w0.heap.size (fun k_ => (P0_ k_ ∨ w.heap.size ≤ k_)) (.slice (some ⟨w.heap.size, 0, none⟩) (m + 1 + k + 1) G) (l0.take m ++ ([x] ++ l0.drop m)) := by
  have := YtkmcnjpgamaljaaDoor.RowL.R_shut (d := k35) (enc := impl_File_29.enc) (l := l0.take m ++ ([x] ++ l0.drop m)) (base := w0.heap.size) (ok := fun k_ => (P0_ k_ ∨ w.heap.size ≤ k_)) (fun w base ok x => ⟨_, _, rfl, rfl, rfl⟩) hl2 hw0 hg3 (by rw [hrl]; omega) hGm (by rw [YtkmcnjpgamaljaaDoor.RowL.lay_size, YtkmcnjpgamaljaaDoor.RowL.lay_size]; exact hRs) (by rw [hrl, hsz, hcell2, hrf]) (.inr (Nat.le_refl _))
  rw [hrl] at this
  exact this
 have hbel : Below w0.heap.size w0 W3 := by
  rw [hW3, hW2, hW1]
  exact YtkmcnjpgamaljaaDoor.RowL.below_cells hw0 _ _ _ (below_drew1 (YtkmcnjpgamaljaaDoor.RowL.below_cells hw0 _ _ _ (below_alloc (below_drew1 hB) _)))
 have hkept : Kept w W3 (fun k_ => P0_ k_) := by
  rw [hW3, hW2, hW1]
  exact YtkmcnjpgamaljaaDoor.RowL.kept_cells (S := fun k_ => P0_ k_) (.inr (Nat.le_refl _)) _ _ _ (Kept.drew (YtkmcnjpgamaljaaDoor.RowL.kept_cells (S := fun k_ => P0_ k_) (.inr (Nat.le_refl _)) _ _ _ (Kept.alloc (Kept.drew (Kept.refl _ _)) _)))
 have hOv : ∀ j v, w.cell? ⟨vb, j, none⟩ = some v → W1.cell? ⟨vb, j, none⟩ = some v := fun j v h => by rw [hW1, World.cell?_alloc_past (w := w.drew) _ vb j hvw]; exact h
 have hOg : ∀ j v, w.cell? ⟨g, j, none⟩ = some v → W1.cell? ⟨g, j, none⟩ = some v := fun j v h => by rw [hW1, World.cell?_alloc_past (w := w.drew) _ g j hgw]; exact h
 have hcp1 : ∀ (W : World), (∀ x, W.cell? x = W1.cell? x) → (∀ x, W.frozen? x = W1.frozen? x) → ∀ ty dc, (Builtin.copy_ #[24, 24] ty #[.slice (some ⟨w.heap.size, m * 2, none⟩) (m + 1 + k + 1 - m) dc, .slice (some ⟨vb, vo, none⟩) 1 c2]).run Tryd.prog W = .ok (goInt (Nat.min 1 (m + 1 + k + 1 - m))) (W.setCells w.heap.size (m * 2) (impl_File_29.enc x)) := fun W hWc hWf ty dc =>
  YtkmcnjpgamaljaaDoor.RowL.run_copy_sized W _ _ ty 35 w.heap.size _ _ dc ⟨vb, vo, none⟩ 1 c2 2 (impl_File_29.enc x) Tryd.underlying24 hinf (by rw [hel]; show _ = min _ _ * 2; omega)
   (fun j v hj => by rw [Addr.add_lit, hWc]; exact hOv _ v (hsrcv j v hj))
   (fun j hj => by rw [hWc, YtkmcnjpgamaljaaDoor.RowL.cell_of hg1, List.getElem?_eq_getElem (by rw [Array.length_toList]; omega)]; rfl)
   (fun j hj => by rw [hWf]; exact YtkmcnjpgamaljaaDoor.RowL.free_of hg1 _) honev
 have hgn : g ≠ w.heap.size := by omega
 have hcp2 : ∀ (W : World), (∀ x, W.cell? x = W2.cell? x) → (∀ x, W.frozen? x = W2.frozen? x) → ∀ ty dc sc, (Builtin.copy_ #[24, 24] ty #[.slice (some ⟨w.heap.size, (m + 1) * 2, none⟩) (m + 1 + k - m) dc, .slice (some ⟨g, m * 2, none⟩) (m + 1 + k - m) sc]).run Tryd.prog W = .ok (goInt (Nat.min (m + 1 + k - m) (m + 1 + k - m))) (W.setCells w.heap.size ((m + 1) * 2) tl) := fun W hWc hWf ty dc sc =>
  YtkmcnjpgamaljaaDoor.RowL.run_copy_sized W _ _ ty 35 w.heap.size _ _ dc ⟨g, m * 2, none⟩ _ sc 2 tl Tryd.underlying24 hinf (by rw [htll]; show _ = min _ _ * 2; omega)
   (fun j v hj => by rw [Addr.add_lit, hWc, hW2, World.cell?_setCells_out _ _ _ _ _ (fun h _ => absurd h hgn)]; exact hOg _ v (hsrct j v hj))
   (fun j hj => by rw [hWc, YtkmcnjpgamaljaaDoor.RowL.cell_of hg2, List.getElem?_eq_getElem (by rw [Array.length_toList, YtkmcnjpgamaljaaDoor.RowL.lay_size]; omega)]; rfl)
   (fun j hj => by rw [hWf]; exact YtkmcnjpgamaljaaDoor.RowL.free_of hg2 _) honet
 have HRES := Aside0.mk hres
 have HBEL := Aside0.mk hbel
 have HKEPT := Aside0.mk hkept
 have mixed : Tryd.prog.follows .mixedOrders = true := by kernel_rfl
 have q0 : (0 : Int) ≤ (m : Int) := by omega
 have q1 : (m : Int) ≤ (m : Int) + 1 + (k : Int) := by omega
 have q2 : (m : Int) + 1 + (k : Int) ≤ (cap : Int) := by omega
 have q3 : ¬ ((m : Int) = (m : Int) + 1 + (k : Int)) := by omega
 have q4 : (m : Int) ≤ (cap : Int) := by omega
 have q5 : ¬ (cap = m) := by omega
 have q6 : (0 : Int) ≤ (m : Int) + 1 := by omega
 have q7 : (m : Int) + 1 ≤ (m : Int) + 1 + (k : Int) + 1 := by omega
 have q8 : (m : Int) ≤ (m : Int) + 1 + (k : Int) + 1 := by omega
 have qw : IntKind.i64.wrap ((m : Int) + 1) = (m : Int) + 1 := by rw [IntKind.wrap_i64]; omega
 have qt : ((m : Int) + 1).toNat = m + 1 := by omega
 have q9 : (cap : Int) < (m : Int) + 1 + (k : Int) + 1 := by omega
 have q10 : ¬ (G = m) := by omega
 have q11 : ¬ (G = m + 1) := by omega
 have HW2 := Aside0.mk hW2
 have HW3 := Aside0.mk hW3
 clear hres hbel hkept hsrct hsrcv hcur hsp hhl hcm hs ht hg hg1 hg2 hg3 hcell2 hB hb hok htl htll hcs hv0 hv1 hold hkk hROW hRs hRt hG hOv hOg hi0 hz0 hz1 hz2 hW1 hW2 hW3
 go_enter Tryd.func29, Tryd.ntmps29
 go_wp2_with (first
  | (at_builtin; refine Lib.wpList_append_run _ rfl _ _ _ _ rfl _ _ rfl rfl _ _ (hrz _) ?_)
  | (at_builtin; refine wpList_copy_runI _ rfl _ _ 24 24 rfl _ _ rfl rfl (hcp1 W1 (fun _ => rfl) (fun _ => rfl) _ _) ?_))
 go_region_law_o (refine step_copy_runI rfl _ _ 24 24 rfl (.slice (some ⟨w.heap.size, (m + 1) * 2, none⟩) (m + 1 + k - m) (G - (m + 1))) (.slice (some ⟨g, m * 2, none⟩) (m + 1 + k - m) (cap - m)) (by simp [Act.eval, Act.put]) (by simp [Act.eval, Act.put]) (hcp2 (W1.setCells w.heap.size (m * 2) (impl_File_29.enc x)).drew (fun _ => by rw [HW2.out]; rfl) (fun _ => by rw [HW2.out]; rfl) 3 (G - (m + 1)) (cap - m)) ?_)
 go_wp2
 rw [← HW2.out, ← HW3.out]
 go_ret
 exact ⟨_, rfl, HRES.out, HBEL.out, HKEPT.out⟩
set_option maxHeartbeats 4000000 in
theorem impl_File_29.calls (P0_ : Nat → Prop) (u9000_ : Value) (l0 : List S35) (a1 : Int) (A2 : Option Addr) (c2 : Nat) (l2 : List S35) (r : List S35) (w0 w : World) (hB : Below w0.heap.size w0 w) (ho0 : Kd.R k35 35 w w0.heap.size P0_ u9000_ l0) (hr2 : ∀ W', Kept w W' (fun k_ => P0_ k_) → Kd.C k35 W' A2 l2.length l2) (hc2 : l2.length ≤ c2) (h : impl_File_29.f l0 a1 l2 = some r) :
  Calls Tryd.prog 29 #[u9000_, .int .i64 a1, .slice A2 l2.length c2] w fun e w' => ∃ v0_ : Value, e = .returned (v0_) ∧ Kd.R k35 35 w' w0.heap.size (fun k_ => (P0_ k_ ∨ w.heap.size ≤ k_)) v0_ r ∧ Below w0.heap.size w0 w' ∧ Kept w w' (fun k_ => P0_ k_) := by
 unfold impl_File_29.f at h
 by_cases c : 0 ≤ a1 ∧ a1 ≤ l0.length ∧ l2.length = 1 ∧ l0.length ≤ 1048576
 case neg => rw [if_neg c] at h; cases h
 rw [if_pos c] at h
 obtain rfl := Option.some.inj h
 obtain ⟨c0, c1, c2', c3⟩ := c
 clear h
 obtain ⟨m, rfl⟩ : ∃ m : Nat, a1 = m := ⟨a1.toNat, by omega⟩
 obtain ⟨x, rfl⟩ : ∃ x, l2 = [x] := by
  match l2, c2' with
  | [x], _ => exact ⟨x, rfl⟩
 rw [Int.toNat_natCast]
 by_cases he : m = l0.length
 ·have e : l0.take m ++ ([x] ++ l0.drop m) = l0 ++ [x] := by rw [he, List.take_length, List.drop_length, List.append_nil]
  rw [e]
  by_cases hn : l0 = []
  ·subst hn
   obtain ⟨A, cv, hv, hl, _⟩ := Kd.R_V (base' := 0) ho0
   rcases ho0.2 with ⟨inner, ho, _⟩
   rcases ho.2 with ⟨hv2, _⟩ | ⟨g, cap, cur, hv2, hb, hg, hnc, hmx, hs, ht⟩
   ·have := impl_File_29.end_ P0_ u9000_ none 0 [] x A2 c2 w0 w hv2 (fun _ => rfl) (Nat.le_refl _) hB ho0 (hr2 w (Kept.refl _ _)) c3
    rwa [he]
   ·have := impl_File_29.end_ P0_ u9000_ (some ⟨g, 0, none⟩) cap [] x A2 c2 w0 w hv2 (fun h => by cases h) hnc hB ho0 (hr2 w (Kept.refl _ _)) c3
    rwa [he]
  ·obtain ⟨g, cap, cur, hv, hb, hg, hnc, hmx, hs, ht, hok⟩ := YtkmcnjpgamaljaaDoor.RowL.R_open (enc := impl_File_29.enc) (fun w base ok x cs hx => k35_openM hx) ho0 hn
   have := impl_File_29.end_ P0_ u9000_ (some ⟨g, 0, none⟩) cap l0 x A2 c2 w0 w hv (fun h => by cases h) hnc hB ho0 (hr2 w (Kept.refl _ _)) c3
   rwa [he]
 ·have hm : m < l0.length := by omega
  obtain ⟨k, hk⟩ : ∃ k, l0.length = m + 1 + k := ⟨l0.length - (m + 1), by omega⟩
  obtain ⟨g, cap, cur, rfl, hb, hg, hnc, hmx, hs, ht, hok⟩ := YtkmcnjpgamaljaaDoor.RowL.R_open (enc := impl_File_29.enc) (fun w base ok x cs hx => k35_openM hx) ho0 (by rintro rfl; simp at hm)
  obtain ⟨vb, vo, rfl, hv0, hv1⟩ := impl_File_29.at_ (hr2 w (Kept.refl _ _))
  have hne := impl_File_29.apart hr2 rfl hok
  rw [show k35.sz = 2 from rfl] at hs ht
  rw [hk] at hnc ht c3 ⊢
  rcases Nat.lt_or_ge cap (m + 1 + k + 1) with hroom | hroom
  ·exact impl_File_29.grow P0_ l0 x m k g cap vb vo c2 cur w0 w hk hB hb hg hnc hmx hs ht hok hv0 hv1 hne c3 hroom
  ·exact impl_File_29.room P0_ l0 x m k g cap vb vo c2 cur w0 w hk hB hb hg hnc hmx hs ht hok hv0 hv1 hne c3 hroom

end Go.Proofs.YtkmcnjpgamaljaaDoor.PFnExactPutFile

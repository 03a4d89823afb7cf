-- Out of the kit's print, with contracts of mine among it (myprint.py).
import Derived.Test.YtkmcnjpgamaljaaGreatDoorPFnFilesx0
import Derived.Test.YtkmcnjpgamaljaaGreatDoorPFnFilesx6
import Derived.Test.YtkmcnjpgamaljaaGreatDoorPFnFilesx18
namespace Go.Proofs.YtkmcnjpgamaljaaGreatDoor.PFnFiles
open Go.RowKit Go.Proofs.YtkmcnjpgamaljaaGreatDoorW.PrintWords Go.Proofs.YtkmcnjpgamaljaaGreatDoorW.PrintLast Go.Proofs.YtkmcnjpgamaljaaGreatDoorW.PrintMore
attribute [local go_sem] max2_int min2_int max_two min_two max_three min_three max_four min_four   -- for this text's walks alone
set_option linter.unusedVariables false
set_option linter.unusedSimpArgs false

/-! ### impl_File_38: function 38 (a contract of mine) -/
def impl_File_38.f (l0 : List S33) (a1 : Int) (l2 : List S33) : Option (List S33) := if 0 ≤ a1 ∧ a1 ≤ l0.length ∧ l2.length = 1 ∧ l0.length ≤ 1048576 then some (l0.take a1.toNat ++ (l2 ++ l0.drop a1.toNat)) else none
def impl_File_38.enc (x : S33) : List Value := [.string x.f0, .string x.f1]
theorem impl_File_38.one (l : List S33) : ∀ u ∈ l.flatMap impl_File_38.enc, u.oneCell' = true := by
 intro u hu
 obtain ⟨x, _, hx⟩ := List.mem_flatMap.1 hu
 simp only [impl_File_38.enc, List.mem_cons, List.not_mem_nil, or_false] at hx
 rcases hx with rfl | rfl <;> rfl
/-- Where the row that is put in lies. -/
theorem impl_File_38.at_ {W : World} {A : Option Addr} {x : S33} (h : Kd.C k33 W A 1 [x]) : ∃ vb vo, A = some ⟨vb, vo, none⟩ ∧ W.cell? ⟨vb, vo, none⟩ = some (.string x.f0) ∧ W.cell? ⟨vb, vo + 1, none⟩ = some (.string x.f1) := by
 obtain ⟨ad, e0, h00, h01⟩ := at_T33 h 0 (Int.le_refl _) (by decide)
 obtain ⟨b, o, s⟩ := ad
 have hs : s = none := by
  cases s with
  | none => rfl
  | some q =>
   exfalso
   simp only [Int.toNat_zero, Nat.zero_mul, Addr.add, if_true, World.cell?] at h00
   split at h00 <;> simp at h00
 subst hs
 refine ⟨b, o, e0, ?_, ?_⟩
 ·simpa [Addr.add, rd_T33] using h00
 ·simpa [Addr.add, rd_T33] using h01
theorem impl_File_38.apart {W : World} {S : Nat → Prop} {A : Option Addr} {x : S33} {vb vo g : Nat} (h : ∀ W', Kept W W' S → Kd.C k33 W' A 1 [x]) (hA : A = some ⟨vb, vo, none⟩) (hg : S g) : vb ≠ g := by
 intro e
 subst e
 have h1 := h (W.setCell ⟨vb, vo, none⟩ (.int .i64 0)) (Kept.setCell (Kept.refl _ _) (.inl hg) _)
 obtain ⟨vb2, vo2, e2, h2, _⟩ := impl_File_38.at_ h1
 rw [hA] at e2
 obtain ⟨rfl, rfl⟩ : vb = vb2 ∧ vo = vo2 := by injection e2 with e2; injection e2 with a b c; exact ⟨a, b⟩
 obtain ⟨vb3, vo3, e3, h3, _⟩ := impl_File_38.at_ (h W (Kept.refl _ _))
 rw [hA] at e3
 obtain ⟨rfl, rfl⟩ : vb = vb3 ∧ vo = vo3 := by injection e3 with e3; injection e3 with a b c; exact ⟨a, b⟩
 have h4 : (W.setCell ⟨vb, vo, none⟩ (.int .i64 0)).cell? ⟨vb, vo, none⟩ = some (.int .i64 0) := World.cell?_setCell_same _ _ _ h3
 rw [h4] at h2
 cases h2
set_option maxHeartbeats 4000000 in
set_option maxRecDepth 100000 in
/-- At the end. -/
theorem impl_File_38.end_ (P0_ : Nat → Prop) (v : Value) (A : Option Addr) (cv : Nat) (l0 : List S33) (x : S33) (A2 : Option Addr) (c2 : Nat) (w0 w : World) (hv : v = .slice A l0.length cv) (hA : A = none → cv = 0) (hcv : l0.length ≤ cv) (hB : Below w0.heap.size w0 w) (ho0 : Kd.R k33 33 w w0.heap.size P0_ v l0) (hr : Kd.C k33 w A2 1 [x]) (hc3 : l0.length ≤ 1048576) :
  Calls Tryz.prog 38 #[v, .int .i64 (l0.length : Int), .slice A2 1 c2] w fun e w' => ∃ v0_ : Value, e = .returned (v0_) ∧ Kd.R k33 33 w' w0.heap.size (fun k_ => (P0_ k_ ∨ w.heap.size ≤ k_)) v0_ (l0 ++ [x]) ∧ Below w0.heap.size w0 w' ∧ Kept w w' (fun k_ => P0_ k_) := by
 have HO := Aside0.mk (Kd.R_mono (ok' := fun k_ => (P0_ k_ ∨ w.heap.size ≤ k_)) ho0 (fun k hk => .inl hk))
 have HP := Aside0.mk ho0.1
 have HR := Aside0.mk hr
 have HB := Aside0.mk hB
 have hl : (l0.length + 1) * 32 ≤ 140737488355328 := by omega
 have h1 : (0 : Int) ≤ (l0.length : Int) := by omega
 have h2 : (l0.length : Int) ≤ (cv : Int) := by omega
 clear ho0 hr hB
 subst hv
 go_enter Tryz.func38, Tryz.ntmps38
 go_wp2_with (first | ((with_reducible refine gate_builtin (b := .append) (xs := #[.tmp 23, .tmp 24]) rfl ?_); at_builtin; refine Kd.R_append_rows k33 (w0 := w0) w0.heap.size rfl (.tmp 23) (.tmp 24) 24 33 (.agg #[(.string ⟨#[]⟩), (.string ⟨#[]⟩)]) 32 rfl Tryz.underlying24 info33 rfl (by decide) (by omega) (.slice A l0.length cv) l0 [x] _ _ _ (fun k_ => (P0_ k_ ∨ w.heap.size ≤ k_)) (fun _ => False) rfl rfl HO.out HR.out (fun _ _ h => h) (fun _ h => h.elim) (fun _ hk => .inr hk) HB.out HB.out.size hl ?_; intro v1 w1 hO1 hB1 hg1 hat1; have HO1 := Aside0.mk hO1; have HB1 := Aside0.mk hB1; have HG1 := Aside0.mk hg1; clear hO1 hB1 hg1 hat1))
 all_goals (go_ret; exact ⟨_, rfl, HO1.out, HB1.out, Kept.of_grown HG1.out (Kept.refl _ _) (fun k hk => .inl (HP.out k hk))⟩)
set_option maxHeartbeats 4000000 in
set_option maxRecDepth 100000 in
/-- Within, where there is room. -/
theorem impl_File_38.room (P0_ : Nat → Prop) (l0 : List S33) (x : S33) (m k g cap vb vo c2 : Nat) (cur : Array Value) (w0 w : World) (hk : l0.length = m + 1 + k) (hB : Below w0.heap.size w0 w) (hb : w0.heap.size ≤ g) (hg : w.heap[g]? = some (.cells cur 33 (0, 0))) (hnc : m + 1 + k ≤ cap) (hmx : cap ≤ maxLen) (hs : cur.size = cap * 2) (ht : cur.toList.take ((m + 1 + k) * 2) = l0.flatMap impl_File_38.enc) (hok : P0_ g) (hv0 : w.cell? ⟨vb, vo, none⟩ = some (.string x.f0)) (hv1 : w.cell? ⟨vb, vo + 1, none⟩ = some (.string x.f1)) (hne : vb ≠ g) (hc3 : m + 1 + k ≤ 1048576) (hroom : m + 1 + k + 1 ≤ cap) :
  Calls Tryz.prog 38 #[.slice (some ⟨g, 0, none⟩) (m + 1 + k) cap, .int .i64 (m : Int), .slice (some ⟨vb, vo, none⟩) 1 c2] w fun e w' => ∃ v0_ : Value, e = .returned (v0_) ∧ Kd.R k33 33 w' w0.heap.size (fun k_ => (P0_ k_ ∨ w.heap.size ≤ k_)) v0_ (l0.take m ++ ([x] ++ l0.drop m)) ∧ Below w0.heap.size w0 w' ∧ Kept w w' (fun k_ => P0_ k_) := by
 have hsz : k33.sz = 2 := rfl
 have hl2 : ∀ x, (impl_File_38.enc x).length = 2 := fun _ => rfl
 obtain ⟨cs, hcs⟩ : ∃ cs, cs = l0.flatMap impl_File_38.enc := ⟨_, rfl⟩
 obtain ⟨tl, htl⟩ : ∃ tl, tl = (l0.drop m).flatMap impl_File_38.enc := ⟨_, rfl⟩
 have htll : tl.length = (k + 1) * 2 := by rw [htl, YtkmcnjpgamaljaaGreatDoor.RowL.flat_len hl2, List.length_drop]; omega
 have honet : ∀ u ∈ tl, u.oneCell' = true := by rw [htl]; exact impl_File_38.one _
 have honev : ∀ u ∈ impl_File_38.enc x, u.oneCell' = true := by intro u hu; simp only [impl_File_38.enc, List.mem_cons, List.not_mem_nil, or_false] at hu; rcases hu with rfl | rfl <;> rfl
 have hcur : ∀ j, j < (m + 1 + k) * 2 → cur.toList[j]? = cs[j]? := fun j hj => by rw [hcs, ← ht, List.getElem?_take, if_pos hj]
 have hhl : ((l0.take m).flatMap impl_File_38.enc).length = m * 2 := by rw [YtkmcnjpgamaljaaGreatDoor.RowL.flat_len hl2, List.length_take]; omega
 have hsp : cs = (l0.take m).flatMap impl_File_38.enc ++ tl := by rw [hcs, htl, ← List.flatMap_append, List.take_append_drop]
 have hcm : cur.toList.take (m * 2) = (l0.take m).flatMap impl_File_38.enc := by
  rw [show cur.toList.take (m * 2) = (cur.toList.take ((m + 1 + k) * 2)).take (m * 2) from by rw [List.take_take, Nat.min_eq_left (by omega)], ht, ← hcs, hsp]
  exact List.take_left' hhl
 have hsrct : ∀ j u, tl[j]? = some u → w.cell? ⟨g, m * 2 + j, none⟩ = some u := by
  intro j u hu
  have hlt := (List.getElem?_eq_some_iff.1 hu).1
  rw [YtkmcnjpgamaljaaGreatDoor.RowL.cell_of hg, hcur _ (by omega), hsp, List.getElem?_append_right (by omega), hhl, Nat.add_sub_cancel_left]
  exact hu
 have hsrcv : ∀ j u, (impl_File_38.enc x)[j]? = some u → w.cell? ⟨vb, vo + j, none⟩ = some u := by
  intro j u hu
  match j, hu with
  | 0, hu => simp [impl_File_38.enc] at hu; rw [← hu]; exact hv0
  | 1, hu => simp [impl_File_38.enc] at hu; rw [← hu]; exact hv1
  | j + 2, hu => simp [impl_File_38.enc] at hu
 have hgw : g < w.heap.size := (Array.getElem?_eq_some_iff.1 hg).1
 have hvw : vb < w.heap.size := World.block_lt_of_cell? w _ hv0
 have hinf : (Tryz.prog.info? 33).map (·.size) = some 2 := by
  obtain ⟨i0, hi0, hz⟩ := Option.map_eq_some_iff.1 info33
  simp only [Prod.mk.injEq] at hz
  rw [hi0, Option.map_some, hz.2.1]
 have hrl : (l0.take m ++ ([x] ++ l0.drop m)).length = m + 1 + k + 1 := by simp only [List.length_append, List.length_take, List.length_drop, List.length_cons, List.length_nil]; omega
 have hrf : (l0.take m ++ ([x] ++ l0.drop m)).flatMap impl_File_38.enc = (l0.take m).flatMap impl_File_38.enc ++ (impl_File_38.enc x ++ tl) := by rw [List.flatMap_append, List.flatMap_append, htl]; simp
 obtain ⟨W1, hW1⟩ : ∃ W1, W1 = w.drew.setCells g ((m + 1) * 2) tl := ⟨_, rfl⟩
 have hg1 : W1.heap[g]? = some (.cells (YtkmcnjpgamaljaaGreatDoor.RowL.lay cur ((m + 1) * 2) tl) 33 (0, 0)) := by rw [hW1]; exact YtkmcnjpgamaljaaGreatDoor.RowL.heap_setCells g _ _ _ _ _ hg
 obtain ⟨W2, hW2⟩ : ∃ W2, W2 = W1.setCells g (m * 2) (impl_File_38.enc x) := ⟨_, rfl⟩
 have hg2 : W2.heap[g]? = some (.cells (YtkmcnjpgamaljaaGreatDoor.RowL.lay (YtkmcnjpgamaljaaGreatDoor.RowL.lay cur ((m + 1) * 2) tl) (m * 2) (impl_File_38.enc x)) 33 (0, 0)) := by rw [hW2]; exact YtkmcnjpgamaljaaGreatDoor.RowL.heap_setCells g _ _ _ _ _ hg1
 have hel : (impl_File_38.enc x).length = 2 := rfl
 have hcell2 : (YtkmcnjpgamaljaaGreatDoor.RowL.lay (YtkmcnjpgamaljaaGreatDoor.RowL.lay cur ((m + 1) * 2) tl) (m * 2) (impl_File_38.enc x)).toList.take ((m + 1 + k + 1) * 2) = (l0.take m).flatMap impl_File_38.enc ++ (impl_File_38.enc x ++ tl) := by
  rw [YtkmcnjpgamaljaaGreatDoor.RowL.lay_list _ _ _ (by rw [YtkmcnjpgamaljaaGreatDoor.RowL.lay_size, hs, hel]; omega), YtkmcnjpgamaljaaGreatDoor.RowL.lay_list _ _ _ (by rw [hs, htll]; omega), hel]
  have e1 : (cur.toList.take ((m + 1) * 2) ++ (tl ++ cur.toList.drop ((m + 1) * 2 + tl.length))).take (m * 2) = (l0.take m).flatMap impl_File_38.enc := by
   rw [List.take_append_of_le_length (by rw [List.length_take, Array.length_toList]; omega), List.take_take, Nat.min_eq_left (by omega), hcm]
  have e2 : (cur.toList.take ((m + 1) * 2) ++ (tl ++ cur.toList.drop ((m + 1) * 2 + tl.length))).drop (m * 2 + 2) = tl ++ cur.toList.drop ((m + 1) * 2 + tl.length) :=
   List.drop_left' (by rw [List.length_take, Array.length_toList]; omega)
  rw [e1, e2, ← List.append_assoc, ← List.append_assoc, List.append_assoc _ (impl_File_38.enc x)]
  rw [← List.append_assoc]
  exact List.take_left' (by simp only [List.length_append, hhl, hel, htll]; omega)
 have hres : Kd.R k33 33 W2 w0.heap.size (fun k_ => (P0_ k_ ∨ w.heap.size ≤ k_)) (.slice (some ⟨g, 0, none⟩) (m + 1 + k + 1) cap) (l0.take m ++ ([x] ++ l0.drop m)) := by
  have := YtkmcnjpgamaljaaGreatDoor.RowL.R_shut (d := k33) (enc := impl_File_38.enc) (l := l0.take m ++ ([x] ++ l0.drop m)) (base := w0.heap.size) (ok := fun k_ => (P0_ k_ ∨ w.heap.size ≤ k_)) (fun w base ok x => ⟨_, _, rfl, rfl, rfl⟩) hl2 hb hg2 (by rw [hrl]; exact hroom) hmx (by rw [YtkmcnjpgamaljaaGreatDoor.RowL.lay_size, YtkmcnjpgamaljaaGreatDoor.RowL.lay_size]; exact hs) (by rw [hrl, hsz, hcell2, hrf]) (.inl hok)
  rw [hrl] at this
  exact this
 have hbel : Below w0.heap.size w0 W2 := by
  rw [hW2, hW1]
  exact YtkmcnjpgamaljaaGreatDoor.RowL.below_cells hb _ _ _ (YtkmcnjpgamaljaaGreatDoor.RowL.below_cells hb _ _ _ (below_drew1 hB))
 have hkept : Kept w W2 (fun k_ => P0_ k_) := by
  rw [hW2, hW1]
  exact YtkmcnjpgamaljaaGreatDoor.RowL.kept_cells (S := fun k_ => P0_ k_) (.inl hok) _ _ _ (YtkmcnjpgamaljaaGreatDoor.RowL.kept_cells (S := fun k_ => P0_ k_) (.inl hok) _ _ _ (Kept.drew (Kept.refl _ _)))
 obtain ⟨tA, kA, hsa, hkA⟩ : ∃ tA kA, w.shape? vb = some (tA, kA) ∧ kA ≠ 0 := by
  unfold World.cell? at hv0
  unfold World.shape?
  split at hv0
  ·next c e f hq =>
   rw [hq]
   refine ⟨_, _, rfl, fun h0 => ?_⟩
   simp only [Option.isSome_none, Bool.false_eq_true, if_false] at hv0
   have := (Array.getElem?_eq_some_iff.1 hv0).1
   omega
  ·cases hv0
 have hsb : w.shape? g = some (33, cap * 2) := by unfold World.shape?; rw [hg]; simp [hs]
 have hov : ∀ lb cb, (callFunc 56 #[.slice (some ⟨vb, vo, none⟩) 1 c2, .slice (some ⟨g, (m + 1) * 2, none⟩) lb cb]).run Tryz.prog w = .ok (.value (.bool false)) w := fun lb cb => by
  rw [run_callFunc_extern Tryz.func56 (by kernel_rfl) (by kernel_rfl) (by kernel_rfl) (e := Extern.SlicesOverlaps.overlaps #[24, 24] #[4]) (by kernel_rfl),
   YtkmcnjpgamaljaaGreatDoor.RowL.run_overlaps_own w 24 4 33 Tryz.underlying24 2 Tryz.sizeOf33 ⟨vb, vo, none⟩ ⟨g, (m + 1) * 2, none⟩ 1 c2 lb cb hne tA 33 kA (cap * 2) hsa hsb hkA (fun o s => by simp [World.frozen?, hg])]
  rfl
 have hcp1 : ∀ ty dc sc, (Builtin.copy_ #[24, 24] ty #[.slice (some ⟨g, (m + 1) * 2, none⟩) (m + 1 + k - m) dc, .slice (some ⟨g, m * 2, none⟩) (m + 1 + k + 1 - m) sc]).run Tryz.prog w.drew = .ok (goInt (Nat.min (m + 1 + k + 1 - m) (m + 1 + k - m))) W1 := fun ty dc sc => by
  rw [hW1]
  exact YtkmcnjpgamaljaaGreatDoor.RowL.run_copy_sized w.drew _ _ ty 33 g _ _ dc ⟨g, m * 2, none⟩ _ sc 2 tl Tryz.underlying24 hinf (by rw [htll]; show _ = min _ _ * 2; omega)
   (fun j v hj => by rw [Addr.add_lit]; exact hsrct j v hj)
   (fun j hj => by show (w.cell? _).isSome = true; rw [YtkmcnjpgamaljaaGreatDoor.RowL.cell_of hg, List.getElem?_eq_getElem (by rw [Array.length_toList]; omega)]; rfl) (fun j hj => YtkmcnjpgamaljaaGreatDoor.RowL.free_of hg _) honet
 have hcp2 : ∀ (W : World), (∀ x, W.cell? x = W1.cell? x) → (∀ x, W.frozen? x = W1.frozen? x) → ∀ ty dc, (Builtin.copy_ #[24, 24] ty #[.slice (some ⟨g, m * 2, none⟩) (m + 1 + k + 1 - m) dc, .slice (some ⟨vb, vo, none⟩) 1 c2]).run Tryz.prog W = .ok (goInt (Nat.min 1 (m + 1 + k + 1 - m))) (W.setCells g (m * 2) (impl_File_38.enc x)) := fun W hWc hWf ty dc =>
  YtkmcnjpgamaljaaGreatDoor.RowL.run_copy_sized W _ _ ty 33 g _ _ dc ⟨vb, vo, none⟩ 1 c2 2 (impl_File_38.enc x) Tryz.underlying24 hinf (by rw [hel]; show _ = min _ _ * 2; omega)
   (fun j v hj => by
    rw [Addr.add_lit, hWc, hW1, World.cell?_setCells_out g _ _ _ _ (fun h _ => absurd h hne)]
    exact hsrcv j v hj)
   (fun j hj => by rw [hWc, YtkmcnjpgamaljaaGreatDoor.RowL.cell_of hg1, List.getElem?_eq_getElem (by rw [Array.length_toList, YtkmcnjpgamaljaaGreatDoor.RowL.lay_size]; omega)]; rfl)
   (fun j hj => by rw [hWf]; exact YtkmcnjpgamaljaaGreatDoor.RowL.free_of hg1 _) honev
 have HRES := Aside0.mk hres
 have HBEL := Aside0.mk hbel
 have HKEPT := Aside0.mk hkept
 have HW2 := Aside0.mk hW2
 have mixed : Tryz.prog.follows .mixedOrders = true := by kernel_rfl
 have q0 : (0 : Int) ≤ (m : Int) := by omega
 have q1 : (m : Int) ≤ (m : Int) + 1 + (k : Int) := by omega
 have q2 : (m : Int) + 1 + (k : Int) ≤ (cap : Int) := by omega
 have q3 : ¬ ((m : Int) = (m : Int) + 1 + (k : Int)) := by omega
 have q4 : (m : Int) ≤ (cap : Int) := by omega
 have q5 : ¬ (cap = m) := by omega
 have q6 : (0 : Int) ≤ (m : Int) + 1 := by omega
 have q7 : (m : Int) + 1 ≤ (m : Int) + 1 + (k : Int) + 1 := by omega
 have q8 : (m : Int) ≤ (m : Int) + 1 + (k : Int) + 1 := by omega
 have qw : IntKind.i64.wrap ((m : Int) + 1) = (m : Int) + 1 := by rw [IntKind.wrap_i64]; omega
 have qt : ((m : Int) + 1).toNat = m + 1 := by omega
 have q9 : (m : Int) + 1 + (k : Int) + 1 ≤ (cap : Int) := by omega
 have q10 : ¬ (cap = m + 1) := by omega
 clear hres hbel hkept hW1 hW2 hsrct hsrcv hcur hsp hhl hcm hs ht hg hg1 hg2 hcell2 hB hb hok htl htll hcs hsa hsb hkA hv0 hv1
 go_enter Tryz.func38, Tryz.ntmps38
 go_wp2_with (simp only [hov])
 go_region_law_o (refine step_copy_runI rfl _ _ 24 24 rfl (.slice (some ⟨g, (m + 1) * 2, none⟩) (m + 1 + k - m) (cap - (m + 1))) (.slice (some ⟨g, m * 2, none⟩) (m + 1 + k + 1 - m) (cap - m)) (by simp [Act.eval, Act.put]) (by simp [Act.eval, Act.put]) (hcp1 3 (cap - (m + 1)) (cap - m)) ?_)
 go_wp2_with (at_builtin; refine wpList_copy_runI _ rfl _ _ 24 24 rfl _ _ rfl rfl (hcp2 _ (fun _ => rfl) (fun _ => rfl) _ _) ?_)
 rw [← HW2.out]
 go_ret
 exact ⟨_, rfl, HRES.out, HBEL.out, HKEPT.out⟩
set_option maxHeartbeats 4000000 in
set_option maxRecDepth 100000 in
/-- Within, where there is no room: a new row. -/
theorem impl_File_38.grow (P0_ : Nat → Prop) (l0 : List S33) (x : S33) (m k g cap vb vo c2 : Nat) (cur : Array Value) (w0 w : World) (hk : l0.length = m + 1 + k) (hB : Below w0.heap.size w0 w) (hb : w0.heap.size ≤ g) (hg : w.heap[g]? = some (.cells cur 33 (0, 0))) (hnc : m + 1 + k ≤ cap) (hmx : cap ≤ maxLen) (hs : cur.size = cap * 2) (ht : cur.toList.take ((m + 1 + k) * 2) = l0.flatMap impl_File_38.enc) (hok : P0_ g) (hv0 : w.cell? ⟨vb, vo, none⟩ = some (.string x.f0)) (hv1 : w.cell? ⟨vb, vo + 1, none⟩ = some (.string x.f1)) (hne : vb ≠ g) (hc3 : m + 1 + k ≤ 1048576) (hroom : cap < m + 1 + k + 1) :
  Calls Tryz.prog 38 #[.slice (some ⟨g, 0, none⟩) (m + 1 + k) cap, .int .i64 (m : Int), .slice (some ⟨vb, vo, none⟩) 1 c2] w fun e w' => ∃ v0_ : Value, e = .returned (v0_) ∧ Kd.R k33 33 w' w0.heap.size (fun k_ => (P0_ k_ ∨ w.heap.size ≤ k_)) v0_ (l0.take m ++ ([x] ++ l0.drop m)) ∧ Below w0.heap.size w0 w' ∧ Kept w w' (fun k_ => P0_ k_) := by
 have hsz : k33.sz = 2 := rfl
 have hl2 : ∀ x, (impl_File_38.enc x).length = 2 := fun _ => rfl
 obtain ⟨cs, hcs⟩ : ∃ cs, cs = l0.flatMap impl_File_38.enc := ⟨_, rfl⟩
 obtain ⟨tl, htl⟩ : ∃ tl, tl = (l0.drop m).flatMap impl_File_38.enc := ⟨_, rfl⟩
 have htll : tl.length = (k + 1) * 2 := by rw [htl, YtkmcnjpgamaljaaGreatDoor.RowL.flat_len hl2, List.length_drop]; omega
 have honet : ∀ u ∈ tl, u.oneCell' = true := by rw [htl]; exact impl_File_38.one _
 have honev : ∀ u ∈ impl_File_38.enc x, u.oneCell' = true := by intro u hu; simp only [impl_File_38.enc, List.mem_cons, List.not_mem_nil, or_false] at hu; rcases hu with rfl | rfl <;> rfl
 have hcur : ∀ j, j < (m + 1 + k) * 2 → cur.toList[j]? = cs[j]? := fun j hj => by rw [hcs, ← ht, List.getElem?_take, if_pos hj]
 have hhl : ((l0.take m).flatMap impl_File_38.enc).length = m * 2 := by rw [YtkmcnjpgamaljaaGreatDoor.RowL.flat_len hl2, List.length_take]; omega
 have hsp : cs = (l0.take m).flatMap impl_File_38.enc ++ tl := by rw [hcs, htl, ← List.flatMap_append, List.take_append_drop]
 have hcm : cur.toList.take (m * 2) = (l0.take m).flatMap impl_File_38.enc := by
  rw [show cur.toList.take (m * 2) = (cur.toList.take ((m + 1 + k) * 2)).take (m * 2) from by rw [List.take_take, Nat.min_eq_left (by omega)], ht, ← hcs, hsp]
  exact List.take_left' hhl
 have hsrct : ∀ j u, tl[j]? = some u → w.cell? ⟨g, m * 2 + j, none⟩ = some u := by
  intro j u hu
  have hlt := (List.getElem?_eq_some_iff.1 hu).1
  rw [YtkmcnjpgamaljaaGreatDoor.RowL.cell_of hg, hcur _ (by omega), hsp, List.getElem?_append_right (by omega), hhl, Nat.add_sub_cancel_left]
  exact hu
 have hsrcv : ∀ j u, (impl_File_38.enc x)[j]? = some u → w.cell? ⟨vb, vo + j, none⟩ = some u := by
  intro j u hu
  match j, hu with
  | 0, hu => simp [impl_File_38.enc] at hu; rw [← hu]; exact hv0
  | 1, hu => simp [impl_File_38.enc] at hu; rw [← hu]; exact hv1
  | j + 2, hu => simp [impl_File_38.enc] at hu
 have hgw : g < w.heap.size := (Array.getElem?_eq_some_iff.1 hg).1
 have hvw : vb < w.heap.size := World.block_lt_of_cell? w _ hv0
 have hinf : (Tryz.prog.info? 33).map (·.size) = some 2 := by
  obtain ⟨i0, hi0, hz⟩ := Option.map_eq_some_iff.1 info33
  simp only [Prod.mk.injEq] at hz
  rw [hi0, Option.map_some, hz.2.1]
 have hrl : (l0.take m ++ ([x] ++ l0.drop m)).length = m + 1 + k + 1 := by simp only [List.length_append, List.length_take, List.length_drop, List.length_cons, List.length_nil]; omega
 have hrf : (l0.take m ++ ([x] ++ l0.drop m)).flatMap impl_File_38.enc = (l0.take m).flatMap impl_File_38.enc ++ (impl_File_38.enc x ++ tl) := by rw [List.flatMap_append, List.flatMap_append, htl]; simp
 obtain ⟨i0, hi0, hz⟩ := Option.map_eq_some_iff.1 info33
 simp only [Prod.mk.injEq] at hz
 obtain ⟨hz0, hz1, hz2⟩ := hz
 have hel : (impl_File_38.enc x).length = 2 := rfl
 have hold : (Builtin.firstCells i0.size m (.slice (some ⟨g, 0, none⟩) m cap)).run Tryz.prog w.drew = .ok ((l0.take m).flatMap impl_File_38.enc).toArray w.drew := by
  rw [hz1]
  exact run_firstCells_some w.drew 2 m ⟨g, 0, none⟩ m cap _ hhl (fun j v hj => by
   have hlt := (List.getElem?_eq_some_iff.1 hj).1
   rw [Addr.add_lit, Nat.zero_add]
   show w.cell? _ = _
   rw [YtkmcnjpgamaljaaGreatDoor.RowL.cell_of hg, hcur _ (by omega), hsp, List.getElem?_append_left hlt]
   exact hj)
 have hkk : (m : Int) + 1 + (k : Int) + 1 - (m : Int) = ((k + 2 : Nat) : Int) := by omega
 obtain ⟨G, hG⟩ : ∃ G, G = grownCap w (m + (k + 2)) cap 33 := ⟨_, rfl⟩
 have hGn : m + (k + 2) ≤ G := by rw [hG]; exact grownCap_ge w _ _ _
 have hGm : G ≤ maxLen := by rw [hG]; exact grownCap_le_maxLen w _ _ _ (by unfold maxLen; omega)
 obtain ⟨ROW, hROW⟩ : ∃ ROW : Array Value, ROW = ((l0.take m).flatMap impl_File_38.enc).toArray ++ Builtin.zeroCells (Value.agg #[(.string ⟨#[]⟩), (.string ⟨#[]⟩)]).cells (k + 2) ++ Builtin.zeroCells (Value.agg #[(.string ⟨#[]⟩), (.string ⟨#[]⟩)]).cells (G - (m + (k + 2))) := ⟨_, rfl⟩
 have hrz : ∀ ty, (Builtin.append_ #[24, 3] ty #[.slice (some ⟨g, 0, none⟩) m cap, .int .i64 ((m : Int) + 1 + (k : Int) + 1 - (m : Int))]).run Tryz.prog w = .ok (.slice (some ⟨w.heap.size, 0, none⟩) (m + 1 + k + 1) G) (w.drew.alloc (.cells ROW 33)) := fun ty => by
  rw [show m + 1 + k + 1 = m + (k + 2) from by omega]
  have h := Lib.run_append_grow_zeros w 24 3 ty 33 i0 _ .i64 .i64 Tryz.underlying24 Tryz.underlying3 hi0 hz0 (some ⟨g, 0, none⟩) m cap _ hold (k + 2) (by omega) (by omega) (by omega) (by omega) (by rw [hz2]; omega) (by rw [hz2]; exact growslice_fits (by omega) (by omega))
  rw [hkk, hROW, hG]
  exact h
 have hRs : ROW.size = G * 2 := by
  rw [hROW]
  have z : ∀ n, (Builtin.zeroCells (Value.agg #[(.string ⟨#[]⟩), (.string ⟨#[]⟩)]).cells n).size = n * 2 := fun n => by simp [Builtin.zeroCells, Value.cells]
  rw [Array.size_append, Array.size_append, List.size_toArray, hhl, z, z]
  omega
 have hRt : ROW.toList.take (m * 2) = (l0.take m).flatMap impl_File_38.enc := by
  rw [hROW]
  simp only [Array.toList_append, List.append_assoc]
  exact List.take_left' hhl
 obtain ⟨W1, hW1⟩ : ∃ W1, W1 = w.drew.alloc (.cells ROW 33) := ⟨_, rfl⟩
 rw [← hW1] at hrz
 have hg1 : W1.heap[w.heap.size]? = some (.cells ROW 33 (0, 0)) := by rw [hW1]; exact Array.getElem?_push_size
 obtain ⟨W2, hW2⟩ : ∃ W2, W2 = W1.setCells w.heap.size (m * 2) (impl_File_38.enc x) := ⟨_, rfl⟩
 have hg2 : W2.heap[w.heap.size]? = some (.cells (YtkmcnjpgamaljaaGreatDoor.RowL.lay ROW (m * 2) (impl_File_38.enc x)) 33 (0, 0)) := by rw [hW2]; exact YtkmcnjpgamaljaaGreatDoor.RowL.heap_setCells _ _ _ _ _ _ hg1
 obtain ⟨W3, hW3⟩ : ∃ W3, W3 = W2.drew.setCells w.heap.size ((m + 1) * 2) tl := ⟨_, rfl⟩
 have hg3 : W3.heap[w.heap.size]? = some (.cells (YtkmcnjpgamaljaaGreatDoor.RowL.lay (YtkmcnjpgamaljaaGreatDoor.RowL.lay ROW (m * 2) (impl_File_38.enc x)) ((m + 1) * 2) tl) 33 (0, 0)) := by rw [hW3]; exact YtkmcnjpgamaljaaGreatDoor.RowL.heap_setCells _ _ _ _ _ _ hg2
 have hcell2 : (YtkmcnjpgamaljaaGreatDoor.RowL.lay (YtkmcnjpgamaljaaGreatDoor.RowL.lay ROW (m * 2) (impl_File_38.enc x)) ((m + 1) * 2) tl).toList.take ((m + 1 + k + 1) * 2) = (l0.take m).flatMap impl_File_38.enc ++ (impl_File_38.enc x ++ tl) := by
  rw [YtkmcnjpgamaljaaGreatDoor.RowL.lay_list _ _ _ (by rw [YtkmcnjpgamaljaaGreatDoor.RowL.lay_size, hRs, htll]; omega), YtkmcnjpgamaljaaGreatDoor.RowL.lay_list _ _ _ (by rw [hRs, hel]; omega), hRt]
  have e1 : ((l0.take m).flatMap impl_File_38.enc ++ (impl_File_38.enc x ++ ROW.toList.drop (m * 2 + (impl_File_38.enc x).length))).take ((m + 1) * 2) = (l0.take m).flatMap impl_File_38.enc ++ impl_File_38.enc x := by
   rw [← List.append_assoc]
   exact List.take_left' (by rw [List.length_append, hhl, hel]; omega)
  rw [e1, ← List.append_assoc, List.append_assoc _ (impl_File_38.enc x) tl]
  exact List.take_left' (by simp only [List.length_append, hhl, hel, htll]; omega)
 have hw0 : w0.heap.size ≤ w.heap.size := hB.size
 have hres : Kd.R k33 33 W3 w0.heap.size (fun k_ => (P0_ k_ ∨ w.heap.size ≤ k_)) (.slice (some ⟨w.heap.size, 0, none⟩) (m + 1 + k + 1) G) (l0.take m ++ ([x] ++ l0.drop m)) := by
  have := YtkmcnjpgamaljaaGreatDoor.RowL.R_shut (d := k33) (enc := impl_File_38.enc) (l := l0.take m ++ ([x] ++ l0.drop m)) (base := w0.heap.size) (ok := fun k_ => (P0_ k_ ∨ w.heap.size ≤ k_)) (fun w base ok x => ⟨_, _, rfl, rfl, rfl⟩) hl2 hw0 hg3 (by rw [hrl]; omega) hGm (by rw [YtkmcnjpgamaljaaGreatDoor.RowL.lay_size, YtkmcnjpgamaljaaGreatDoor.RowL.lay_size]; exact hRs) (by rw [hrl, hsz, hcell2, hrf]) (.inr (Nat.le_refl _))
  rw [hrl] at this
  exact this
 have hbel : Below w0.heap.size w0 W3 := by
  rw [hW3, hW2, hW1]
  exact YtkmcnjpgamaljaaGreatDoor.RowL.below_cells hw0 _ _ _ (below_drew1 (YtkmcnjpgamaljaaGreatDoor.RowL.below_cells hw0 _ _ _ (below_alloc (below_drew1 hB) _)))
 have hkept : Kept w W3 (fun k_ => P0_ k_) := by
  rw [hW3, hW2, hW1]
  exact YtkmcnjpgamaljaaGreatDoor.RowL.kept_cells (S := fun k_ => P0_ k_) (.inr (Nat.le_refl _)) _ _ _ (Kept.drew (YtkmcnjpgamaljaaGreatDoor.RowL.kept_cells (S := fun k_ => P0_ k_) (.inr (Nat.le_refl _)) _ _ _ (Kept.alloc (Kept.drew (Kept.refl _ _)) _)))
 have hOv : ∀ j v, w.cell? ⟨vb, j, none⟩ = some v → W1.cell? ⟨vb, j, none⟩ = some v := fun j v h => by rw [hW1, World.cell?_alloc_past (w := w.drew) _ vb j hvw]; exact h
 have hOg : ∀ j v, w.cell? ⟨g, j, none⟩ = some v → W1.cell? ⟨g, j, none⟩ = some v := fun j v h => by rw [hW1, World.cell?_alloc_past (w := w.drew) _ g j hgw]; exact h
 have hcp1 : ∀ (W : World), (∀ x, W.cell? x = W1.cell? x) → (∀ x, W.frozen? x = W1.frozen? x) → ∀ ty dc, (Builtin.copy_ #[24, 24] ty #[.slice (some ⟨w.heap.size, m * 2, none⟩) (m + 1 + k + 1 - m) dc, .slice (some ⟨vb, vo, none⟩) 1 c2]).run Tryz.prog W = .ok (goInt (Nat.min 1 (m + 1 + k + 1 - m))) (W.setCells w.heap.size (m * 2) (impl_File_38.enc x)) := fun W hWc hWf ty dc =>
  YtkmcnjpgamaljaaGreatDoor.RowL.run_copy_sized W _ _ ty 33 w.heap.size _ _ dc ⟨vb, vo, none⟩ 1 c2 2 (impl_File_38.enc x) Tryz.underlying24 hinf (by rw [hel]; show _ = min _ _ * 2; omega)
   (fun j v hj => by rw [Addr.add_lit, hWc]; exact hOv _ v (hsrcv j v hj))
   (fun j hj => by rw [hWc, YtkmcnjpgamaljaaGreatDoor.RowL.cell_of hg1, List.getElem?_eq_getElem (by rw [Array.length_toList]; omega)]; rfl)
   (fun j hj => by rw [hWf]; exact YtkmcnjpgamaljaaGreatDoor.RowL.free_of hg1 _) honev
 have hgn : g ≠ w.heap.size := by omega
 have hcp2 : ∀ (W : World), (∀ x, W.cell? x = W2.cell? x) → (∀ x, W.frozen? x = W2.frozen? x) → ∀ ty dc sc, (Builtin.copy_ #[24, 24] ty #[.slice (some ⟨w.heap.size, (m + 1) * 2, none⟩) (m + 1 + k - m) dc, .slice (some ⟨g, m * 2, none⟩) (m + 1 + k - m) sc]).run Tryz.prog W = .ok (goInt (Nat.min (m + 1 + k - m) (m + 1 + k - m))) (W.setCells w.heap.size ((m + 1) * 2) tl) := fun W hWc hWf ty dc sc =>
  YtkmcnjpgamaljaaGreatDoor.RowL.run_copy_sized W _ _ ty 33 w.heap.size _ _ dc ⟨g, m * 2, none⟩ _ sc 2 tl Tryz.underlying24 hinf (by rw [htll]; show _ = min _ _ * 2; omega)
   (fun j v hj => by rw [Addr.add_lit, hWc, hW2, World.cell?_setCells_out _ _ _ _ _ (fun h _ => absurd h hgn)]; exact hOg _ v (hsrct j v hj))
   (fun j hj => by rw [hWc, YtkmcnjpgamaljaaGreatDoor.RowL.cell_of hg2, List.getElem?_eq_getElem (by rw [Array.length_toList, YtkmcnjpgamaljaaGreatDoor.RowL.lay_size]; omega)]; rfl)
   (fun j hj => by rw [hWf]; exact YtkmcnjpgamaljaaGreatDoor.RowL.free_of hg2 _) honet
 have HRES := Aside0.mk hres
 have HBEL := Aside0.mk hbel
 have HKEPT := Aside0.mk hkept
 have mixed : Tryz.prog.follows .mixedOrders = true := by kernel_rfl
 have q0 : (0 : Int) ≤ (m : Int) := by omega
 have q1 : (m : Int) ≤ (m : Int) + 1 + (k : Int) := by omega
 have q2 : (m : Int) + 1 + (k : Int) ≤ (cap : Int) := by omega
 have q3 : ¬ ((m : Int) = (m : Int) + 1 + (k : Int)) := by omega
 have q4 : (m : Int) ≤ (cap : Int) := by omega
 have q5 : ¬ (cap = m) := by omega
 have q6 : (0 : Int) ≤ (m : Int) + 1 := by omega
 have q7 : (m : Int) + 1 ≤ (m : Int) + 1 + (k : Int) + 1 := by omega
 have q8 : (m : Int) ≤ (m : Int) + 1 + (k : Int) + 1 := by omega
 have qw : IntKind.i64.wrap ((m : Int) + 1) = (m : Int) + 1 := by rw [IntKind.wrap_i64]; omega
 have qt : ((m : Int) + 1).toNat = m + 1 := by omega
 have q9 : (cap : Int) < (m : Int) + 1 + (k : Int) + 1 := by omega
 have q10 : ¬ (G = m) := by omega
 have q11 : ¬ (G = m + 1) := by omega
 have HW2 := Aside0.mk hW2
 have HW3 := Aside0.mk hW3
 clear hres hbel hkept hsrct hsrcv hcur hsp hhl hcm hs ht hg hg1 hg2 hg3 hcell2 hB hb hok htl htll hcs hv0 hv1 hold hkk hROW hRs hRt hG hOv hOg hi0 hz0 hz1 hz2 hW1 hW2 hW3
 go_enter Tryz.func38, Tryz.ntmps38
 go_wp2_with (first
  | (at_builtin; refine Lib.wpList_append_run _ rfl _ _ _ _ rfl _ _ rfl rfl _ _ (hrz _) ?_)
  | (at_builtin; refine wpList_copy_runI _ rfl _ _ 24 24 rfl _ _ rfl rfl (hcp1 W1 (fun _ => rfl) (fun _ => rfl) _ _) ?_))
 go_region_law_o (refine step_copy_runI rfl _ _ 24 24 rfl (.slice (some ⟨w.heap.size, (m + 1) * 2, none⟩) (m + 1 + k - m) (G - (m + 1))) (.slice (some ⟨g, m * 2, none⟩) (m + 1 + k - m) (cap - m)) (by simp [Act.eval, Act.put]) (by simp [Act.eval, Act.put]) (hcp2 (W1.setCells w.heap.size (m * 2) (impl_File_38.enc x)).drew (fun _ => by rw [HW2.out]; rfl) (fun _ => by rw [HW2.out]; rfl) 3 (G - (m + 1)) (cap - m)) ?_)
 go_wp2
 rw [← HW2.out, ← HW3.out]
 go_ret
 exact ⟨_, rfl, HRES.out, HBEL.out, HKEPT.out⟩
set_option maxHeartbeats 4000000 in
theorem impl_File_38.calls (P0_ : Nat → Prop) (u9000_ : Value) (l0 : List S33) (a1 : Int) (A2 : Option Addr) (c2 : Nat) (l2 : List S33) (r : List S33) (w0 w : World) (hB : Below w0.heap.size w0 w) (ho0 : Kd.R k33 33 w w0.heap.size P0_ u9000_ l0) (hr2 : ∀ W', Kept w W' (fun k_ => P0_ k_) → Kd.C k33 W' A2 l2.length l2) (hc2 : l2.length ≤ c2) (h : impl_File_38.f l0 a1 l2 = some r) :
  Calls Tryz.prog 38 #[u9000_, .int .i64 a1, .slice A2 l2.length c2] w fun e w' => ∃ v0_ : Value, e = .returned (v0_) ∧ Kd.R k33 33 w' w0.heap.size (fun k_ => (P0_ k_ ∨ w.heap.size ≤ k_)) v0_ r ∧ Below w0.heap.size w0 w' ∧ Kept w w' (fun k_ => P0_ k_) := by
 unfold impl_File_38.f at h
 by_cases c : 0 ≤ a1 ∧ a1 ≤ l0.length ∧ l2.length = 1 ∧ l0.length ≤ 1048576
 case neg => rw [if_neg c] at h; cases h
 rw [if_pos c] at h
 obtain rfl := Option.some.inj h
 obtain ⟨c0, c1, c2', c3⟩ := c
 clear h
 obtain ⟨m, rfl⟩ : ∃ m : Nat, a1 = m := ⟨a1.toNat, by omega⟩
 obtain ⟨x, rfl⟩ : ∃ x, l2 = [x] := by
  match l2, c2' with
  | [x], _ => exact ⟨x, rfl⟩
 rw [Int.toNat_natCast]
 by_cases he : m = l0.length
 ·have e : l0.take m ++ ([x] ++ l0.drop m) = l0 ++ [x] := by rw [he, List.take_length, List.drop_length, List.append_nil]
  rw [e]
  by_cases hn : l0 = []
  ·subst hn
   obtain ⟨A, cv, hv, hl, _⟩ := Kd.R_V (base' := 0) ho0
   rcases ho0.2 with ⟨inner, ho, _⟩
   rcases ho.2 with ⟨hv2, _⟩ | ⟨g, cap, cur, hv2, hb, hg, hnc, hmx, hs, ht⟩
   ·have := impl_File_38.end_ P0_ u9000_ none 0 [] x A2 c2 w0 w hv2 (fun _ => rfl) (Nat.le_refl _) hB ho0 (hr2 w (Kept.refl _ _)) c3
    rwa [he]
   ·have := impl_File_38.end_ P0_ u9000_ (some ⟨g, 0, none⟩) cap [] x A2 c2 w0 w hv2 (fun h => by cases h) hnc hB ho0 (hr2 w (Kept.refl _ _)) c3
    rwa [he]
  ·obtain ⟨g, cap, cur, hv, hb, hg, hnc, hmx, hs, ht, hok⟩ := YtkmcnjpgamaljaaGreatDoor.RowL.R_open (enc := impl_File_38.enc) (fun w base ok x cs hx => k33_openM hx) ho0 hn
   have := impl_File_38.end_ P0_ u9000_ (some ⟨g, 0, none⟩) cap l0 x A2 c2 w0 w hv (fun h => by cases h) hnc hB ho0 (hr2 w (Kept.refl _ _)) c3
   rwa [he]
 ·have hm : m < l0.length := by omega
  obtain ⟨k, hk⟩ : ∃ k, l0.length = m + 1 + k := ⟨l0.length - (m + 1), by omega⟩
  obtain ⟨g, cap, cur, rfl, hb, hg, hnc, hmx, hs, ht, hok⟩ := YtkmcnjpgamaljaaGreatDoor.RowL.R_open (enc := impl_File_38.enc) (fun w base ok x cs hx => k33_openM hx) ho0 (by rintro rfl; simp at hm)
  obtain ⟨vb, vo, rfl, hv0, hv1⟩ := impl_File_38.at_ (hr2 w (Kept.refl _ _))
  have hne := impl_File_38.apart hr2 rfl hok
  rw [show k33.sz = 2 from rfl] at hs ht
  rw [hk] at hnc ht c3 ⊢
  rcases Nat.lt_or_ge cap (m + 1 + k + 1) with hroom | hroom
  ·exact impl_File_38.grow P0_ l0 x m k g cap vb vo c2 cur w0 w hk hB hb hg hnc hmx hs ht hok hv0 hv1 hne c3 hroom
  ·exact impl_File_38.room P0_ l0 x m k g cap vb vo c2 cur w0 w hk hB hb hg hnc hmx hs ht hok hv0 hv1 hne c3 hroom

/-! ### impl_PutFile: function 13 -/
mutual
def impl_PutFile.j1 : Nat → List (S33) → List (S33) → Option ((List (S33)) × Bool)
 | 0, _, _ => none
 | k + 1, x0, x6 => (impl_FilesOk.f k x6).bind fun t565 => (if t565 = true then (some (x6, true)) else ((impl_File_36.f x0).bind fun t566 => (some (t566, false))))
def impl_PutFile.l0 : Nat → List (S33) → List (S33) → Int → ByteArray → ByteArray → Option ((List (S33)) × Bool)
 | 0, _, _, _, _, _ => none
 | k + 1, x0, x6, x7, x546000, x546001 => if x7 < (x0.length : Int) then (if 0 ≤ x7 then (if (Op.bytesLess (((rd_T33 x0 x7).f0).toList) x546000.toList) = true then (impl_PutFile.l0 k x0 x6 (wrap64 (x7 + 1)) x546000 x546001) else ((impl_File_38.f x6 x7 (([(⟨x546000, x546001⟩ : S33)] : List (S33)))).bind fun t556 => (impl_PutFile.j1 k x0 t556))) else (none)) else ((impl_File_38.f x6 x7 (([(⟨x546000, x546001⟩ : S33)] : List (S33)))).bind fun t562 => (impl_PutFile.j1 k x0 t562))
end
def impl_PutFile.f (k : Nat) (l0 : List (S33)) (a1_0 : ByteArray) (a1_1 : ByteArray) : Option ((List (S33)) × Bool) := (impl_FilesOk.f k l0).bind fun t546 => (if t546 = true then ((impl_File_36.f l0).bind fun t547 => ((impl_fileAt.f l0 a1_0).bind fun t550 => (if t550 ≥ 0 then (if 0 ≤ t550 then (if t550 < (t547.length : Int) then (impl_PutFile.j1 k l0 (t547.set (t550 : Int).toNat (⟨a1_0, a1_1⟩ : S33))) else (none)) else (none)) else (impl_PutFile.l0 k l0 t547 0 a1_0 a1_1)))) else (some (([] : List (S33)), false)))
theorem impl_PutFile.mono_l : ∀ k, (∀ y0 y1, LeO (impl_PutFile.j1 k y0 y1) (impl_PutFile.j1 (k + 1) y0 y1)) ∧ (∀ y0 y1 y2 y3 y4, LeO (impl_PutFile.l0 k y0 y1 y2 y3 y4) (impl_PutFile.l0 (k + 1) y0 y1 y2 y3 y4))
 | 0 => ⟨fun _ _ r h => by simp [impl_PutFile.j1] at h, fun _ _ _ _ _ r h => by simp [impl_PutFile.l0] at h⟩
 | k + 1 => by
  obtain ⟨ih0, ih1⟩ := impl_PutFile.mono_l k
  refine ⟨?_, ?_⟩
  ·intro y0 y1
   unfold impl_PutFile.j1
   repeat' (first | (with_reducible first | exact ih0 _ _ | exact ih1 _ _ _ _ _ | exact impl_FilesOk.mono _ _ | exact LeO.refl _ | exact LeO.none _ | refine LeO.ite ?_ ?_ | refine LeO.bind ?_ (fun _ => ?_)) | exact LeO.none _ | refine LeO.ite ?_ ?_ | refine LeO.bind ?_ (fun _ => ?_))
  ·intro y0 y1 y2 y3 y4
   unfold impl_PutFile.l0
   repeat' (first | (with_reducible first | exact ih0 _ _ | exact ih1 _ _ _ _ _ | exact impl_FilesOk.mono _ _ | exact LeO.refl _ | exact LeO.none _ | refine LeO.ite ?_ ?_ | refine LeO.bind ?_ (fun _ => ?_)) | exact LeO.none _ | refine LeO.ite ?_ ?_ | refine LeO.bind ?_ (fun _ => ?_))
theorem impl_PutFile.mono : ∀ a0 a1 a2 k, LeO (impl_PutFile.f k a0 a1 a2) (impl_PutFile.f (k + 1) a0 a1 a2) := by
 intro a0 a1 a2 k
 obtain ⟨ih0, ih1⟩ := impl_PutFile.mono_l k
 unfold impl_PutFile.f
 repeat' (first | (with_reducible first | exact ih0 _ _ | exact ih1 _ _ _ _ _ | exact impl_FilesOk.mono _ _ | exact LeO.refl _ | exact LeO.none _ | refine LeO.ite ?_ ?_ | refine LeO.bind ?_ (fun _ => ?_)) | exact LeO.none _ | refine LeO.ite ?_ ?_ | refine LeO.bind ?_ (fun _ => ?_))
set_option maxHeartbeats 8000000 in
set_option maxRecDepth 100000 in
theorem impl_PutFile.calls (k : Nat) (P0_ : Nat → Prop) (A0 : Option Addr) (c0 : Nat) (l0 : List (S33)) (a1_0 : ByteArray) (a1_1 : ByteArray) (r1 : List (S33)) (r2 : Bool) (w : World) (hs0 : Kd.V k33 33 w w.heap.size (fun k_ => P0_ k_) (.slice A0 l0.length c0) l0) (HT : TabsL w) (h : impl_PutFile.f k l0 a1_0 a1_1 = some (r1, r2)) :
  Calls Tryz.prog 13 #[.slice A0 l0.length c0, .agg #[.string a1_0, .string a1_1]] w fun e w' => ∃ v0_ : Value, e = .returned (.tuple #[v0_, .bool r2]) ∧ Kd.R k33 33 w' w.heap.size (fun k_ => (w.heap.size ≤ k_)) v0_ r1 ∧ Below w.heap.size w w' := by
 have HTA := Aside0.mk HT
 clear HT
 have hu33 := Tryz.underlying33
 have HO0 := Aside0.mk (show Kd.V k33 33 w w.heap.size (fun k_ => (P0_ k_ ∨ w.heap.size ≤ k_)) (.slice A0 l0.length c0) l0 from Kd.V_mono hs0 (fun k_ hk => .inl hk))
 have HB := Aside0.mk (Below.refl w.heap.size w)
 try unfold impl_PutFile.f at h
 have H := h
 clear h
 replace H := bnd H
 obtain ⟨t546, A3, H⟩ := H
 try dsimp only at H
 by_cases c4 : t546 = true
 ·subst c4
  rw [if_pos rfl] at H
  replace H := bnd H
  obtain ⟨t547, A5, H⟩ := H
  try dsimp only at H
  replace H := bnd H
  obtain ⟨t550, A6, H⟩ := H
  try dsimp only at H
  have HC7 := Aside0.mk H
  clear H
  go_enter Tryz.func13, Tryz.ntmps13
  go_upto_if 18 with (first | ((with_reducible refine gate_dst (N := 3) rfl ?_); refine box_event ?hg (N := 3) ?hd (cs := #[.string a1_0, .string a1_1]) (t := 33) ?hr ?_; (case hd => rfl); (case hg => rfl); (case hr => first | (go_simp; done) | (go_simp; rfl)); intro gb545 hg w8 hbox hb; have n0_ := Aside0.mk (Kd.V_below (Kd.V_elderB zt19 gb545 (Nat.le_of_eq hg.symm)) hb); have n1_ := Aside0.mk (below_step zt3 hb); have n2_ := Aside0.mk (hbox); have n3_ := Aside0.mk ((zt13 : w.heap.size ≤ gb545)); have n4_ := Aside0.mk ((zt13 : w.heap.size ≤ gb545)); clear HO0; clear HB; have HO0 := n0_; have HB := n1_; have BK545 := n2_; have GW545 := n3_; have GE545 := n4_; clear n0_ n1_ n2_ n3_ n4_; clear hb hbox hg) | (go_at_call 23; (with_reducible refine (impl_FilesOk.calls k _ _ l0 true _ ?side1 ?side2 (TabsL.below HTA.out zt9) A3.out).mono ?_); (case side1 => exact cz (Kd.V_reads' HO0.out).2.2); (case side2 => exact (Kd.V_reads' HO0.out).2.1); rintro e w9 ⟨rfl, hb⟩; have n0_ := Aside0.mk (Kd.V_below zt19 hb); have n1_ := Aside0.mk (blk_below (g := gb545) (o := .cells #[.string a1_0, .string a1_1] 33 (0, 0)) (oz BK545.out) hb); have n2_ := Aside0.mk (below_step zt9 hb); clear HO0; clear BK545; clear HB; have HO0 := n0_; have BK545 := n1_; have HB := n2_; clear n0_ n1_ n2_; (try clear hb); (try clear hb2); (try clear hk); (try clear hi)) | (go_at_call 36; (with_reducible refine (impl_File_36.calls _ _ l0 t547 _ ?side1 ?side2 A5.out).mono ?_); (case side1 => exact cz (Kd.V_reads' HO0.out).2.2); (case side2 => exact (Kd.V_reads' HO0.out).2.1); rintro e w10 ⟨v548, rfl, ho0, hb⟩; have n0_ := Aside0.mk (Kd.V_elder' zt19 (Kd.R_base ho0) hb); have n1_ := Aside0.mk (Kd.R_lower (Kd.R_newB (Kd.R_newM (M := fun k_ => (w.heap.size ≤ k_)) ho0 (below_size zt9) (fun k_ h_ => h_)) (g := gb545) (o := .cells #[.string a1_0, .string a1_1] 33 (0, 0)) (oz BK545.out)) (below_size zt9)); have n2_ := Aside0.mk (blk_below (g := gb545) (o := .cells #[.string a1_0, .string a1_1] 33 (0, 0)) (oz BK545.out) hb); have n3_ := Aside0.mk (below_step zt9 hb); clear HO0; clear BK545; clear HB; have HO0 := n0_; have HO549 := n1_; have BK545 := n2_; have HB := n3_; clear n0_ n1_ n2_ n3_; (try clear hb); (try clear hb2); (try clear hk); (try clear hi); (try clear ho0); have hcz11_0 : w10.cell? ⟨gb545, 0, none⟩ = some (.string a1_0) := (blk_cell BK545.out 0).trans rfl; have hcz11_1 : w10.cell? ⟨gb545, 1, none⟩ = some (.string a1_1) := (blk_cell BK545.out 1).trans rfl; have hfz11_0 := blk_frozen BK545.out 0; have hfz11_1 := blk_frozen BK545.out 1) | (go_at_call 37; (with_reducible refine (impl_fileAt.calls _ _ l0 a1_0 t550 _ ?side1 ?side2 A6.out).mono ?_); (case side1 => exact cz (Kd.V_reads' HO0.out).2.2); (case side2 => exact (Kd.V_reads' HO0.out).2.1); rintro e w12 ⟨rfl, hb⟩; have n0_ := Aside0.mk (Kd.V_below zt19 hb); have n1_ := Aside0.mk (Kd.R_below (rz HO549.out) hb); have n2_ := Aside0.mk (blk_below (g := gb545) (o := .cells #[.string a1_0, .string a1_1] 33 (0, 0)) (oz BK545.out) hb); have n3_ := Aside0.mk (below_step zt9 hb); clear HO0; clear HO549; clear BK545; clear HB; have HO0 := n0_; have HO549 := n1_; have BK545 := n2_; have HB := n3_; clear n0_ n1_ n2_ n3_; (try clear hb); (try clear hb2); (try clear hk); (try clear hi)))
  repeat (go_quiet (first | ((with_reducible refine gate_dst (N := 3) rfl ?_); refine box_event ?hg (N := 3) ?hd (cs := #[.string a1_0, .string a1_1]) (t := 33) ?hr ?_; (case hd => rfl); (case hg => rfl); (case hr => first | (go_simp; done) | (go_simp; rfl)); intro gb545 hg w8 hbox hb; have n0_ := Aside0.mk (Kd.V_below (Kd.V_elderB zt19 gb545 (Nat.le_of_eq hg.symm)) hb); have n1_ := Aside0.mk (below_step zt3 hb); have n2_ := Aside0.mk (hbox); have n3_ := Aside0.mk ((zt13 : w.heap.size ≤ gb545)); have n4_ := Aside0.mk ((zt13 : w.heap.size ≤ gb545)); clear HO0; clear HB; have HO0 := n0_; have HB := n1_; have BK545 := n2_; have GW545 := n3_; have GE545 := n4_; clear n0_ n1_ n2_ n3_ n4_; clear hb hbox hg) | (go_at_call 23; (with_reducible refine (impl_FilesOk.calls k _ _ l0 true _ ?side1 ?side2 (TabsL.below HTA.out zt9) A3.out).mono ?_); (case side1 => exact cz (Kd.V_reads' HO0.out).2.2); (case side2 => exact (Kd.V_reads' HO0.out).2.1); rintro e w9 ⟨rfl, hb⟩; have n0_ := Aside0.mk (Kd.V_below zt19 hb); have n1_ := Aside0.mk (blk_below (g := gb545) (o := .cells #[.string a1_0, .string a1_1] 33 (0, 0)) (oz BK545.out) hb); have n2_ := Aside0.mk (below_step zt9 hb); clear HO0; clear BK545; clear HB; have HO0 := n0_; have BK545 := n1_; have HB := n2_; clear n0_ n1_ n2_; (try clear hb); (try clear hb2); (try clear hk); (try clear hi)) | (go_at_call 36; (with_reducible refine (impl_File_36.calls _ _ l0 t547 _ ?side1 ?side2 A5.out).mono ?_); (case side1 => exact cz (Kd.V_reads' HO0.out).2.2); (case side2 => exact (Kd.V_reads' HO0.out).2.1); rintro e w10 ⟨v548, rfl, ho0, hb⟩; have n0_ := Aside0.mk (Kd.V_elder' zt19 (Kd.R_base ho0) hb); have n1_ := Aside0.mk (Kd.R_lower (Kd.R_newB (Kd.R_newM (M := fun k_ => (w.heap.size ≤ k_)) ho0 (below_size zt9) (fun k_ h_ => h_)) (g := gb545) (o := .cells #[.string a1_0, .string a1_1] 33 (0, 0)) (oz BK545.out)) (below_size zt9)); have n2_ := Aside0.mk (blk_below (g := gb545) (o := .cells #[.string a1_0, .string a1_1] 33 (0, 0)) (oz BK545.out) hb); have n3_ := Aside0.mk (below_step zt9 hb); clear HO0; clear BK545; clear HB; have HO0 := n0_; have HO549 := n1_; have BK545 := n2_; have HB := n3_; clear n0_ n1_ n2_ n3_; (try clear hb); (try clear hb2); (try clear hk); (try clear hi); (try clear ho0); have hcz11_0 : w10.cell? ⟨gb545, 0, none⟩ = some (.string a1_0) := (blk_cell BK545.out 0).trans rfl; have hcz11_1 : w10.cell? ⟨gb545, 1, none⟩ = some (.string a1_1) := (blk_cell BK545.out 1).trans rfl; have hfz11_0 := blk_frozen BK545.out 0; have hfz11_1 := blk_frozen BK545.out 1) | (go_at_call 37; (with_reducible refine (impl_fileAt.calls _ _ l0 a1_0 t550 _ ?side1 ?side2 A6.out).mono ?_); (case side1 => exact cz (Kd.V_reads' HO0.out).2.2); (case side2 => exact (Kd.V_reads' HO0.out).2.1); rintro e w12 ⟨rfl, hb⟩; have n0_ := Aside0.mk (Kd.V_below zt19 hb); have n1_ := Aside0.mk (Kd.R_below (rz HO549.out) hb); have n2_ := Aside0.mk (blk_below (g := gb545) (o := .cells #[.string a1_0, .string a1_1] 33 (0, 0)) (oz BK545.out) hb); have n3_ := Aside0.mk (below_step zt9 hb); clear HO0; clear HO549; clear BK545; clear HB; have HO0 := n0_; have HO549 := n1_; have BK545 := n2_; have HB := n3_; clear n0_ n1_ n2_ n3_; (try clear hb); (try clear hb2); (try clear hk); (try clear hi))); go_upto_if 18 with (first | ((with_reducible refine gate_dst (N := 3) rfl ?_); refine box_event ?hg (N := 3) ?hd (cs := #[.string a1_0, .string a1_1]) (t := 33) ?hr ?_; (case hd => rfl); (case hg => rfl); (case hr => first | (go_simp; done) | (go_simp; rfl)); intro gb545 hg w8 hbox hb; have n0_ := Aside0.mk (Kd.V_below (Kd.V_elderB zt19 gb545 (Nat.le_of_eq hg.symm)) hb); have n1_ := Aside0.mk (below_step zt3 hb); have n2_ := Aside0.mk (hbox); have n3_ := Aside0.mk ((zt13 : w.heap.size ≤ gb545)); have n4_ := Aside0.mk ((zt13 : w.heap.size ≤ gb545)); clear HO0; clear HB; have HO0 := n0_; have HB := n1_; have BK545 := n2_; have GW545 := n3_; have GE545 := n4_; clear n0_ n1_ n2_ n3_ n4_; clear hb hbox hg) | (go_at_call 23; (with_reducible refine (impl_FilesOk.calls k _ _ l0 true _ ?side1 ?side2 (TabsL.below HTA.out zt9) A3.out).mono ?_); (case side1 => exact cz (Kd.V_reads' HO0.out).2.2); (case side2 => exact (Kd.V_reads' HO0.out).2.1); rintro e w9 ⟨rfl, hb⟩; have n0_ := Aside0.mk (Kd.V_below zt19 hb); have n1_ := Aside0.mk (blk_below (g := gb545) (o := .cells #[.string a1_0, .string a1_1] 33 (0, 0)) (oz BK545.out) hb); have n2_ := Aside0.mk (below_step zt9 hb); clear HO0; clear BK545; clear HB; have HO0 := n0_; have BK545 := n1_; have HB := n2_; clear n0_ n1_ n2_; (try clear hb); (try clear hb2); (try clear hk); (try clear hi)) | (go_at_call 36; (with_reducible refine (impl_File_36.calls _ _ l0 t547 _ ?side1 ?side2 A5.out).mono ?_); (case side1 => exact cz (Kd.V_reads' HO0.out).2.2); (case side2 => exact (Kd.V_reads' HO0.out).2.1); rintro e w10 ⟨v548, rfl, ho0, hb⟩; have n0_ := Aside0.mk (Kd.V_elder' zt19 (Kd.R_base ho0) hb); have n1_ := Aside0.mk (Kd.R_lower (Kd.R_newB (Kd.R_newM (M := fun k_ => (w.heap.size ≤ k_)) ho0 (below_size zt9) (fun k_ h_ => h_)) (g := gb545) (o := .cells #[.string a1_0, .string a1_1] 33 (0, 0)) (oz BK545.out)) (below_size zt9)); have n2_ := Aside0.mk (blk_below (g := gb545) (o := .cells #[.string a1_0, .string a1_1] 33 (0, 0)) (oz BK545.out) hb); have n3_ := Aside0.mk (below_step zt9 hb); clear HO0; clear BK545; clear HB; have HO0 := n0_; have HO549 := n1_; have BK545 := n2_; have HB := n3_; clear n0_ n1_ n2_ n3_; (try clear hb); (try clear hb2); (try clear hk); (try clear hi); (try clear ho0); have hcz11_0 : w10.cell? ⟨gb545, 0, none⟩ = some (.string a1_0) := (blk_cell BK545.out 0).trans rfl; have hcz11_1 : w10.cell? ⟨gb545, 1, none⟩ = some (.string a1_1) := (blk_cell BK545.out 1).trans rfl; have hfz11_0 := blk_frozen BK545.out 0; have hfz11_1 := blk_frozen BK545.out 1) | (go_at_call 37; (with_reducible refine (impl_fileAt.calls _ _ l0 a1_0 t550 _ ?side1 ?side2 A6.out).mono ?_); (case side1 => exact cz (Kd.V_reads' HO0.out).2.2); (case side2 => exact (Kd.V_reads' HO0.out).2.1); rintro e w12 ⟨rfl, hb⟩; have n0_ := Aside0.mk (Kd.V_below zt19 hb); have n1_ := Aside0.mk (Kd.R_below (rz HO549.out) hb); have n2_ := Aside0.mk (blk_below (g := gb545) (o := .cells #[.string a1_0, .string a1_1] 33 (0, 0)) (oz BK545.out) hb); have n3_ := Aside0.mk (below_step zt9 hb); clear HO0; clear HO549; clear BK545; clear HB; have HO0 := n0_; have HO549 := n1_; have BK545 := n2_; have HB := n3_; clear n0_ n1_ n2_ n3_; (try clear hb); (try clear hb2); (try clear hk); (try clear hi))))
  (try simp only [Act.put, List.setIfInBounds_toArray, List.set_cons_zero, List.set_cons_succ])
  go_cut [6] (fun v6 wc => ∃ (kq : Nat) (x0_6 : List (S33)) (x6_6 : List (S33)) (x546000_6 : ByteArray) (x546001_6 : ByteArray), Aside0 (impl_PutFile.j1 kq x0_6 x6_6 = some (r1, r2)) ∧ Aside0 (kq ≤ k) ∧ Aside0 (Kd.V k33 33 wc w.heap.size (fun k_ => (P0_ k_ ∨ w.heap.size ≤ k_) ∧ some k_ ≠ (v6 : Value).ownBlock ∧ k_ ≠ gb545) (.slice A0 l0.length c0) x0_6) ∧ Aside0 (Kd.R k33 33 wc w.heap.size (fun k_ => (w.heap.size ≤ k_) ∧ k_ ≠ gb545) v6 x6_6) ∧ Aside0 (wc.heap[gb545]? = some (.cells #[.string x546000_6, .string x546001_6] 33 (0, 0))) ∧ Aside0 (Below w.heap.size w wc))
  case first =>
   have H := HC7.out
   clear HC7
   by_cases c13 : t550 ≥ 0
   ·rw [if_pos c13] at H
    have c13b0 : decide (0 ≤ t550) = true := decide_eq_true c13
    clear c13
    (first | rw [c13b0] | (simp only [i64_w, i32_w]; rw [c13b0]) | skip)
    replace H := it0 H
    obtain ⟨c14, H⟩ := H
    have c14b0 : decide (0 ≤ t550) = true := decide_eq_true c14
    clear c14
    replace H := it0 H
    obtain ⟨c15, H⟩ := H
    have c15b0 := decide_eq_true c15
    clear c15
    obtain ⟨y551, hy551⟩ : ∃ y_ : List (S33), y_ = (t547.set (t550 : Int).toNat (⟨a1_0, a1_1⟩ : S33)) := ⟨_, rfl⟩
    replace H : (impl_PutFile.j1 k l0 y551) = some (r1, r2) := by first | (rw [hy551]; with_reducible exact H) | (have H2_ := (Option.bind_some _ _).symm.trans H; rw [hy551]; with_reducible exact H2_) | (have H2_ := (Option.bind_some _ _).symm.trans H; with_reducible exact H2_) | with_reducible exact H | (rw [hy551]; exact H) | exact H
    have Ny551 := Aside0.mk hy551
    clear hy551
    have H' := Aside0.mk H
    clear H
    have hcz17_0 : w12.cell? ⟨gb545, 0, none⟩ = some (.string a1_0) := (blk_cell BK545.out 0).trans rfl
    have hcz17_1 : w12.cell? ⟨gb545, 1, none⟩ = some (.string a1_1) := (blk_cell BK545.out 1).trans rfl
    have hfz17_0 := blk_frozen BK545.out 0
    have hfz17_1 := blk_frozen BK545.out 1
    have p16 : 0 ≤ (t550 : Int) := of_decide_eq_true zt8
    have q16 : (t550 : Int) < ((t547.length : Int) : Int) := of_decide_eq_true zt8
    obtain ⟨go16, co16, eo16, gb16, gl16, cl16, HG16⟩ := Kd.R_form HO549.out (by omega)
    (first | cases eo16 | (injection eo16 with ea_ en_ ec_; (first | subst ea_ | (injection ea_ with ea_; subst ea_)); subst ec_; clear en_))
    have GB16 := Aside0.mk gb16
    have GG16 := Aside0.mk HG16
    clear gb16 gl16 HG16
    obtain ⟨ce16, hcl16, hM16, hcc16, hfr16⟩ := Kd.R_elem HO549.out z33 (t550 : Int) p16 q16
    obtain rfl := k33_openM hM16
    have hx16_0 : w12.cell? ⟨go16, (t550 : Int).toNat * 2, none⟩ = some (.string ((rd_T33 t547 t550).f0)) := hcc16 0 _ rfl
    have hx16_1 : w12.cell? ⟨go16, (t550 : Int).toNat * 2 + 1, none⟩ = some (.string ((rd_T33 t547 t550).f1)) := hcc16 1 _ rfl
    have hf16_0 : w12.frozen? ⟨go16, (t550 : Int).toNat * 2, none⟩ = false := hfr16 0
    have hf16_1 : w12.frozen? ⟨go16, (t550 : Int).toNat * 2 + 1, none⟩ = false := hfr16 1
    clear hcl16 hcc16 hfr16 hM16
    replace p16 := eq_true p16
    replace q16 := eq_true q16
    have n_ := Aside0.mk (Kd.R_mono (ok' := (fun k_ => (w.heap.size ≤ k_) ∧ k_ ≠ gb545)) HO549.out (fun k_ hk => ⟨hk.1.1, hk.2⟩))
    clear HO549
    have HO549 := n_
    clear n_
    have HX18 := Aside0.mk (show Kd.R k33 33 w12 w.heap.size (fun k_ => (w.heap.size ≤ k_) ∧ k_ ≠ gb545) (.slice (some ⟨go16, 0, none⟩) t547.length co16) t547 from (rz HO549.out))
    obtain ⟨ce18, hcl18, hM18, hcc18, hfr18⟩ := Kd.R_elem HX18.out z33 (t550 : Int) (of_decide_eq_true zt8) (by have h_ : (t550 : Int) < ((t547.length : Int) : Int) := of_decide_eq_true zt8; first | exact h_ | (have e_ := (Kd.R_reads' HO549.out).1; omega) | simpa using h_)
    obtain rfl := k33_openM hM18
    have HP18 := Kd.R_seg HX18.out (t550 : Int) (of_decide_eq_true zt8) (by have h_ : (t550 : Int) < ((t547.length : Int) : Int) := of_decide_eq_true zt8; first | exact h_ | (have e_ := (Kd.R_reads' HO549.out).1; omega) | simpa using h_) (seg := [.string a1_0, .string a1_1]) (j := 0) hcl18 hcc18 (show 2 ≤ 2 from by decide) (x' := (⟨a1_0, a1_1⟩ : S33)) (k33_mkM _ _ _ (⟨a1_0, a1_1⟩ : S33) ) (fun _ hk => hk)
    have hx18_0 := hcc18 0 _ rfl
    (try simp only [show (k33).sz = 2 from rfl, Nat.mul_one, Nat.add_zero] at hx18_0)
    have hf18_0 := hfr18 0
    (try simp only [show (k33).sz = 2 from rfl, Nat.mul_one, Nat.add_zero] at hf18_0)
    have hx18_1 := hcc18 1 _ rfl
    (try simp only [show (k33).sz = 2 from rfl, Nat.mul_one, Nat.add_zero] at hx18_1)
    have hf18_1 := hfr18 1
    (try simp only [show (k33).sz = 2 from rfl, Nat.mul_one, Nat.add_zero] at hf18_1)
    clear hcl18 hcc18 hfr18 hM18
    go_wp2_with (first | ((with_reducible refine gate_store (t := 33) (p := 22) rfl ?_); (try (rw [drewN_self w12]; generalize hq_ : World.drewN w12 _ = w12; have n0_ := Aside0.mk (Kd.V_at hq_ HO0.out); have n1_ := Aside0.mk (Kd.R_at hq_ HO549.out); have n2_ := Aside0.mk (blk_at hq_ BK545.out); have n3_ := Aside0.mk (below_at hq_ HB.out); clear hq_ HO0 HO549 BK545 HB; have HO0 := n0_; have HO549 := n1_; have BK545 := n2_; have HB := n3_; clear n0_ n1_ n2_ n3_; (try (have n_ := Aside0.mk (Kd.R_mono (ok' := (fun k_ => (w.heap.size ≤ k_) ∧ k_ ≠ gb545)) HO549.out (fun k_ hk => ⟨hk.1.1, hk.2⟩)); clear HO549; have HO549 := n_; clear n_)); (try (have HX18 := Aside0.mk (show Kd.R k33 33 w12 w.heap.size (fun k_ => (w.heap.size ≤ k_) ∧ k_ ≠ gb545) (.slice (some ⟨go16, 0, none⟩) t547.length co16) t547 from (rz HO549.out)))); (try (obtain ⟨ce18, hcl18, hM18, hcc18, hfr18⟩ := Kd.R_elem HX18.out z33 (t550 : Int) (of_decide_eq_true zt8) (by have h_ : (t550 : Int) < ((t547.length : Int) : Int) := of_decide_eq_true zt8; first | exact h_ | (have e_ := (Kd.R_reads' HO549.out).1; omega) | simpa using h_))); (try (obtain rfl := k33_openM hM18)); (try (have HP18 := Kd.R_seg HX18.out (t550 : Int) (of_decide_eq_true zt8) (by have h_ : (t550 : Int) < ((t547.length : Int) : Int) := of_decide_eq_true zt8; first | exact h_ | (have e_ := (Kd.R_reads' HO549.out).1; omega) | simpa using h_) (seg := [.string a1_0, .string a1_1]) (j := 0) hcl18 hcc18 (show 2 ≤ 2 from by decide) (x' := (⟨a1_0, a1_1⟩ : S33)) (k33_mkM _ _ _ (⟨a1_0, a1_1⟩ : S33) ) (fun _ hk => hk))); (try (have hx18_0 := hcc18 0 _ rfl)); (try (try simp only [show (k33).sz = 2 from rfl, Nat.mul_one, Nat.add_zero] at hx18_0)); (try (have hf18_0 := hfr18 0)); (try (try simp only [show (k33).sz = 2 from rfl, Nat.mul_one, Nat.add_zero] at hf18_0)); (try (have hx18_1 := hcc18 1 _ rfl)); (try (try simp only [show (k33).sz = 2 from rfl, Nat.mul_one, Nat.add_zero] at hx18_1)); (try (have hf18_1 := hfr18 1)); (try (try simp only [show (k33).sz = 2 from rfl, Nat.mul_one, Nat.add_zero] at hf18_1)); (try (clear hcl18 hcc18 hfr18 hM18)))); refine store_event (t := 33) (p := 22) (v := ?vo_w19) (w1 := ((w12.setCell ⟨go16, (t550 : Int).toNat * 2, none⟩ (.string a1_0)).setCell ⟨go16, (t550 : Int).toNat * 2 + 1, none⟩ (.string a1_1))) ?hg ?ho ?hn ?hr ?_; (case ho => rfl); (case hg => rfl); (case hn => rfl); (case hr => first | (go_simp; done) | (go_simp; rfl)); intro w19 hw; have hg : w12.grownBy w19 (some go16) := (by rw [hw]; exact HP18.2); have hp_ : Kd.R k33 33 w19 w.heap.size (fun k_ => (w.heap.size ≤ k_) ∧ k_ ≠ gb545) (.slice (some ⟨go16, 0, none⟩) t547.length co16) y551 := (by rw [hw, Ny551.out]; exact HP18.1); clear HP18; have n0_ := Aside0.mk (Kd.V_afterv (v := (.slice (some ⟨go16, 0, none⟩) t547.length co16)) (v1 := (.slice (some ⟨go16, 0, none⟩) t547.length co16)) (ok := (fun k_ => (P0_ k_ ∨ w.heap.size ≤ k_) ∧ k_ ≠ gb545)) zt19 hg (.inl rfl)); have n1_ := Aside0.mk (blk_grown (g := gb545) (o := .cells #[.string a1_0, .string a1_1] 33 (0, 0)) (oz BK545.out) hg (Kd.R_away HO549.out (fun _ hk => hk.2))); have n2_ := Aside0.mk (hp_); have n3_ := Aside0.mk ((by rw [hw]; exact below_set (below_set (HB.out) GB16.out) GB16.out : Below w.heap.size w w19)); clear HO0; clear BK545; clear HO549; clear HB; have HO0 := n0_; have BK545 := n1_; have HO549 := n2_; have HB := n3_; clear n0_ n1_ n2_ n3_; clear hg hw hp_))
    repeat (go_quiet (first | ((with_reducible refine gate_store (t := 33) (p := 22) rfl ?_); (try (rw [drewN_self w12]; generalize hq_ : World.drewN w12 _ = w12; have n0_ := Aside0.mk (Kd.V_at hq_ HO0.out); have n1_ := Aside0.mk (Kd.R_at hq_ HO549.out); have n2_ := Aside0.mk (blk_at hq_ BK545.out); have n3_ := Aside0.mk (below_at hq_ HB.out); clear hq_ HO0 HO549 BK545 HB; have HO0 := n0_; have HO549 := n1_; have BK545 := n2_; have HB := n3_; clear n0_ n1_ n2_ n3_; (try (have n_ := Aside0.mk (Kd.R_mono (ok' := (fun k_ => (w.heap.size ≤ k_) ∧ k_ ≠ gb545)) HO549.out (fun k_ hk => ⟨hk.1.1, hk.2⟩)); clear HO549; have HO549 := n_; clear n_)); (try (have HX18 := Aside0.mk (show Kd.R k33 33 w12 w.heap.size (fun k_ => (w.heap.size ≤ k_) ∧ k_ ≠ gb545) (.slice (some ⟨go16, 0, none⟩) t547.length co16) t547 from (rz HO549.out)))); (try (obtain ⟨ce18, hcl18, hM18, hcc18, hfr18⟩ := Kd.R_elem HX18.out z33 (t550 : Int) (of_decide_eq_true zt8) (by have h_ : (t550 : Int) < ((t547.length : Int) : Int) := of_decide_eq_true zt8; first | exact h_ | (have e_ := (Kd.R_reads' HO549.out).1; omega) | simpa using h_))); (try (obtain rfl := k33_openM hM18)); (try (have HP18 := Kd.R_seg HX18.out (t550 : Int) (of_decide_eq_true zt8) (by have h_ : (t550 : Int) < ((t547.length : Int) : Int) := of_decide_eq_true zt8; first | exact h_ | (have e_ := (Kd.R_reads' HO549.out).1; omega) | simpa using h_) (seg := [.string a1_0, .string a1_1]) (j := 0) hcl18 hcc18 (show 2 ≤ 2 from by decide) (x' := (⟨a1_0, a1_1⟩ : S33)) (k33_mkM _ _ _ (⟨a1_0, a1_1⟩ : S33) ) (fun _ hk => hk))); (try (have hx18_0 := hcc18 0 _ rfl)); (try (try simp only [show (k33).sz = 2 from rfl, Nat.mul_one, Nat.add_zero] at hx18_0)); (try (have hf18_0 := hfr18 0)); (try (try simp only [show (k33).sz = 2 from rfl, Nat.mul_one, Nat.add_zero] at hf18_0)); (try (have hx18_1 := hcc18 1 _ rfl)); (try (try simp only [show (k33).sz = 2 from rfl, Nat.mul_one, Nat.add_zero] at hx18_1)); (try (have hf18_1 := hfr18 1)); (try (try simp only [show (k33).sz = 2 from rfl, Nat.mul_one, Nat.add_zero] at hf18_1)); (try (clear hcl18 hcc18 hfr18 hM18)))); refine store_event (t := 33) (p := 22) (v := ?vo_w19) (w1 := ((w12.setCell ⟨go16, (t550 : Int).toNat * 2, none⟩ (.string a1_0)).setCell ⟨go16, (t550 : Int).toNat * 2 + 1, none⟩ (.string a1_1))) ?hg ?ho ?hn ?hr ?_; (case ho => rfl); (case hg => rfl); (case hn => rfl); (case hr => first | (go_simp; done) | (go_simp; rfl)); intro w19 hw; have hg : w12.grownBy w19 (some go16) := (by rw [hw]; exact HP18.2); have hp_ : Kd.R k33 33 w19 w.heap.size (fun k_ => (w.heap.size ≤ k_) ∧ k_ ≠ gb545) (.slice (some ⟨go16, 0, none⟩) t547.length co16) y551 := (by rw [hw, Ny551.out]; exact HP18.1); clear HP18; have n0_ := Aside0.mk (Kd.V_afterv (v := (.slice (some ⟨go16, 0, none⟩) t547.length co16)) (v1 := (.slice (some ⟨go16, 0, none⟩) t547.length co16)) (ok := (fun k_ => (P0_ k_ ∨ w.heap.size ≤ k_) ∧ k_ ≠ gb545)) zt19 hg (.inl rfl)); have n1_ := Aside0.mk (blk_grown (g := gb545) (o := .cells #[.string a1_0, .string a1_1] 33 (0, 0)) (oz BK545.out) hg (Kd.R_away HO549.out (fun _ hk => hk.2))); have n2_ := Aside0.mk (hp_); have n3_ := Aside0.mk ((by rw [hw]; exact below_set (below_set (HB.out) GB16.out) GB16.out : Below w.heap.size w w19)); clear HO0; clear BK545; clear HO549; clear HB; have HO0 := n0_; have BK545 := n1_; have HO549 := n2_; have HB := n3_; clear n0_ n1_ n2_ n3_; clear hg hw hp_)); try go_wp2_with (first | ((with_reducible refine gate_store (t := 33) (p := 22) rfl ?_); (try (rw [drewN_self w12]; generalize hq_ : World.drewN w12 _ = w12; have n0_ := Aside0.mk (Kd.V_at hq_ HO0.out); have n1_ := Aside0.mk (Kd.R_at hq_ HO549.out); have n2_ := Aside0.mk (blk_at hq_ BK545.out); have n3_ := Aside0.mk (below_at hq_ HB.out); clear hq_ HO0 HO549 BK545 HB; have HO0 := n0_; have HO549 := n1_; have BK545 := n2_; have HB := n3_; clear n0_ n1_ n2_ n3_; (try (have n_ := Aside0.mk (Kd.R_mono (ok' := (fun k_ => (w.heap.size ≤ k_) ∧ k_ ≠ gb545)) HO549.out (fun k_ hk => ⟨hk.1.1, hk.2⟩)); clear HO549; have HO549 := n_; clear n_)); (try (have HX18 := Aside0.mk (show Kd.R k33 33 w12 w.heap.size (fun k_ => (w.heap.size ≤ k_) ∧ k_ ≠ gb545) (.slice (some ⟨go16, 0, none⟩) t547.length co16) t547 from (rz HO549.out)))); (try (obtain ⟨ce18, hcl18, hM18, hcc18, hfr18⟩ := Kd.R_elem HX18.out z33 (t550 : Int) (of_decide_eq_true zt8) (by have h_ : (t550 : Int) < ((t547.length : Int) : Int) := of_decide_eq_true zt8; first | exact h_ | (have e_ := (Kd.R_reads' HO549.out).1; omega) | simpa using h_))); (try (obtain rfl := k33_openM hM18)); (try (have HP18 := Kd.R_seg HX18.out (t550 : Int) (of_decide_eq_true zt8) (by have h_ : (t550 : Int) < ((t547.length : Int) : Int) := of_decide_eq_true zt8; first | exact h_ | (have e_ := (Kd.R_reads' HO549.out).1; omega) | simpa using h_) (seg := [.string a1_0, .string a1_1]) (j := 0) hcl18 hcc18 (show 2 ≤ 2 from by decide) (x' := (⟨a1_0, a1_1⟩ : S33)) (k33_mkM _ _ _ (⟨a1_0, a1_1⟩ : S33) ) (fun _ hk => hk))); (try (have hx18_0 := hcc18 0 _ rfl)); (try (try simp only [show (k33).sz = 2 from rfl, Nat.mul_one, Nat.add_zero] at hx18_0)); (try (have hf18_0 := hfr18 0)); (try (try simp only [show (k33).sz = 2 from rfl, Nat.mul_one, Nat.add_zero] at hf18_0)); (try (have hx18_1 := hcc18 1 _ rfl)); (try (try simp only [show (k33).sz = 2 from rfl, Nat.mul_one, Nat.add_zero] at hx18_1)); (try (have hf18_1 := hfr18 1)); (try (try simp only [show (k33).sz = 2 from rfl, Nat.mul_one, Nat.add_zero] at hf18_1)); (try (clear hcl18 hcc18 hfr18 hM18)))); refine store_event (t := 33) (p := 22) (v := ?vo_w19) (w1 := ((w12.setCell ⟨go16, (t550 : Int).toNat * 2, none⟩ (.string a1_0)).setCell ⟨go16, (t550 : Int).toNat * 2 + 1, none⟩ (.string a1_1))) ?hg ?ho ?hn ?hr ?_; (case ho => rfl); (case hg => rfl); (case hn => rfl); (case hr => first | (go_simp; done) | (go_simp; rfl)); intro w19 hw; have hg : w12.grownBy w19 (some go16) := (by rw [hw]; exact HP18.2); have hp_ : Kd.R k33 33 w19 w.heap.size (fun k_ => (w.heap.size ≤ k_) ∧ k_ ≠ gb545) (.slice (some ⟨go16, 0, none⟩) t547.length co16) y551 := (by rw [hw, Ny551.out]; exact HP18.1); clear HP18; have n0_ := Aside0.mk (Kd.V_afterv (v := (.slice (some ⟨go16, 0, none⟩) t547.length co16)) (v1 := (.slice (some ⟨go16, 0, none⟩) t547.length co16)) (ok := (fun k_ => (P0_ k_ ∨ w.heap.size ≤ k_) ∧ k_ ≠ gb545)) zt19 hg (.inl rfl)); have n1_ := Aside0.mk (blk_grown (g := gb545) (o := .cells #[.string a1_0, .string a1_1] 33 (0, 0)) (oz BK545.out) hg (Kd.R_away HO549.out (fun _ hk => hk.2))); have n2_ := Aside0.mk (hp_); have n3_ := Aside0.mk ((by rw [hw]; exact below_set (below_set (HB.out) GB16.out) GB16.out : Below w.heap.size w w19)); clear HO0; clear BK545; clear HO549; clear HB; have HO0 := n0_; have BK545 := n1_; have HO549 := n2_; have HB := n3_; clear n0_ n1_ n2_ n3_; clear hg hw hp_)))
    go_meet
    case rel => exact ⟨_, (l0), (y551), (a1_0), (a1_1), H', ⟨by first | omega | exact Nat.le_refl _⟩, ⟨by (with_reducible repeat (first | apply Kd.V_alloc | apply Kd.V_drewN | apply Kd.V_drew)); exact Kd.V_mono HO0.out (fun _ hk => ⟨hk.1.1, ⟨hk.2, hk.1.2⟩⟩)⟩, ⟨by (with_reducible repeat (first | apply Kd.R_alloc | apply Kd.R_drewN | apply Kd.R_drew)); (first | exact HO549.out | exact Kd.R_mono HO549.out (fun k_ h_ => by first | exact h_ | (simpa [Value.ownBlock] using h_) | (have e_ : ∀ (A : Option Addr) (n m c : Nat), (Value.slice A n c).ownBlock = (Value.slice A m c).ownBlock := (fun A n m c => by cases A <;> rfl); rw [e_ _ _ 0 _] at h_ ⊢; exact h_)))⟩, ⟨zt35⟩, ⟨zt9⟩⟩
   ·rw [if_neg c13] at H
    have c13b0 : decide (0 ≤ t550) = false := decide_eq_false c13
    clear c13
    (first | rw [c13b0] | (simp only [i64_w, i32_w]; rw [c13b0]) | skip)
    have H' := Aside0.mk H
    clear H
    go_wp2
    repeat (go_quiet (fail); try go_wp2)
    go_loopg [7] k (fun kq v7 w' => ∃ (x7_1 : Int), v7 = .int .i64 x7_1 ∧ Aside0 (impl_PutFile.l0 kq l0 t547 x7_1 a1_0 a1_1 = some (r1, r2)) ∧ Aside0 (kq ≤ k) ∧ Aside0 (Kd.V k33 33 w' w.heap.size (fun k_ => (P0_ k_ ∨ w.heap.size ≤ k_) ∧ some k_ ≠ (v548 : Value).ownBlock ∧ k_ ≠ gb545) (.slice A0 l0.length c0) l0) ∧ Aside0 (Kd.R k33 33 w' w.heap.size (fun k_ => (w.heap.size ≤ k_) ∧ k_ ≠ gb545) v548 t547) ∧ Aside0 (w'.heap[gb545]? = some (.cells #[.string a1_0, .string a1_1] 33 (0, 0))) ∧ Aside0 (Below w.heap.size w w'))
    case atStart => exact ⟨(0), zt12, H', ⟨Nat.le_refl _⟩, ⟨by (with_reducible repeat (first | apply Kd.V_alloc | apply Kd.V_drewN | apply Kd.V_drew)); exact Kd.V_mono HO0.out (fun _ hk => ⟨hk.1.1, ⟨hk.2, hk.1.2⟩⟩)⟩, ⟨by (with_reducible repeat (first | apply Kd.R_alloc | apply Kd.R_drewN | apply Kd.R_drew)); exact Kd.R_mono HO549.out (fun _ hk => ⟨(by first | exact hk.1.1 | (revert hk; (try simp only [and_imp]); intros; assumption)), (by first | exact hk.2 | (revert hk; (try simp only [and_imp]); intros; assumption))⟩)⟩, ⟨zt35⟩, ⟨zt9⟩⟩
    case round =>
     clear H'
     try clear c1
     try clear p1
     try clear q1
     try clear hx1
     try clear p2
     try clear c4
     try clear c13
     try clear c13b0
     try clear c14
     try clear c14b0
     try clear c15
     try clear c15b0
     try clear c16
     try clear p16
     try clear q16
     try clear hx16
     try clear hf16
     try clear c18
     try clear hx18
     try clear hf18
     try clear hcz11_0
     try clear hcz11_1
     try clear hcz17_0
     try clear hcz17_1
     try clear hfz11_0
     try clear hfz11_1
     try clear hfz17_0
     try clear hfz17_1
     try clear hx16_0
     try clear hx16_1
     try clear hx18_0
     try clear hx18_1
     try clear p16
     try clear q16
     obtain ⟨x7_1, rfl, HA, HK1, HO_0, HO_6, BK545, HB⟩ := hrel
     cases gk with
     | zero => exact absurd HA.out (by simp [impl_PutFile.l0])
     | succ k1 =>
      have H := HA.out
      clear HA
      simp only [impl_PutFile.l0] at H
      by_cases c20 : x7_1 < (l0.length : Int)
      rw [if_pos c20] at H
      have c20b0 := decide_eq_true c20
      clear c20
      replace H := it0 H
      obtain ⟨c21, H⟩ := H
      have c21b0 : decide (0 ≤ x7_1) = true := decide_eq_true c21
      clear c21
      by_cases c22 : (Op.bytesLess (((rd_T33 l0 x7_1).f0).toList) a1_0.toList) = true
      rw [if_pos c22] at H
      have c22b0 : (Op.bytesLess (((rd_T33 l0 x7_1).f0).toList) a1_0.toList) = true := c22
      clear c22
      have H' := Aside0.mk H
      clear H
      have p552 : 0 ≤ (x7_1 : Int) := of_decide_eq_true zt8
      have q552 : x7_1 < (l0.length : Int) := of_decide_eq_true zt8
      obtain ⟨ad552, e552, hx552_0, hx552_1⟩ := at_T33 (Kd.V_reads' HO_0.out).2.2 x7_1 p552 q552
      cases e552
      replace p552 := eq_true p552
      replace q552 := eq_true q552
      have hcz23_0 : wr.cell? ⟨gb545, 0, none⟩ = some (.string a1_0) := (blk_cell BK545.out 0).trans rfl
      have hcz23_1 : wr.cell? ⟨gb545, 1, none⟩ = some (.string a1_1) := (blk_cell BK545.out 1).trans rfl
      have hfz23_0 := blk_frozen BK545.out 0
      have hfz23_1 := blk_frozen BK545.out 1
      rotate_left
      rw [if_neg c22] at H
      have c22b0 : (Op.bytesLess (((rd_T33 l0 x7_1).f0).toList) a1_0.toList) = false := by simpa using c22
      clear c22
      obtain ⟨y553, hy553⟩ : ∃ y_ : List (S33), y_ = (([(⟨a1_0, a1_1⟩ : S33)] : List (S33))) := ⟨_, rfl⟩
      replace H : ((impl_File_38.f t547 x7_1 y553).bind fun t556 => (impl_PutFile.j1 k1 l0 t556)) = some (r1, r2) := by first | (rw [hy553]; with_reducible exact H) | (have H2_ := (Option.bind_some _ _).symm.trans H; rw [hy553]; with_reducible exact H2_) | (have H2_ := (Option.bind_some _ _).symm.trans H; with_reducible exact H2_) | with_reducible exact H | (rw [hy553]; exact H) | exact H
      have Ny553 := Aside0.mk hy553
      clear hy553
      replace H := bnd H
      obtain ⟨t556, A24, H⟩ := H
      try dsimp only at H
      have H' := Aside0.mk H
      clear H
      have p552 : 0 ≤ (x7_1 : Int) := of_decide_eq_true zt8
      have q552 : x7_1 < (l0.length : Int) := of_decide_eq_true zt8
      obtain ⟨ad552, e552, hx552_0, hx552_1⟩ := at_T33 (Kd.V_reads' HO_0.out).2.2 x7_1 p552 q552
      cases e552
      replace p552 := eq_true p552
      replace q552 := eq_true q552
      have hcz25_0 : wr.cell? ⟨gb545, 0, none⟩ = some (.string a1_0) := (blk_cell BK545.out 0).trans rfl
      have hcz25_1 : wr.cell? ⟨gb545, 1, none⟩ = some (.string a1_1) := (blk_cell BK545.out 1).trans rfl
      have hfz25_0 := blk_frozen BK545.out 0
      have hfz25_1 := blk_frozen BK545.out 1
      rotate_left
      rw [if_neg c20] at H
      have c20b0 := decide_eq_false c20
      clear c20
      obtain ⟨y559, hy559⟩ : ∃ y_ : List (S33), y_ = (([(⟨a1_0, a1_1⟩ : S33)] : List (S33))) := ⟨_, rfl⟩
      replace H : ((impl_File_38.f t547 x7_1 y559).bind fun t562 => (impl_PutFile.j1 k1 l0 t562)) = some (r1, r2) := by first | (rw [hy559]; with_reducible exact H) | (have H2_ := (Option.bind_some _ _).symm.trans H; rw [hy559]; with_reducible exact H2_) | (have H2_ := (Option.bind_some _ _).symm.trans H; with_reducible exact H2_) | with_reducible exact H | (rw [hy559]; exact H) | exact H
      have Ny559 := Aside0.mk hy559
      clear hy559
      replace H := bnd H
      obtain ⟨t562, A31, H⟩ := H
      try dsimp only at H
      have H' := Aside0.mk H
      clear H
      have hcz32_0 : wr.cell? ⟨gb545, 0, none⟩ = some (.string a1_0) := (blk_cell BK545.out 0).trans rfl
      have hcz32_1 : wr.cell? ⟨gb545, 1, none⟩ = some (.string a1_1) := (blk_cell BK545.out 1).trans rfl
      have hfz32_0 := blk_frozen BK545.out 0
      have hfz32_1 := blk_frozen BK545.out 1
      rotate_left
      all_goals
       repeat (go_wp2_with (first | (go_at_call 38; (with_reducible refine (impl_File_38.calls (fun k_ => some k_ = (.slice Ao7004 t547.length co7004 : Value).ownBlock) (.slice Ao7004 t547.length co7004) t547 x7_1 _ _ y553 t556 w _ ?side1 ?side2 ?side3 ?side4 A24.out).mono ?_); (case side1 => exact zt9); (case side2 => exact Kd.R_tight rfl HO_6.out); (case side3 => exact Kd.C_kept_own (HO7003.out) (fun k_ hk_ hs_ => (hk_.1.2) hs_)); (case side4 => exact (Kd.R_reads' HO7003.out).2.1); rintro e w7006 ⟨v7007, rfl, ho0, hb, hkp⟩; have n0_ := Aside0.mk (Kd.V_mono (ok' := fun k_ => (P0_ k_ ∨ w.heap.size ≤ k_) ∧ some k_ ≠ (.slice Ao7005 y553.length co7005 : Value).ownBlock ∧ k_ ≠ gb545 ∧ some k_ ≠ (v7007 : Value).ownBlock) (Kd.V_keptB (HO_0.out) hkp (fun k_ hk_ hs_ => (hk_.1.2.1) hs_)) (fun k_ hk_ => ⟨hk_.1.1.1, hk_.1.2, hk_.1.1.2.2, fun e_ => Or.elim (ho0.1 k_ e_.symm) (fun hs_ => hk_.2.1 hs_) (fun hn_ => Nat.not_le.2 hk_.2.2 hn_)⟩)); have n1_ := Aside0.mk (blk_kept (oz BK545.out) hkp (fun hs_ => (fun e_ => (Kd.R_away HO_6.out (fun _ hk => hk.1.2)) e_) hs_)); have n2_ := Aside0.mk (Kd.R_mono (ok' := fun k_ => (w.heap.size ≤ k_) ∧ k_ ≠ gb545 ∧ some k_ ≠ (v7007 : Value).ownBlock) (Kd.R_keptB (HO7003.out) hkp (fun k_ hk_ hs_ => (hk_.1.2) hs_)) (fun k_ hk_ => ⟨hk_.1.1.1.1, hk_.1.2, fun e_ => Or.elim (ho0.1 k_ e_.symm) (fun hs_ => hk_.2.1 hs_) (fun hn_ => Nat.not_le.2 hk_.2.2 hn_)⟩)); have n3_ := Aside0.mk (Kd.R_mono (ok' := fun k_ => (w.heap.size ≤ k_) ∧ some k_ ≠ (.slice Ao7005 y553.length co7005 : Value).ownBlock ∧ k_ ≠ gb545) ho0 (fun k_ hk_ => ⟨Or.elim hk_ (fun hs_ => (HO_6.out.1 k_ (hs_).symm).1.1) (fun hn_ => (Nat.le_trans (below_size zt9) hn_)), Or.elim hk_ (fun hs_ => fun e_ => (((HO7003.out).1 k_ e_.symm).1.2) hs_) (fun hn_ => (Kd.fresh' (Kd.R_lt (rz HO7003.out)) k_ hn_)), Or.elim hk_ (fun hs_ => fun e_ => (Kd.R_away HO_6.out (fun _ hk => hk.1.2)) (by rw [← e_]; exact hs_)) (fun hn_ => (Kd.freshB (g := gb545) (o := .cells #[.string a1_0, .string a1_1] 33 (0, 0)) (oz BK545.out) k_ hn_))⟩)); have n4_ := Aside0.mk (hb); clear HO_0; clear BK545; clear HO7003; clear HB; clear HO_6; have HO_0 := n0_; have BK545 := n1_; have HO7003 := n2_; have HO7008 := n3_; have HB := n4_; clear n0_ n1_ n2_ n3_ n4_; (try clear hb); (try clear hkp); (try clear ho0)) | (go_at_call 38; (with_reducible refine (impl_File_38.calls (fun k_ => some k_ = (.slice Ao7004 t547.length co7004 : Value).ownBlock) (.slice Ao7004 t547.length co7004) t547 x7_1 _ _ y559 t562 w _ ?side1 ?side2 ?side3 ?side4 A31.out).mono ?_); (case side1 => exact zt9); (case side2 => exact Kd.R_tight rfl HO_6.out); (case side3 => exact Kd.C_kept_own (HO7003.out) (fun k_ hk_ hs_ => (hk_.1.2) hs_)); (case side4 => exact (Kd.R_reads' HO7003.out).2.1); rintro e w7006 ⟨v7007, rfl, ho0, hb, hkp⟩; have n0_ := Aside0.mk (Kd.V_mono (ok' := fun k_ => (P0_ k_ ∨ w.heap.size ≤ k_) ∧ some k_ ≠ (.slice Ao7005 y559.length co7005 : Value).ownBlock ∧ k_ ≠ gb545 ∧ some k_ ≠ (v7007 : Value).ownBlock) (Kd.V_keptB (HO_0.out) hkp (fun k_ hk_ hs_ => (hk_.1.2.1) hs_)) (fun k_ hk_ => ⟨hk_.1.1.1, hk_.1.2, hk_.1.1.2.2, fun e_ => Or.elim (ho0.1 k_ e_.symm) (fun hs_ => hk_.2.1 hs_) (fun hn_ => Nat.not_le.2 hk_.2.2 hn_)⟩)); have n1_ := Aside0.mk (blk_kept (oz BK545.out) hkp (fun hs_ => (fun e_ => (Kd.R_away HO_6.out (fun _ hk => hk.1.2)) e_) hs_)); have n2_ := Aside0.mk (Kd.R_mono (ok' := fun k_ => (w.heap.size ≤ k_) ∧ k_ ≠ gb545 ∧ some k_ ≠ (v7007 : Value).ownBlock) (Kd.R_keptB (HO7003.out) hkp (fun k_ hk_ hs_ => (hk_.1.2) hs_)) (fun k_ hk_ => ⟨hk_.1.1.1.1, hk_.1.2, fun e_ => Or.elim (ho0.1 k_ e_.symm) (fun hs_ => hk_.2.1 hs_) (fun hn_ => Nat.not_le.2 hk_.2.2 hn_)⟩)); have n3_ := Aside0.mk (Kd.R_mono (ok' := fun k_ => (w.heap.size ≤ k_) ∧ some k_ ≠ (.slice Ao7005 y559.length co7005 : Value).ownBlock ∧ k_ ≠ gb545) ho0 (fun k_ hk_ => ⟨Or.elim hk_ (fun hs_ => (HO_6.out.1 k_ (hs_).symm).1.1) (fun hn_ => (Nat.le_trans (below_size zt9) hn_)), Or.elim hk_ (fun hs_ => fun e_ => (((HO7003.out).1 k_ e_.symm).1.2) hs_) (fun hn_ => (Kd.fresh' (Kd.R_lt (rz HO7003.out)) k_ hn_)), Or.elim hk_ (fun hs_ => fun e_ => (Kd.R_away HO_6.out (fun _ hk => hk.1.2)) (by rw [← e_]; exact hs_)) (fun hn_ => (Kd.freshB (g := gb545) (o := .cells #[.string a1_0, .string a1_1] 33 (0, 0)) (oz BK545.out) k_ hn_))⟩)); have n4_ := Aside0.mk (hb); clear HO_0; clear BK545; clear HO7003; clear HB; clear HO_6; have HO_0 := n0_; have BK545 := n1_; have HO7003 := n2_; have HO7008 := n3_; have HB := n4_; clear n0_ n1_ n2_ n3_ n4_; (try clear hb); (try clear hkp); (try clear ho0)) | ((with_reducible refine gate_dst (N := 42) rfl ?_); refine Kd.R_lit k33 _ 33 ?hg (N := 42) ?hd (xs := ([(⟨a1_0, a1_1⟩ : S33)] : List (S33))) (inner := [.string a1_0, .string a1_1]) (ok := fun _ => True) (okp := fun _ => True) ?hr ?hp (fun _ hk => hk) trivial (Below.refl _ _) (Nat.le_refl _) (by simp) ?_; (case hd => rfl); (case hg => rfl); (case hr => first | (go_simp; done) | (go_simp; rfl)); (case hp => exact (Reps.c2 (show Kd.M k33 _ _ _ (⟨a1_0, a1_1⟩ : S33) [.string a1_0, .string a1_1] from (k33_mkM _ _ _ (⟨a1_0, a1_1⟩ : S33) )) (Reps.none _ _))); intro v7000 w7001 ho7002 hb hg_ hnew_; clear hg_ hnew_; (first | rw [← Ny553.out] at ho7002 | (simp only [Int.reduceToNat] at ho7002; rw [← Ny553.out] at ho7002)); have n0_ := Aside0.mk (Kd.V_elder' zt37 (Kd.R_base ho7002) hb); have n1_ := Aside0.mk (Kd.R_elder' (rz HO_6.out) (Kd.R_base ho7002) hb); have n2_ := Aside0.mk (Kd.R_lower (Kd.R_newB (Kd.R_new' (Kd.R_newM (M := fun k_ => (w.heap.size ≤ k_)) ho7002 (below_size zt9) (fun k_ h_ => h_)) (Kd.R_lt (rz HO_6.out))) (g := gb545) (o := .cells #[.string a1_0, .string a1_1] 33 (0, 0)) (oz BK545.out)) (below_size zt9)); have n3_ := Aside0.mk (blk_below (g := gb545) (o := .cells #[.string a1_0, .string a1_1] 33 (0, 0)) (oz BK545.out) hb); have n4_ := Aside0.mk (below_step zt9 hb); clear HO_0; clear HO_6; clear BK545; clear HB; have HO_0 := n0_; have HO_6 := n1_; have HO7003 := n2_; have BK545 := n3_; have HB := n4_; clear n0_ n1_ n2_ n3_ n4_; clear hb ho7002; obtain ⟨Ao7004, co7004, eo7004⟩ := Kd.R_slice HO_6.out; subst eo7004; obtain ⟨Ao7005, co7005, eo7005⟩ := Kd.R_slice HO7003.out; subst eo7005) | ((with_reducible refine gate_dst (N := 42) rfl ?_); refine Kd.R_lit k33 _ 33 ?hg (N := 42) ?hd (xs := ([(⟨a1_0, a1_1⟩ : S33)] : List (S33))) (inner := [.string a1_0, .string a1_1]) (ok := fun _ => True) (okp := fun _ => True) ?hr ?hp (fun _ hk => hk) trivial (Below.refl _ _) (Nat.le_refl _) (by simp) ?_; (case hd => rfl); (case hg => rfl); (case hr => first | (go_simp; done) | (go_simp; rfl)); (case hp => exact (Reps.c2 (show Kd.M k33 _ _ _ (⟨a1_0, a1_1⟩ : S33) [.string a1_0, .string a1_1] from (k33_mkM _ _ _ (⟨a1_0, a1_1⟩ : S33) )) (Reps.none _ _))); intro v7000 w7001 ho7002 hb hg_ hnew_; clear hg_ hnew_; (first | rw [← Ny559.out] at ho7002 | (simp only [Int.reduceToNat] at ho7002; rw [← Ny559.out] at ho7002)); have n0_ := Aside0.mk (Kd.V_elder' zt37 (Kd.R_base ho7002) hb); have n1_ := Aside0.mk (Kd.R_elder' (rz HO_6.out) (Kd.R_base ho7002) hb); have n2_ := Aside0.mk (Kd.R_lower (Kd.R_newB (Kd.R_new' (Kd.R_newM (M := fun k_ => (w.heap.size ≤ k_)) ho7002 (below_size zt9) (fun k_ h_ => h_)) (Kd.R_lt (rz HO_6.out))) (g := gb545) (o := .cells #[.string a1_0, .string a1_1] 33 (0, 0)) (oz BK545.out)) (below_size zt9)); have n3_ := Aside0.mk (blk_below (g := gb545) (o := .cells #[.string a1_0, .string a1_1] 33 (0, 0)) (oz BK545.out) hb); have n4_ := Aside0.mk (below_step zt9 hb); clear HO_0; clear HO_6; clear BK545; clear HB; have HO_0 := n0_; have HO_6 := n1_; have HO7003 := n2_; have BK545 := n3_; have HB := n4_; clear n0_ n1_ n2_ n3_ n4_; clear hb ho7002; obtain ⟨Ao7004, co7004, eo7004⟩ := Kd.R_slice HO_6.out; subst eo7004; obtain ⟨Ao7005, co7005, eo7005⟩ := Kd.R_slice HO7003.out; subst eo7005)); first | go_quiet (fail) | (go_roundg k1; (case measure => have := HK1.out; omega); (case rel => exact ⟨(wrap64 (x7_1 + 1)), zt12, H', ⟨by have := HK1.out; omega⟩, ⟨by (with_reducible repeat (first | apply Kd.V_alloc | apply Kd.V_drewN | apply Kd.V_drew)); (first | exact HO_0.out | exact Kd.R_mono HO_0.out (fun k_ h_ => by first | exact h_ | (simpa [Value.ownBlock] using h_) | (have e_ : ∀ (A : Option Addr) (n m c : Nat), (Value.slice A n c).ownBlock = (Value.slice A m c).ownBlock := (fun A n m c => by cases A <;> rfl); rw [e_ _ _ 0 _] at h_ ⊢; exact h_)))⟩, ⟨by (with_reducible repeat (first | apply Kd.R_alloc | apply Kd.R_drewN | apply Kd.R_drew)); (first | exact HO_6.out | exact Kd.R_mono HO_6.out (fun k_ h_ => by first | exact h_ | (simpa [Value.ownBlock] using h_) | (have e_ : ∀ (A : Option Addr) (n m c : Nat), (Value.slice A n c).ownBlock = (Value.slice A m c).ownBlock := (fun A n m c => by cases A <;> rfl); rw [e_ _ _ 0 _] at h_ ⊢; exact h_)))⟩, ⟨zt35⟩, ⟨zt9⟩⟩)) | (go_meet; (case rel => exact ⟨_, (l0), (t556), (a1_0), (a1_1), H', ⟨zt34⟩, ⟨by (with_reducible repeat (first | apply Kd.V_alloc | apply Kd.V_drewN | apply Kd.V_drew)); exact Kd.V_mono HO_0.out (fun _ hk => ⟨hk.1, ⟨hk.2.2.2, hk.2.2.1⟩⟩)⟩, ⟨by (with_reducible repeat (first | apply Kd.R_alloc | apply Kd.R_drewN | apply Kd.R_drew)); exact Kd.R_mono HO7008.out (fun _ hk => ⟨(by first | exact hk.1 | (revert hk; (try simp only [and_imp]); intros; assumption)), (by first | exact hk.2.2 | (revert hk; (try simp only [and_imp]); intros; assumption))⟩)⟩, ⟨zt35⟩, ⟨zt9⟩⟩)) | (go_meet; (case rel => exact ⟨_, (l0), (t562), (a1_0), (a1_1), H', ⟨zt34⟩, ⟨by (with_reducible repeat (first | apply Kd.V_alloc | apply Kd.V_drewN | apply Kd.V_drew)); exact Kd.V_mono HO_0.out (fun _ hk => ⟨hk.1, ⟨hk.2.2.2, hk.2.2.1⟩⟩)⟩, ⟨by (with_reducible repeat (first | apply Kd.R_alloc | apply Kd.R_drewN | apply Kd.R_drew)); exact Kd.R_mono HO7008.out (fun _ hk => ⟨(by first | exact hk.1 | (revert hk; (try simp only [and_imp]); intros; assumption)), (by first | exact hk.2.2 | (revert hk; (try simp only [and_imp]); intros; assumption))⟩)⟩, ⟨zt35⟩, ⟨zt9⟩⟩)))
  case rest =>
   clear HC7
   try clear c1
   try clear p1
   try clear q1
   try clear hx1
   try clear c2
   try clear p2
   try clear c4
   try clear p5
   try clear q5
   try clear hx5
   try clear p6
   try clear c13
   try clear c13b0
   try clear c14
   try clear c14b0
   try clear c15
   try clear c15b0
   try clear c16
   try clear p16
   try clear q16
   try clear hx16
   try clear hf16
   try clear c18
   try clear hx18
   try clear hf18
   try clear c20
   try clear c20b0
   try clear c21
   try clear c21b0
   try clear c22
   try clear c22b0
   try clear hcz11_0
   try clear hcz11_1
   try clear hcz17_0
   try clear hcz17_1
   try clear hcz23_0
   try clear hcz23_1
   try clear hcz25_0
   try clear hcz25_1
   try clear hcz32_0
   try clear hcz32_1
   try clear hfz11_0
   try clear hfz11_1
   try clear hfz17_0
   try clear hfz17_1
   try clear hfz23_0
   try clear hfz23_1
   try clear hfz25_0
   try clear hfz25_1
   try clear hfz32_0
   try clear hfz32_1
   try clear hx16_0
   try clear hx16_1
   try clear hx18_0
   try clear hx18_1
   try clear hx552_0
   try clear hx552_1
   try clear p1
   try clear p16
   try clear p2
   try clear p552
   try clear q1
   try clear q16
   try clear q552
   obtain ⟨kq, x0_6, x6_6, x546000_6, x546001_6, HA, HJ6, HO_0, HO_6, BK545, HB⟩ := hcut
   have hl0_6 := (Kd.V_reads' HO_0.out).1
   rw [hl0_6] at HO_0
   (try simp only [hl0_6])
   (try simp only [hl0_6] at BK545)
   (try simp only [hl0_6] at HO_6)
   cases kq with
   | zero => exact absurd HA.out (by simp [impl_PutFile.j1])
   | succ kj6 =>
    have H := HA.out
    clear HA
    simp only [impl_PutFile.j1] at H
    replace H := bnd H
    obtain ⟨t565, A38, H⟩ := H
    try dsimp only at H
    by_cases c39 : t565 = true
    subst c39
    rw [if_pos rfl] at H
    simp only [Option.some.injEq, Prod.mk.injEq] at H
    obtain ⟨rfl, rfl⟩ := H
    obtain ⟨Ao40, co40, eo40⟩ := Kd.R_slice HO_6.out
    subst eo40
    rotate_left
    replace c39 := Bool.eq_false_iff.mpr c39
    subst c39
    rw [if_neg (show ¬ (false = true) by decide)] at H
    replace H := bnd H
    obtain ⟨t566, A42, H⟩ := H
    try dsimp only at H
    simp only [Option.some.injEq, Prod.mk.injEq] at H
    obtain ⟨rfl, rfl⟩ := H
    obtain ⟨Ao43, co43, eo43⟩ := Kd.R_slice HO_6.out
    subst eo43
    rotate_left
    all_goals
     repeat (go_wp2_with (first | (go_at_call 36; (with_reducible refine (impl_File_36.calls _ _ x0_6 t566 _ ?side1 ?side2 A42.out).mono ?_); (case side1 => exact cz (Kd.V_reads' HO_0.out).2.2); (case side2 => exact (Kd.V_reads' HO_0.out).2.1); rintro e w7001 ⟨v7002, rfl, ho0, hb⟩; have n0_ := Aside0.mk (Kd.V_elder' zt37 (Kd.R_base ho0) hb); have n1_ := Aside0.mk (Kd.R_elder' (rz HO_6.out) (Kd.R_base ho0) hb); have n2_ := Aside0.mk (Kd.R_lower (Kd.R_newB (Kd.R_new' (Kd.R_newM (M := fun k_ => (w.heap.size ≤ k_)) ho0 (below_size zt9) (fun k_ h_ => h_)) (Kd.R_lt (rz HO_6.out))) (g := gb545) (o := .cells #[.string x546000_6, .string x546001_6] 33 (0, 0)) (oz BK545.out)) (below_size zt9)); have n3_ := Aside0.mk (blk_below (g := gb545) (o := .cells #[.string x546000_6, .string x546001_6] 33 (0, 0)) (oz BK545.out) hb); have n4_ := Aside0.mk (below_step zt9 hb); clear HO_0; clear HO_6; clear BK545; clear HB; have HO_0 := n0_; have HO_6 := n1_; have HO7003 := n2_; have BK545 := n3_; have HB := n4_; clear n0_ n1_ n2_ n3_ n4_; (try clear hb); (try clear hb2); (try clear hk); (try clear hi); (try clear ho0)) | (go_at_call 23; (with_reducible refine (impl_FilesOk.calls kj6 _ _ x6_6 false _ ?side1 ?side2 (TabsL.below HTA.out zt9) A38.out).mono ?_); (case side1 => exact cz (Kd.R_reads' HO_6.out).2.2); (case side2 => exact (Kd.R_reads' HO_6.out).2.1); rintro e w7000 ⟨rfl, hb⟩; have n0_ := Aside0.mk (Kd.V_below zt37 hb); have n1_ := Aside0.mk (Kd.R_below (rz HO_6.out) hb); have n2_ := Aside0.mk (blk_below (g := gb545) (o := .cells #[.string x546000_6, .string x546001_6] 33 (0, 0)) (oz BK545.out) hb); have n3_ := Aside0.mk (below_step zt9 hb); clear HO_0; clear HO_6; clear BK545; clear HB; have HO_0 := n0_; have HO_6 := n1_; have BK545 := n2_; have HB := n3_; clear n0_ n1_ n2_ n3_; (try clear hb); (try clear hb2); (try clear hk); (try clear hi)) | (go_at_call 23; (with_reducible refine (impl_FilesOk.calls kj6 _ _ x6_6 true _ ?side1 ?side2 (TabsL.below HTA.out zt9) A38.out).mono ?_); (case side1 => exact cz (Kd.R_reads' HO_6.out).2.2); (case side2 => exact (Kd.R_reads' HO_6.out).2.1); rintro e w7000 ⟨rfl, hb⟩; have n0_ := Aside0.mk (Kd.V_below zt37 hb); have n1_ := Aside0.mk (Kd.R_below (rz HO_6.out) hb); have n2_ := Aside0.mk (blk_below (g := gb545) (o := .cells #[.string x546000_6, .string x546001_6] 33 (0, 0)) (oz BK545.out) hb); have n3_ := Aside0.mk (below_step zt9 hb); clear HO_0; clear HO_6; clear BK545; clear HB; have HO_0 := n0_; have HO_6 := n1_; have BK545 := n2_; have HB := n3_; clear n0_ n1_ n2_ n3_; (try clear hb); (try clear hb2); (try clear hk); (try clear hi))); first | go_quiet (fail) | (go_ret2; exact ⟨_, zt10, by (with_reducible repeat (first | apply Kd.R_alloc | apply Kd.R_drewN | apply Kd.R_drew)); exact Kd.R_mono HO_6.out (fun _ hk => hk.1), zt9⟩) | (go_ret2; exact ⟨_, zt10, by (with_reducible repeat (first | apply Kd.R_alloc | apply Kd.R_drewN | apply Kd.R_drew)); exact Kd.R_mono HO7003.out (fun _ hk => hk.1.1.1), zt9⟩))
 ·replace c4 := Bool.eq_false_iff.mpr c4
  subst c4
  rw [if_neg (show ¬ (false = true) by decide)] at H
  simp only [Option.some.injEq, Prod.mk.injEq] at H
  obtain ⟨rfl, rfl⟩ := H
  go_enter Tryz.func13, Tryz.ntmps13
  go_wp2_with (first | ((with_reducible refine gate_dst (N := 3) rfl ?_); refine box_event ?hg (N := 3) ?hd (cs := #[.string a1_0, .string a1_1]) (t := 33) ?hr ?_; (case hd => rfl); (case hg => rfl); (case hr => first | (go_simp; done) | (go_simp; rfl)); intro gb545 hg w46 hbox hb; have n0_ := Aside0.mk (Kd.V_below (Kd.V_elderB zt19 gb545 (Nat.le_of_eq hg.symm)) hb); have n1_ := Aside0.mk (below_step zt3 hb); have n2_ := Aside0.mk (hbox); have n3_ := Aside0.mk ((zt13 : w.heap.size ≤ gb545)); have n4_ := Aside0.mk ((zt13 : w.heap.size ≤ gb545)); clear HO0; clear HB; have HO0 := n0_; have HB := n1_; have BK545 := n2_; have GW545 := n3_; have GE545 := n4_; clear n0_ n1_ n2_ n3_ n4_; clear hb hbox hg) | (go_at_call 23; (with_reducible refine (impl_FilesOk.calls k _ _ l0 false _ ?side1 ?side2 (TabsL.below HTA.out zt9) A3.out).mono ?_); (case side1 => exact cz (Kd.V_reads' HO0.out).2.2); (case side2 => exact (Kd.V_reads' HO0.out).2.1); rintro e w47 ⟨rfl, hb⟩; have n0_ := Aside0.mk (Kd.V_below zt19 hb); have n1_ := Aside0.mk (blk_below (g := gb545) (o := .cells #[.string a1_0, .string a1_1] 33 (0, 0)) (oz BK545.out) hb); have n2_ := Aside0.mk (below_step zt9 hb); clear HO0; clear BK545; clear HB; have HO0 := n0_; have BK545 := n1_; have HB := n2_; clear n0_ n1_ n2_; (try clear hb); (try clear hb2); (try clear hk); (try clear hi)))
  repeat (go_quiet (first | ((with_reducible refine gate_dst (N := 3) rfl ?_); refine box_event ?hg (N := 3) ?hd (cs := #[.string a1_0, .string a1_1]) (t := 33) ?hr ?_; (case hd => rfl); (case hg => rfl); (case hr => first | (go_simp; done) | (go_simp; rfl)); intro gb545 hg w46 hbox hb; have n0_ := Aside0.mk (Kd.V_below (Kd.V_elderB zt19 gb545 (Nat.le_of_eq hg.symm)) hb); have n1_ := Aside0.mk (below_step zt3 hb); have n2_ := Aside0.mk (hbox); have n3_ := Aside0.mk ((zt13 : w.heap.size ≤ gb545)); have n4_ := Aside0.mk ((zt13 : w.heap.size ≤ gb545)); clear HO0; clear HB; have HO0 := n0_; have HB := n1_; have BK545 := n2_; have GW545 := n3_; have GE545 := n4_; clear n0_ n1_ n2_ n3_ n4_; clear hb hbox hg) | (go_at_call 23; (with_reducible refine (impl_FilesOk.calls k _ _ l0 false _ ?side1 ?side2 (TabsL.below HTA.out zt9) A3.out).mono ?_); (case side1 => exact cz (Kd.V_reads' HO0.out).2.2); (case side2 => exact (Kd.V_reads' HO0.out).2.1); rintro e w47 ⟨rfl, hb⟩; have n0_ := Aside0.mk (Kd.V_below zt19 hb); have n1_ := Aside0.mk (blk_below (g := gb545) (o := .cells #[.string a1_0, .string a1_1] 33 (0, 0)) (oz BK545.out) hb); have n2_ := Aside0.mk (below_step zt9 hb); clear HO0; clear BK545; clear HB; have HO0 := n0_; have BK545 := n1_; have HB := n2_; clear n0_ n1_ n2_; (try clear hb); (try clear hb2); (try clear hk); (try clear hi))); try go_wp2_with (first | ((with_reducible refine gate_dst (N := 3) rfl ?_); refine box_event ?hg (N := 3) ?hd (cs := #[.string a1_0, .string a1_1]) (t := 33) ?hr ?_; (case hd => rfl); (case hg => rfl); (case hr => first | (go_simp; done) | (go_simp; rfl)); intro gb545 hg w46 hbox hb; have n0_ := Aside0.mk (Kd.V_below (Kd.V_elderB zt19 gb545 (Nat.le_of_eq hg.symm)) hb); have n1_ := Aside0.mk (below_step zt3 hb); have n2_ := Aside0.mk (hbox); have n3_ := Aside0.mk ((zt13 : w.heap.size ≤ gb545)); have n4_ := Aside0.mk ((zt13 : w.heap.size ≤ gb545)); clear HO0; clear HB; have HO0 := n0_; have HB := n1_; have BK545 := n2_; have GW545 := n3_; have GE545 := n4_; clear n0_ n1_ n2_ n3_ n4_; clear hb hbox hg) | (go_at_call 23; (with_reducible refine (impl_FilesOk.calls k _ _ l0 false _ ?side1 ?side2 (TabsL.below HTA.out zt9) A3.out).mono ?_); (case side1 => exact cz (Kd.V_reads' HO0.out).2.2); (case side2 => exact (Kd.V_reads' HO0.out).2.1); rintro e w47 ⟨rfl, hb⟩; have n0_ := Aside0.mk (Kd.V_below zt19 hb); have n1_ := Aside0.mk (blk_below (g := gb545) (o := .cells #[.string a1_0, .string a1_1] 33 (0, 0)) (oz BK545.out) hb); have n2_ := Aside0.mk (below_step zt9 hb); clear HO0; clear BK545; clear HB; have HO0 := n0_; have BK545 := n1_; have HB := n2_; clear n0_ n1_ n2_; (try clear hb); (try clear hb2); (try clear hk); (try clear hi))))
  go_ret2
  exact ⟨_, zt10, by first | exact Kd.R_nil _ _ _ _ _ | exact Kd.N_nil _ _ _ _ _ | exact Kd.V_nil _ _ _ _ _ | exact Kd.Q_nil _ _ _ _ _ | exact Kd.S_nil _ _ _ _ _, zt9⟩

/-! ### impl_Find: function 14 -/
def impl_Find.f (k : Nat) (l0 : List (S33)) (a1 : ByteArray) : Option (ByteArray × Bool) := (impl_fileAt.f l0 a1).bind fun t569 => (if t569 < 0 then (some ((⟨#[]⟩ : ByteArray), false)) else ((impl_FilesOk.f k l0).bind fun t570 => (if t570 = true then (if 0 ≤ t569 then (if t569 < (l0.length : Int) then (some ((rd_T33 l0 t569).f1, true)) else (none)) else (none)) else (some ((⟨#[]⟩ : ByteArray), false)))))
theorem impl_Find.mono : ∀ a0 a1 k, LeO (impl_Find.f k a0 a1) (impl_Find.f (k + 1) a0 a1) := by
 intro a0 a1 k
 unfold impl_Find.f
 repeat' (first | (with_reducible first | exact impl_FilesOk.mono _ _ | exact LeO.refl _ | exact LeO.none _ | refine LeO.ite ?_ ?_ | refine LeO.bind ?_ (fun _ => ?_)) | exact LeO.none _ | refine LeO.ite ?_ ?_ | refine LeO.bind ?_ (fun _ => ?_))
set_option maxHeartbeats 8000000 in
set_option maxRecDepth 100000 in
theorem impl_Find.calls (k : Nat) (A0 : Option Addr) (c0 : Nat) (l0 : List (S33)) (a1 : ByteArray) (r1 : ByteArray) (r2 : Bool) (w : World) (hr0 : Kd.C k33 w A0 l0.length l0) (hc0 : l0.length ≤ c0) (HT : TabsL w) (h : impl_Find.f k l0 a1 = some (r1, r2)) :
  Calls Tryz.prog 14 #[.slice A0 l0.length c0, .string a1] w fun e w' => e = .returned (.tuple #[.string r1, .bool r2]) ∧ Below w.heap.size w w' := by
 have HTA := Aside0.mk HT
 clear HT
 have HR0 := Aside0.mk hr0
 have HC0 := Aside0.mk hc0
 clear hr0 hc0
 have HB := Aside0.mk (Below.refl w.heap.size w)
 try unfold impl_Find.f at h
 have H := h
 clear h
 replace H := bnd H
 obtain ⟨t569, A3, H⟩ := H
 try dsimp only at H
 by_cases c4 : t569 < 0
 rw [if_pos c4] at H
 have c4b0 : decide (t569 < 0) = true := decide_eq_true c4
 clear c4
 simp only [Option.some.injEq, Prod.mk.injEq] at H
 obtain ⟨rfl, rfl⟩ := H
 rotate_left
 rw [if_neg c4] at H
 have c4b0 : decide (t569 < 0) = false := decide_eq_false c4
 clear c4
 replace H := bnd H
 obtain ⟨t570, A6, H⟩ := H
 try dsimp only at H
 by_cases c7 : t570 = true
 subst c7
 rw [if_pos rfl] at H
 replace H := it0 H
 obtain ⟨c8, H⟩ := H
 have c8b0 : decide (0 ≤ t569) = true := decide_eq_true c8
 clear c8
 replace H := it0 H
 obtain ⟨c9, H⟩ := H
 have c9b0 := decide_eq_true c9
 clear c9
 simp only [Option.some.injEq, Prod.mk.injEq] at H
 obtain ⟨rfl, rfl⟩ := H
 rotate_left
 replace c7 := Bool.eq_false_iff.mpr c7
 subst c7
 rw [if_neg (show ¬ (false = true) by decide)] at H
 simp only [Option.some.injEq, Prod.mk.injEq] at H
 obtain ⟨rfl, rfl⟩ := H
 rotate_left
 all_goals
  go_enter Tryz.func14, Tryz.ntmps14
  repeat (go_wp2_with (first | (go_at_call 23; (with_reducible refine (impl_FilesOk.calls k _ _ l0 true _ ?side1 ?side2 (TabsL.below HTA.out zt3) A6.out).mono ?_); (case side1 => exact cz (Kd.C_below HR0.out HB.out)); (case side2 => exact HC0.out); rintro e w7001 ⟨rfl, hb⟩; have n0_ := Aside0.mk (below_step zt3 hb); clear HB; have HB := n0_; clear n0_; (try clear hb); (try clear hb2); (try clear hk); (try clear hi); have p7002 : 0 ≤ (t569 : Int) := of_decide_eq_true zt8; have q7002 : t569 < (l0.length : Int) := of_decide_eq_true zt8; obtain ⟨ad7002, e7002, hx7002_0, hx7002_1⟩ := at_T33 HR0.out t569 p7002 q7002; cases e7002; replace hx7002_0 := (HB.out.cell (World.block_lt_of_cell? w _ hx7002_0)).trans hx7002_0; replace hx7002_1 := (HB.out.cell (World.block_lt_of_cell? w _ hx7002_1)).trans hx7002_1; replace p7002 := eq_true p7002; replace q7002 := eq_true q7002) | ((with_reducible refine gate_callee (f := 37) rfl ?_); refine goesL_ (some 9) rfl rfl Tryz.func37 (by kernel_rfl) rfl #[.slice A0 l0.length c0, .string a1] rfl zt7 ?_; (with_reducible refine (impl_fileAt.calls _ _ l0 a1 t569 _ ?side1 ?side2 A3.out).mono ?_); (case side1 => exact cz HR0.out); (case side2 => exact HC0.out); rintro e w7000 ⟨rfl, hb⟩; refine ⟨_, rfl, ?_⟩; have n0_ := Aside0.mk (below_step zt3 hb); clear HB; have HB := n0_; clear n0_; (try clear hb); (try clear hb2); (try clear hk); (try clear hi)) | (go_at_call 23; (with_reducible refine (impl_FilesOk.calls k _ _ l0 false _ ?side1 ?side2 (TabsL.below HTA.out zt3) A6.out).mono ?_); (case side1 => exact cz (Kd.C_below HR0.out HB.out)); (case side2 => exact HC0.out); rintro e w7001 ⟨rfl, hb⟩; have n0_ := Aside0.mk (below_step zt3 hb); clear HB; have HB := n0_; clear n0_; (try clear hb); (try clear hb2); (try clear hk); (try clear hi))); first | go_quiet (fail) | (go_ret2; exact ⟨zt10, zt3⟩))

end Go.Proofs.YtkmcnjpgamaljaaGreatDoor.PFnFiles

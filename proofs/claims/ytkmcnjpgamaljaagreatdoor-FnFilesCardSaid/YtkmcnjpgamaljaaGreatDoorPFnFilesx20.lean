-- Out of the kit's print, with contracts of mine among it (myprint.py).
import Derived.Test.YtkmcnjpgamaljaaGreatDoorPFnFilesx0
import Derived.Test.YtkmcnjpgamaljaaGreatDoorPFnFilesx6
import Derived.Test.YtkmcnjpgamaljaaGreatDoorPFnFilesx10
import Derived.Test.YtkmcnjpgamaljaaGreatDoorPFnFilesx18
namespace Go.Proofs.YtkmcnjpgamaljaaGreatDoor.PFnFiles
open Go.RowKit Go.Proofs.YtkmcnjpgamaljaaGreatDoorW.PrintWords Go.Proofs.YtkmcnjpgamaljaaGreatDoorW.PrintLast Go.Proofs.YtkmcnjpgamaljaaGreatDoorW.PrintMore
attribute [local go_sem] max2_int min2_int max_two min_two max_three min_three max_four min_four   -- for this text's walks alone
set_option linter.unusedVariables false
set_option linter.unusedSimpArgs false

attribute [local go_sem high] eqA33
/-! ### spec_Find: function 15 -/
def spec_Find.l0 : Nat → List (S33) → ByteArray → Int → Option (ByteArray × Bool)
 | 0, _, _, _ => none
 | k + 1, x0, x1, x6 => if x6 < (x0.length : Int) then (if 0 ≤ x6 then (if ((rd_T33 x0 x6).f0).toList = x1.toList then (some ((rd_T33 x0 x6).f1, true)) else (spec_Find.l0 k x0 x1 (wrap64 (x6 + 1)))) else (none)) else (some ((⟨#[]⟩ : ByteArray), false))
def spec_Find.f (k : Nat) (l0 : List (S33)) (a1 : ByteArray) : Option (ByteArray × Bool) := (spec_FilesOk.f k l0).bind fun t572 => (if t572 = true then (spec_Find.l0 k l0 a1 0) else (some ((⟨#[]⟩ : ByteArray), false)))
theorem spec_Find.mono_l : ∀ k, (∀ y0 y1 y2, LeO (spec_Find.l0 k y0 y1 y2) (spec_Find.l0 (k + 1) y0 y1 y2))
 | 0 => fun _ _ _ r h => by simp [spec_Find.l0] at h
 | k + 1 => by
  have ih0 := spec_Find.mono_l k
  ·intro y0 y1 y2
   unfold spec_Find.l0
   repeat' (first | (with_reducible first | exact ih0 _ _ _ | exact spec_FilesOk.mono _ _ | exact LeO.refl _ | exact LeO.none _ | refine LeO.ite ?_ ?_ | refine LeO.bind ?_ (fun _ => ?_)) | exact LeO.none _ | refine LeO.ite ?_ ?_ | refine LeO.bind ?_ (fun _ => ?_))
theorem spec_Find.mono : ∀ a0 a1 k, LeO (spec_Find.f k a0 a1) (spec_Find.f (k + 1) a0 a1) := by
 intro a0 a1 k
 have ih0 := spec_Find.mono_l k
 unfold spec_Find.f
 repeat' (first | (with_reducible first | exact ih0 _ _ _ | exact spec_FilesOk.mono _ _ | exact LeO.refl _ | exact LeO.none _ | refine LeO.ite ?_ ?_ | refine LeO.bind ?_ (fun _ => ?_)) | exact LeO.none _ | refine LeO.ite ?_ ?_ | refine LeO.bind ?_ (fun _ => ?_))
set_option maxHeartbeats 8000000 in
set_option maxRecDepth 100000 in
theorem spec_Find.calls (k : Nat) (A0 : Option Addr) (c0 : Nat) (l0 : List (S33)) (a1 : ByteArray) (r1 : ByteArray) (r2 : Bool) (w : World) (hr0 : Kd.C k33 w A0 l0.length l0) (hc0 : l0.length ≤ c0) (h : spec_Find.f k l0 a1 = some (r1, r2)) :
  Calls Tryz.prog 15 #[.slice A0 l0.length c0, .string a1] w fun e w' => e = .returned (.tuple #[.string r1, .bool r2]) ∧ Below w.heap.size w w' := by
 have HR0 := Aside0.mk hr0
 have HC0 := Aside0.mk hc0
 clear hr0 hc0
 have HB := Aside0.mk (Below.refl w.heap.size w)
 try unfold spec_Find.f at h
 have H := h
 clear h
 replace H := bnd H
 obtain ⟨t572, A3, H⟩ := H
 try dsimp only at H
 by_cases c4 : t572 = true
 ·subst c4
  rw [if_pos rfl] at H
  have H' := Aside0.mk H
  clear H
  go_enter Tryz.func15, Tryz.ntmps15
  go_wp2_with (first | ((with_reducible refine gate_callee (f := 8) rfl ?_); refine goesL_ (some 8) rfl rfl Tryz.func8 (by kernel_rfl) rfl #[.slice A0 l0.length c0] rfl zt7 ?_; (with_reducible refine (spec_FilesOk.calls k _ _ l0 true _ ?side1 ?side2 A3.out).mono ?_); (case side1 => exact cz HR0.out); (case side2 => exact HC0.out); rintro e w5 ⟨rfl, hb⟩; refine ⟨_, rfl, ?_⟩; have n0_ := Aside0.mk (below_step zt3 hb); clear HB; have HB := n0_; clear n0_; (try clear hb); (try clear hb2); (try clear hk); (try clear hi)))
  go_loopg [6] k (fun kq v6 w' => ∃ (x6_1 : Int), v6 = .int .i64 x6_1 ∧ Aside0 (spec_Find.l0 kq l0 a1 x6_1 = some (r1, r2)) ∧ Aside0 (kq ≤ k) ∧ Aside0 (Below w.heap.size w w'))
  case atStart => exact ⟨(0), zt12, H', ⟨Nat.le_refl _⟩, ⟨zt3⟩⟩
  case round =>
   clear H'
   try clear c1
   try clear p2
   try clear c4
   obtain ⟨x6_1, rfl, HA, HK1, HB⟩ := hrel
   cases gk with
   | zero => exact absurd HA.out (by simp [spec_Find.l0])
   | succ k1 =>
    have H := HA.out
    clear HA
    simp only [spec_Find.l0] at H
    by_cases c6 : x6_1 < (l0.length : Int)
    rw [if_pos c6] at H
    have c6b0 := decide_eq_true c6
    clear c6
    replace H := it0 H
    obtain ⟨c7, H⟩ := H
    have c7b0 : decide (0 ≤ x6_1) = true := decide_eq_true c7
    clear c7
    by_cases c8 : ((rd_T33 l0 x6_1).f0).toList = a1.toList
    rw [if_pos c8] at H
    have c8b0 := beq_iff_eq.mpr c8
    have c8b1 := bne_eq_false_iff_eq.mpr c8
    clear c8
    simp only [Option.some.injEq, Prod.mk.injEq] at H
    obtain ⟨rfl, rfl⟩ := H
    have p573 : 0 ≤ (x6_1 : Int) := of_decide_eq_true zt8
    have q573 : x6_1 < (l0.length : Int) := of_decide_eq_true zt8
    obtain ⟨ad573, e573, hx573_0, hx573_1⟩ := at_T33 HR0.out x6_1 p573 q573
    cases e573
    replace hx573_0 := (HB.out.cell (World.block_lt_of_cell? w _ hx573_0)).trans hx573_0
    replace hx573_1 := (HB.out.cell (World.block_lt_of_cell? w _ hx573_1)).trans hx573_1
    replace p573 := eq_true p573
    replace q573 := eq_true q573
    have p574 : 0 ≤ (x6_1 : Int) := of_decide_eq_true zt8
    have q574 : x6_1 < (l0.length : Int) := of_decide_eq_true zt8
    obtain ⟨ad574, e574, hx574_0, hx574_1⟩ := at_T33 HR0.out x6_1 p574 q574
    obtain rfl : ad573 = ad574 := (by injection e574)
    replace hx574_0 := (HB.out.cell (World.block_lt_of_cell? w _ hx574_0)).trans hx574_0
    replace hx574_1 := (HB.out.cell (World.block_lt_of_cell? w _ hx574_1)).trans hx574_1
    replace p574 := eq_true p574
    replace q574 := eq_true q574
    rotate_left
    rw [if_neg c8] at H
    have c8b0 := beq_eq_false_iff_ne.mpr c8
    have c8b1 := bne_iff_ne.mpr c8
    have H' := Aside0.mk H
    clear H
    have p573 : 0 ≤ (x6_1 : Int) := of_decide_eq_true zt8
    have q573 : x6_1 < (l0.length : Int) := of_decide_eq_true zt8
    obtain ⟨ad573, e573, hx573_0, hx573_1⟩ := at_T33 HR0.out x6_1 p573 q573
    cases e573
    replace hx573_0 := (HB.out.cell (World.block_lt_of_cell? w _ hx573_0)).trans hx573_0
    replace hx573_1 := (HB.out.cell (World.block_lt_of_cell? w _ hx573_1)).trans hx573_1
    replace p573 := eq_true p573
    replace q573 := eq_true q573
    rotate_left
    rw [if_neg c6] at H
    have c6b0 := decide_eq_false c6
    clear c6
    simp only [Option.some.injEq, Prod.mk.injEq] at H
    obtain ⟨rfl, rfl⟩ := H
    rotate_left
    all_goals
     repeat (go_wp2; first | go_quiet (fail) | (go_ret2; exact ⟨zt10, zt3⟩) | (go_roundg k1; (case measure => have := HK1.out; omega); (case rel => exact ⟨(wrap64 (x6_1 + 1)), zt12, H', ⟨by have := HK1.out; omega⟩, ⟨zt3⟩⟩)))
 ·replace c4 := Bool.eq_false_iff.mpr c4
  subst c4
  rw [if_neg (show ¬ (false = true) by decide)] at H
  simp only [Option.some.injEq, Prod.mk.injEq] at H
  obtain ⟨rfl, rfl⟩ := H
  go_enter Tryz.func15, Tryz.ntmps15
  go_wp2_with (first | ((with_reducible refine gate_callee (f := 8) rfl ?_); refine goesL_ (some 8) rfl rfl Tryz.func8 (by kernel_rfl) rfl #[.slice A0 l0.length c0] rfl zt7 ?_; (with_reducible refine (spec_FilesOk.calls k _ _ l0 false _ ?side1 ?side2 A3.out).mono ?_); (case side1 => exact cz HR0.out); (case side2 => exact HC0.out); rintro e w9 ⟨rfl, hb⟩; refine ⟨_, rfl, ?_⟩; have n0_ := Aside0.mk (below_step zt3 hb); clear HB; have HB := n0_; clear n0_; (try clear hb); (try clear hb2); (try clear hk); (try clear hi)))
  go_ret2
  exact ⟨zt10, zt3⟩

/-! ### impl_File_39: function 39 (a contract of mine) -/
def impl_File_39.f (l0 : List S33) (a1 : Int) (a2 : Int) : Option (List S33) := if 0 ≤ a1 ∧ a1 < l0.length ∧ a2 = a1 + 1 ∧ l0.length ≤ 1048576 then some (l0.take a1.toNat ++ l0.drop (a1.toNat + 1)) else none
def impl_File_39.enc (x : S33) : List Value := [.string x.f0, .string x.f1]
theorem impl_File_39.one (l : List S33) : ∀ u ∈ l.flatMap impl_File_39.enc, u.oneCell' = true := by
 intro u hu
 obtain ⟨x, _, hx⟩ := List.mem_flatMap.1 hu
 simp only [impl_File_39.enc, List.mem_cons, List.not_mem_nil, or_false] at hx
 rcases hx with rfl | rfl <;> rfl
set_option maxHeartbeats 4000000 in
set_option maxRecDepth 100000 in
theorem impl_File_39.calls (P0_ : Nat → Prop) (u9000_ : Value) (l0 : List S33) (a1 : Int) (a2 : Int) (r : List S33) (w0 w : World) (hB : Below w0.heap.size w0 w) (ho0 : Kd.R k33 33 w w0.heap.size P0_ u9000_ l0) (h : impl_File_39.f l0 a1 a2 = some r) :
  Calls Tryz.prog 39 #[u9000_, .int .i64 a1, .int .i64 a2] w fun e w' => ∃ v0_ : Value, e = .returned (v0_) ∧ Kd.R k33 33 w' w0.heap.size (fun k_ => (P0_ k_ ∨ w.heap.size ≤ k_)) v0_ r ∧ Below w0.heap.size w0 w' ∧ Kept w w' (fun k_ => P0_ k_) := by
 unfold impl_File_39.f at h
 by_cases c : 0 ≤ a1 ∧ a1 < l0.length ∧ a2 = a1 + 1 ∧ l0.length ≤ 1048576
 case neg => rw [if_neg c] at h; cases h
 rw [if_pos c] at h
 obtain rfl := Option.some.inj h
 obtain ⟨c0, c1, rfl, c3⟩ := c
 clear h
 obtain ⟨m, rfl⟩ : ∃ m : Nat, a1 = m := ⟨a1.toNat, by omega⟩
 have hm : m < l0.length := by omega
 obtain ⟨k, hk⟩ : ∃ k, l0.length = m + 1 + k := ⟨l0.length - (m + 1), by omega⟩
 obtain ⟨g, cap, cur, rfl, hb, hg, hnc, hmx, hs, ht, hok⟩ := YtkmcnjpgamaljaaGreatDoor.RowL.R_open (enc := impl_File_39.enc) (fun w base ok x cs hx => k33_openM hx) ho0 (by rintro rfl; simp at hm)
 have hsz : k33.sz = 2 := rfl
 have hl2 : ∀ x, (impl_File_39.enc x).length = 2 := fun _ => rfl
 rw [hsz] at hs ht
 rw [hk] at hnc ht ⊢
 rw [Int.toNat_natCast]
 -- what is moved
 obtain ⟨news, hnews⟩ : ∃ news, news = (l0.drop (m + 1)).flatMap impl_File_39.enc := ⟨_, rfl⟩
 have hnl : news.length = k * 2 := by rw [hnews, YtkmcnjpgamaljaaGreatDoor.RowL.flat_len hl2, List.length_drop]; omega
 have hone : ∀ u ∈ news, u.oneCell' = true := by rw [hnews]; exact impl_File_39.one _
 have hcur : ∀ j, j < (m + 1 + k) * 2 → cur.toList[j]? = (l0.flatMap impl_File_39.enc)[j]? := fun j hj => by rw [← ht, List.getElem?_take, if_pos hj]
 have hsp : l0.flatMap impl_File_39.enc = (l0.take (m + 1)).flatMap impl_File_39.enc ++ news := by rw [hnews, ← List.flatMap_append, List.take_append_drop]
 have htl : ((l0.take (m + 1)).flatMap impl_File_39.enc).length = (m + 1) * 2 := by rw [YtkmcnjpgamaljaaGreatDoor.RowL.flat_len hl2, List.length_take]; omega
 have hsrc0 : ∀ t u, news[t]? = some u → w.cell? ⟨g, (m + 1) * 2 + t, none⟩ = some u := by
  intro t u hu
  have hlt := (List.getElem?_eq_some_iff.1 hu).1
  rw [YtkmcnjpgamaljaaGreatDoor.RowL.cell_of hg, hcur _ (by omega), hsp, List.getElem?_append_right (by omega), htl, Nat.add_sub_cancel_left]
  exact hu
 obtain ⟨A, hA, hsrc⟩ : ∃ A : Addr, (if cap = m + 1 then some (⟨g, 0, none⟩ : Addr) else some ⟨g, (m + 1) * 2, none⟩) = some A ∧ ∀ t u, news[t]? = some u → w.drew.cell? (A.add t) = some u := by
  by_cases h : cap = m + 1
  ·refine ⟨⟨g, 0, none⟩, by simp [h], fun t u hu => ?_⟩
   have h0 : news.length = 0 := by rw [hnl]; omega
   rw [List.length_eq_zero_iff.1 h0] at hu
   simp at hu
  ·exact ⟨⟨g, (m + 1) * 2, none⟩, by simp [h], fun t u hu => by rw [Addr.add_lit]; exact hsrc0 t u hu⟩
 have hspare : ∀ t, t < news.length → (w.drew.cell? ⟨g, 0 + m * 2 + t, none⟩).isSome = true ∧ w.drew.frozen? ⟨g, 0 + m * 2 + t, none⟩ = false := by
  intro t ht'
  refine ⟨?_, YtkmcnjpgamaljaaGreatDoor.RowL.free_of hg _⟩
  show (w.cell? _).isSome = true
  rw [YtkmcnjpgamaljaaGreatDoor.RowL.cell_of hg, List.getElem?_eq_getElem (by rw [Array.length_toList]; omega)]; rfl
 obtain ⟨W1, hW1⟩ : ∃ W1, W1 = w.drew.setCells g (0 + m * 2) news := ⟨_, rfl⟩
 have hg1 : W1.heap[g]? = some (.cells (YtkmcnjpgamaljaaGreatDoor.RowL.lay cur (0 + m * 2) news) 33 (0, 0)) := by rw [hW1]; exact YtkmcnjpgamaljaaGreatDoor.RowL.heap_setCells g _ _ _ _ _ hg
 have hcl : ∀ ty, (Builtin.clear_ #[24] ty #[.slice (some ⟨g, (m + k) * 2, none⟩) 1 (cap - (m + k))]).run Tryz.prog W1 = .ok (.tuple #[]) (W1.setCells g ((m + k) * 2) [.string ⟨#[]⟩, .string ⟨#[]⟩]) :=
  fun ty => YtkmcnjpgamaljaaGreatDoor.RowL.run_clear_one W1 _ _ ty (.agg #[.string ⟨#[]⟩, .string ⟨#[]⟩]) Tryz.underlying24 Tryz.zeroValue33 (by intro u hu; simp [Value.cells] at hu; subst hu; rfl) g _ _
   (fun j hj => by
    have hj2 : j < 2 := hj
    rw [YtkmcnjpgamaljaaGreatDoor.RowL.cell_of hg1, List.getElem?_eq_getElem (by rw [Array.length_toList, YtkmcnjpgamaljaaGreatDoor.RowL.lay_size]; omega)]; rfl)
   (fun j hj => YtkmcnjpgamaljaaGreatDoor.RowL.free_of hg1 _)
 obtain ⟨W2, hW2⟩ : ∃ W2, W2 = W1.setCells g ((m + k) * 2) [.string ⟨#[]⟩, .string ⟨#[]⟩] := ⟨_, rfl⟩
 have hg2 : W2.heap[g]? = some (.cells (YtkmcnjpgamaljaaGreatDoor.RowL.lay (YtkmcnjpgamaljaaGreatDoor.RowL.lay cur (0 + m * 2) news) ((m + k) * 2) [.string ⟨#[]⟩, .string ⟨#[]⟩]) 33 (0, 0)) := by rw [hW2]; exact YtkmcnjpgamaljaaGreatDoor.RowL.heap_setCells g _ _ _ _ _ hg1
 have hres : Kd.R k33 33 W2 w0.heap.size (fun k_ => (P0_ k_ ∨ w.heap.size ≤ k_)) (.slice (some ⟨g, 0, none⟩) (m + k) cap) (l0.take m ++ l0.drop (m + 1)) := by
  have hrl : (l0.take m ++ l0.drop (m + 1)).length = m + k := by rw [List.length_append, List.length_take, List.length_drop]; omega
  have := YtkmcnjpgamaljaaGreatDoor.RowL.R_shut (d := k33) (enc := impl_File_39.enc) (l := l0.take m ++ l0.drop (m + 1)) (base := w0.heap.size) (ok := fun k_ => (P0_ k_ ∨ w.heap.size ≤ k_)) (fun w base ok x => ⟨_, _, rfl, rfl, rfl⟩) hl2 hb hg2 (by rw [hrl]; omega) hmx (by rw [YtkmcnjpgamaljaaGreatDoor.RowL.lay_size, YtkmcnjpgamaljaaGreatDoor.RowL.lay_size]; exact hs)
   (by
    have e1 : cur.toList.take (0 + m * 2) = (l0.take m).flatMap impl_File_39.enc := by
     rw [Nat.zero_add, show cur.toList.take (m * 2) = (cur.toList.take ((m + 1 + k) * 2)).take (m * 2) from by rw [List.take_take, Nat.min_eq_left (by omega)], ht]
     conv => lhs; rw [← List.take_append_drop m l0, List.flatMap_append]
     exact List.take_left' (by rw [YtkmcnjpgamaljaaGreatDoor.RowL.flat_len hl2, List.length_take]; omega)
    have e0 : ((l0.take m).flatMap impl_File_39.enc).length = m * 2 := by rw [YtkmcnjpgamaljaaGreatDoor.RowL.flat_len hl2, List.length_take]; omega
    rw [hrl, hsz, YtkmcnjpgamaljaaGreatDoor.RowL.lay_list _ _ _ (by rw [YtkmcnjpgamaljaaGreatDoor.RowL.lay_size, hs]; show (m + k) * 2 + 2 ≤ cap * 2; omega), List.take_append_of_le_length (by rw [List.length_take, Array.length_toList, YtkmcnjpgamaljaaGreatDoor.RowL.lay_size]; omega), List.take_take, Nat.min_self, YtkmcnjpgamaljaaGreatDoor.RowL.lay_list _ _ _ (by rw [hs, hnl]; omega), e1, List.flatMap_append, ← hnews, ← List.append_assoc]
    exact List.take_left' (by rw [List.length_append, e0, hnl]; omega))
   (.inl hok)
  rw [hrl] at this
  exact this
 have hbel : Below w0.heap.size w0 W2 := by
  rw [hW2, hW1]
  exact YtkmcnjpgamaljaaGreatDoor.RowL.below_cells hb _ _ _ (YtkmcnjpgamaljaaGreatDoor.RowL.below_cells hb _ _ _ (below_drew1 hB))
 have hkept : Kept w W2 (fun k_ => P0_ k_) := by
  rw [hW2, hW1]
  exact YtkmcnjpgamaljaaGreatDoor.RowL.kept_cells (S := fun k_ => P0_ k_) (.inl hok) _ _ _ (YtkmcnjpgamaljaaGreatDoor.RowL.kept_cells (S := fun k_ => P0_ k_) (.inl hok) _ _ _ (Kept.drew (Kept.refl _ _)))
 have HRES := Aside0.mk hres
 have HBEL := Aside0.mk hbel
 have HKEPT := Aside0.mk hkept
 have HW1 := Aside0.mk hW1
 have HW2 := Aside0.mk hW2
 have HSRC := Aside0.mk hsrc
 have HONE := Aside0.mk hone
 have HSPARE := Aside0.mk hspare
 have HNL := Aside0.mk hnl
 have hij : (m : Int) ≤ ((m + 1 : Nat) : Int) := by omega
 have hjn : ((m + 1 : Nat) : Int) ≤ ((m + 1 + k : Nat) : Int) := by omega
 have hncI : ((m + 1 + k : Nat) : Int) ≤ (cap : Int) := by omega
 have hmc : m ≤ cap := by omega
 have hm1c : m + 1 ≤ cap := by omega
 have mixed : Tryz.prog.follows .mixedOrders = true := by kernel_rfl
 have hi1 : (0 : Int) ≤ (m : Int) + 1 := by omega
 have hi2 : (m : Int) + 1 ≤ (m : Int) + 1 + (k : Int) := by omega
 have hi3 : (m : Int) + (k : Int) ≤ (m : Int) + 1 + (k : Int) := by omega
 have hi4 : (m : Int) + 1 + (k : Int) ≤ (cap : Int) := by omega
 have hi5 : (0 : Int) ≤ (m : Int) + (k : Int) := by omega
 have hi6 : ¬ (cap = m + k) := by omega
 have hi7 : m + 1 + k - (m + k) = 1 := by omega
 obtain ⟨i0, hi0, hz⟩ := Option.map_eq_some_iff.1 info33
 simp only [Prod.mk.injEq] at hz
 have hi02 := hz.2.1
 clear hz
 clear hres hbel hkept hW1 hW2 hsrc hone hspare hnl hg1 hg2 hcur hsp htl hsrc0 hs ht hg ho0 hB hb hok hnews
 rw [show ((m : Int) + 1) = ((m + 1 : Nat) : Int) from by omega]
 try simp only [ByteArray.size_append, lsz, List.length_cons, List.length_nil, Nat.reduceAdd] at *
 go_enter Tryz.func39, Tryz.ntmps39
 go_wp2_with fail
 go_region_law_o (refine step_append_room rfl (.tmp 22) (.tmp 25) 24 rfl 33 i0 2 Tryz.underlying24 hi0 hi02 g 0 m cap (by simp [Act.eval, Act.put]) A k (cap - (m + 1)) news (by simp [Act.eval, Act.put]) HNL.out HSRC.out HONE.out (by omega) HSPARE.out ?_; rw [← HW1.out])
 go_wp2
 rw [← HW2.out]
 go_ret
 exact ⟨_, rfl, HRES.out, HBEL.out, HKEPT.out⟩

/-! ### impl_DropFile: function 16 -/
def impl_DropFile.f (k : Nat) (l0 : List (S33)) (a1 : ByteArray) : Option ((List (S33)) × Bool) := (impl_FilesOk.f k l0).bind fun t575 => (if t575 = true then ((impl_fileAt.f l0 a1).bind fun t576 => (if t576 < 0 then ((impl_File_36.f l0).bind fun t577 => (some (t577, false))) else ((impl_File_36.f l0).bind fun t580 => ((impl_File_39.f t580 t576 (wrap64 (t576 + 1))).bind fun t583 => (some (t583, true)))))) else (some (([] : List (S33)), false)))
theorem impl_DropFile.mono : ∀ a0 a1 k, LeO (impl_DropFile.f k a0 a1) (impl_DropFile.f (k + 1) a0 a1) := by
 intro a0 a1 k
 unfold impl_DropFile.f
 repeat' (first | (with_reducible first | exact impl_FilesOk.mono _ _ | exact LeO.refl _ | exact LeO.none _ | refine LeO.ite ?_ ?_ | refine LeO.bind ?_ (fun _ => ?_)) | exact LeO.none _ | refine LeO.ite ?_ ?_ | refine LeO.bind ?_ (fun _ => ?_))
set_option maxHeartbeats 8000000 in
set_option maxRecDepth 100000 in
theorem impl_DropFile.calls (k : Nat) (A0 : Option Addr) (c0 : Nat) (l0 : List (S33)) (a1 : ByteArray) (r1 : List (S33)) (r2 : Bool) (w : World) (hr0 : Kd.C k33 w A0 l0.length l0) (hc0 : l0.length ≤ c0) (HT : TabsL w) (h : impl_DropFile.f k l0 a1 = some (r1, r2)) :
  Calls Tryz.prog 16 #[.slice A0 l0.length c0, .string a1] w fun e w' => ∃ v0_ : Value, e = .returned (.tuple #[v0_, .bool r2]) ∧ Kd.R k33 33 w' w.heap.size (fun _ => True) v0_ r1 ∧ Below w.heap.size w w' := by
 have HTA := Aside0.mk HT
 clear HT
 have HR0 := Aside0.mk hr0
 have HC0 := Aside0.mk hc0
 clear hr0 hc0
 have HB := Aside0.mk (Below.refl w.heap.size w)
 try unfold impl_DropFile.f at h
 have H := h
 clear h
 replace H := bnd H
 obtain ⟨t575, A3, H⟩ := H
 try dsimp only at H
 by_cases c4 : t575 = true
 subst c4
 rw [if_pos rfl] at H
 replace H := bnd H
 obtain ⟨t576, A5, H⟩ := H
 try dsimp only at H
 by_cases c6 : t576 < 0
 rw [if_pos c6] at H
 have c6b0 : decide (t576 < 0) = true := decide_eq_true c6
 clear c6
 replace H := bnd H
 obtain ⟨t577, A7, H⟩ := H
 try dsimp only at H
 simp only [Option.some.injEq, Prod.mk.injEq] at H
 obtain ⟨rfl, rfl⟩ := H
 rotate_left
 rw [if_neg c6] at H
 have c6b0 : decide (t576 < 0) = false := decide_eq_false c6
 clear c6
 replace H := bnd H
 obtain ⟨t580, A11, H⟩ := H
 try dsimp only at H
 replace H := bnd H
 obtain ⟨t583, A12, H⟩ := H
 try dsimp only at H
 simp only [Option.some.injEq, Prod.mk.injEq] at H
 obtain ⟨rfl, rfl⟩ := H
 rotate_left
 replace c4 := Bool.eq_false_iff.mpr c4
 subst c4
 rw [if_neg (show ¬ (false = true) by decide)] at H
 simp only [Option.some.injEq, Prod.mk.injEq] at H
 obtain ⟨rfl, rfl⟩ := H
 rotate_left
 all_goals
  go_enter Tryz.func16, Tryz.ntmps16
  repeat (go_wp2_with (first | ((with_reducible refine gate_callee (f := 36) rfl ?_); refine goesL_ (some 18) rfl rfl Tryz.func36 (by kernel_rfl) rfl #[.slice A0 l0.length c0] rfl zt7 ?_; (with_reducible refine (impl_File_36.calls _ _ l0 t580 _ ?side1 ?side2 A11.out).mono ?_); (case side1 => exact cz (Kd.C_below HR0.out HB.out)); (case side2 => exact HC0.out); rintro e w7002 ⟨v7003, rfl, ho7004, hb⟩; refine ⟨_, rfl, ?_⟩; have n0_ := Aside0.mk (Kd.R_lower ho7004 (below_size zt3)); have n1_ := Aside0.mk (below_step zt3 hb); clear HB; have HO7005 := n0_; have HB := n1_; clear n0_ n1_; (try clear hb); (try clear hb2); (try clear hk); (try clear hi); (try clear ho7004); obtain ⟨Ao7006, co7006, eo7006⟩ := Kd.R_slice HO7005.out; subst eo7006) | ((with_reducible refine gate_callee (f := 36) rfl ?_); refine goesL_ (some 16) rfl rfl Tryz.func36 (by kernel_rfl) rfl #[.slice A0 l0.length c0] rfl zt7 ?_; (with_reducible refine (impl_File_36.calls _ _ l0 t577 _ ?side1 ?side2 A7.out).mono ?_); (case side1 => exact cz (Kd.C_below HR0.out HB.out)); (case side2 => exact HC0.out); rintro e w7002 ⟨v7003, rfl, ho7004, hb⟩; refine ⟨_, rfl, ?_⟩; have n0_ := Aside0.mk (Kd.R_lower ho7004 (below_size zt3)); have n1_ := Aside0.mk (below_step zt3 hb); clear HB; have HO7005 := n0_; have HB := n1_; clear n0_ n1_; (try clear hb); (try clear hb2); (try clear hk); (try clear hi); (try clear ho7004)) | ((with_reducible refine gate_callee (f := 39) rfl ?_); refine goesL_ (some 22) rfl rfl Tryz.func39 (by kernel_rfl) rfl #[.slice Ao7006 t580.length co7006, .int .i64 t576, .int .i64 (wrap64 (t576 + 1))] rfl zt7 ?_; (with_reducible refine (impl_File_39.calls (fun k_ => some k_ = (.slice Ao7006 t580.length co7006 : Value).ownBlock) (.slice Ao7006 t580.length co7006) t580 t576 (wrap64 (t576 + 1)) t583 w _ ?side1 ?side2 A12.out).mono ?_); (case side1 => exact zt3); (case side2 => exact Kd.R_tight rfl HO7005.out); rintro e w7007 ⟨v7008, rfl, ho7004, hb, hkp⟩; refine ⟨_, rfl, ?_⟩; have n0_ := Aside0.mk (Kd.R_mono (ok' := fun k_ => True) ho7004 (fun k_ hk_ => trivial)); have n1_ := Aside0.mk (hb); clear HB; clear HO7005; have HO7009 := n0_; have HB := n1_; clear n0_ n1_; (try clear hb); (try clear hkp); (try clear ho7004)) | ((with_reducible refine gate_callee (f := 23) rfl ?_); refine goesL_ (some 8) rfl rfl Tryz.func23 (by kernel_rfl) rfl #[.slice A0 l0.length c0] rfl zt7 ?_; (with_reducible refine (impl_FilesOk.calls k _ _ l0 false _ ?side1 ?side2 (TabsL.below HTA.out zt3) A3.out).mono ?_); (case side1 => exact cz HR0.out); (case side2 => exact HC0.out); rintro e w7000 ⟨rfl, hb⟩; refine ⟨_, rfl, ?_⟩; have n0_ := Aside0.mk (below_step zt3 hb); clear HB; have HB := n0_; clear n0_; (try clear hb); (try clear hb2); (try clear hk); (try clear hi)) | ((with_reducible refine gate_callee (f := 23) rfl ?_); refine goesL_ (some 8) rfl rfl Tryz.func23 (by kernel_rfl) rfl #[.slice A0 l0.length c0] rfl zt7 ?_; (with_reducible refine (impl_FilesOk.calls k _ _ l0 true _ ?side1 ?side2 (TabsL.below HTA.out zt3) A3.out).mono ?_); (case side1 => exact cz HR0.out); (case side2 => exact HC0.out); rintro e w7000 ⟨rfl, hb⟩; refine ⟨_, rfl, ?_⟩; have n0_ := Aside0.mk (below_step zt3 hb); clear HB; have HB := n0_; clear n0_; (try clear hb); (try clear hb2); (try clear hk); (try clear hi)) | ((with_reducible refine gate_callee (f := 37) rfl ?_); refine goesL_ (some 12) rfl rfl Tryz.func37 (by kernel_rfl) rfl #[.slice A0 l0.length c0, .string a1] rfl zt7 ?_; (with_reducible refine (impl_fileAt.calls _ _ l0 a1 t576 _ ?side1 ?side2 A5.out).mono ?_); (case side1 => exact cz (Kd.C_below HR0.out HB.out)); (case side2 => exact HC0.out); rintro e w7001 ⟨rfl, hb⟩; refine ⟨_, rfl, ?_⟩; have n0_ := Aside0.mk (below_step zt3 hb); clear HB; have HB := n0_; clear n0_; (try clear hb); (try clear hb2); (try clear hk); (try clear hi))); first | go_quiet (fail) | (go_ret2; exact ⟨_, zt10, by (with_reducible repeat (first | apply Kd.R_alloc | apply Kd.R_drewN | apply Kd.R_drew)); exact HO7005.out, zt3⟩) | (go_ret2; exact ⟨_, zt10, by (with_reducible repeat (first | apply Kd.R_alloc | apply Kd.R_drewN | apply Kd.R_drew)); exact HO7009.out, zt3⟩) | (go_ret2; exact ⟨_, zt10, by first | exact Kd.R_nil _ _ _ _ _ | exact Kd.N_nil _ _ _ _ _ | exact Kd.V_nil _ _ _ _ _ | exact Kd.Q_nil _ _ _ _ _ | exact Kd.S_nil _ _ _ _ _, zt3⟩))

/-! ### impl_File_58: function 58 -/
def impl_File_58.l0 : Nat → List (S33) → Int → Int → ByteArray → ByteArray → Option (Int)
 | 0, _, _, _, _, _ => none
 | k + 1, x0, x7, x8, x587000, x587001 => if x8 < x7 then (if 0 ≤ x8 then (if x8 < (x0.length : Int) then (if (x587000.toList == (((rd_T33 x0 x8).f0).toList) && (x587001.toList == (((rd_T33 x0 x8).f1).toList))) = true then (some x8) else (impl_File_58.l0 k x0 x7 (wrap64 (x8 + 1)) x587000 x587001)) else (none)) else (none)) else (some (-1))
def impl_File_58.f (k : Nat) (l0 : List (S33)) (a1_0 : ByteArray) (a1_1 : ByteArray) : Option (Int) := impl_File_58.l0 k l0 (l0.length : Int) 0 a1_0 a1_1
theorem impl_File_58.mono_l : ∀ k, (∀ y0 y1 y2 y3 y4, LeO (impl_File_58.l0 k y0 y1 y2 y3 y4) (impl_File_58.l0 (k + 1) y0 y1 y2 y3 y4))
 | 0 => fun _ _ _ _ _ r h => by simp [impl_File_58.l0] at h
 | k + 1 => by
  have ih0 := impl_File_58.mono_l k
  ·intro y0 y1 y2 y3 y4
   unfold impl_File_58.l0
   repeat' (first | (with_reducible first | exact ih0 _ _ _ _ _ | exact LeO.refl _ | exact LeO.none _ | refine LeO.ite ?_ ?_ | refine LeO.bind ?_ (fun _ => ?_)) | exact LeO.none _ | refine LeO.ite ?_ ?_ | refine LeO.bind ?_ (fun _ => ?_))
theorem impl_File_58.mono : ∀ a0 a1 a2 k, LeO (impl_File_58.f k a0 a1 a2) (impl_File_58.f (k + 1) a0 a1 a2) := by
 intro a0 a1 a2 k
 have ih0 := impl_File_58.mono_l k
 unfold impl_File_58.f
 repeat' (first | (with_reducible first | exact ih0 _ _ _ _ _ | exact LeO.refl _ | exact LeO.none _ | refine LeO.ite ?_ ?_ | refine LeO.bind ?_ (fun _ => ?_)) | exact LeO.none _ | refine LeO.ite ?_ ?_ | refine LeO.bind ?_ (fun _ => ?_))
set_option maxHeartbeats 8000000 in
set_option maxRecDepth 100000 in
theorem impl_File_58.calls (k : Nat) (A0 : Option Addr) (c0 : Nat) (l0 : List (S33)) (a1_0 : ByteArray) (a1_1 : ByteArray) (r : Int) (w : World) (hr0 : Kd.C k33 w A0 l0.length l0) (hc0 : l0.length ≤ c0) (h : impl_File_58.f k l0 a1_0 a1_1 = some r) :
  Calls Tryz.prog 58 #[.slice A0 l0.length c0, .agg #[.string a1_0, .string a1_1]] w fun e w' => e = .returned (.int .i64 r) ∧ Below w.heap.size w w' := by
 have hu33 := Tryz.underlying33
 have HR0 := Aside0.mk hr0
 have HC0 := Aside0.mk hc0
 clear hr0 hc0
 have HB := Aside0.mk (Below.refl w.heap.size w)
 try unfold impl_File_58.f at h
 have H := h
 clear h
 have H' := Aside0.mk H
 clear H
 go_enter Tryz.func58, Tryz.ntmps58
 go_wp2_with (first | ((with_reducible refine gate_dst (N := 3) rfl ?_); refine box_event ?hg (N := 3) ?hd (cs := #[.string a1_0, .string a1_1]) (t := 33) ?hr ?_; (case hd => rfl); (case hg => rfl); (case hr => first | (go_simp; done) | (go_simp; rfl)); intro gb586 hg w3 hbox hb; have n0_ := Aside0.mk (below_step zt3 hb); have n1_ := Aside0.mk (hbox); have n2_ := Aside0.mk ((zt13 : w.heap.size ≤ gb586)); have n3_ := Aside0.mk ((zt13 : w.heap.size ≤ gb586)); clear HB; have HB := n0_; have BK586 := n1_; have GW586 := n2_; have GE586 := n3_; clear n0_ n1_ n2_ n3_; clear hb hbox hg))
 repeat (go_quiet (first | ((with_reducible refine gate_dst (N := 3) rfl ?_); refine box_event ?hg (N := 3) ?hd (cs := #[.string a1_0, .string a1_1]) (t := 33) ?hr ?_; (case hd => rfl); (case hg => rfl); (case hr => first | (go_simp; done) | (go_simp; rfl)); intro gb586 hg w3 hbox hb; have n0_ := Aside0.mk (below_step zt3 hb); have n1_ := Aside0.mk (hbox); have n2_ := Aside0.mk ((zt13 : w.heap.size ≤ gb586)); have n3_ := Aside0.mk ((zt13 : w.heap.size ≤ gb586)); clear HB; have HB := n0_; have BK586 := n1_; have GW586 := n2_; have GE586 := n3_; clear n0_ n1_ n2_ n3_; clear hb hbox hg)); try go_wp2_with (first | ((with_reducible refine gate_dst (N := 3) rfl ?_); refine box_event ?hg (N := 3) ?hd (cs := #[.string a1_0, .string a1_1]) (t := 33) ?hr ?_; (case hd => rfl); (case hg => rfl); (case hr => first | (go_simp; done) | (go_simp; rfl)); intro gb586 hg w3 hbox hb; have n0_ := Aside0.mk (below_step zt3 hb); have n1_ := Aside0.mk (hbox); have n2_ := Aside0.mk ((zt13 : w.heap.size ≤ gb586)); have n3_ := Aside0.mk ((zt13 : w.heap.size ≤ gb586)); clear HB; have HB := n0_; have BK586 := n1_; have GW586 := n2_; have GE586 := n3_; clear n0_ n1_ n2_ n3_; clear hb hbox hg)))
 go_loopg [8] k (fun kq v8 w' => ∃ (x8_1 : Int), v8 = .int .i64 x8_1 ∧ Aside0 (impl_File_58.l0 kq l0 (l0.length : Int) x8_1 a1_0 a1_1 = some r) ∧ Aside0 (kq ≤ k) ∧ Aside0 (w'.heap[gb586]? = some (.cells #[.string a1_0, .string a1_1] 33 (0, 0))) ∧ Aside0 (Below w.heap.size w w'))
 case atStart => exact ⟨(0), zt12, H', ⟨Nat.le_refl _⟩, ⟨by (with_reducible repeat (first | refine blk_drewN ?_ _ | refine blk_drew ?_ | refine blk_alloc ?_ _)); exact BK586.out⟩, ⟨by repeat (first | (with_reducible first | exact HB.out | apply below_alloc | apply pw_below_drewN | apply below_drew1 | refine below_set ?_ GE586.out) | exact HB.out)⟩⟩
 case round =>
  clear H'
  try clear p2
  obtain ⟨x8_1, rfl, HA, HK1, BK586, HB⟩ := hrel
  cases gk with
  | zero => exact absurd HA.out (by simp [impl_File_58.l0])
  | succ k1 =>
   have H := HA.out
   clear HA
   simp only [impl_File_58.l0] at H
   by_cases c4 : x8_1 < (l0.length : Int)
   rw [if_pos c4] at H
   have c4b0 := decide_eq_true c4
   clear c4
   replace H := it0 H
   obtain ⟨c5, H⟩ := H
   have c5b0 : decide (0 ≤ x8_1) = true := decide_eq_true c5
   clear c5
   replace H := it0 H
   obtain ⟨c6, H⟩ := H
   have c6b0 := decide_eq_true c6
   clear c6
   by_cases c7 : (a1_0.toList == (((rd_T33 l0 x8_1).f0).toList) && (a1_1.toList == (((rd_T33 l0 x8_1).f1).toList))) = true
   rw [if_pos c7] at H
   have c7b0 : (a1_0.toList == (((rd_T33 l0 x8_1).f0).toList) && (a1_1.toList == (((rd_T33 l0 x8_1).f1).toList))) = true := c7
   (try (have c7b1 : decide (a1_0.toList = (((rd_T33 l0 x8_1).f0).toList) && (a1_1.toList == (((rd_T33 l0 x8_1).f1).toList))) = true := by simpa using c7))
   (try (have c7b2 : (a1_0.toList == (((rd_T33 l0 x8_1).f0).toList) && (a1_1.toList == (((rd_T33 l0 x8_1).f1).toList))) = true := by simpa using c7))
   clear c7
   obtain rfl := Option.some.inj H
   have hcz8_0 : wr.cell? ⟨gb586, 0, none⟩ = some (.string a1_0) := (blk_cell BK586.out 0).trans rfl
   have hcz8_1 : wr.cell? ⟨gb586, 1, none⟩ = some (.string a1_1) := (blk_cell BK586.out 1).trans rfl
   have hfz8_0 := blk_frozen BK586.out 0
   have hfz8_1 := blk_frozen BK586.out 1
   have p587 : 0 ≤ (x8_1 : Int) := of_decide_eq_true zt8
   have q587 : x8_1 < (l0.length : Int) := of_decide_eq_true zt8
   obtain ⟨ad587, e587, hx587_0, hx587_1⟩ := at_T33 HR0.out x8_1 p587 q587
   cases e587
   replace hx587_0 := (HB.out.cell (World.block_lt_of_cell? w _ hx587_0)).trans hx587_0
   replace hx587_1 := (HB.out.cell (World.block_lt_of_cell? w _ hx587_1)).trans hx587_1
   replace p587 := eq_true p587
   replace q587 := eq_true q587
   rotate_left
   rw [if_neg c7] at H
   have c7b0 : (a1_0.toList == (((rd_T33 l0 x8_1).f0).toList) && (a1_1.toList == (((rd_T33 l0 x8_1).f1).toList))) = false := by simpa using c7
   (try (have c7b1 : decide (a1_0.toList = (((rd_T33 l0 x8_1).f0).toList) && (a1_1.toList == (((rd_T33 l0 x8_1).f1).toList))) = false := by simpa using c7))
   (try (have c7b2 : (a1_0.toList == (((rd_T33 l0 x8_1).f0).toList) && (a1_1.toList == (((rd_T33 l0 x8_1).f1).toList))) = false := by simpa using c7))
   (try (have c7b3 : ¬ (a1_0.toList = (((rd_T33 l0 x8_1).f0).toList) && (a1_1.toList == (((rd_T33 l0 x8_1).f1).toList))) := by simpa using c7))
   clear c7
   have H' := Aside0.mk H
   clear H
   have hcz9_0 : wr.cell? ⟨gb586, 0, none⟩ = some (.string a1_0) := (blk_cell BK586.out 0).trans rfl
   have hcz9_1 : wr.cell? ⟨gb586, 1, none⟩ = some (.string a1_1) := (blk_cell BK586.out 1).trans rfl
   have hfz9_0 := blk_frozen BK586.out 0
   have hfz9_1 := blk_frozen BK586.out 1
   have p587 : 0 ≤ (x8_1 : Int) := of_decide_eq_true zt8
   have q587 : x8_1 < (l0.length : Int) := of_decide_eq_true zt8
   obtain ⟨ad587, e587, hx587_0, hx587_1⟩ := at_T33 HR0.out x8_1 p587 q587
   cases e587
   replace hx587_0 := (HB.out.cell (World.block_lt_of_cell? w _ hx587_0)).trans hx587_0
   replace hx587_1 := (HB.out.cell (World.block_lt_of_cell? w _ hx587_1)).trans hx587_1
   replace p587 := eq_true p587
   replace q587 := eq_true q587
   rotate_left
   rw [if_neg c4] at H
   have c4b0 := decide_eq_false c4
   clear c4
   obtain rfl := Option.some.inj H
   rotate_left
   all_goals
    repeat (go_wp2; first | go_quiet (fail) | (go_ret; exact ⟨zt10, by repeat (first | (with_reducible first | exact HB.out | apply below_alloc | apply pw_below_drewN | apply below_drew1 | refine below_set ?_ GE586.out) | exact HB.out)⟩) | (go_roundg k1; (case measure => have := HK1.out; omega); (case rel => exact ⟨(wrap64 (x8_1 + 1)), zt12, H', ⟨by have := HK1.out; omega⟩, ⟨by (with_reducible repeat (first | refine blk_drewN ?_ _ | refine blk_drew ?_ | refine blk_alloc ?_ _)); exact BK586.out⟩, ⟨by repeat (first | (with_reducible first | exact HB.out | apply below_alloc | apply pw_below_drewN | apply below_drew1 | refine below_set ?_ GE586.out) | exact HB.out)⟩⟩)))

/-! ### impl_File_40: function 40 -/
def impl_File_40.f (k : Nat) (l0 : List (S33)) (a1_0 : ByteArray) (a1_1 : ByteArray) : Option (Bool) := (impl_File_58.f k l0 a1_0 a1_1).bind fun t589 => (some (decide (t589 ≥ 0)))
theorem impl_File_40.mono : ∀ a0 a1 a2 k, LeO (impl_File_40.f k a0 a1 a2) (impl_File_40.f (k + 1) a0 a1 a2) := by
 intro a0 a1 a2 k
 unfold impl_File_40.f
 repeat' (first | (with_reducible first | exact impl_File_58.mono _ _ _ _ | exact LeO.refl _ | exact LeO.none _ | refine LeO.ite ?_ ?_ | refine LeO.bind ?_ (fun _ => ?_)) | exact LeO.none _ | refine LeO.ite ?_ ?_ | refine LeO.bind ?_ (fun _ => ?_))
set_option maxHeartbeats 8000000 in
set_option maxRecDepth 100000 in
theorem impl_File_40.calls (k : Nat) (A0 : Option Addr) (c0 : Nat) (l0 : List (S33)) (a1_0 : ByteArray) (a1_1 : ByteArray) (r : Bool) (w : World) (hr0 : Kd.C k33 w A0 l0.length l0) (hc0 : l0.length ≤ c0) (h : impl_File_40.f k l0 a1_0 a1_1 = some r) :
  Calls Tryz.prog 40 #[.slice A0 l0.length c0, .agg #[.string a1_0, .string a1_1]] w fun e w' => e = .returned (.bool r) ∧ Below w.heap.size w w' := by
 have hu33 := Tryz.underlying33
 have HR0 := Aside0.mk hr0
 have HC0 := Aside0.mk hc0
 clear hr0 hc0
 have HB := Aside0.mk (Below.refl w.heap.size w)
 try unfold impl_File_40.f at h
 have H := h
 clear h
 replace H := bnd H
 obtain ⟨t589, A3, H⟩ := H
 try dsimp only at H
 obtain rfl := Option.some.inj H
 go_enter Tryz.func40, Tryz.ntmps40
 go_wp2_with (first | ((with_reducible refine gate_dst (N := 3) rfl ?_); refine box_event ?hg (N := 3) ?hd (cs := #[.string a1_0, .string a1_1]) (t := 33) ?hr ?_; (case hd => rfl); (case hg => rfl); (case hr => first | (go_simp; done) | (go_simp; rfl)); intro gb588 hg w4 hbox hb; have n0_ := Aside0.mk (below_step zt3 hb); have n1_ := Aside0.mk (hbox); have n2_ := Aside0.mk ((zt13 : w.heap.size ≤ gb588)); have n3_ := Aside0.mk ((zt13 : w.heap.size ≤ gb588)); clear HB; have HB := n0_; have BK588 := n1_; have GW588 := n2_; have GE588 := n3_; clear n0_ n1_ n2_ n3_; clear hb hbox hg; have hcz5_0 : w4.cell? ⟨gb588, 0, none⟩ = some (.string a1_0) := (blk_cell BK588.out 0).trans rfl; have hcz5_1 : w4.cell? ⟨gb588, 1, none⟩ = some (.string a1_1) := (blk_cell BK588.out 1).trans rfl; have hfz5_0 := blk_frozen BK588.out 0; have hfz5_1 := blk_frozen BK588.out 1) | ((with_reducible refine gate_callee (f := 58) rfl ?_); refine goesL_ (some 7) rfl rfl Tryz.func58 (by kernel_rfl) rfl #[.slice A0 l0.length c0, .agg #[.string a1_0, .string a1_1]] rfl zt7 ?_; (with_reducible refine (impl_File_58.calls k _ _ l0 a1_0 a1_1 t589 _ ?side1 ?side2 A3.out).mono ?_); (case side1 => exact cz (Kd.C_below HR0.out HB.out)); (case side2 => exact HC0.out); rintro e w6 ⟨rfl, hb⟩; refine ⟨_, rfl, ?_⟩; have n0_ := Aside0.mk (blk_below (g := gb588) (o := .cells #[.string a1_0, .string a1_1] 33 (0, 0)) (oz BK588.out) hb); have n1_ := Aside0.mk (below_step (by repeat (first | (with_reducible first | exact HB.out | apply below_alloc | apply pw_below_drewN | apply below_drew1 | refine below_set ?_ GE588.out) | exact HB.out)) hb); clear BK588; clear HB; have BK588 := n0_; have HB := n1_; clear n0_ n1_; (try clear hb); (try clear hb2); (try clear hk); (try clear hi)))
 go_ret
 exact ⟨zt10, by repeat (first | (with_reducible first | exact HB.out | apply below_alloc | apply pw_below_drewN | apply below_drew1 | refine below_set ?_ GE588.out) | exact HB.out)⟩

/-! ### impl_rising: function 41 (a contract of mine) -/
def impl_rising.f (l0 : List ByteArray) : Option (List ByteArray) := YtkmcnjpgamaljaaGreatDoor.RisingL.rising.f l0
theorem impl_rising.calls (P0_ : Nat → Prop) (u9000_ : Value) (l0 : List ByteArray) (r : List ByteArray) (w0 w : World) (hB : Below w0.heap.size w0 w) (ho0 : Kd.R Kd.string 9 w w0.heap.size P0_ u9000_ l0) (h : impl_rising.f l0 = some r) :
  Calls Tryz.prog 41 #[u9000_] w fun e w' => ∃ v0_ : Value, e = .returned (v0_) ∧ Kd.R Kd.string 9 w' w0.heap.size (fun k_ => (P0_ k_ ∨ w.heap.size ≤ k_)) v0_ r ∧ Below w0.heap.size w0 w' ∧ Kept w w' (fun k_ => P0_ k_) :=
 YtkmcnjpgamaljaaGreatDoor.RisingL.rising.calls P0_ u9000_ l0 r w0 w hB ho0 h

/-! ### impl_Changed: function 17 (a contract of mine) -/
def impl_Changed.inF (b : List S33) (x : S33) : Bool := b.any fun y => (x.f0.toList == y.f0.toList && (x.f1.toList == y.f1.toList))
def impl_Changed.dif (a b : List S33) : List ByteArray := (a.filter fun x => !impl_Changed.inF b x).map (·.f0)
def impl_Changed.f (k : Nat) (l0 : List S33) (l1 : List S33) : Option (List ByteArray) :=
 (impl_FilesOk.f k l0).bind fun t => if t = true then (impl_FilesOk.f k l1).bind fun u => if u = true then (if l0.length ≤ 1048576 ∧ l1.length ≤ 1048576 then impl_rising.f (impl_Changed.dif l0 l1 ++ impl_Changed.dif l1 l0) else none) else some [] else some []
theorem impl_Changed.mono : ∀ a0 a1 k, LeO (impl_Changed.f k a0 a1) (impl_Changed.f (k + 1) a0 a1) := by
 intro a0 a1 k
 unfold impl_Changed.f
 exact LeO.bind (impl_FilesOk.mono _ _) (fun _ => LeO.ite (LeO.bind (impl_FilesOk.mono _ _) (fun _ => LeO.refl _)) (LeO.refl _))

theorem impl_Changed.has_loop (b : List S33) (hl : b.length ≤ 1048576) (x : S33) (d : Nat) : ∀ i : Nat, i + d = b.length → ∃ k j, impl_File_58.l0 k b (b.length : Int) i x.f0 x.f1 = some j ∧ decide (j ≥ 0) = impl_Changed.inF (b.drop i) x := by
 induction d with
 | zero =>
  intro i hi
  rw [List.drop_eq_nil_of_le (by omega)]
  refine ⟨1, -1, ?_, rfl⟩
  have c : ¬ (i : Int) < (b.length : Int) := by omega
  simp only [impl_File_58.l0, if_neg c]
 | succ d ih =>
  intro i hi
  have hn : wrap64 ((i : Int) + 1) = ((i + 1 : Nat) : Int) := by unfold wrap64; omega
  have c0 : (i : Int) < (b.length : Int) := by omega
  have c1 : 0 ≤ (i : Int) := by omega
  have e0 : b.drop i = rd_T33 b (i : Int) :: b.drop (i + 1) := by
   rw [List.drop_eq_getElem_cons (by omega)]
   congr 1
   show _ = b.getD _ _
   rw [Int.toNat_natCast, List.getD_eq_getElem?_getD, List.getElem?_eq_getElem (by omega)]; rfl
  rw [e0, show ∀ (y : S33) (r : List S33), impl_Changed.inF (y :: r) x = ((x.f0.toList == y.f0.toList && (x.f1.toList == y.f1.toList)) || impl_Changed.inF r x) from fun _ _ => rfl]
  by_cases h : (x.f0.toList == (rd_T33 b (i : Int)).f0.toList && (x.f1.toList == (rd_T33 b (i : Int)).f1.toList)) = true
  ·refine ⟨1, i, ?_, ?_⟩
   ·simp only [impl_File_58.l0, if_pos c0, if_pos c1, if_pos h]
   ·rw [h, Bool.true_or]; exact decide_eq_true c1
  ·obtain ⟨k, j, e, hj⟩ := ih (i + 1) (by omega)
   refine ⟨k + 1, j, ?_, ?_⟩
   ·simp only [impl_File_58.l0, if_pos c0, if_pos c1, if_neg h, hn]; exact e
   ·rw [hj, Bool.eq_false_iff.2 h, Bool.false_or]
theorem impl_Changed.has (b : List S33) (hl : b.length ≤ 1048576) (x : S33) : ∃ k, impl_File_40.f k b x.f0 x.f1 = some (impl_Changed.inF b x) := by
 obtain ⟨k, j, e, hj⟩ := impl_Changed.has_loop b hl x b.length 0 (by omega)
 rw [List.drop_zero] at hj
 refine ⟨k, ?_⟩
 unfold impl_File_40.f impl_File_58.f
 have e2 : impl_File_58.l0 k b (b.length : Int) 0 x.f0 x.f1 = some j := e
 rw [e2, Option.bind_some, hj]
theorem impl_Changed.two {W : World} {gb T : Nat} {a b u v : Value} (h : W.heap[gb]? = some (.cells #[a, b] T (0, 0))) : ((W.setCell ⟨gb, 0, none⟩ u).setCell ⟨gb, 1, none⟩ v).heap[gb]? = some (.cells #[u, v] T (0, 0)) := by
 simp [World.setCell, Array.getElem?_modify, h]
theorem impl_Changed.dif_step (a b : List S33) (i : Nat) (h : i < a.length) : impl_Changed.dif (a.take (i + 1)) b = impl_Changed.dif (a.take i) b ++ (if impl_Changed.inF b (rd_T33 a (i : Int)) = true then [] else [(rd_T33 a (i : Int)).f0]) := by
 have e0 : rd_T33 a (i : Int) = a[i] := by
  show a.getD _ _ = _
  rw [Int.toNat_natCast, List.getD_eq_getElem?_getD, List.getElem?_eq_getElem h]; rfl
 unfold impl_Changed.dif
 rw [List.take_succ_eq_append_getElem h, List.filter_append, List.map_append, e0]
 congr 1
 cases hq : impl_Changed.inF b a[i] <;> simp [hq]
def impl_Changed.out (a b : List S33) : Nat → List ByteArray
 | 0 => []
 | 1 => impl_Changed.dif a b
 | _ => impl_Changed.dif a b ++ impl_Changed.dif b a
theorem impl_Changed.dif_len (a b : List S33) : (impl_Changed.dif a b).length ≤ a.length := by unfold impl_Changed.dif; rw [List.length_map]; exact List.length_filter_le _ _
theorem impl_Changed.out_len (a b : List S33) (q : Nat) : (impl_Changed.out a b q).length ≤ a.length + b.length := by
 have := impl_Changed.dif_len a b; have := impl_Changed.dif_len b a
 match q with
 | 0 => exact Nat.zero_le _
 | 1 => show (impl_Changed.dif a b).length ≤ _; omega
 | q + 2 => show (impl_Changed.dif a b ++ impl_Changed.dif b a).length ≤ _; rw [List.length_append]; omega
set_option maxHeartbeats 8000000 in
set_option maxRecDepth 100000 in
theorem impl_Changed.no (k : Nat) (A0 : Option Addr) (c0 : Nat) (l0 : List S33) (A1 : Option Addr) (c1 : Nat) (l1 : List S33) (w : World) (hr0 : Kd.C k33 w A0 l0.length l0) (hc0 : l0.length ≤ c0) (hr1 : Kd.C k33 w A1 l1.length l1) (hc1 : l1.length ≤ c1) (HT : TabsL w) (t u : Bool) (e1 : impl_FilesOk.f k l0 = some t) (e2 : t = true → impl_FilesOk.f k l1 = some u) (hn : t = false ∨ u = false) :
  Calls Tryz.prog 17 #[.slice A0 l0.length c0, .slice A1 l1.length c1] w fun e w' => ∃ v0_ : Value, e = .returned (v0_) ∧ Kd.R Kd.string 9 w' w.heap.size (fun _ => True) v0_ [] ∧ Below w.heap.size w w' := by
 have HR0 := Aside0.mk hr0
 have HC0 := Aside0.mk hc0
 have HR1 := Aside0.mk hr1
 have HC1 := Aside0.mk hc1
 have HTA := Aside0.mk HT
 have HE1 := Aside0.mk e1
 clear hr0 hc0 hr1 hc1 HT e1
 cases t with
 | false =>
  go_enter Tryz.func17, Tryz.ntmps17
  go_wp2_with (first | (go_at_call 23; (with_reducible refine (impl_FilesOk.calls k A0 c0 l0 false _ HR0.out HC0.out HTA.out HE1.out).mono ?_); rintro e w1 ⟨rfl, hb⟩; have HB1 := Aside0.mk hb; clear hb))
  go_ret
  exact ⟨_, rfl, Kd.R_nil _ _ _ _ _, HB1.out⟩
 | true =>
  obtain rfl : u = false := by rcases hn with h | h; (cases h); exact h
  have HE2 := Aside0.mk (e2 rfl)
  clear e2
  go_enter Tryz.func17, Tryz.ntmps17
  go_wp2_with (first | (go_at_call 23; (with_reducible refine (impl_FilesOk.calls k A0 c0 l0 true _ HR0.out HC0.out HTA.out HE1.out).mono ?_); rintro e w1 ⟨rfl, hb⟩; have HB1 := Aside0.mk hb; clear hb) | (go_at_call 23; (with_reducible refine (impl_FilesOk.calls k A1 c1 l1 false _ (Kd.C_below HR1.out HB1.out) HC1.out (TabsL.below HTA.out HB1.out) HE2.out).mono ?_); rintro e w2 ⟨rfl, hb⟩; have HB2 := Aside0.mk (below_step HB1.out hb); clear hb))
  go_ret
  exact ⟨_, rfl, Kd.R_nil _ _ _ _ _, HB2.out⟩
set_option maxHeartbeats 8000000 in
set_option maxRecDepth 100000 in
theorem impl_Changed.yes (k : Nat) (A0 : Option Addr) (c0 : Nat) (l0 : List S33) (A1 : Option Addr) (c1 : Nat) (l1 : List S33) (r : List ByteArray) (w : World) (hr0 : Kd.C k33 w A0 l0.length l0) (hc0 : l0.length ≤ c0) (hr1 : Kd.C k33 w A1 l1.length l1) (hc1 : l1.length ≤ c1) (HT : TabsL w) (e1 : impl_FilesOk.f k l0 = some true) (e2 : impl_FilesOk.f k l1 = some true) (hl0 : l0.length ≤ 1048576) (hl1 : l1.length ≤ 1048576) (h : impl_rising.f (impl_Changed.dif l0 l1 ++ impl_Changed.dif l1 l0) = some r) :
  Calls Tryz.prog 17 #[.slice A0 l0.length c0, .slice A1 l1.length c1] w fun e w' => ∃ v0_ : Value, e = .returned (v0_) ∧ Kd.R Kd.string 9 w' w.heap.size (fun _ => True) v0_ r ∧ Below w.heap.size w w' := by
 have HR0 := Aside0.mk hr0
 have HC0 := Aside0.mk hc0
 have HR1 := Aside0.mk hr1
 have HC1 := Aside0.mk hc1
 have HTA := Aside0.mk HT
 have HE1 := Aside0.mk e1
 have HE2 := Aside0.mk e2
 have HH := Aside0.mk h
 clear hr0 hc0 hr1 hc1 HT e1 e2 h
 go_enter Tryz.func17, Tryz.ntmps17
 go_wp2_with (first | (go_at_call 23; (with_reducible refine (impl_FilesOk.calls k A0 c0 l0 true _ HR0.out HC0.out HTA.out HE1.out).mono ?_); rintro e w1 ⟨rfl, hb⟩; have HB1 := Aside0.mk hb; clear hb) | (go_at_call 23; (with_reducible refine (impl_FilesOk.calls k A1 c1 l1 true _ (Kd.C_below HR1.out HB1.out) HC1.out (TabsL.below HTA.out HB1.out) HE2.out).mono ?_); rintro e w2 ⟨rfl, hb⟩; have HB2 := Aside0.mk (below_step HB1.out hb); clear hb) | ((with_reducible refine gate_dst (N := 18) rfl ?_); refine Kd.R_lit Kd.string _ 9 ?hg (N := 18) ?hd (xs := ([] : List ByteArray)) (inner := []) (ok := fun _ => True) (okp := fun _ => True) ?hr ?hp (fun _ hk => hk) trivial (Below.refl _ _) (Nat.le_refl _) (by simp) ?_; (case hd => rfl); (case hg => rfl); (case hr => first | (go_simp; done) | (go_simp; rfl)); (case hp => exact (Reps.none _ _)); intro v18 w3 ho hb hg_ hnew_; clear hg_ hnew_; have HO3 := Aside0.mk (Kd.R_lower (show Kd.R Kd.string 9 w3 _ (fun _ => True) v18 ([] : List ByteArray) from ho) (below_size HB2.out)); have HB3 := Aside0.mk (below_step HB2.out hb); clear ho hb))
 go_loopg [5, 27] 2 (fun kq v5 v27 w' => ∃ (q : Nat), v27 = .int .i64 (q : Int) ∧ Aside0 (q ≤ 2 ∧ kq + q = 2) ∧ Aside0 (Kd.R Kd.string 9 w' w.heap.size (fun _ => True) v5 (impl_Changed.out l0 l1 q)) ∧ Aside0 (w'.heap[w3.heap.size]? = some (.cells #[.slice A0 l0.length c0, .slice A1 l1.length c1, .slice A1 l1.length c1, .slice A0 l0.length c0] 67 (0, 0))) ∧ Aside0 (Below w.heap.size w w'))
 case atStart => exact ⟨0, rfl, ⟨by omega, by omega⟩, ⟨Kd.R_alloc HO3.out _⟩, ⟨blk_new w3 _⟩, ⟨below_alloc HB3.out _⟩⟩
 case round =>
  obtain ⟨q, rfl, HI, HO, BK, HB⟩ := hrel
  by_cases hq2 : q < 2
  ·have HQ : ∃ A c a B d b, Aside0 (wr.cell? ⟨w3.heap.size, q * 2, none⟩ = some (.slice A (List.length a) c) ∧ wr.cell? ⟨w3.heap.size, q * 2 + 1, none⟩ = some (.slice B (List.length b) d)) ∧ Aside0 (Kd.C k33 w A (List.length a) a ∧ List.length a ≤ c ∧ List.length a ≤ 1048576) ∧ Aside0 (Kd.C k33 w B (List.length b) b ∧ List.length b ≤ d ∧ List.length b ≤ 1048576) ∧ Aside0 (impl_Changed.out l0 l1 (q + 1) = impl_Changed.out l0 l1 q ++ impl_Changed.dif a b) := by
    rcases (show q = 0 ∨ q = 1 by omega) with rfl | rfl
    ·exact ⟨A0, c0, l0, A1, c1, l1, ⟨(blk_cell BK.out 0).trans rfl, (blk_cell BK.out 1).trans rfl⟩, ⟨HR0.out, HC0.out, hl0⟩, ⟨HR1.out, HC1.out, hl1⟩, ⟨rfl⟩⟩
    ·exact ⟨A1, c1, l1, A0, c0, l0, ⟨(blk_cell BK.out 2).trans rfl, (blk_cell BK.out 3).trans rfl⟩, ⟨HR1.out, HC1.out, hl1⟩, ⟨HR0.out, HC0.out, hl0⟩, ⟨rfl⟩⟩
   obtain ⟨A, c, a, B, d, b, HZ, HA, HBb, HOUT⟩ := HQ
   obtain ⟨z0, z1⟩ := HZ.out
   have p0 : (0 : Int) ≤ (q : Int) := by omega
   have p1 : (q : Int) < 2 := by omega
   have hol := impl_Changed.out_len l0 l1 q
   go_upto_region 7 with (first | ((with_reducible refine gate_dst (N := 7) rfl ?_); refine box_event ?hg (N := 7) ?hd (cs := #[.slice none 0 0, .slice none 0 0]) (t := 67) ?hr ?_; (case hd => rfl); (case hg => rfl); (case hr => first | (go_simp; done) | (go_simp; rfl)); intro gb hg wb hbox hb; have HGN := Aside0.mk (show w3.heap.size ≠ gb by rw [hg]; exact Nat.ne_of_lt (blk_lt BK.out)); have HGE := Aside0.mk (show w.heap.size ≤ gb by rw [hg]; exact below_size HB.out); have HO1 := Aside0.mk (Kd.R_below HO.out hb); have BK1 := Aside0.mk (blk_below BK.out hb); have HB1 := Aside0.mk (below_step HB.out hb); have BG1 := Aside0.mk hbox; have hz0b := (blk_cell hbox 0).trans rfl; have hz1b := (blk_cell hbox 1).trans rfl; have hf0b := blk_frozen hbox 0; have hf1b := blk_frozen hbox 1; clear hb hbox hg))
   have HOX := Aside0.mk (show Kd.R Kd.string 9 ((wb.setCell ⟨gb, 0, none⟩ (.slice A a.length c)).setCell ⟨gb, 1, none⟩ (.slice B b.length d)) w.heap.size (fun _ => True) u5 (impl_Changed.out l0 l1 q) from Kd.R_mono (Kd.R_far (p := ⟨gb, 1, none⟩) (Kd.R_far (p := ⟨gb, 0, none⟩) (Kd.R_types HO1.out BG1.out (by decide)) (fun _ hk => hk.2) _) (fun _ hk => hk.2) _) (fun _ _ => trivial))
   have BKX := Aside0.mk (blk_far (p := ⟨gb, 1, none⟩) (blk_far (p := ⟨gb, 0, none⟩) BK1.out HGN.out (.slice A a.length c)) HGN.out (.slice B b.length d))
   have BGX := Aside0.mk (impl_Changed.two (u := .slice A a.length c) (v := .slice B b.length d) BG1.out)
   have HBX := Aside0.mk (below_set (j := 1) (v := .slice B b.length d) (below_set (j := 0) (v := .slice A a.length c) HB1.out HGE.out) HGE.out)
   clear HO1 BK1 BG1 HB1 hz0b hz1b hf0b hf1b z0 z1 HZ HO BK HB
   generalize ((wb.setCell ⟨gb, 0, none⟩ (.slice A a.length c)).setCell ⟨gb, 1, none⟩ (.slice B b.length d)) = wx at HOX BKX BGX HBX ⊢
   have y0 : wx.cell? ⟨gb, 0, none⟩ = some (.slice A a.length c) := (blk_cell BGX.out 0).trans rfl
   go_wp2
   go_loopg [5, 34] (List.length a) (fun kq v5 v34 w' => ∃ (i : Nat), v34 = .int .i64 (i : Int) ∧ Aside0 (i ≤ List.length a ∧ kq + i = List.length a) ∧ Aside0 (Kd.R Kd.string 9 w' w.heap.size (fun _ => True) v5 (impl_Changed.out l0 l1 q ++ impl_Changed.dif (a.take i) b)) ∧ Aside0 (w'.heap[w3.heap.size]? = some (.cells #[.slice A0 l0.length c0, .slice A1 l1.length c1, .slice A1 l1.length c1, .slice A0 l0.length c0] 67 (0, 0))) ∧ Aside0 (w'.heap[gb]? = some (.cells #[.slice A a.length c, .slice B b.length d] 67 (0, 0))) ∧ Aside0 (Below w.heap.size w w'))
   case atStart => exact ⟨0, rfl, ⟨Nat.zero_le _, rfl⟩, ⟨by rw [show impl_Changed.out l0 l1 q ++ impl_Changed.dif (a.take 0) b = impl_Changed.out l0 l1 q from by simp [impl_Changed.dif]]; exact HOX.out⟩, BKX, BGX, HBX⟩
   case round =>
    clear HOX BKX BGX HBX y0
    obtain ⟨i, rfl, HI2, HO, BK, BG, HB⟩ := hrel
    by_cases hia : i < List.length a
    ·have p2 : (0 : Int) ≤ (i : Int) := by omega
     have p3 : (i : Int) < (List.length a : Int) := by omega
     obtain ⟨ad, ead, x0, x1⟩ := at_T33 HA.out.1 (i : Int) p2 p3
     cases ead
     rw [Int.toNat_natCast] at x0 x1
     replace x0 := (HB.out.cell (World.block_lt_of_cell? w _ x0)).trans x0
     replace x1 := (HB.out.cell (World.block_lt_of_cell? w _ x1)).trans x1
     go_upto_region 10 with (first | ((with_reducible refine gate_dst (N := 9) rfl ?_); refine box_event ?hg (N := 9) ?hd (cs := #[.string (⟨#[]⟩ : ByteArray), .string (⟨#[]⟩ : ByteArray)]) (t := 33) ?hr ?_; (case hd => rfl); (case hg => rfl); (case hr => first | (go_simp; done) | (go_simp; rfl)); intro gc hg wc hbox hb; have HCN := Aside0.mk (show w3.heap.size ≠ gc by rw [hg]; exact Nat.ne_of_lt (blk_lt BK.out)); have HCG := Aside0.mk (show gb ≠ gc by rw [hg]; exact Nat.ne_of_lt (blk_lt BG.out)); have HCE := Aside0.mk (show w.heap.size ≤ gc by rw [hg]; exact below_size HB.out); have HO1 := Aside0.mk (Kd.R_below HO.out hb); have BK1 := Aside0.mk (blk_below BK.out hb); have BG1 := Aside0.mk (blk_below BG.out hb); have HB1 := Aside0.mk (below_step HB.out hb); have BC1 := Aside0.mk hbox; have hz0b := (blk_cell hbox 0).trans rfl; have hz1b := (blk_cell hbox 1).trans rfl; have hf0b := blk_frozen hbox 0; have hf1b := blk_frozen hbox 1; clear hb hbox hg))
     have HOX := Aside0.mk (show Kd.R Kd.string 9 ((wc.setCell ⟨gc, 0, none⟩ (.string (rd_T33 a (i : Int)).f0)).setCell ⟨gc, 1, none⟩ (.string (rd_T33 a (i : Int)).f1)) w.heap.size (fun _ => True) u5 _ from Kd.R_mono (Kd.R_far (p := ⟨gc, 1, none⟩) (Kd.R_far (p := ⟨gc, 0, none⟩) (Kd.R_types HO1.out BC1.out (by decide)) (fun _ hk => hk.2) _) (fun _ hk => hk.2) _) (fun _ _ => trivial))
     have BKX := Aside0.mk (blk_far (p := ⟨gc, 1, none⟩) (blk_far (p := ⟨gc, 0, none⟩) BK1.out HCN.out (.string (rd_T33 a (i : Int)).f0)) HCN.out (.string (rd_T33 a (i : Int)).f1))
     have BGX := Aside0.mk (blk_far (p := ⟨gc, 1, none⟩) (blk_far (p := ⟨gc, 0, none⟩) BG1.out HCG.out (.string (rd_T33 a (i : Int)).f0)) HCG.out (.string (rd_T33 a (i : Int)).f1))
     have BCX := Aside0.mk (impl_Changed.two (u := .string (rd_T33 a (i : Int)).f0) (v := .string (rd_T33 a (i : Int)).f1) BC1.out)
     have HBX := Aside0.mk (below_set (j := 1) (v := .string (rd_T33 a (i : Int)).f1) (below_set (j := 0) (v := .string (rd_T33 a (i : Int)).f0) HB1.out HCE.out) HCE.out)
     clear HO1 BK1 BG1 BC1 HB1 hz0b hz1b hf0b hf1b x0 x1 HO BK BG HB
     generalize ((wc.setCell ⟨gc, 0, none⟩ (.string (rd_T33 a (i : Int)).f0)).setCell ⟨gc, 1, none⟩ (.string (rd_T33 a (i : Int)).f1)) = wx2 at HOX BKX BGX BCX HBX ⊢
     have hst := impl_Changed.dif_step a b i hia
     have hdl := impl_Changed.dif_len (a.take i) b
     rw [List.length_take] at hdl
     generalize rd_T33 a (i : Int) = x at BCX hst ⊢
     have y1 : wx2.cell? ⟨gb, 1, none⟩ = some (.slice B b.length d) := (blk_cell BGX.out 1).trans rfl
     have y2 : wx2.cell? ⟨gc, 0, none⟩ = some (.string x.f0) := (blk_cell BCX.out 0).trans rfl
     have y3 : wx2.cell? ⟨gc, 1, none⟩ = some (.string x.f1) := (blk_cell BCX.out 1).trans rfl
     obtain ⟨kk, hkk⟩ := impl_Changed.has b HBb.out.2.2 x
     have HKK := Aside0.mk hkk
     have HST := Aside0.mk hst
     clear hkk hst
     by_cases hin : impl_Changed.inF b x = true
     ·rw [hin] at HKK
      rw [if_pos hin, List.append_nil] at HST
      clear hin
      go_wp2_with (first | (go_at_call 40; (with_reducible refine (impl_File_40.calls kk B d b x.f0 x.f1 true _ (Kd.C_below HBb.out.1 HBX.out) HBb.out.2.1 HKK.out).mono ?_); rintro e wq ⟨rfl, hb⟩; have HOQ := Aside0.mk (Kd.R_below HOX.out hb); have BKQ := Aside0.mk (blk_below BKX.out hb); have BGQ := Aside0.mk (blk_below BGX.out hb); have BCQ := Aside0.mk (blk_below BCX.out hb); have HBQ := Aside0.mk (below_step HBX.out hb); have y4 : wq.cell? ⟨gc, 0, none⟩ = some (.string x.f0) := (blk_cell BCQ.out 0).trans rfl; clear hb HOX BKX BGX BCX HBX))
      go_roundg (List.length a - (i + 1))
      case measure => have := HI2.out; omega
      case rel => exact ⟨i + 1, (by have := HA.out.2.2; congr 1; unfold wrap64; omega), ⟨by omega, by have := HI2.out; omega⟩, ⟨by rw [HST.out]; (first | exact HOQ.out | exact Kd.R_mono HOQ.out (fun k_ h_ => by first | exact h_ | (simpa [Value.ownBlock] using h_) | (have e_ : ∀ (A : Option Addr) (n m c : Nat), (Value.slice A n c).ownBlock = (Value.slice A m c).ownBlock := (fun A n m c => by cases A <;> rfl); rw [e_ _ _ 0 _] at h_ ⊢; exact h_)))⟩, BKQ, BGQ, HBQ⟩
     ·have hin' : impl_Changed.inF b x = false := by simpa using hin
      rw [hin'] at HKK
      rw [if_neg hin] at HST
      clear hin hin'
      go_wp2_with (first | (go_at_call 40; (with_reducible refine (impl_File_40.calls kk B d b x.f0 x.f1 false _ (Kd.C_below HBb.out.1 HBX.out) HBb.out.2.1 HKK.out).mono ?_); rintro e wq ⟨rfl, hb⟩; have HOQ := Aside0.mk (Kd.R_below HOX.out hb); have BKQ := Aside0.mk (blk_below BKX.out hb); have BGQ := Aside0.mk (blk_below BGX.out hb); have BCQ := Aside0.mk (blk_below BCX.out hb); have HBQ := Aside0.mk (below_step HBX.out hb); have y4 : wq.cell? ⟨gc, 0, none⟩ = some (.string x.f0) := (blk_cell BCQ.out 0).trans rfl; clear hb HOX BKX BGX BCX HBX) | ((with_reducible refine gate_builtin (b := .append) (xs := #[.tmp 43, .tmp 46]) rfl ?_); at_builtin; refine Kd.R_append Kd.string (w0 := w) w.heap.size rfl (.tmp 43) (.tmp 46) 40 9 (.string ⟨#[]⟩) 16 rfl Tryz.underlying40 info9 rfl (by decide) (by omega) u5 (impl_Changed.out l0 l1 q ++ impl_Changed.dif (a.take i) b) x.f0 [.string x.f0] (fun _ => True) (fun _ => False) rfl (by first | (go_simp; done) | (go_simp; rfl)) ?aP (fun _ hk => hk.elim) ?aF ?aO ?aB ?aS ?aL ?_; (case aP => exact rfl); (case aF => exact (fun _ _ => trivial)); (case aO => (with_reducible repeat (first | apply Kd.R_alloc | apply Kd.R_drewN | apply Kd.R_drew)); exact HOQ.out); (case aB => repeat (first | (with_reducible first | exact HBQ.out | apply below_alloc | apply pw_below_drewN | apply below_drew1) | exact HBQ.out)); (case aS => exact below_size (by repeat (first | (with_reducible first | exact HBQ.out | apply below_alloc | apply pw_below_drewN | apply below_drew1) | exact HBQ.out))); (case aL => have := HA.out.2.2; rw [List.length_append]; omega); intro v47 wz ho hb hg hat; have HOZ := Aside0.mk ho; have HBZ := Aside0.mk hb; have BKZ := Aside0.mk (blk_grown (g := w3.heap.size) (oz BKQ.out) hg (Kd.R_ne HOQ.out BKQ.out (by decide))); have BGZ := Aside0.mk (blk_grown (g := gb) (oz BGQ.out) hg (Kd.R_ne HOQ.out BGQ.out (by decide))); clear ho hb hg hat))
      go_roundg (List.length a - (i + 1))
      case measure => have := HI2.out; omega
      case rel => exact ⟨i + 1, (by have := HA.out.2.2; congr 1; unfold wrap64; omega), ⟨by omega, by have := HI2.out; omega⟩, ⟨by rw [HST.out, ← List.append_assoc]; (first | exact HOZ.out | exact Kd.R_mono HOZ.out (fun k_ h_ => by first | exact h_ | (simpa [Value.ownBlock] using h_) | (have e_ : ∀ (A : Option Addr) (n m c : Nat), (Value.slice A n c).ownBlock = (Value.slice A m c).ownBlock := (fun A n m c => by cases A <;> rfl); rw [e_ _ _ 0 _] at h_ ⊢; exact h_)))⟩, BKZ, BGZ, HBZ⟩
    ·have e1 : a.take i = a := List.take_of_length_le (by omega)
     rw [e1, ← HOUT.out] at HO
     have p4 : ¬ ((i : Int) < (List.length a : Int)) := by omega
     clear HI2 hia e1
     go_wp2
     go_roundg (2 - (q + 1))
     case measure => have := HI.out; omega
     case rel => exact ⟨q + 1, (by first | (congr 1; done) | (congr 1; unfold wrap64; omega)), ⟨by omega, by have := HI.out; omega⟩, HO, BK, HB⟩
  ·have hqe : q = 2 := by have := HI.out; omega
   subst hqe
   clear HI hq2
   go_wp2_with (first | (go_at_call 41; refine (impl_rising.calls (fun _ => True) u5 _ r w _ HB.out HO.out HH.out).mono ?_; rintro e wf ⟨vf, rfl, hR, hB, hK⟩; have HRF := Aside0.mk (Kd.R_mono (ok' := fun _ => True) hR (fun _ _ => trivial)); have HBF := Aside0.mk hB; clear hR hB hK))
   go_ret
   exact ⟨_, rfl, HRF.out, HBF.out⟩
set_option maxHeartbeats 1000000 in
theorem impl_Changed.calls (k : Nat) (A0 : Option Addr) (c0 : Nat) (l0 : List S33) (A1 : Option Addr) (c1 : Nat) (l1 : List S33) (r : List ByteArray) (w : World) (hr0 : Kd.C k33 w A0 l0.length l0) (hc0 : l0.length ≤ c0) (hr1 : Kd.C k33 w A1 l1.length l1) (hc1 : l1.length ≤ c1) (HT : TabsL w) (h : impl_Changed.f k l0 l1 = some r) :
  Calls Tryz.prog 17 #[.slice A0 l0.length c0, .slice A1 l1.length c1] w fun e w' => ∃ v0_ : Value, e = .returned (v0_) ∧ Kd.R Kd.string 9 w' w.heap.size (fun _ => True) v0_ r ∧ Below w.heap.size w w' := by
 unfold impl_Changed.f at h
 obtain ⟨t, e1, h⟩ := Option.bind_eq_some_iff.mp h
 cases t with
 | false =>
  rw [if_neg (by decide)] at h
  obtain rfl := Option.some.inj h
  exact impl_Changed.no k A0 c0 l0 A1 c1 l1 w hr0 hc0 hr1 hc1 HT false false e1 (fun h => by cases h) (.inl rfl)
 | true =>
  rw [if_pos rfl] at h
  obtain ⟨u, e2, h⟩ := Option.bind_eq_some_iff.mp h
  cases u with
  | false =>
   rw [if_neg (by decide)] at h
   obtain rfl := Option.some.inj h
   exact impl_Changed.no k A0 c0 l0 A1 c1 l1 w hr0 hc0 hr1 hc1 HT true false e1 (fun _ => e2) (.inr rfl)
  | true =>
   rw [if_pos rfl] at h
   by_cases c : l0.length ≤ 1048576 ∧ l1.length ≤ 1048576
   ·rw [if_pos c] at h
    exact impl_Changed.yes k A0 c0 l0 A1 c1 l1 r w hr0 hc0 hr1 hc1 HT e1 e2 c.1 c.2 h
   ·rw [if_neg c] at h; cases h

end Go.Proofs.YtkmcnjpgamaljaaGreatDoor.PFnFiles

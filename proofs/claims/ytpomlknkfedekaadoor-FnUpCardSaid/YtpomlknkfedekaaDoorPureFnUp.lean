import Derived.Test.YtpomlknkfedekaaDoorSayFnUp
import Derived.Test.YtpomlknkfedekaaDoorPathL
import Derived.Test.YtpomlknkfedekaaDoorKit
/- FnUp: both tell the same directories; each is clean, begins the path and is shorter than the one ahead of it; the last one is the root; for every code. -/
namespace Go.Proofs.YtpomlknkfedekaaDoor.Pure
open Go.RowKit Go.Proofs.YtpomlknkfedekaaDoor.PFnUp Go.Proofs.YtpomlknkfedekaaDoorW.PrintWords Go.Proofs.YtpomlknkfedekaaDoorW.PrintLast Go.Proofs.YtpomlknkfedekaaDoorW.PrintMore Go.Proofs.YtpomlknkfedekaaDoor.Kit
set_option linter.unusedSimpArgs false
set_option linter.unusedVariables false

theorem path_spec_loop (s : ByteArray) (hs : s.size ≤ 4000000) (d : Nat) : ∀ (i : Int), 0 ≤ i → i + d = s.size → Ev (fun k => spec_l2Path.l0 k s i) (okF s i d) := by
  induction d with
  | zero =>
    intro i h0 h1
    refine Ev_succ ?_
    simp (disch := omega) only [spec_l2Path.l0, if_neg]
    exact Ev.now _
  | succ d ih =>
    intro i h0 h1
    refine Ev_succ ?_
    have hw : wrap64 (i + 1) = i + 1 := w64 (by omega) (by omega)
    have h2 : i < (s.size : Int) := by omega
    by_cases ho : okb (bt s i) = true
    · have e := ih (i + 1) (by omega) (by omega)
      rw [okF, ho, Bool.true_and]
      have ho' := of_decide_eq_true ho
      refine Ev.congr (fun k => ?_) e
      simp only [spec_l2Path.l0, if_pos h2, if_pos h0, hw]
      repeat' split
      all_goals first | rfl | (exfalso; omega)
    · rw [okF, Bool.eq_false_iff.mpr ho, Bool.false_and]
      have ho' : ¬ ((97 ≤ bt s i ∧ bt s i ≤ 122) ∨ (48 ≤ bt s i ∧ bt s i ≤ 57) ∨ bt s i = 46 ∨ bt s i = 95 ∨ bt s i = 45 ∨ bt s i = 47) := fun h => ho (decide_eq_true h)
      refine Ev.congr (fun k => ?_) (Ev.now false)
      simp only [spec_l2Path.l0, if_pos h2, if_pos h0, hw]
      repeat' split
      all_goals first | rfl | (exfalso; omega)
theorem path_spec (s : ByteArray) (hs : s.size ≤ 4000000) : Ev (fun k => spec_l2Path.f k s) (isP s) := by
  unfold isP
  by_cases h : 1 ≤ s.size ∧ s.size ≤ 40
  · have c1 : (s.size : Int) ≥ 1 := by omega
    have c2 : decide ((s.size : Int) ≤ 40) = true := decide_eq_true (by omega)
    have c3 : 0 < (s.size : Int) := by omega
    simp only [spec_l2Path.f, spec_l1In.f, if_pos c1, c2, Option.bind_some, if_true, if_pos c3, h.1, h.2, decide_true, Bool.true_and]
    refine Ev_succ ?_
    by_cases hb : bt s 0 = 47
    · have e1 : (bt s 0 != 47) = false := by rw [hb]; rfl
      have e2 : (bt s 0 == 47) = true := by rw [hb]; rfl
      simp only [spec_l2Path.j0, e1, e2, Bool.true_and, Bool.false_eq_true, if_false]
      exact path_spec_loop s hs s.size 0 (by omega) (by omega)
    · have e1 : (bt s 0 != 47) = true := bne_iff_ne.mpr hb
      have e2 : (bt s 0 == 47) = false := beq_eq_false_iff_ne.mpr hb
      simp only [spec_l2Path.j0, e1, e2, Bool.false_and, if_true]
      exact Ev.now _
  · have e : (decide (1 ≤ s.size) && decide (s.size ≤ 40)) = false := by
      rw [← Bool.decide_and]; exact decide_eq_false h
    rw [e, Bool.false_and, Bool.false_and]
    by_cases c1 : (s.size : Int) ≥ 1
    · have c2 : decide ((s.size : Int) ≤ 40) = false := decide_eq_false (by omega)
      simp only [spec_l2Path.f, spec_l1In.f, if_pos c1, c2, Option.bind_some, Bool.false_eq_true, if_false]
      refine Ev_succ ?_
      simp only [spec_l2Path.j0, if_true]
      exact Ev.now _
    · simp only [spec_l2Path.f, spec_l1In.f, if_neg c1, Option.bind_some, Bool.false_eq_true, if_false]
      refine Ev_succ ?_
      simp only [spec_l2Path.j0, if_true]
      exact Ev.now _
theorem path_impl_loop (s : ByteArray) (hs : s.size ≤ 4000000) (d : Nat) : ∀ (i : Int), 0 ≤ i → i + d = s.size → Ev (fun k => impl_isPath.l0 k s s.size i) (okF s i d && (decide (1 ≤ s.size) && decide (s.size ≤ 40) && (bt s 0 == 47))) := by
  induction d with
  | zero =>
    intro i h0 h1
    refine Ev_succ ?_
    rw [okF, Bool.true_and]
    by_cases h : 1 ≤ s.size ∧ s.size ≤ 40
    · have c1 : (s.size : Int) ≥ 1 := by omega
      have c2 : decide ((s.size : Int) ≤ 40) = true := decide_eq_true (by omega)
      have c3 : 0 < (s.size : Int) := by omega
      have c4 : ¬ i < (s.size : Int) := by omega
      simp only [impl_isPath.l0, if_neg c4, impl_in.f, if_pos c1, c2, Option.bind_some, if_true, if_pos c3, h.1, h.2, decide_true, Bool.true_and]
      exact Ev.now _
    · have e : (decide (1 ≤ s.size) && decide (s.size ≤ 40)) = false := by
        rw [← Bool.decide_and]; exact decide_eq_false h
      have c4 : ¬ i < (s.size : Int) := by omega
      rw [e, Bool.false_and]
      by_cases c1 : (s.size : Int) ≥ 1
      · have c2 : decide ((s.size : Int) ≤ 40) = false := decide_eq_false (by omega)
        simp only [impl_isPath.l0, if_neg c4, impl_in.f, if_pos c1, c2, Option.bind_some, Bool.false_eq_true, if_false]
        exact Ev.now _
      · simp only [impl_isPath.l0, if_neg c4, impl_in.f, if_neg c1, Option.bind_some, Bool.false_eq_true, if_false]
        exact Ev.now _
  | succ d ih =>
    intro i h0 h1
    refine Ev_succ ?_
    have hw : wrap64 (i + 1) = i + 1 := w64 (by omega) (by omega)
    have h2 : i < (s.size : Int) := by omega
    by_cases ho : okb (bt s i) = true
    · have e := ih (i + 1) (by omega) (by omega)
      rw [okF, ho, Bool.true_and]
      have ho' := of_decide_eq_true ho
      refine Ev.congr (fun k => ?_) e
      simp only [impl_isPath.l0, if_pos h2, if_pos h0, hw]
      repeat' split
      all_goals first | rfl | (exfalso; omega)
    · rw [okF, Bool.eq_false_iff.mpr ho, Bool.false_and, Bool.false_and]
      have ho' : ¬ ((97 ≤ bt s i ∧ bt s i ≤ 122) ∨ (48 ≤ bt s i ∧ bt s i ≤ 57) ∨ bt s i = 46 ∨ bt s i = 95 ∨ bt s i = 45 ∨ bt s i = 47) := fun h => ho (decide_eq_true h)
      refine Ev.congr (fun k => ?_) (Ev.now false)
      simp only [impl_isPath.l0, if_pos h2, if_pos h0, hw]
      repeat' split
      all_goals first | rfl | (exfalso; omega)
theorem path_impl (s : ByteArray) (hs : s.size ≤ 4000000) : Ev (fun k => impl_isPath.f k s) (isP s) := by
  have e := path_impl_loop s hs s.size 0 (by omega) (by omega)
  rw [Bool.and_comm] at e
  exact e
theorem isP_size {s : ByteArray} (h : isP s = true) : 1 ≤ s.size ∧ s.size ≤ 40 := by
  unfold isP at h
  simp only [Bool.and_eq_true, decide_eq_true_eq] at h
  exact h.1.1
theorem clean_show (st : List ByteArray) (hl : st.length ≤ 50) (hz : ∀ x ∈ st, x.size ≤ 40) (d : Nat) : ∀ (j : Nat), j + d = st.length →
    Ev (fun k => spec_Clean.l1 k st (PB (Lib.joinTail [47] ((st.take j).map (·.data.toList)))) (j : Int)) (PB (Lib.joinTail [47] (st.map (·.data.toList)))) := by
  induction d with
  | zero =>
    intro j hj
    refine Ev_succ ?_
    have c : ¬ (j : Int) < (st.length : Int) := by omega
    simp only [spec_Clean.l1, if_neg c]
    rw [List.take_of_length_le (by omega)]
    exact Ev.now _
  | succ d ih =>
    intro j hj
    have e := ih (j + 1) (by omega)
    refine Ev_succ ?_
    have hjl : j < st.length := by omega
    have c : (j : Int) < (st.length : Int) := by omega
    have c0 : 0 ≤ (j : Int) := by omega
    have hw : wrap64 ((j : Int) + 1) = ((j + 1 : Nat) : Int) := by rw [w64 (by omega) (by omega)]; omega
    have hr : rdOf ByteArray.empty st (j : Int) = st[j] := by simp only [rdOf, Int.toNat_natCast, List.getD, List.getElem?_eq_getElem hjl, Option.getD_some]
    have hb : (Lib.joinTail [47] ((st.take j).map (·.data.toList))).length ≤ 50 * 41 := by
      have := joinTail_le ((st.take j).map (·.data.toList)) 40 (fun x hx => by obtain ⟨y, hy, rfl⟩ := List.mem_map.1 hx; exact hz y (List.mem_of_mem_take hy))
      simp only [List.length_map, List.length_take] at this
      omega
    have hy : st[j].size ≤ 40 := hz _ (List.getElem_mem hjl)
    have hone : (⟨#[47]⟩ : ByteArray) = PB [47] := rfl
    have e1 : (PB (Lib.joinTail [47] ((st.take j).map (·.data.toList))) ++ (⟨#[47]⟩ : ByteArray)) ++ st[j] = PB (Lib.joinTail [47] ((st.take (j + 1)).map (·.data.toList))) := by
      rw [hone, app_PB]
      conv => lhs; rw [← PB_data st[j]]
      rw [app_PB, List.take_succ_eq_append_getElem hjl, List.map_append, List.map_singleton, joinTail_snoc]
    have hs1 : (PB (Lib.joinTail [47] ((st.take j).map (·.data.toList)))).size = (Lib.joinTail [47] ((st.take j).map (·.data.toList))).length := rfl
    have hs2 : (PB (Lib.joinTail [47] ((st.take j).map (·.data.toList))) ++ (⟨#[47]⟩ : ByteArray)).size = (Lib.joinTail [47] ((st.take j).map (·.data.toList))).length + 1 := by rw [size_app, hs1]; rfl
    have d1 : (PB (Lib.joinTail [47] ((st.take j).map (·.data.toList)))).size + 1 ≤ 9223372036854775807 := by rw [hs1]; omega
    have d2 : (PB (Lib.joinTail [47] ((st.take j).map (·.data.toList))) ++ (⟨#[47]⟩ : ByteArray)).size + st[j].size ≤ 9223372036854775807 := by rw [hs2]; omega
    simp only [spec_Clean.l1, if_pos c, if_pos d1, if_pos c0, hr, if_pos d2, hw, e1]
    exact e
theorem cut_here (s : ByteArray) (st : List ByteArray) (fr i : Nat) (h1 : fr ≤ i) (h2 : i ≤ s.size) (hn : ∀ j, fr ≤ j → j < i → bt s (j : Int) ≠ 47) (hc : i < s.size → bt s (i : Int) = 47) :
    ((sp (s.data.toList.drop fr)).map PB).foldl stp st = ((sp (s.data.toList.drop (i + 1))).map PB).foldl stp (stp st (s.extract fr i)) := by
  have hl : s.data.toList.length = s.size := by rw [Array.length_toList]; rfl
  have he : s.extract fr i = PB ((s.data.toList.drop fr).take (i - fr)) := by
    apply data_inj
    rw [data_PB, ByteArray.data_extract, Array.toList_extract, List.extract_eq_take_drop]
  have hno : ∀ x ∈ (s.data.toList.drop fr).take (i - fr), x ≠ 47 := by
    intro x hx e
    obtain ⟨n, hnl, e1⟩ := List.getElem_of_mem hx
    have hb : n < i - fr ∧ fr + n < s.size := by simp at hnl; omega
    rw [List.getElem_take, List.getElem_drop] at e1
    refine hn (fr + n) (by omega) (by omega) ?_
    rw [btAt s (fr + n) hb.2]
    have e2 : s.data.toList[fr + n]'(by omega) = 47 := e1.trans e
    rw [e2]; rfl
  by_cases hi : i < s.size
  · have e47 : s.data.toList[i]'(by omega) = 47 := by
      have := hc hi
      rw [btAt s i hi] at this
      apply UInt8.toNat_inj.1
      have e3 : ((s.data.toList[i]'(by omega)).toNat : Int) = 47 := this
      have e4 : (47 : UInt8).toNat = 47 := rfl
      omega
    have hd : s.data.toList.drop fr = (s.data.toList.drop fr).take (i - fr) ++ 47 :: s.data.toList.drop (i + 1) := by
      conv => lhs; rw [← List.take_append_drop (i - fr) (s.data.toList.drop fr)]
      rw [List.drop_drop, show fr + (i - fr) = i by omega, List.drop_eq_getElem_cons (by omega : i < s.data.toList.length), e47]
    rw [hd, sp_app _ _ hno, List.map_cons, List.foldl_cons, ← he]
  · have h0 : s.data.toList.drop (i + 1) = [] := List.drop_eq_nil_of_le (by omega)
    have hd : s.data.toList.drop fr = (s.data.toList.drop fr).take (i - fr) := by
      rw [List.take_of_length_le]; rw [List.length_drop]; omega
    rw [h0, hd, sp_no _ hno]
    have hz := stp_nil (stp st (s.extract fr i))
    simp only [sp, List.map_cons, List.map_nil, List.foldl_cons, List.foldl_nil, ← he, hz]
theorem clean_spec_loop (s : ByteArray) (hs : s.size ≤ 40) (d : Nat) : ∀ (i fr : Nat) (st : List ByteArray), i + d = s.size + 1 → fr ≤ i → (i = s.size + 1 → fr = i) →
    (∀ j, fr ≤ j → j < i → j < s.size → bt s (j : Int) ≠ 47) → st.length ≤ fr → (∀ x ∈ st, x.size ≤ 40) →
    Ev (fun k => spec_Clean.l0 k s st (fr : Int) (i : Int)) (shown (((sp (s.data.toList.drop fr)).map PB).foldl stp st)) := by
  induction d with
  | zero =>
    intro i fr st hi hf hfi hn hl hz
    obtain rfl := hfi (by omega)
    have h0 : s.data.toList.drop fr = [] := List.drop_eq_nil_of_le (by rw [data_length]; omega)
    have hz0 : stp st (PB []) = st := by unfold stp; rw [if_pos (toList_PB [])]
    rw [h0]
    simp only [sp, List.map_cons, List.map_nil, List.foldl_cons, List.foldl_nil, hz0]
    refine Ev_succ ?_
    have c : ¬ (fr : Int) ≤ (s.size : Int) := by omega
    simp only [spec_Clean.l0, if_neg c]
    by_cases hst : st = []
    · subst hst
      simp only [shown, List.length_nil, Int.natCast_zero, if_true]
      exact Ev.now _
    · have c2 : ¬ (st.length : Int) = 0 := by
        have := List.length_pos_iff.2 hst; omega
      simp only [if_neg c2, shown, if_neg hst]
      exact clean_show st (by omega) hz st.length 0 (by omega)
  | succ d ih =>
    intro i fr st hi hf hfi hn hl hz
    have ci : (i : Int) ≤ (s.size : Int) := by omega
    have hw : wrap64 ((i : Int) + 1) = ((i + 1 : Nat) : Int) := by rw [w64 (by omega) (by omega)]; omega
    have c0 : 0 ≤ (i : Int) := by omega
    by_cases hgo : i < s.size ∧ bt s (i : Int) ≠ 47
    · have e := ih (i + 1) fr st (by omega) (by omega) (by omega) (fun j h1 h2 h3 => by
        by_cases hj : j = i
        · subst hj; exact hgo.2
        · exact hn j h1 (by omega) h3) hl hz
      have c1 : (i : Int) < (s.size : Int) := by omega
      have c2 : (bt s (i : Int) != 47) = true := bne_iff_ne.mpr hgo.2
      refine Ev_succ ?_
      simp only [spec_Clean.l0, if_pos ci, if_pos c1, if_pos c0, c2]
      refine Ev_succ ?_
      simp only [spec_Clean.j1, if_true, hw]
      exact e
    · have hcut := cut_here s st fr i hf (by omega) (fun j h1 h2 => hn j h1 h2 (by omega)) (fun h => by
        by_cases hb : bt s (i : Int) = 47
        · exact hb
        · exact absurd ⟨h, hb⟩ hgo)
      have hps : (s.extract fr i).size ≤ 40 := by rw [ByteArray.size_extract]; omega
      have hlen := stp_len st (s.extract fr i)
      have e := ih (i + 1) (i + 1) (stp st (s.extract fr i)) (by omega) (by omega) (fun _ => rfl) (fun j h1 h2 h3 => by omega) (by omega) (stp_size st _ 40 hz hps)
      rw [hcut]
      have two : ∀ b : Bool, (b = true ↔ (s.extract fr i).toList = [] ∨ (s.extract fr i).toList = [46]) → Ev (fun k => spec_Clean.j2 k s st ((i + 1 : Nat) : Int) (i : Int) (s.extract fr i) b) (shown (((sp (s.data.toList.drop (i + 1))).map PB).foldl stp (stp st (s.extract fr i)))) := by
        intro b hb
        refine Ev_succ ?_
        by_cases hbt : b = true
        · have hs0 : stp st (s.extract fr i) = st := by
            unfold stp
            rcases hb.1 hbt with h | h
            · rw [if_pos h]
            · by_cases h' : (s.extract fr i).toList = []
              · rw [if_pos h']
              · rw [if_neg h', if_pos h]
          rw [hs0] at e ⊢
          simp only [spec_Clean.j2, hbt, if_true, hw]
          exact e
        · have hno : ¬ ((s.extract fr i).toList = [] ∨ (s.extract fr i).toList = [46]) := fun h => hbt (hb.2 h)
          have hn1 : ¬ (s.extract fr i).toList = [] := fun h => hno (.inl h)
          have hn2 : ¬ (s.extract fr i).toList = [46] := fun h => hno (.inr h)
          by_cases hdd : (s.extract fr i).toList = [46, 46]
          · have hs0 : stp st (s.extract fr i) = st.take (st.length - 1) := by unfold stp; rw [if_neg hn1, if_neg hn2, if_pos hdd]
            rw [hs0] at e ⊢
            by_cases hst : st.length = 0
            · have h00 : st.take (st.length - 1) = st := by rw [List.take_of_length_le]; omega
              rw [h00] at e ⊢
              have c3 : ¬ (st.length : Int) > 0 := by omega
              simp only [spec_Clean.j2, hbt, if_false, Bool.false_eq_true, if_pos hdd, if_neg c3, hw]
              exact e
            · have c3 : (st.length : Int) > 0 := by omega
              have c4 : wrap64 ((st.length : Int) - 1) = ((st.length - 1 : Nat) : Int) := by rw [w64 (by omega) (by omega)]; omega
              have c5 : 0 ≤ ((st.length - 1 : Nat) : Int) := by omega
              have c6 : ((st.length - 1 : Nat) : Int) ≤ (st.length : Int) := by omega
              simp only [spec_Clean.j2, hbt, if_false, Bool.false_eq_true, if_pos hdd, if_pos c3, c4, if_pos c5, if_pos c6, Int.toNat_natCast, hw]
              exact e
          · have hs0 : stp st (s.extract fr i) = st ++ [s.extract fr i] := by unfold stp; rw [if_neg hn1, if_neg hn2, if_neg hdd]
            rw [hs0] at e ⊢
            have c7 : st.length < 8796093022208 := by omega
            simp only [spec_Clean.j2, hbt, if_false, Bool.false_eq_true, if_neg hdd, if_pos c7, hw]
            exact e
      have one : Ev (fun k => spec_Clean.j1 k s st (fr : Int) (i : Int) false) (shown (((sp (s.data.toList.drop (i + 1))).map PB).foldl stp (stp st (s.extract fr i)))) := by
        refine Ev_succ ?_
        have c8 : 0 ≤ (fr : Int) := by omega
        have c9 : (fr : Int) ≤ (i : Int) := by omega
        simp only [spec_Clean.j1, Bool.false_eq_true, if_false, if_pos c8, if_pos c9, if_pos ci, Int.toNat_natCast, hw]
        by_cases hp : (s.extract fr i).toList = []
        · simp only [if_pos hp]
          exact two true ⟨fun _ => .inl hp, fun _ => rfl⟩
        · simp only [if_neg hp]
          exact two _ ⟨fun h => .inr (beq_iff_eq.1 h), fun h => beq_iff_eq.2 (h.resolve_left hp)⟩
      refine Ev_succ ?_
      by_cases hi2 : i < s.size
      · have c1 : (i : Int) < (s.size : Int) := by omega
        have c2 : (bt s (i : Int) != 47) = false := by
          by_cases hb : bt s (i : Int) = 47
          · rw [hb]; rfl
          · exact absurd ⟨hi2, hb⟩ hgo
        simp only [spec_Clean.l0, if_pos ci, if_pos c1, if_pos c0, c2]
        exact one
      · have c1 : ¬ (i : Int) < (s.size : Int) := by omega
        simp only [spec_Clean.l0, if_pos ci, if_neg c1]
        exact one
def cleanTo (s : ByteArray) : ByteArray := if isP s = true then shown (cleaned s) else ⟨#[]⟩
theorem clean_spec (s : ByteArray) (hs : s.size ≤ 4000000) : Ev (fun k => spec_Clean.f k s) (cleanTo s) := by
  simp only [spec_Clean.f]
  refine Ev_call (path_spec s hs) ?_
  unfold cleanTo
  by_cases h : isP s = true
  · simp only [if_pos h]
    exact clean_spec_loop s (isP_size h).2 (s.size + 1) 0 0 [] (by omega) (by omega) (by omega) (fun j h1 h2 h3 => by omega) (by simp) (by simp)
  · simp only [if_neg h]
    exact Ev.now _
theorem clean_impl_loop (L : List ByteArray) (hL : L.length ≤ 41) (hz : ∀ x ∈ L, x.size ≤ 40) (d : Nat) : ∀ (i : Nat) (st : List ByteArray), i + d = L.length → st.length ≤ i → (∀ x ∈ st, x.size ≤ 40) →
    Ev (fun k => impl_Clean.l0 k st L (L.length : Int) (i : Int)) (shown ((L.drop i).foldl stp st)) := by
  induction d with
  | zero =>
    intro i st hi hl hzs
    have h0 : L.drop i = [] := List.drop_eq_nil_of_le (by omega)
    rw [h0, List.foldl_nil]
    refine Ev_succ ?_
    have c : ¬ (i : Int) < (L.length : Int) := by omega
    have hj : (Lib.join (st.map (·.data.toList)) [47]).length ≤ 2100 := by
      cases st with
      | nil => simp [Lib.join_nil]
      | cons x r =>
        rw [List.map_cons, Lib.join_cons, List.length_append]
        have h1 := joinTail_le (r.map (·.data.toList)) 40 (fun y hy => by obtain ⟨z, hz2, rfl⟩ := List.mem_map.1 hy; exact hzs z (.tail _ hz2))
        have h2 : x.data.toList.length ≤ 40 := hzs x (.head _)
        simp only [List.length_map, List.length_cons] at h1 hl
        omega
    have hjc : st.length ≤ 140737488355328 ∧ (Lib.join (st.map (·.data.toList)) (⟨#[47]⟩ : ByteArray).data.toList).length ≤ 140737488355328 := ⟨by omega, by
      have e : (⟨#[47]⟩ : ByteArray).data.toList = [47] := rfl
      rw [e]; omega⟩
    have hjz : 1 + (⟨(Lib.join (st.map (·.data.toList)) (⟨#[47]⟩ : ByteArray).data.toList).toArray⟩ : ByteArray).size ≤ 9223372036854775807 := by
      have e : (⟨(Lib.join (st.map (·.data.toList)) (⟨#[47]⟩ : ByteArray).data.toList).toArray⟩ : ByteArray).size = (Lib.join (st.map (·.data.toList)) [47]).length := rfl
      rw [e]; omega
    simp only [impl_Clean.l0, if_neg c, strings_Join.f, if_pos hjc, Option.bind_some, if_pos hjz]
    rw [← join_shown st]
    exact Ev.now _
  | succ d ih =>
    intro i st hi hl hzs
    have hil : i < L.length := by omega
    have hr : rdOf ByteArray.empty L (i : Int) = L[i] := by simp only [rdOf, Int.toNat_natCast, List.getD, List.getElem?_eq_getElem hil, Option.getD_some]
    have hxs : L[i].size ≤ 40 := hz _ (List.getElem_mem hil)
    have hlen := stp_len st L[i]
    have e := ih (i + 1) (stp st L[i]) (by omega) (by omega) (stp_size st _ 40 hzs hxs)
    have hw : wrap64 ((i : Int) + 1) = ((i + 1 : Nat) : Int) := by rw [w64 (by omega) (by omega)]; omega
    have c0 : 0 ≤ (i : Int) := by omega
    have c1 : (i : Int) < (L.length : Int) := by omega
    rw [List.drop_eq_getElem_cons hil, List.foldl_cons]
    generalize L[i] = x at hr hxs hlen e ⊢
    have two : ∀ b : Bool, (b = true ↔ x.toList = [] ∨ x.toList = [46]) → Ev (fun k => impl_Clean.j1 k st x L (L.length : Int) (i : Int) x b) (shown ((L.drop (i + 1)).foldl stp (stp st x))) := by
      intro b hb
      refine Ev_succ ?_
      by_cases hbt : b = true
      · have hs0 : stp st x = st := by
          unfold stp
          rcases hb.1 hbt with h | h
          · rw [if_pos h]
          · by_cases h' : x.toList = []
            · rw [if_pos h']
            · rw [if_neg h', if_pos h]
        rw [hs0] at e ⊢
        simp only [impl_Clean.j1, hbt, if_true, hw]
        exact e
      · have hno : ¬ (x.toList = [] ∨ x.toList = [46]) := fun h => hbt (hb.2 h)
        have hn1 : ¬ x.toList = [] := fun h => hno (.inl h)
        have hn2 : ¬ x.toList = [46] := fun h => hno (.inr h)
        by_cases hdd : x.toList = [46, 46]
        · have hs0 : stp st x = st.take (st.length - 1) := by unfold stp; rw [if_neg hn1, if_neg hn2, if_pos hdd]
          rw [hs0] at e ⊢
          have c4 : mx 0 (wrap64 ((st.length : Int) - 1)) = ((st.length - 1 : Nat) : Int) := by
            rw [w64 (by omega) (by omega)]
            unfold mx
            split <;> omega
          have c5 : 0 ≤ ((st.length - 1 : Nat) : Int) := by omega
          have c6 : ((st.length - 1 : Nat) : Int) ≤ (st.length : Int) := by omega
          simp only [impl_Clean.j1, hbt, if_false, Bool.false_eq_true, if_pos hdd, c4, if_pos c5, if_pos c6, Int.toNat_natCast, hw]
          exact e
        · have hs0 : stp st x = st ++ [x] := by unfold stp; rw [if_neg hn1, if_neg hn2, if_neg hdd]
          rw [hs0] at e ⊢
          have c7 : st.length < 8796093022208 := by omega
          simp only [impl_Clean.j1, hbt, if_false, Bool.false_eq_true, if_neg hdd, if_pos c7, hw]
          exact e
    refine Ev_succ ?_
    simp only [impl_Clean.l0, if_pos c1, if_pos c0, hr]
    by_cases hp : x.toList = []
    · have hpb : (x.toList == ([] : List UInt8)) = true := beq_iff_eq.2 hp
      simp only [if_pos hp, hpb]
      exact two true ⟨fun _ => .inl hp, fun _ => rfl⟩
    · simp only [if_neg hp]
      exact two _ ⟨fun h => .inr (beq_iff_eq.1 h), fun h => beq_iff_eq.2 (h.resolve_left hp)⟩
theorem clean_impl (s : ByteArray) (hs : s.size ≤ 4000000) : Ev (fun k => impl_Clean.f k s) (cleanTo s) := by
  simp only [impl_Clean.f]
  refine Ev_call (path_impl s hs) ?_
  unfold cleanTo
  by_cases h : isP s = true
  · have h40 := (isP_size h).2
    have c : s.size < 4294967281 ∧ 1 ≤ (⟨#[47]⟩ : ByteArray).size := ⟨by omega, Nat.le_refl _⟩
    simp only [if_pos h, strings_Split.f, if_pos c, Option.bind_some, splitB_sp]
    have hl1 := sp_len s.data.toList
    have hl2 := sp_size s.data.toList
    rw [data_length] at hl1 hl2
    exact clean_impl_loop ((sp s.data.toList).map PB) (by rw [List.length_map]; omega) (fun x hx => by
      obtain ⟨p, hp, rfl⟩ := List.mem_map.1 hx
      have := hl2 p hp
      rw [size_PB]; omega) _ 0 [] (Nat.zero_add _) (by simp) (by simp)
  · simp only [if_neg h]
    exact Ev.now _
theorem and255 (x : Int) : 0 ≤ Go.bits .and .i64 x 255 ∧ Go.bits .and .i64 x 255 ≤ 255 := by
  have h : (BitVec.ofInt IntKind.i64.bits x &&& BitVec.ofInt IntKind.i64.bits 255).toNat ≤ 255 := by
    rw [BitVec.toNat_and]
    exact Nat.le_trans Nat.and_le_right (by decide)
  simp only [Go.bits]
  rw [wraps_i64 _ (by omega) (by omega)]
  omega
theorem byte_some (b : List Int) (hb : b.length ≤ 140737488355328) (i h : Int) (h0 : 0 ≤ i) (h1 : i ≤ b.length) : ∃ x i' h', spec_l1Byte.f b i h = some (x, i', h') ∧ 0 ≤ x ∧ x ≤ 255 ∧ 0 ≤ i' ∧ i' ≤ b.length := by
  by_cases c : i < (b.length : Int)
  · have e : wrap64 (i + 1) = i + 1 := w64 (by omega) (by omega)
    exact ⟨_, i + 1, _, by simp only [spec_l1Byte.f, if_pos c, if_pos h0, e]; rfl, (and255 _).1, (and255 _).2, by omega, by omega⟩
  · exact ⟨_, i, _, by simp only [spec_l1Byte.f, if_neg c]; rfl, (and255 _).1, (and255 _).2, h0, h1⟩
theorem below_some (b : List Int) (hb : b.length ≤ 140737488355328) (i h : Int) (h0 : 0 ≤ i) (h1 : i ≤ b.length) (n : Int) : ∃ x i' h', spec_l1Below.f b i h n = some (x, i', h') ∧ 0 ≤ x ∧ (0 < n → x < n) ∧ (n ≤ 0 → x = 0) ∧ 0 ≤ i' ∧ i' ≤ b.length := by
  by_cases c : n ≤ 0
  · exact ⟨0, i, h, by simp only [spec_l1Below.f, if_pos c], by omega, by omega, fun _ => rfl, h0, h1⟩
  · obtain ⟨x, i1, q1, e1, a1, b1, c1, d1⟩ := byte_some b hb i h h0 h1
    have hz : ¬ n = 0 := by omega
    by_cases c2 : n ≤ 256
    · refine ⟨Int.tmod x n, i1, q1, ?_, ?_, ?_, ?_, c1, d1⟩
      · simp only [spec_l1Below.f, if_neg c, if_pos c2, e1, Option.bind_some, if_neg hz]
      · rw [tmod_nn a1]; exact Int.emod_nonneg _ hz
      · intro _; rw [tmod_nn a1]; exact Int.emod_lt_of_pos _ (by omega)
      · intro h; exact absurd h c
    · obtain ⟨y, i2, q2, e2, a2, b2, c3, d2⟩ := byte_some b hb i1 q1 c1 d1
      obtain ⟨z, i3, q3, e3, a3, b3, c4, d3⟩ := byte_some b hb i2 q2 c3 d2
      obtain ⟨v, i4, q4, e4, a4, b4, c5, d4⟩ := byte_some b hb i3 q3 c4 d3
      have hw : wrap64 ((wrap64 ((wrap64 ((wrap64 (x * 16777216)) + (wrap64 (y * 65536)))) + (wrap64 (z * 256)))) + v) = x * 16777216 + y * 65536 + z * 256 + v := by
        rw [w64 (x := x * 16777216) (by omega) (by omega), w64 (x := y * 65536) (by omega) (by omega), w64 (x := z * 256) (by omega) (by omega), w64 (x := x * 16777216 + y * 65536) (by omega) (by omega), w64 (x := x * 16777216 + y * 65536 + z * 256) (by omega) (by omega), w64 (by omega) (by omega)]
      have hp : 0 ≤ x * 16777216 + y * 65536 + z * 256 + v := by omega
      refine ⟨Int.tmod (x * 16777216 + y * 65536 + z * 256 + v) n, i4, q4, ?_, ?_, ?_, ?_, c5, d4⟩
      · simp only [spec_l1Below.f, if_neg c, if_neg c2, e1, e2, e3, e4, Option.bind_some, if_neg hz, hw]
      · rw [tmod_nn hp]; exact Int.emod_nonneg _ hz
      · intro _; rw [tmod_nn hp]; exact Int.emod_lt_of_pos _ (by omega)
      · intro h; exact absurd h c
theorem once_some (b : List Int) (hb : b.length ≤ 140737488355328) (i h : Int) (h0 : 0 ≤ i) (h1 : i ≤ b.length) (n : Int) : ∃ x i' h', spec_l1Once.f b i h n = some (x, i', h') ∧ 0 ≤ i' ∧ i' ≤ b.length := by
  obtain ⟨x, i1, q1, e1, a1, b1, c1, d1, f1⟩ := below_some b hb i h h0 h1 n
  exact ⟨x == 0, i1, q1, by simp only [spec_l1Once.f, e1, Option.bind_some], d1, f1⟩
theorem pick_some (b : List Int) (hb : b.length ≤ 140737488355328) (i h : Int) (h0 : 0 ≤ i) (h1 : i ≤ b.length) (l : List ByteArray) (hl : 0 < l.length) : ∃ s i' h', spec_l1Pick.f b i h l = some (s, i', h') ∧ s ∈ l ∧ 0 ≤ i' ∧ i' ≤ b.length := by
  obtain ⟨x, i1, q1, e1, a1, b1, c1, d1, f1⟩ := below_some b hb i h h0 h1 l.length
  have hx : x < (l.length : Int) := b1 (by omega)
  refine ⟨rdOf ByteArray.empty l x, i1, q1, by simp only [spec_l1Pick.f, e1, Option.bind_some, if_pos a1, if_pos hx], ?_, d1, f1⟩
  rw [rdOf, getD_at l _ _ (by omega)]; exact List.getElem_mem _
theorem new_loop (l : List Int) (hl : l.length ≤ 140737488355328) (d : Nat) : ∀ (x3 x4 : Int), 0 ≤ x4 → x4 + d = l.length → ∃ h, Ev (fun k => spec_l1New.l0 k l x3 x4) (l, 0, h) := by
  induction d with
  | zero =>
    intro x3 x4 h0 h1
    refine ⟨x3, Ev_succ ?_⟩
    have c : ¬ x4 < (l.length : Int) := by omega
    simp only [spec_l1New.l0, if_neg c]; exact Ev.now _
  | succ d ih =>
    intro x3 x4 h0 h1
    by_cases c2 : x4 < 4000
    · obtain ⟨h, e⟩ := ih (Go.bits .and .i64 (wrap64 ((wrap64 ((wrap64 (x3 * 131)) + (wrap64 (rd l x4)))) + 7)) 1073741823) (x4 + 1) (by omega) (by omega)
      refine ⟨h, Ev_succ ?_⟩
      have c : x4 < (l.length : Int) := by omega
      have hw : wrap64 (x4 + 1) = x4 + 1 := w64 (by omega) (by omega)
      simp only [spec_l1New.l0, if_pos c, if_pos c2, if_pos h0, hw]; exact e
    · refine ⟨x3, Ev_succ ?_⟩
      have c : x4 < (l.length : Int) := by omega
      simp only [spec_l1New.l0, if_pos c, if_neg c2]; exact Ev.now _
theorem new_ev (l : List Int) (hl : l.length ≤ 140737488355328) : ∃ h, Ev (fun k => spec_l1New.f k l) (l, 0, h) := by
  simp only [spec_l1New.f]
  exact new_loop l hl l.length _ 0 (by omega) (by omega)
theorem bang (s : ByteArray) (j : Nat) (h : j < s.size) : ((s.data[j]!).toNat : Int) = bt s (j : Int) := by
  rw [btAt s j h, getElem!_pos s.data j h, Array.getElem_toList]
theorem last_impl (a : ByteArray) (h : a.size ≤ 40) : strings_LastIndexByte.f a 47 = some (Lib.lastIndexByte a 47) := by
  unfold strings_LastIndexByte.f
  exact if_pos (Nat.lt_of_le_of_lt h (by decide))
theorem Ev_some_of {α : Type} {g : Option α} {a : α} (h : g = some a) : Ev (fun _ => g) a := h ▸ Ev.now a
theorem ext_ext (c : ByteArray) (i m : Nat) (h : i ≤ m) : (c.extract 0 m).extract 0 i = c.extract 0 i := by
  apply data_inj
  simp only [ByteArray.data_extract, Array.toList_extract, List.extract_eq_take_drop, List.drop_zero, Nat.sub_zero]
  rw [List.take_take, Nat.min_eq_left h]
theorem ext_size (c : ByteArray) (m : Nat) (h : m ≤ c.size) : (c.extract 0 m).size = m := by rw [ByteArray.size_extract]; omega
theorem ext_bt (c : ByteArray) (m j : Nat) (hj : j < m) (h : m ≤ c.size) : bt (c.extract 0 m) (j : Int) = bt c (j : Int) := by
  rw [btAt _ j (by rw [ext_size c m h]; exact hj), btAt c j (by omega)]
  have e : (c.extract 0 m).data.toList = c.data.toList.take m := by
    simp only [ByteArray.data_extract, Array.toList_extract, List.extract_eq_take_drop, List.drop_zero, Nat.sub_zero]
  have e2 : (c.extract 0 m).data.toList[j]'(by rw [data_length, ext_size c m h]; exact hj) = (c.data.toList.take m)[j]'(by rw [List.length_take, data_length]; omega) := by
    congr 1
  rw [e2, List.getElem_take]
theorem last_of (a : ByteArray) (h0 : bt a 0 = 47) (hs : 0 < a.size) : ∃ i : Nat, i < a.size ∧ Lib.lastIndexByte a 47 = i ∧ bt a (i : Int) = 47 ∧ ∀ j : Nat, i < j → j < a.size → bt a (j : Int) ≠ 47 := by
  rcases Lib.lastIndexByte_spec a 47 with ⟨_, hn⟩ | ⟨i, hi, he, h1, h2⟩
  · exact absurd ((bang a 0 hs).trans h0) (hn 0 hs)
  · exact ⟨i, hi, he, (bang a i hi).symm.trans h1, fun j hj hl e => h2 j hj hl ((bang a j hl).trans e)⟩
theorem up_scan (c : ByteArray) (hs : c.size ≤ 40) (acc r : List ByteArray) (i : Nat) (e : Ev (fun k => spec_Up.l0 k acc c (i : Int)) r) (d : Nat) :
    i + d < c.size → (∀ j : Nat, i < j → j ≤ i + d → bt c (j : Int) ≠ 47) → Ev (fun k => spec_Up.l0 k acc c ((i + d : Nat) : Int)) r := by
  induction d with
  | zero => intro _ _; exact e
  | succ d ih =>
    intro hl hn
    have e2 := ih (by omega) (fun j h1 h2 => hn j h1 (by omega))
    refine Ev_succ ?_
    have c0 : ((i + (d + 1) : Nat) : Int) > 0 := by omega
    have c1 : 0 ≤ ((i + (d + 1) : Nat) : Int) := by omega
    have c2 : ((i + (d + 1) : Nat) : Int) < (c.size : Int) := by omega
    have c3 := hn (i + (d + 1)) (by omega) (Nat.le_refl _)
    have hw : wrap64 (((i + (d + 1) : Nat) : Int) - 1) = ((i + d : Nat) : Int) := by rw [w64 (by omega) (by omega)]; omega
    simp only [spec_Up.l0, if_pos c0, if_pos c1, if_pos c2, if_neg c3, hw]
    exact e2
theorem impl_step (x : ByteArray) (acc r : List ByteArray) (i : Nat) (hs : x.size ≤ 40) (h1 : 1 < x.size) (hi : i < x.size) (he : Lib.lastIndexByte x 47 = i) (ha : acc.length ≤ 50) (z : ByteArray) (hz : z = if (x.extract 0 i).toList = [] then ⟨#[47]⟩ else x.extract 0 i)
    (e : Ev (fun k => impl_Up.l0 k z (acc ++ [z])) r) : Ev (fun k => impl_Up.l0 k x acc) r := by
  refine Ev_succ ?_
  have c0 : (x.size : Int) > 1 := by omega
  have c1 : 0 ≤ (i : Int) := by omega
  have c2 : (i : Int) ≤ (x.size : Int) := by omega
  have c3 : acc.length < 8796093022208 := by omega
  simp only [impl_Up.l0, if_pos c0]
  refine Ev_call (g := fun _ => strings_LastIndexByte.f x 47) (Ev_some_of ((last_impl x hs).trans (congrArg some he))) ?_
  simp only [if_pos c1, if_pos c2, Int.toNat_natCast, if_pos c3]
  by_cases hp : (x.extract 0 i).toList = []
  · rw [if_pos hp] at hz; subst hz
    simp only [if_pos hp]; exact e
  · rw [if_neg hp] at hz; subst hz
    simp only [if_neg hp]; exact e
theorem sp_app2 (a b : List UInt8) : sp (a ++ 47 :: b) = sp a ++ sp b := by
  induction a with
  | nil => simp [sp]
  | cons c a ih =>
    rw [List.cons_append, sp, sp]
    by_cases h : c = 47
    · rw [if_pos h, if_pos h, ih]; rfl
    · rw [if_neg h, if_neg h, ih]
      cases e : sp a with
      | nil => exact absurd e (sp_ne a)
      | cons x t => rfl
theorem join_sp (l : List UInt8) : ∀ h t, sp l = h :: t → h ++ Lib.joinTail [47] t = l := by
  induction l with
  | nil =>
    intro h t e
    simp [sp] at e
    obtain ⟨rfl, rfl⟩ := e
    rfl
  | cons c r ih =>
    intro h t e
    rw [sp] at e
    cases er : sp r with
    | nil => exact absurd er (sp_ne r)
    | cons x y =>
      have e2 := ih x y er
      rw [er] at e
      by_cases hc : c = 47
      · rw [if_pos hc] at e
        obtain ⟨rfl, rfl⟩ := List.cons.inj e
        rw [← e2, hc]
        simp [Lib.joinTail]
      · rw [if_neg hc] at e
        obtain ⟨rfl, rfl⟩ := List.cons.inj e
        rw [List.cons_append, e2]
theorem sp_shown2 (x : ByteArray) (r : List ByteArray) (h : ∀ y ∈ x :: r, good y) : sp (shown (x :: r)).data.toList = [] :: (x :: r).map (·.data.toList) := by
  have e : (shown (x :: r)).data.toList = [] ++ 47 :: (x.data.toList ++ Lib.joinTail [47] (r.map (·.data.toList))) := by
    rw [shown, if_neg (by simp), data_PB]
    simp [Lib.joinTail]
  rw [e, sp_app _ _ (by simp), sp_tail _ _ (h x (.head _)).2.2.2 (fun y hy => by
    obtain ⟨z, hz, rfl⟩ := List.mem_map.1 hy
    exact (h z (.tail _ hz)).2.2.2)]
  rfl
theorem ext_take (c : ByteArray) (i : Nat) : (c.extract 0 i).data.toList = c.data.toList.take i := by
  simp only [ByteArray.data_extract, Array.toList_extract, List.extract_eq_take_drop, List.drop_zero, Nat.sub_zero]
/-- What begins a clean path, up to a slash, is clean. -/
theorem clean_begin (s : ByteArray) (h : isP s = true) (i : Nat) (hi0 : 0 < i) (hi : i < (shown (cleaned s)).size) (h47 : bt (shown (cleaned s)) (i : Int) = 47) : cleanTo ((shown (cleaned s)).extract 0 i) = (shown (cleaned s)).extract 0 i := by
  have hP := (clean_fix h).1
  have hg := good_cleaned s
  cases hst : cleaned s with
  | nil => rw [hst] at hi; have e : (shown []).size = 1 := rfl; omega
  | cons x r =>
    rw [hst] at hi h47 hP hg
    have hsp := sp_shown2 x r hg
    obtain ⟨p1, p2, p3⟩ := (isP_iff _).1 hP
    generalize hc : shown (x :: r) = c at *
    have hlen := data_length c
    have hil : i < c.data.toList.length := by omega
    have e47 : c.data.toList[i] = 47 := by
      have := btAt c i hi
      rw [h47] at this
      apply UInt8.toNat_inj.1
      have e3 : (47 : UInt8).toNat = 47 := rfl
      rw [e3]; omega
    have hl : c.data.toList = c.data.toList.take i ++ 47 :: c.data.toList.drop (i + 1) := by
      have q : 47 :: c.data.toList.drop (i + 1) = c.data.toList.drop i := by rw [← e47]; exact (List.drop_eq_getElem_cons hil).symm
      rw [q, List.take_append_drop]
    have hx := ext_take c i
    have hs2 : sp (c.data.toList.take i) ++ sp (c.data.toList.drop (i + 1)) = [] :: (x :: r).map (·.data.toList) := by
      rw [← sp_app2, ← hl]; exact hsp
    cases ea : sp (c.data.toList.take i) with
    | nil => exact absurd ea (sp_ne _)
    | cons a t =>
      rw [ea, List.cons_append] at hs2
      obtain ⟨ha, ht⟩ := List.cons.inj hs2
      have hj := join_sp _ a t ea
      rw [ha, List.nil_append] at hj
      have hmem : ∀ p ∈ t.map PB, good p := by
        intro p hp
        obtain ⟨q, hq, rfl⟩ := List.mem_map.1 hp
        have : q ∈ (x :: r).map (·.data.toList) := by rw [← ht]; exact List.mem_append_left _ hq
        obtain ⟨y, hy, rfl⟩ := List.mem_map.1 this
        rw [PB_data]; exact hg y hy
      have hne : t.map PB ≠ [] := by
        intro e
        have e2 : t = [] := List.map_eq_nil_iff.1 e
        rw [e2] at hj
        have := congrArg List.length hj
        simp [Lib.joinTail] at this
        omega
      have hcl : cleaned (c.extract 0 i) = t.map PB := by
        unfold cleaned
        rw [hx, ea, ha, List.map_cons, List.foldl_cons, stp_nil, fold_good _ hmem]
        rfl
      have hsh : shown (t.map PB) = c.extract 0 i := by
        rw [shown, if_neg hne]
        apply data_inj
        rw [data_PB, hx, ← hj]
        congr 1
        rw [List.map_map]
        conv => rhs; rw [← List.map_id t]
        exact List.map_congr_left (fun z _ => rfl)
      have hp : isP (c.extract 0 i) = true := by
        rw [isP_iff]
        refine ⟨by rw [ext_size c i (by omega)]; omega, ?_, ?_⟩
        · rw [hx]
          cases ec : c.data.toList with
          | nil => rw [ec] at p2; simp at p2
          | cons y z =>
            rw [ec] at p2
            obtain ⟨j, rfl⟩ : ∃ j, i = j + 1 := ⟨i - 1, by omega⟩
            rw [List.take_succ_cons]; exact p2
        · intro z hz
          rw [hx] at hz
          exact p3 z (List.mem_of_mem_take hz)
      unfold cleanTo
      rw [if_pos hp, hcl, hsh]
/-- The directories that a clean path is in, from its first m bytes up. -/
inductive Ups (c : ByteArray) : Nat → List ByteArray → Prop
  | last (m : Nat) : 1 < m → Ups c m [⟨#[47]⟩]
  | more (m i : Nat) (rest : List ByteArray) : 0 < i → i < m → cleanTo (c.extract 0 i) = c.extract 0 i → Ups c i rest → Ups c m (c.extract 0 i :: rest)
theorem up_loop (c : ByteArray) (h0 : bt c 0 = 47) (h1 : bt c 1 ≠ 47) (hs : c.size ≤ 40) (hcl : ∀ i : Nat, 0 < i → i < c.size → bt c (i : Int) = 47 → cleanTo (c.extract 0 i) = c.extract 0 i) (n : Nat) : ∀ (m : Nat) (acc : List ByteArray), m ≤ n → 1 < m → m ≤ c.size → acc.length + m ≤ 48 →
    ∃ r : List ByteArray, Ups c m r ∧ r.length ≤ m ∧ Ev (fun k => spec_Up.l0 k acc c ((m - 1 : Nat) : Int)) (acc ++ r) ∧ Ev (fun k => impl_Up.l0 k (c.extract 0 m) acc) (acc ++ r) := by
  induction n with
  | zero => intro m acc h2 h3; omega
  | succ n ih =>
    intro m acc hmn hm1 hmc hacc
    have hsz := ext_size c m hmc
    have hb0 : bt (c.extract 0 m) 0 = 47 := (ext_bt c m 0 (by omega) hmc).trans h0
    obtain ⟨i, hi, he, h47, hne⟩ := last_of (c.extract 0 m) hb0 (by omega)
    rw [hsz] at hi hne
    have hc47 : bt c (i : Int) = 47 := (ext_bt c m i hi hmc).symm.trans h47
    have hcne : ∀ j : Nat, i < j → j ≤ i + (m - 1 - i) → bt c (j : Int) ≠ 47 := fun j a b e => hne j a (by omega) ((ext_bt c m j (by omega) hmc).trans e)
    have hi1 : i ≠ 1 := fun e => h1 (by subst e; exact hc47)
    have em : i + (m - 1 - i) = m - 1 := by omega
    by_cases hi0 : i = 0
    · subst hi0
      refine ⟨[⟨#[47]⟩], Ups.last m hm1, by simp; omega, ?_, ?_⟩
      · have e : Ev (fun k => spec_Up.l0 k acc c ((0 : Nat) : Int)) (acc ++ [⟨#[47]⟩]) := by
          refine Ev_succ ?_
          have c0 : ¬ ((0 : Nat) : Int) > 0 := by omega
          have c1 : (c.size : Int) > 1 := by omega
          have c2 : acc.length < 8796093022208 := by omega
          simp only [spec_Up.l0, if_neg c0, if_pos c1, if_pos c2]
          exact Ev.now _
        have q := up_scan c hs acc _ 0 e (m - 1 - 0) (by omega) hcne
        rw [em] at q
        exact q
      · refine impl_step (c.extract 0 m) acc _ 0 (by omega) (by omega) (by omega) he (by omega) ⟨#[47]⟩ ?_ ?_
        · have z : ((c.extract 0 m).extract 0 0).toList = [] := by
            rw [ext_ext c 0 m (by omega), toList_data]
            simp only [ByteArray.data_extract, Array.toList_extract, List.extract_eq_take_drop, List.drop_zero, Nat.sub_zero, List.take_zero]
          rw [if_pos z]
        · refine Ev_succ ?_
          have c0 : ¬ (((⟨#[47]⟩ : ByteArray).size : Int) > 1) := by decide
          simp only [impl_Up.l0, if_neg c0]
          exact Ev.now _
    · obtain ⟨r, hU, hr, e1, e2⟩ := ih i (acc ++ [c.extract 0 i]) (by omega) (by omega) (by omega) (by simp; omega)
      rw [List.append_assoc, List.singleton_append] at e1 e2
      refine ⟨c.extract 0 i :: r, Ups.more m i r (by omega) hi (hcl i (by omega) (by omega) hc47) hU, by simp; omega, ?_, ?_⟩
      · have e : Ev (fun k => spec_Up.l0 k acc c (i : Int)) (acc ++ c.extract 0 i :: r) := by
          refine Ev_succ ?_
          have c0 : (i : Int) > 0 := by omega
          have c1 : 0 ≤ (i : Int) := by omega
          have c2 : (i : Int) < (c.size : Int) := by omega
          have c4 : (i : Int) ≤ (c.size : Int) := by omega
          have c5 : acc.length < 8796093022208 := by omega
          have hw : wrap64 ((i : Int) - 1) = ((i - 1 : Nat) : Int) := by rw [w64 (by omega) (by omega)]; omega
          simp only [spec_Up.l0, if_pos c0, if_pos c1, if_pos c2, if_pos hc47, if_pos c4, if_pos c5, Int.toNat_natCast, hw]
          exact e1
        have q := up_scan c hs acc _ i e (m - 1 - i) (by omega) hcne
        rw [em] at q
        exact q
      · refine impl_step (c.extract 0 m) acc _ i (by omega) (by omega) (by omega) he (by omega) (c.extract 0 i) ?_ e2
        have z : ¬ ((c.extract 0 m).extract 0 i).toList = [] := by
          rw [ext_ext c i m (by omega), toList_data]
          intro e
          have := congrArg List.length e
          rw [data_length, ext_size c i (by omega)] at this
          simp at this; omega
        rw [if_neg z, ext_ext c i m (by omega)]
theorem up_all (s : ByteArray) (hs : s.size ≤ 1048576) : ∃ r : List ByteArray, r.length ≤ 40 ∧ Ev (fun k => spec_Up.f k s) r ∧ Ev (fun k => impl_Up.f k s) r ∧
    ((r = [] ∧ ((cleanTo s).toList = [] ∨ (cleanTo s).toList = [47])) ∨ (isP s = true ∧ 1 < (cleanTo s).size ∧ (cleanTo s).size ≤ 40 ∧ bt (cleanTo s) 0 = 47 ∧ Ups (cleanTo s) (cleanTo s).size r)) := by
  have main : ∃ r : List ByteArray, r.length ≤ 40 ∧ Ev (fun k => spec_Up.l0 k [] (cleanTo s) (wrap64 (((cleanTo s).size : Int) - 1))) r ∧ Ev (fun k => impl_Up.l0 k (cleanTo s) []) r ∧
    ((r = [] ∧ ((cleanTo s).toList = [] ∨ (cleanTo s).toList = [47])) ∨ (isP s = true ∧ 1 < (cleanTo s).size ∧ (cleanTo s).size ≤ 40 ∧ bt (cleanTo s) 0 = 47 ∧ Ups (cleanTo s) (cleanTo s).size r)) := by
    have small : ∀ c : ByteArray, c.size ≤ 1 → Ev (fun k => spec_Up.l0 k [] c (wrap64 ((c.size : Int) - 1))) [] ∧ Ev (fun k => impl_Up.l0 k c []) [] := by
      intro c hc
      refine ⟨Ev_succ ?_, Ev_succ ?_⟩
      · have hw : wrap64 ((c.size : Int) - 1) = (c.size : Int) - 1 := w64 (by omega) (by omega)
        have c0 : ¬ ((c.size : Int) - 1 > 0) := by omega
        have c1 : ¬ ((c.size : Int) > 1) := by omega
        simp only [spec_Up.l0, hw, if_neg c0, if_neg c1]
        exact Ev.now _
      · have c1 : ¬ ((c.size : Int) > 1) := by omega
        simp only [impl_Up.l0, if_neg c1]
        exact Ev.now _
    by_cases hp : isP s = true
    · have ec : cleanTo s = shown (cleaned s) := by unfold cleanTo; rw [if_pos hp]
      rw [ec]
      have hP := (clean_fix hp).1
      have h40 := (isP_size hP).2
      have h1' := (isP_size hP).1
      have h0 : bt (shown (cleaned s)) 0 = 47 := by
        unfold isP at hP
        simp only [Bool.and_eq_true, decide_eq_true_eq, beq_iff_eq] at hP
        exact hP.1.2
      by_cases h1 : (shown (cleaned s)).size ≤ 1
      · refine ⟨[], by simp, (small _ h1).1, (small _ h1).2, Or.inl ⟨rfl, Or.inr ?_⟩⟩
        have hh := ((isP_iff _).1 hP).2.1
        have hl := data_length (shown (cleaned s))
        rw [toList_data]
        cases e : (shown (cleaned s)).data.toList with
        | nil => rw [e] at hh; simp at hh
        | cons y z =>
          rw [e] at hh hl
          simp at hh hl
          rw [hh, List.eq_nil_of_length_eq_zero (l := z) (by omega)]
      · obtain ⟨r, hU, hr, e1, e2⟩ := up_loop (shown (cleaned s)) h0 (shown_second (by omega)) h40 (fun i a b d => clean_begin s hp i a b d) _ (shown (cleaned s)).size [] (Nat.le_refl _) (by omega) (Nat.le_refl _) (by simp; omega)
        have hw : wrap64 (((shown (cleaned s)).size : Int) - 1) = (((shown (cleaned s)).size - 1 : Nat) : Int) := by rw [w64 (by omega) (by omega)]; omega
        have hx : (shown (cleaned s)).extract 0 (shown (cleaned s)).size = shown (cleaned s) := by
          apply data_inj
          simp only [ByteArray.data_extract, Array.toList_extract, List.extract_eq_take_drop, List.drop_zero, Nat.sub_zero]
          exact List.take_of_length_le (by rw [data_length]; omega)
        rw [hw]
        rw [hx] at e2
        rw [List.nil_append] at e1 e2
        exact ⟨r, by omega, e1, e2, Or.inr ⟨hp, by omega, h40, h0, hU⟩⟩
    · have ec : cleanTo s = ⟨#[]⟩ := by unfold cleanTo; rw [if_neg hp]
      rw [ec]
      exact ⟨[], by simp, (small _ (by decide)).1, (small _ (by decide)).2, Or.inl ⟨rfl, Or.inl (toList_data _)⟩⟩
  obtain ⟨r, hr, e1, e2, e3⟩ := main
  refine ⟨r, hr, ?_, ?_, e3⟩
  · simp only [spec_Up.f]; exact Ev_call (clean_spec s (by omega)) e1
  · simp only [impl_Up.f]; exact Ev_call (clean_impl s (by omega)) e2
theorem l2some_some (b : List Int) (hb : b.length ≤ 140737488355328) (i h : Int) (h0 : 0 ≤ i) (h1 : i ≤ b.length) : ∃ s i' h', spec_l2Some.f b i h = some (s, i', h') ∧ s.size ≤ 41 ∧ 0 ≤ i' ∧ i' ≤ b.length := by
  obtain ⟨s1, i1, q1, e1, m1, a1, b1⟩ := pick_some b hb i h h0 h1 ([(⟨#[47, 97]⟩ : ByteArray), (⟨#[47, 98]⟩ : ByteArray), (⟨#[47, 99]⟩ : ByteArray), (⟨#[47, 100]⟩ : ByteArray), (⟨#[47, 108, 105, 98, 47, 120]⟩ : ByteArray), (⟨#[47, 97, 47, 46, 46, 47, 98]⟩ : ByteArray), (⟨#[47, 46, 47, 99]⟩ : ByteArray), (⟨#[47, 47, 97, 47]⟩ : ByteArray), (⟨#[47, 108, 105, 98, 47, 46, 47, 120]⟩ : ByteArray), (⟨#[47, 97, 47, 98]⟩ : ByteArray)] : List ByteArray) (by decide)
  have z1 : s1.size ≤ 41 := (show ∀ s ∈ ([(⟨#[47, 97]⟩ : ByteArray), (⟨#[47, 98]⟩ : ByteArray), (⟨#[47, 99]⟩ : ByteArray), (⟨#[47, 100]⟩ : ByteArray), (⟨#[47, 108, 105, 98, 47, 120]⟩ : ByteArray), (⟨#[47, 97, 47, 46, 46, 47, 98]⟩ : ByteArray), (⟨#[47, 46, 47, 99]⟩ : ByteArray), (⟨#[47, 47, 97, 47]⟩ : ByteArray), (⟨#[47, 108, 105, 98, 47, 46, 47, 120]⟩ : ByteArray), (⟨#[47, 97, 47, 98]⟩ : ByteArray)] : List ByteArray), s.size ≤ 41 by decide) _ m1
  obtain ⟨o2, i2, q2, e2, a2, b2⟩ := once_some b hb i1 q1 a1 b1 8
  cases o2 with
  | false =>
    refine ⟨s1, i2, q2, ?_, z1, a2, b2⟩
    unfold spec_l2Some.f
    rw [e1, Option.bind_some, e2, Option.bind_some]
    rfl
  | true =>
    obtain ⟨s3, i3, q3, e3, m3, a3, b3⟩ := pick_some b hb i2 q2 a2 b2 ([(⟨#[]⟩ : ByteArray), (⟨#[97]⟩ : ByteArray), (⟨#[47, 65]⟩ : ByteArray), (⟨#[47]⟩ : ByteArray), (⟨#[47, 46, 46]⟩ : ByteArray), (⟨#[47, 97, 32, 98]⟩ : ByteArray), (⟨#[47, 97, 97, 97, 97, 97, 97, 97, 97, 97, 97, 97, 97, 97, 97, 97, 97, 97, 97, 97, 97, 97, 97, 97, 97, 97, 97, 97, 97, 97, 97, 97, 97, 97, 97, 97, 97, 97, 97, 97]⟩ : ByteArray), (⟨#[47, 97, 97, 97, 97, 97, 97, 97, 97, 97, 97, 97, 97, 97, 97, 97, 97, 97, 97, 97, 97, 97, 97, 97, 97, 97, 97, 97, 97, 97, 97, 97, 97, 97, 97, 97, 97, 97, 97, 97, 97]⟩ : ByteArray)] : List ByteArray) (by decide)
    have z3 : s3.size ≤ 41 := (show ∀ s ∈ ([(⟨#[]⟩ : ByteArray), (⟨#[97]⟩ : ByteArray), (⟨#[47, 65]⟩ : ByteArray), (⟨#[47]⟩ : ByteArray), (⟨#[47, 46, 46]⟩ : ByteArray), (⟨#[47, 97, 32, 98]⟩ : ByteArray), (⟨#[47, 97, 97, 97, 97, 97, 97, 97, 97, 97, 97, 97, 97, 97, 97, 97, 97, 97, 97, 97, 97, 97, 97, 97, 97, 97, 97, 97, 97, 97, 97, 97, 97, 97, 97, 97, 97, 97, 97, 97]⟩ : ByteArray), (⟨#[47, 97, 97, 97, 97, 97, 97, 97, 97, 97, 97, 97, 97, 97, 97, 97, 97, 97, 97, 97, 97, 97, 97, 97, 97, 97, 97, 97, 97, 97, 97, 97, 97, 97, 97, 97, 97, 97, 97, 97, 97]⟩ : ByteArray)] : List ByteArray), s.size ≤ 41 by decide) _ m3
    refine ⟨s3, i3, q3, ?_, z3, a3, b3⟩
    unfold spec_l2Some.f
    rw [e1, Option.bind_some, e2, Option.bind_some]
    rw [if_pos rfl, e3]
    rfl
theorem draw_up (l : List Int) (hl : l.length ≤ 140737488355328) : ∃ s : ByteArray, Ev (fun k => spec_DrawUp.f k l) s ∧ s.size ≤ 41 := by
  obtain ⟨h, e0⟩ := new_ev l hl
  obtain ⟨o, i1, q1, e1, a1, b1⟩ := once_some l hl 0 h (by omega) (by omega) 2
  cases o with
  | true =>
    obtain ⟨s2, i2, q2, e2, m2, a2, b2⟩ := pick_some l hl i1 q1 a1 b1 ([(⟨#[47, 97, 47, 98, 47, 99]⟩ : ByteArray), (⟨#[47, 97, 47, 98, 47, 46, 46, 47, 99, 47, 100]⟩ : ByteArray), (⟨#[47]⟩ : ByteArray), (⟨#[47, 97]⟩ : ByteArray), (⟨#[47, 47, 120, 47, 47, 121, 47]⟩ : ByteArray)] : List ByteArray) (by decide)
    have z2 : s2.size ≤ 41 := (show ∀ s ∈ ([(⟨#[47, 97, 47, 98, 47, 99]⟩ : ByteArray), (⟨#[47, 97, 47, 98, 47, 46, 46, 47, 99, 47, 100]⟩ : ByteArray), (⟨#[47]⟩ : ByteArray), (⟨#[47, 97]⟩ : ByteArray), (⟨#[47, 47, 120, 47, 47, 121, 47]⟩ : ByteArray)] : List ByteArray), s.size ≤ 41 by decide) _ m2
    refine ⟨s2, ?_, z2⟩
    unfold spec_DrawUp.f
    refine Ev_call e0 (Ev_call (Ev_some_of e1) ?_)
    simp only [if_true]
    exact Ev_call (Ev_some_of e2) (Ev.now _)
  | false =>
    obtain ⟨s2, i2, q2, e2, z2, a2, b2⟩ := l2some_some l hl i1 q1 a1 b1
    refine ⟨s2, ?_, z2⟩
    unfold spec_DrawUp.f
    refine Ev_call e0 (Ev_call (Ev_some_of e1) ?_)
    simp only [Bool.false_eq_true, if_false]
    exact Ev_call (Ev_some_of e2) (Ev.now _)
theorem same_loop (l : List ByteArray) (hl : l.length ≤ 1048576) (d : Nat) : ∀ i : Nat, i + d = l.length → Ev (fun k => laws_sameTexts.l0 k l l i) true := by
  induction d with
  | zero =>
    intro i hi
    refine Ev_succ ?_
    simp (disch := omega) only [laws_sameTexts.l0, if_neg]; exact Ev.now _
  | succ d ih =>
    intro i hi
    refine Ev_succ ?_
    have hn : wrap64 ((i : Int) + 1) = ((i + 1 : Nat) : Int) := by rw [w64 (by omega) (by omega)]; omega
    simp (disch := omega) only [laws_sameTexts.l0, if_pos, if_true, hn]; exact ih (i + 1) (by omega)
theorem same_ev (l : List ByteArray) (hl : l.length ≤ 1048576) : Ev (fun k => laws_sameTexts.f k l l) true := by
  simp only [laws_sameTexts.f, if_true]
  exact same_loop l hl l.length 0 (by omega)
theorem begins_ext (c : ByteArray) (i : Nat) (hi : i ≤ c.size) : laws_begins.f (c.extract 0 i) c = some true := by
  have hz := ext_size c i hi
  have c1 : (i : Int) ≤ (c.size : Int) := by omega
  have c2 : 0 ≤ (i : Int) := by omega
  simp only [laws_begins.f, hz, if_pos c1, if_pos c2, Int.toNat_natCast, beq_self_eq_true]
theorem root_ext (c : ByteArray) (h0 : bt c 0 = 47) (hs : 0 < c.size) : c.extract 0 1 = ⟨#[47]⟩ := by
  apply data_inj
  rw [ext_take]
  obtain ⟨x, r, hr⟩ : ∃ x r, c.data.toList = x :: r := by
    cases e : c.data.toList with
    | nil => have := data_length c; rw [e] at this; simp at this; omega
    | cons x r => exact ⟨x, r, rfl⟩
  have hb := btAt c 0 hs
  rw [show ((0 : Nat) : Int) = 0 from rfl, h0] at hb
  have e2 : c.data.toList[0]'(by rw [Array.length_toList]; exact hs) = x := by simp [hr]
  rw [e2] at hb
  have hx : x = 47 := by
    apply UInt8.toNat_inj.1
    have e3 : (47 : UInt8).toNat = 47 := rfl
    rw [e3]; omega
  rw [hr, hx]; rfl
theorem getD_pre (pre l : List ByteArray) (x : ByteArray) : rdOf ByteArray.empty (pre ++ x :: l) (pre.length : Int) = x := by
  unfold rdOf
  exact getD_mid pre l x _
/-- One directory: it begins the path, is shorter than the one ahead of it, and is clean. -/
theorem up_round (c : ByteArray) (hc : c.size ≤ 40) (pre l : List ByteArray) (x : ByteArray) (m : Nat) (hm : m ≤ c.size) (hl : (pre ++ x :: l).length ≤ 100) (hx : c.extract 0 x.size = x) (hxm : x.size < m) (hcl : cleanTo x = x)
    (hp : pre = [] ∨ (∃ p0 y, pre = p0 ++ [y] ∧ y.size = m)) (e : Ev (fun k => laws_FnUp.l0 k (pre ++ x :: l) c ((pre.length + 1 : Nat) : Int)) true) : Ev (fun k => laws_FnUp.l0 k (pre ++ x :: l) c (pre.length : Int)) true := by
  have hlen := len_mid pre l x
  refine Ev_succ ?_
  have c0 : (pre.length : Int) < ((pre ++ x :: l).length : Int) := by omega
  have c1 : 0 ≤ (pre.length : Int) := by omega
  have hn : wrap64 ((pre.length : Int) + 1) = ((pre.length + 1 : Nat) : Int) := by rw [w64 (by omega) (by omega)]; omega
  have hb : laws_begins.f x c = some true := by
    have := begins_ext c x.size (by omega)
    rw [hx] at this; exact this
  have c2 : ¬ ((x.size : Int) ≥ (c.size : Int)) := by omega
  have ec := clean_spec x (by omega)
  rw [hcl] at ec
  simp only [laws_FnUp.l0, if_pos c0, if_pos c1, getD_pre, hn]
  refine Ev_call (Ev_some_of hb) ?_
  simp only [if_true, if_neg c2]
  rcases hp with rfl | ⟨p0, y, rfl, hy⟩
  · have c3 : ¬ ((([] : List ByteArray).length : Int) > 0) := by simp
    simp only [if_neg c3]
    refine Ev_call ec ?_
    simp only [if_true]; exact e
  · have hpl : (p0 ++ [y]).length = p0.length + 1 := by simp
    have c3 : (((p0 ++ [y]).length : Int) > 0) := by omega
    have hw : wrap64 (((p0 ++ [y]).length : Int) - 1) = (p0.length : Int) := by rw [w64 (by omega) (by omega)]; omega
    have c4 : 0 ≤ (p0.length : Int) := by omega
    have c5 : (p0.length : Int) < ((p0 ++ [y] ++ x :: l).length : Int) := by simp; omega
    have ey : rdOf ByteArray.empty (p0 ++ [y] ++ x :: l) (p0.length : Int) = y := by
      rw [List.append_assoc]; exact getD_pre p0 (x :: l) y
    have c6 : ¬ ((x.size : Int) ≥ (y.size : Int)) := by omega
    simp only [if_pos c3, hw, if_pos c4, if_pos c5, ey, if_neg c6]
    refine Ev_call ec ?_
    simp only [if_true]; exact e
theorem up_law (c : ByteArray) (hc : c.size ≤ 40) (h0 : bt c 0 = 47) {m : Nat} {l : List ByteArray} (hU : Ups c m l) : m ≤ c.size → ∀ pre : List ByteArray, (pre ++ l).length ≤ 100 → (pre = [] ∨ (∃ p0 y, pre = p0 ++ [y] ∧ y.size = m)) →
    Ev (fun k => laws_FnUp.l0 k (pre ++ l) c (pre.length : Int)) true := by
  induction hU with
  | last m h1 =>
    intro hm pre hl hp
    have hr := root_ext c h0 (by omega)
    have hz : (⟨#[47]⟩ : ByteArray).size = 1 := rfl
    refine up_round c hc pre [] ⟨#[47]⟩ m hm hl (by rw [hz]; exact hr) (by rw [hz]; omega) (by decide +kernel) hp ?_
    have hlen := len_mid pre [] (⟨#[47]⟩ : ByteArray)
    refine Ev_succ ?_
    have c0 : ¬ (((pre.length + 1 : Nat) : Int) < ((pre ++ [(⟨#[47]⟩ : ByteArray)]).length : Int)) := by rw [hlen]; simp
    have c1 : ¬ (((pre ++ [(⟨#[47]⟩ : ByteArray)]).length : Int) = 0) := by rw [hlen]; simp; omega
    have hw : wrap64 (((pre ++ [(⟨#[47]⟩ : ByteArray)]).length : Int) - 1) = (pre.length : Int) := by
      have : (pre ++ [(⟨#[47]⟩ : ByteArray)]).length = pre.length + 1 := by simp
      rw [w64 (by omega) (by omega)]; omega
    have c2 : 0 ≤ (pre.length : Int) := by omega
    have c3 : (pre.length : Int) < ((pre ++ [(⟨#[47]⟩ : ByteArray)]).length : Int) := by rw [hlen]; simp; omega
    simp only [laws_FnUp.l0, if_neg c0, if_neg c1, hw, if_pos c2, if_pos c3, getD_pre]
    exact Ev_some (by rw [beq_iff_eq, toList_data])
  | more m i rest hi0 him hcl hU ih =>
    intro hm pre hl hp
    have hz := ext_size c i (by omega)
    refine up_round c hc pre rest (c.extract 0 i) m hm hl (by rw [hz]) (by omega) hcl hp ?_
    have e := ih (by omega) (pre ++ [c.extract 0 i]) (by simpa using hl) (Or.inr ⟨pre, _, rfl, hz⟩)
    rw [List.append_assoc, List.singleton_append] at e
    have hpl : (pre ++ [c.extract 0 i]).length = pre.length + 1 := by simp
    rw [hpl] at e
    exact e
theorem FnUp : laws_FnUp.Say := by
  intro l hlw
  apply Ev.rounds
  simp only [laws_FnUp.f, laws_big.f, Option.bind_some]
  by_cases h : (l.length : Int) > 1048576
  · simp only [decide_eq_true h, if_true]; exact Ev.now _
  · simp only [decide_eq_false h, Bool.false_eq_true, if_false]
    obtain ⟨s, e, hs⟩ := draw_up l (by omega)
    obtain ⟨r, hr, e1, e2, e3⟩ := up_all s (by omega)
    refine Ev_call e (Ev_call e2 (Ev_call (clean_spec s (by omega)) (Ev_call e1 (Ev_call (same_ev r (by omega)) ?_))))
    simp only [if_true]
    rcases e3 with ⟨rfl, h3⟩ | ⟨h1, h2, h3, h4, hU⟩
    · have fin : Ev (fun k => laws_FnUp.j0 k [] (cleanTo s) false) true := by
        refine Ev_succ ?_
        simp only [laws_FnUp.j0, Bool.false_eq_true, if_false]
        refine Ev_succ ?_
        have c0 : ¬ ((0 : Int) < (([] : List ByteArray).length : Int)) := by simp
        have c1 : ((([] : List ByteArray).length : Int) = 0) := rfl
        simp only [laws_FnUp.l0, if_neg c0, if_pos c1]
        exact Ev.now _
      have hb : (((([] : List ByteArray).length : Int) == 0)) = true := rfl
      by_cases hc : (cleanTo s).toList = []
      · simp only [if_pos hc, hb, bne_self_eq_false]; exact fin
      · rcases h3 with h3 | h3
        · exact absurd h3 hc
        · have hq : ((cleanTo s).toList == ([47] : List UInt8)) = true := by rw [beq_iff_eq]; exact h3
          simp only [if_neg hc, hb, hq, bne_self_eq_false]; exact fin
    · have hc : ¬ (cleanTo s).toList = [] := by
        rw [toList_data]; intro q
        have := data_length (cleanTo s)
        rw [q] at this; simp at this; omega
      have hq : ((cleanTo s).toList == ([47] : List UInt8)) = false := by
        rw [toList_data]
        apply beq_eq_false_iff_ne.2
        intro q
        have := data_length (cleanTo s)
        rw [q] at this; simp at this; omega
      have hrl : 0 < r.length := by cases hU <;> simp
      have hb : ((r.length : Int) == 0) = false := by
        apply beq_eq_false_iff_ne.2; omega
      simp only [if_neg hc, hb, hq, bne_self_eq_false]
      refine Ev_succ ?_
      simp only [laws_FnUp.j0, Bool.false_eq_true, if_false]
      have := up_law (cleanTo s) h3 h4 hU (Nat.le_refl _) [] (by simp; omega) (Or.inl rfl)
      exact this


end Go.Proofs.YtpomlknkfedekaaDoor.Pure

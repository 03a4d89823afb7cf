import Derived.Test.YtkmcnjpgamaljaaDoorSayFnExactChanged
import Derived.Test.YtkmcnjpgamaljaaDoorSegL
import Derived.Test.YtkmcnjpgamaljaaDoorRiseL
import Derived.Test.YtkmcnjpgamaljaaDoorKit
import Derived.Lib.SlBy
/- FnExactChanged: both tell the same paths, of files that are in one list and not in the other one; for every two lists. -/
namespace Go.Proofs.YtkmcnjpgamaljaaDoor.Pure
open Go.RowKit Go.Proofs.YtkmcnjpgamaljaaDoor.PFnExactChanged Go.Proofs.YtkmcnjpgamaljaaDoorW.PrintWords Go.Proofs.YtkmcnjpgamaljaaDoorW.PrintLast Go.Proofs.YtkmcnjpgamaljaaDoorW.PrintMore Go.Proofs.YtkmcnjpgamaljaaDoor.Kit
set_option linter.unusedSimpArgs false
set_option linter.unusedVariables false

theorem path_spec_loop (s : ByteArray) (hs : s.size ≤ 4000000) (d : Nat) : ∀ (i : Int), 0 ≤ i → i + d = s.size → Ev (fun k => spec_l2Path.l0 k s i) (okF s i d) := by
  induction d with
  | zero =>
    intro i h0 h1
    refine Ev_succ ?_
    simp (disch := omega) only [spec_l2Path.l0, if_neg]
    exact Ev.now _
  | succ d ih =>
    intro i h0 h1
    refine Ev_succ ?_
    have hw : wrap64 (i + 1) = i + 1 := w64 (by omega) (by omega)
    have h2 : i < (s.size : Int) := by omega
    by_cases ho : okb (bt s i) = true
    · have e := ih (i + 1) (by omega) (by omega)
      rw [okF, ho, Bool.true_and]
      have ho' := of_decide_eq_true ho
      refine Ev.congr (fun k => ?_) e
      simp only [spec_l2Path.l0, if_pos h2, if_pos h0, hw]
      repeat' split
      all_goals first | rfl | (exfalso; omega)
    · rw [okF, Bool.eq_false_iff.mpr ho, Bool.false_and]
      have ho' : ¬ ((97 ≤ bt s i ∧ bt s i ≤ 122) ∨ (48 ≤ bt s i ∧ bt s i ≤ 57) ∨ bt s i = 46 ∨ bt s i = 95 ∨ bt s i = 45 ∨ bt s i = 47) := fun h => ho (decide_eq_true h)
      refine Ev.congr (fun k => ?_) (Ev.now false)
      simp only [spec_l2Path.l0, if_pos h2, if_pos h0, hw]
      repeat' split
      all_goals first | rfl | (exfalso; omega)
theorem path_spec (s : ByteArray) (hs : s.size ≤ 4000000) : Ev (fun k => spec_l2Path.f k s) (isP s) := by
  unfold isP
  by_cases h : 1 ≤ s.size ∧ s.size ≤ 40
  · have c1 : (s.size : Int) ≥ 1 := by omega
    have c2 : decide ((s.size : Int) ≤ 40) = true := decide_eq_true (by omega)
    have c3 : 0 < (s.size : Int) := by omega
    simp only [spec_l2Path.f, spec_l1In.f, if_pos c1, c2, Option.bind_some, if_true, if_pos c3, h.1, h.2, decide_true, Bool.true_and]
    refine Ev_succ ?_
    by_cases hb : bt s 0 = 47
    · have e1 : (bt s 0 != 47) = false := by rw [hb]; rfl
      have e2 : (bt s 0 == 47) = true := by rw [hb]; rfl
      simp only [spec_l2Path.j0, e1, e2, Bool.true_and, Bool.false_eq_true, if_false]
      exact path_spec_loop s hs s.size 0 (by omega) (by omega)
    · have e1 : (bt s 0 != 47) = true := bne_iff_ne.mpr hb
      have e2 : (bt s 0 == 47) = false := beq_eq_false_iff_ne.mpr hb
      simp only [spec_l2Path.j0, e1, e2, Bool.false_and, if_true]
      exact Ev.now _
  · have e : (decide (1 ≤ s.size) && decide (s.size ≤ 40)) = false := by
      rw [← Bool.decide_and]; exact decide_eq_false h
    rw [e, Bool.false_and, Bool.false_and]
    by_cases c1 : (s.size : Int) ≥ 1
    · have c2 : decide ((s.size : Int) ≤ 40) = false := decide_eq_false (by omega)
      simp only [spec_l2Path.f, spec_l1In.f, if_pos c1, c2, Option.bind_some, Bool.false_eq_true, if_false]
      refine Ev_succ ?_
      simp only [spec_l2Path.j0, if_true]
      exact Ev.now _
    · simp only [spec_l2Path.f, spec_l1In.f, if_neg c1, Option.bind_some, Bool.false_eq_true, if_false]
      refine Ev_succ ?_
      simp only [spec_l2Path.j0, if_true]
      exact Ev.now _
theorem path_impl_loop (s : ByteArray) (hs : s.size ≤ 4000000) (d : Nat) : ∀ (i : Int), 0 ≤ i → i + d = s.size → Ev (fun k => impl_isPath.l0 k s s.size i) (okF s i d && (decide (1 ≤ s.size) && decide (s.size ≤ 40) && (bt s 0 == 47))) := by
  induction d with
  | zero =>
    intro i h0 h1
    refine Ev_succ ?_
    rw [okF, Bool.true_and]
    by_cases h : 1 ≤ s.size ∧ s.size ≤ 40
    · have c1 : (s.size : Int) ≥ 1 := by omega
      have c2 : decide ((s.size : Int) ≤ 40) = true := decide_eq_true (by omega)
      have c3 : 0 < (s.size : Int) := by omega
      have c4 : ¬ i < (s.size : Int) := by omega
      simp only [impl_isPath.l0, if_neg c4, impl_in.f, if_pos c1, c2, Option.bind_some, if_true, if_pos c3, h.1, h.2, decide_true, Bool.true_and]
      exact Ev.now _
    · have e : (decide (1 ≤ s.size) && decide (s.size ≤ 40)) = false := by
        rw [← Bool.decide_and]; exact decide_eq_false h
      have c4 : ¬ i < (s.size : Int) := by omega
      rw [e, Bool.false_and]
      by_cases c1 : (s.size : Int) ≥ 1
      · have c2 : decide ((s.size : Int) ≤ 40) = false := decide_eq_false (by omega)
        simp only [impl_isPath.l0, if_neg c4, impl_in.f, if_pos c1, c2, Option.bind_some, Bool.false_eq_true, if_false]
        exact Ev.now _
      · simp only [impl_isPath.l0, if_neg c4, impl_in.f, if_neg c1, Option.bind_some, Bool.false_eq_true, if_false]
        exact Ev.now _
  | succ d ih =>
    intro i h0 h1
    refine Ev_succ ?_
    have hw : wrap64 (i + 1) = i + 1 := w64 (by omega) (by omega)
    have h2 : i < (s.size : Int) := by omega
    by_cases ho : okb (bt s i) = true
    · have e := ih (i + 1) (by omega) (by omega)
      rw [okF, ho, Bool.true_and]
      have ho' := of_decide_eq_true ho
      refine Ev.congr (fun k => ?_) e
      simp only [impl_isPath.l0, if_pos h2, if_pos h0, hw]
      repeat' split
      all_goals first | rfl | (exfalso; omega)
    · rw [okF, Bool.eq_false_iff.mpr ho, Bool.false_and, Bool.false_and]
      have ho' : ¬ ((97 ≤ bt s i ∧ bt s i ≤ 122) ∨ (48 ≤ bt s i ∧ bt s i ≤ 57) ∨ bt s i = 46 ∨ bt s i = 95 ∨ bt s i = 45 ∨ bt s i = 47) := fun h => ho (decide_eq_true h)
      refine Ev.congr (fun k => ?_) (Ev.now false)
      simp only [impl_isPath.l0, if_pos h2, if_pos h0, hw]
      repeat' split
      all_goals first | rfl | (exfalso; omega)
theorem path_impl (s : ByteArray) (hs : s.size ≤ 4000000) : Ev (fun k => impl_isPath.f k s) (isP s) := by
  have e := path_impl_loop s hs s.size 0 (by omega) (by omega)
  rw [Bool.and_comm] at e
  exact e
theorem isP_size {s : ByteArray} (h : isP s = true) : 1 ≤ s.size ∧ s.size ≤ 40 := by
  unfold isP at h
  simp only [Bool.and_eq_true, decide_eq_true_eq] at h
  exact h.1.1
theorem clean_show (st : List ByteArray) (hl : st.length ≤ 50) (hz : ∀ x ∈ st, x.size ≤ 40) (d : Nat) : ∀ (j : Nat), j + d = st.length →
    Ev (fun k => spec_Clean.l1 k st (PB (Lib.joinTail [47] ((st.take j).map (·.data.toList)))) (j : Int)) (PB (Lib.joinTail [47] (st.map (·.data.toList)))) := by
  induction d with
  | zero =>
    intro j hj
    refine Ev_succ ?_
    have c : ¬ (j : Int) < (st.length : Int) := by omega
    simp only [spec_Clean.l1, if_neg c]
    rw [List.take_of_length_le (by omega)]
    exact Ev.now _
  | succ d ih =>
    intro j hj
    have e := ih (j + 1) (by omega)
    refine Ev_succ ?_
    have hjl : j < st.length := by omega
    have c : (j : Int) < (st.length : Int) := by omega
    have c0 : 0 ≤ (j : Int) := by omega
    have hw : wrap64 ((j : Int) + 1) = ((j + 1 : Nat) : Int) := by rw [w64 (by omega) (by omega)]; omega
    have hr : rdOf ByteArray.empty st (j : Int) = st[j] := by simp only [rdOf, Int.toNat_natCast, List.getD, List.getElem?_eq_getElem hjl, Option.getD_some]
    have hb : (Lib.joinTail [47] ((st.take j).map (·.data.toList))).length ≤ 50 * 41 := by
      have := joinTail_le ((st.take j).map (·.data.toList)) 40 (fun x hx => by obtain ⟨y, hy, rfl⟩ := List.mem_map.1 hx; exact hz y (List.mem_of_mem_take hy))
      simp only [List.length_map, List.length_take] at this
      omega
    have hy : st[j].size ≤ 40 := hz _ (List.getElem_mem hjl)
    have hone : (⟨#[47]⟩ : ByteArray) = PB [47] := rfl
    have e1 : (PB (Lib.joinTail [47] ((st.take j).map (·.data.toList))) ++ (⟨#[47]⟩ : ByteArray)) ++ st[j] = PB (Lib.joinTail [47] ((st.take (j + 1)).map (·.data.toList))) := by
      rw [hone, app_PB]
      conv => lhs; rw [← PB_data st[j]]
      rw [app_PB, List.take_succ_eq_append_getElem hjl, List.map_append, List.map_singleton, joinTail_snoc]
    have hs1 : (PB (Lib.joinTail [47] ((st.take j).map (·.data.toList)))).size = (Lib.joinTail [47] ((st.take j).map (·.data.toList))).length := rfl
    have hs2 : (PB (Lib.joinTail [47] ((st.take j).map (·.data.toList))) ++ (⟨#[47]⟩ : ByteArray)).size = (Lib.joinTail [47] ((st.take j).map (·.data.toList))).length + 1 := by rw [size_app, hs1]; rfl
    have d1 : (PB (Lib.joinTail [47] ((st.take j).map (·.data.toList)))).size + 1 ≤ 9223372036854775807 := by rw [hs1]; omega
    have d2 : (PB (Lib.joinTail [47] ((st.take j).map (·.data.toList))) ++ (⟨#[47]⟩ : ByteArray)).size + st[j].size ≤ 9223372036854775807 := by rw [hs2]; omega
    simp only [spec_Clean.l1, if_pos c, if_pos d1, if_pos c0, hr, if_pos d2, hw, e1]
    exact e
theorem cut_here (s : ByteArray) (st : List ByteArray) (fr i : Nat) (h1 : fr ≤ i) (h2 : i ≤ s.size) (hn : ∀ j, fr ≤ j → j < i → bt s (j : Int) ≠ 47) (hc : i < s.size → bt s (i : Int) = 47) :
    ((sp (s.data.toList.drop fr)).map PB).foldl stp st = ((sp (s.data.toList.drop (i + 1))).map PB).foldl stp (stp st (s.extract fr i)) := by
  have hl : s.data.toList.length = s.size := by rw [Array.length_toList]; rfl
  have he : s.extract fr i = PB ((s.data.toList.drop fr).take (i - fr)) := by
    apply data_inj
    rw [data_PB, ByteArray.data_extract, Array.toList_extract, List.extract_eq_take_drop]
  have hno : ∀ x ∈ (s.data.toList.drop fr).take (i - fr), x ≠ 47 := by
    intro x hx e
    obtain ⟨n, hnl, e1⟩ := List.getElem_of_mem hx
    have hb : n < i - fr ∧ fr + n < s.size := by simp at hnl; omega
    rw [List.getElem_take, List.getElem_drop] at e1
    refine hn (fr + n) (by omega) (by omega) ?_
    rw [btAt s (fr + n) hb.2]
    have e2 : s.data.toList[fr + n]'(by omega) = 47 := e1.trans e
    rw [e2]; rfl
  by_cases hi : i < s.size
  · have e47 : s.data.toList[i]'(by omega) = 47 := by
      have := hc hi
      rw [btAt s i hi] at this
      apply UInt8.toNat_inj.1
      have e3 : ((s.data.toList[i]'(by omega)).toNat : Int) = 47 := this
      have e4 : (47 : UInt8).toNat = 47 := rfl
      omega
    have hd : s.data.toList.drop fr = (s.data.toList.drop fr).take (i - fr) ++ 47 :: s.data.toList.drop (i + 1) := by
      conv => lhs; rw [← List.take_append_drop (i - fr) (s.data.toList.drop fr)]
      rw [List.drop_drop, show fr + (i - fr) = i by omega, List.drop_eq_getElem_cons (by omega : i < s.data.toList.length), e47]
    rw [hd, sp_app _ _ hno, List.map_cons, List.foldl_cons, ← he]
  · have h0 : s.data.toList.drop (i + 1) = [] := List.drop_eq_nil_of_le (by omega)
    have hd : s.data.toList.drop fr = (s.data.toList.drop fr).take (i - fr) := by
      rw [List.take_of_length_le]; rw [List.length_drop]; omega
    rw [h0, hd, sp_no _ hno]
    have hz := stp_nil (stp st (s.extract fr i))
    simp only [sp, List.map_cons, List.map_nil, List.foldl_cons, List.foldl_nil, ← he, hz]
theorem clean_spec_loop (s : ByteArray) (hs : s.size ≤ 40) (d : Nat) : ∀ (i fr : Nat) (st : List ByteArray), i + d = s.size + 1 → fr ≤ i → (i = s.size + 1 → fr = i) →
    (∀ j, fr ≤ j → j < i → j < s.size → bt s (j : Int) ≠ 47) → st.length ≤ fr → (∀ x ∈ st, x.size ≤ 40) →
    Ev (fun k => spec_Clean.l0 k s st (fr : Int) (i : Int)) (shown (((sp (s.data.toList.drop fr)).map PB).foldl stp st)) := by
  induction d with
  | zero =>
    intro i fr st hi hf hfi hn hl hz
    obtain rfl := hfi (by omega)
    have h0 : s.data.toList.drop fr = [] := List.drop_eq_nil_of_le (by rw [data_length]; omega)
    have hz0 : stp st (PB []) = st := by unfold stp; rw [if_pos (toList_PB [])]
    rw [h0]
    simp only [sp, List.map_cons, List.map_nil, List.foldl_cons, List.foldl_nil, hz0]
    refine Ev_succ ?_
    have c : ¬ (fr : Int) ≤ (s.size : Int) := by omega
    simp only [spec_Clean.l0, if_neg c]
    by_cases hst : st = []
    · subst hst
      simp only [shown, List.length_nil, Int.natCast_zero, if_true]
      exact Ev.now _
    · have c2 : ¬ (st.length : Int) = 0 := by
        have := List.length_pos_iff.2 hst; omega
      simp only [if_neg c2, shown, if_neg hst]
      exact clean_show st (by omega) hz st.length 0 (by omega)
  | succ d ih =>
    intro i fr st hi hf hfi hn hl hz
    have ci : (i : Int) ≤ (s.size : Int) := by omega
    have hw : wrap64 ((i : Int) + 1) = ((i + 1 : Nat) : Int) := by rw [w64 (by omega) (by omega)]; omega
    have c0 : 0 ≤ (i : Int) := by omega
    by_cases hgo : i < s.size ∧ bt s (i : Int) ≠ 47
    · have e := ih (i + 1) fr st (by omega) (by omega) (by omega) (fun j h1 h2 h3 => by
        by_cases hj : j = i
        · subst hj; exact hgo.2
        · exact hn j h1 (by omega) h3) hl hz
      have c1 : (i : Int) < (s.size : Int) := by omega
      have c2 : (bt s (i : Int) != 47) = true := bne_iff_ne.mpr hgo.2
      refine Ev_succ ?_
      simp only [spec_Clean.l0, if_pos ci, if_pos c1, if_pos c0, c2]
      refine Ev_succ ?_
      simp only [spec_Clean.j1, if_true, hw]
      exact e
    · have hcut := cut_here s st fr i hf (by omega) (fun j h1 h2 => hn j h1 h2 (by omega)) (fun h => by
        by_cases hb : bt s (i : Int) = 47
        · exact hb
        · exact absurd ⟨h, hb⟩ hgo)
      have hps : (s.extract fr i).size ≤ 40 := by rw [ByteArray.size_extract]; omega
      have hlen := stp_len st (s.extract fr i)
      have e := ih (i + 1) (i + 1) (stp st (s.extract fr i)) (by omega) (by omega) (fun _ => rfl) (fun j h1 h2 h3 => by omega) (by omega) (stp_size st _ 40 hz hps)
      rw [hcut]
      have two : ∀ b : Bool, (b = true ↔ (s.extract fr i).toList = [] ∨ (s.extract fr i).toList = [46]) → Ev (fun k => spec_Clean.j2 k s st ((i + 1 : Nat) : Int) (i : Int) (s.extract fr i) b) (shown (((sp (s.data.toList.drop (i + 1))).map PB).foldl stp (stp st (s.extract fr i)))) := by
        intro b hb
        refine Ev_succ ?_
        by_cases hbt : b = true
        · have hs0 : stp st (s.extract fr i) = st := by
            unfold stp
            rcases hb.1 hbt with h | h
            · rw [if_pos h]
            · by_cases h' : (s.extract fr i).toList = []
              · rw [if_pos h']
              · rw [if_neg h', if_pos h]
          rw [hs0] at e ⊢
          simp only [spec_Clean.j2, hbt, if_true, hw]
          exact e
        · have hno : ¬ ((s.extract fr i).toList = [] ∨ (s.extract fr i).toList = [46]) := fun h => hbt (hb.2 h)
          have hn1 : ¬ (s.extract fr i).toList = [] := fun h => hno (.inl h)
          have hn2 : ¬ (s.extract fr i).toList = [46] := fun h => hno (.inr h)
          by_cases hdd : (s.extract fr i).toList = [46, 46]
          · have hs0 : stp st (s.extract fr i) = st.take (st.length - 1) := by unfold stp; rw [if_neg hn1, if_neg hn2, if_pos hdd]
            rw [hs0] at e ⊢
            by_cases hst : st.length = 0
            · have h00 : st.take (st.length - 1) = st := by rw [List.take_of_length_le]; omega
              rw [h00] at e ⊢
              have c3 : ¬ (st.length : Int) > 0 := by omega
              simp only [spec_Clean.j2, hbt, if_false, Bool.false_eq_true, if_pos hdd, if_neg c3, hw]
              exact e
            · have c3 : (st.length : Int) > 0 := by omega
              have c4 : wrap64 ((st.length : Int) - 1) = ((st.length - 1 : Nat) : Int) := by rw [w64 (by omega) (by omega)]; omega
              have c5 : 0 ≤ ((st.length - 1 : Nat) : Int) := by omega
              have c6 : ((st.length - 1 : Nat) : Int) ≤ (st.length : Int) := by omega
              simp only [spec_Clean.j2, hbt, if_false, Bool.false_eq_true, if_pos hdd, if_pos c3, c4, if_pos c5, if_pos c6, Int.toNat_natCast, hw]
              exact e
          · have hs0 : stp st (s.extract fr i) = st ++ [s.extract fr i] := by unfold stp; rw [if_neg hn1, if_neg hn2, if_neg hdd]
            rw [hs0] at e ⊢
            have c7 : st.length < 8796093022208 := by omega
            simp only [spec_Clean.j2, hbt, if_false, Bool.false_eq_true, if_neg hdd, if_pos c7, hw]
            exact e
      have one : Ev (fun k => spec_Clean.j1 k s st (fr : Int) (i : Int) false) (shown (((sp (s.data.toList.drop (i + 1))).map PB).foldl stp (stp st (s.extract fr i)))) := by
        refine Ev_succ ?_
        have c8 : 0 ≤ (fr : Int) := by omega
        have c9 : (fr : Int) ≤ (i : Int) := by omega
        simp only [spec_Clean.j1, Bool.false_eq_true, if_false, if_pos c8, if_pos c9, if_pos ci, Int.toNat_natCast, hw]
        by_cases hp : (s.extract fr i).toList = []
        · simp only [if_pos hp]
          exact two true ⟨fun _ => .inl hp, fun _ => rfl⟩
        · simp only [if_neg hp]
          exact two _ ⟨fun h => .inr (beq_iff_eq.1 h), fun h => beq_iff_eq.2 (h.resolve_left hp)⟩
      refine Ev_succ ?_
      by_cases hi2 : i < s.size
      · have c1 : (i : Int) < (s.size : Int) := by omega
        have c2 : (bt s (i : Int) != 47) = false := by
          by_cases hb : bt s (i : Int) = 47
          · rw [hb]; rfl
          · exact absurd ⟨hi2, hb⟩ hgo
        simp only [spec_Clean.l0, if_pos ci, if_pos c1, if_pos c0, c2]
        exact one
      · have c1 : ¬ (i : Int) < (s.size : Int) := by omega
        simp only [spec_Clean.l0, if_pos ci, if_neg c1]
        exact one
def cleanTo (s : ByteArray) : ByteArray := if isP s = true then shown (cleaned s) else ⟨#[]⟩
theorem clean_spec (s : ByteArray) (hs : s.size ≤ 4000000) : Ev (fun k => spec_Clean.f k s) (cleanTo s) := by
  simp only [spec_Clean.f]
  refine Ev_call (path_spec s hs) ?_
  unfold cleanTo
  by_cases h : isP s = true
  · simp only [if_pos h]
    exact clean_spec_loop s (isP_size h).2 (s.size + 1) 0 0 [] (by omega) (by omega) (by omega) (fun j h1 h2 h3 => by omega) (by simp) (by simp)
  · simp only [if_neg h]
    exact Ev.now _
theorem clean_impl_loop (L : List ByteArray) (hL : L.length ≤ 41) (hz : ∀ x ∈ L, x.size ≤ 40) (d : Nat) : ∀ (i : Nat) (st : List ByteArray), i + d = L.length → st.length ≤ i → (∀ x ∈ st, x.size ≤ 40) →
    Ev (fun k => impl_Clean.l0 k st L (L.length : Int) (i : Int)) (shown ((L.drop i).foldl stp st)) := by
  induction d with
  | zero =>
    intro i st hi hl hzs
    have h0 : L.drop i = [] := List.drop_eq_nil_of_le (by omega)
    rw [h0, List.foldl_nil]
    refine Ev_succ ?_
    have c : ¬ (i : Int) < (L.length : Int) := by omega
    have hj : (Lib.join (st.map (·.data.toList)) [47]).length ≤ 2100 := by
      cases st with
      | nil => simp [Lib.join_nil]
      | cons x r =>
        rw [List.map_cons, Lib.join_cons, List.length_append]
        have h1 := joinTail_le (r.map (·.data.toList)) 40 (fun y hy => by obtain ⟨z, hz2, rfl⟩ := List.mem_map.1 hy; exact hzs z (.tail _ hz2))
        have h2 : x.data.toList.length ≤ 40 := hzs x (.head _)
        simp only [List.length_map, List.length_cons] at h1 hl
        omega
    have hjc : st.length ≤ 140737488355328 ∧ (Lib.join (st.map (·.data.toList)) (⟨#[47]⟩ : ByteArray).data.toList).length ≤ 140737488355328 := ⟨by omega, by
      have e : (⟨#[47]⟩ : ByteArray).data.toList = [47] := rfl
      rw [e]; omega⟩
    have hjz : 1 + (⟨(Lib.join (st.map (·.data.toList)) (⟨#[47]⟩ : ByteArray).data.toList).toArray⟩ : ByteArray).size ≤ 9223372036854775807 := by
      have e : (⟨(Lib.join (st.map (·.data.toList)) (⟨#[47]⟩ : ByteArray).data.toList).toArray⟩ : ByteArray).size = (Lib.join (st.map (·.data.toList)) [47]).length := rfl
      rw [e]; omega
    simp only [impl_Clean.l0, if_neg c, strings_Join.f, if_pos hjc, Option.bind_some, if_pos hjz]
    rw [← join_shown st]
    exact Ev.now _
  | succ d ih =>
    intro i st hi hl hzs
    have hil : i < L.length := by omega
    have hr : rdOf ByteArray.empty L (i : Int) = L[i] := by simp only [rdOf, Int.toNat_natCast, List.getD, List.getElem?_eq_getElem hil, Option.getD_some]
    have hxs : L[i].size ≤ 40 := hz _ (List.getElem_mem hil)
    have hlen := stp_len st L[i]
    have e := ih (i + 1) (stp st L[i]) (by omega) (by omega) (stp_size st _ 40 hzs hxs)
    have hw : wrap64 ((i : Int) + 1) = ((i + 1 : Nat) : Int) := by rw [w64 (by omega) (by omega)]; omega
    have c0 : 0 ≤ (i : Int) := by omega
    have c1 : (i : Int) < (L.length : Int) := by omega
    rw [List.drop_eq_getElem_cons hil, List.foldl_cons]
    generalize L[i] = x at hr hxs hlen e ⊢
    have two : ∀ b : Bool, (b = true ↔ x.toList = [] ∨ x.toList = [46]) → Ev (fun k => impl_Clean.j1 k st x L (L.length : Int) (i : Int) x b) (shown ((L.drop (i + 1)).foldl stp (stp st x))) := by
      intro b hb
      refine Ev_succ ?_
      by_cases hbt : b = true
      · have hs0 : stp st x = st := by
          unfold stp
          rcases hb.1 hbt with h | h
          · rw [if_pos h]
          · by_cases h' : x.toList = []
            · rw [if_pos h']
            · rw [if_neg h', if_pos h]
        rw [hs0] at e ⊢
        simp only [impl_Clean.j1, hbt, if_true, hw]
        exact e
      · have hno : ¬ (x.toList = [] ∨ x.toList = [46]) := fun h => hbt (hb.2 h)
        have hn1 : ¬ x.toList = [] := fun h => hno (.inl h)
        have hn2 : ¬ x.toList = [46] := fun h => hno (.inr h)
        by_cases hdd : x.toList = [46, 46]
        · have hs0 : stp st x = st.take (st.length - 1) := by unfold stp; rw [if_neg hn1, if_neg hn2, if_pos hdd]
          rw [hs0] at e ⊢
          have c4 : mx 0 (wrap64 ((st.length : Int) - 1)) = ((st.length - 1 : Nat) : Int) := by
            rw [w64 (by omega) (by omega)]
            unfold mx
            split <;> omega
          have c5 : 0 ≤ ((st.length - 1 : Nat) : Int) := by omega
          have c6 : ((st.length - 1 : Nat) : Int) ≤ (st.length : Int) := by omega
          simp only [impl_Clean.j1, hbt, if_false, Bool.false_eq_true, if_pos hdd, c4, if_pos c5, if_pos c6, Int.toNat_natCast, hw]
          exact e
        · have hs0 : stp st x = st ++ [x] := by unfold stp; rw [if_neg hn1, if_neg hn2, if_neg hdd]
          rw [hs0] at e ⊢
          have c7 : st.length < 8796093022208 := by omega
          simp only [impl_Clean.j1, hbt, if_false, Bool.false_eq_true, if_neg hdd, if_pos c7, hw]
          exact e
    refine Ev_succ ?_
    simp only [impl_Clean.l0, if_pos c1, if_pos c0, hr]
    by_cases hp : x.toList = []
    · have hpb : (x.toList == ([] : List UInt8)) = true := beq_iff_eq.2 hp
      simp only [if_pos hp, hpb]
      exact two true ⟨fun _ => .inl hp, fun _ => rfl⟩
    · simp only [if_neg hp]
      exact two _ ⟨fun h => .inr (beq_iff_eq.1 h), fun h => beq_iff_eq.2 (h.resolve_left hp)⟩
theorem clean_impl (s : ByteArray) (hs : s.size ≤ 4000000) : Ev (fun k => impl_Clean.f k s) (cleanTo s) := by
  simp only [impl_Clean.f]
  refine Ev_call (path_impl s hs) ?_
  unfold cleanTo
  by_cases h : isP s = true
  · have h40 := (isP_size h).2
    have c : s.size < 4294967281 ∧ 1 ≤ (⟨#[47]⟩ : ByteArray).size := ⟨by omega, Nat.le_refl _⟩
    simp only [if_pos h, strings_Split.f, if_pos c, Option.bind_some, splitB_sp]
    have hl1 := sp_len s.data.toList
    have hl2 := sp_size s.data.toList
    rw [data_length] at hl1 hl2
    exact clean_impl_loop ((sp s.data.toList).map PB) (by rw [List.length_map]; omega) (fun x hx => by
      obtain ⟨p, hp, rfl⟩ := List.mem_map.1 hx
      have := hl2 p hp
      rw [size_PB]; omega) _ 0 [] (Nat.zero_add _) (by simp) (by simp)
  · simp only [if_neg h]
    exact Ev.now _
def okAt (L : List S35) (i : Nat) : Bool :=
  !((L.getD i z35).f0.toList == [47]) && ((cleanTo (L.getD i z35).f0).toList == (L.getD i z35).f0.toList) && !((L.getD i z35).f0.toList == []) &&
    (decide (i = 0) || Op.bytesLess (L.getD (i - 1) z35).f0.toList (L.getD i z35).f0.toList) && decide ((L.getD i z35).f1.size ≤ 1500)
def okFrom (L : List S35) (i : Nat) : Nat → Bool
  | 0 => true
  | d + 1 => okAt L i && okFrom L (i + 1) d
def filesOk (L : List S35) : Bool := decide (L.length ≤ 8) && okFrom L 0 L.length
theorem files_loop (L : List S35) (hl : L.length ≤ 1048576) (hs : ∀ x ∈ L, x.f0.size ≤ 2097152 ∧ x.f1.size ≤ 2097152) (d : Nat) : ∀ i : Nat, i + d = L.length →
    Ev (fun k => spec_FilesOk.l0 k L i) (okFrom L i d) ∧ Ev (fun k => impl_FilesOk.l0 k L L L.length i) (okFrom L i d && decide ((L.length : Int) ≤ 8)) := by
  induction d with
  | zero =>
    intro i hi
    refine ⟨Ev_succ ?_, Ev_succ ?_⟩
    · simp (disch := omega) only [spec_FilesOk.l0, if_neg]; exact Ev.now _
    · simp (disch := omega) only [impl_FilesOk.l0, if_neg]; exact Ev_some (by simp [okFrom])
  | succ d ih =>
    intro i hi
    have e0 : L.getD i z35 = rd_T35 L (i : Int) := rfl
    have hx := hs (rd_T35 L (i : Int)) (by rw [← e0, getD_at L _ i (by omega)]; exact List.getElem_mem _)
    obtain ⟨ihs, ihi⟩ := ih (i + 1) (by omega)
    have es := clean_spec (rd_T35 L (i : Int)).f0 (by omega)
    have ei := clean_impl (rd_T35 L (i : Int)).f0 (by omega)
    by_cases c0 : (rd_T35 L (i : Int)).f0.toList = [47]
    · have hv : okAt L i = false := by unfold okAt; rw [e0]; simp [c0]
      simp only [okFrom, hv, Bool.false_and]
      refine ⟨Ev_succ ?_, Ev_succ ?_⟩
      · simp (disch := omega) only [spec_FilesOk.l0, if_pos, c0, if_true]; exact Ev.now _
      · simp (disch := omega) only [impl_FilesOk.l0, if_pos]
        refine Ev_call ei ?_
        simp only [c0, if_true, ite_self]; exact Ev.now _
    by_cases c1 : (cleanTo (rd_T35 L (i : Int)).f0).toList = (rd_T35 L (i : Int)).f0.toList
    case neg =>
      have hv : okAt L i = false := by unfold okAt; rw [e0]; simp [c1]
      simp only [okFrom, hv, Bool.false_and]
      refine ⟨Ev_succ ?_, Ev_succ ?_⟩
      · simp (disch := omega) only [spec_FilesOk.l0, if_pos, c0, if_false]
        refine Ev_call es ?_
        simp only [c1, if_false]; exact Ev.now _
      · simp (disch := omega) only [impl_FilesOk.l0, if_pos]
        refine Ev_call ei ?_
        simp only [c1, if_false]; exact Ev.now _
    by_cases c2 : (rd_T35 L (i : Int)).f0.toList = []
    · have hv : okAt L i = false := by unfold okAt; rw [e0]; simp [c2]
      simp only [okFrom, hv, Bool.false_and]
      refine ⟨Ev_succ ?_, Ev_succ ?_⟩
      · simp (disch := omega) only [spec_FilesOk.l0, if_pos, c0, if_false]
        refine Ev_call es ?_
        exact Ev.congr (fun k => by simp only [if_pos c1, if_pos c2]) (Ev.now _)
      · simp (disch := omega) only [impl_FilesOk.l0, if_pos]
        refine Ev_call ei ?_
        exact Ev.congr (fun k => by simp only [if_pos c1, if_neg c0, if_pos c2]) (Ev.now _)
    by_cases ci : (i : Int) > 0
    · have e3 : ((i : Int) - 1).toNat = i - 1 := by omega
      have hw : wrap64 ((i : Int) - 1) = (i : Int) - 1 := w64 (by omega) (by omega)
      have e1 : L.getD (i - 1) z35 = rd_T35 L (wrap64 ((i : Int) - 1)) := by rw [hw, rd_T35, e3]
      have d1 : 0 ≤ wrap64 ((i : Int) - 1) := by rw [hw]; omega
      have d2 : wrap64 ((i : Int) - 1) < (L.length : Int) := by rw [hw]; omega
      by_cases cl : Op.bytesLess ((rd_T35 L (wrap64 ((i : Int) - 1))).f0.toList) ((rd_T35 L (i : Int)).f0.toList) = true
      · by_cases c3 : ((rd_T35 L (i : Int)).f1.size : Int) > 1500
        · have hv : okAt L i = false := by
            have h3 : ¬ (rd_T35 L (i : Int)).f1.size ≤ 1500 := by omega
            unfold okAt; rw [e0, decide_eq_false h3]; simp
          simp only [okFrom, hv, Bool.false_and]
          refine ⟨Ev_succ ?_, Ev_succ ?_⟩
          · simp (disch := omega) only [spec_FilesOk.l0, if_pos, c0, if_false]
            refine Ev_call es ?_
            exact Ev.congr (fun k => by simp only [if_pos c1, if_neg c2, if_pos ci, if_pos d1, if_pos d2, if_pos cl, if_pos c3]) (Ev.now _)
          · simp (disch := omega) only [impl_FilesOk.l0, if_pos]
            refine Ev_call ei ?_
            exact Ev.congr (fun k => by simp only [if_pos c1, if_neg c0, if_neg c2, if_pos c3]) (Ev.now _)
        · have hv : okAt L i = true := by
            have h3 : (rd_T35 L (i : Int)).f1.size ≤ 1500 := by omega
            unfold okAt; rw [e0, e1, decide_eq_true h3, cl]; simp [c0, c1, c2]
          have hn : wrap64 ((i : Int) + 1) = ((i + 1 : Nat) : Int) := by rw [w64 (by omega) (by omega)]; omega
          simp only [okFrom, hv, Bool.true_and]
          refine ⟨Ev_succ ?_, Ev_succ ?_⟩
          · simp (disch := omega) only [spec_FilesOk.l0, if_pos, c0, if_false]
            refine Ev_call es ?_
            simp only [if_pos c1, if_neg c2, if_pos ci, if_pos d1, if_pos d2, if_pos cl, if_neg c3, hn]; exact ihs
          · simp (disch := omega) only [impl_FilesOk.l0, if_pos]
            refine Ev_call ei ?_
            simp only [if_pos c1, if_neg c0, if_neg c2, if_neg c3, if_pos ci, if_pos d1, if_pos d2, if_pos cl, hn]; exact ihi
      · have hv : okAt L i = false := by
          have h0 : ¬ i = 0 := by omega
          unfold okAt; rw [e0, e1, decide_eq_false h0, Bool.eq_false_iff.2 cl]; simp
        simp only [okFrom, hv, Bool.false_and]
        refine ⟨Ev_succ ?_, Ev_succ ?_⟩
        · simp (disch := omega) only [spec_FilesOk.l0, if_pos, c0, if_false]
          refine Ev_call es ?_
          exact Ev.congr (fun k => by simp only [if_pos c1, if_neg c2, if_pos ci, if_pos d1, if_pos d2, if_neg cl]) (Ev.now _)
        · simp (disch := omega) only [impl_FilesOk.l0, if_pos]
          refine Ev_call ei ?_
          simp only [if_pos c1, if_neg c0, if_neg c2]
          by_cases c3 : ((rd_T35 L (i : Int)).f1.size : Int) > 1500
          · exact Ev.congr (fun k => by simp only [if_pos c3]) (Ev.now _)
          · exact Ev.congr (fun k => by simp only [if_neg c3, if_pos ci, if_pos d1, if_pos d2, if_neg cl]) (Ev.now _)
    · have h0 : i = 0 := by omega
      have hn : wrap64 ((i : Int) + 1) = ((i + 1 : Nat) : Int) := by rw [w64 (by omega) (by omega)]; omega
      by_cases c3 : ((rd_T35 L (i : Int)).f1.size : Int) > 1500
      · have hv : okAt L i = false := by
          have h3 : ¬ (rd_T35 L (i : Int)).f1.size ≤ 1500 := by omega
          unfold okAt; rw [e0, decide_eq_false h3]; simp
        simp only [okFrom, hv, Bool.false_and]
        refine ⟨Ev_succ ?_, Ev_succ ?_⟩
        · simp (disch := omega) only [spec_FilesOk.l0, if_pos, c0, if_false]
          refine Ev_call es ?_
          exact Ev.congr (fun k => by simp only [if_pos c1, if_neg c2, if_neg ci, if_pos c3]) (Ev.now _)
        · simp (disch := omega) only [impl_FilesOk.l0, if_pos]
          refine Ev_call ei ?_
          exact Ev.congr (fun k => by simp only [if_pos c1, if_neg c0, if_neg c2, if_pos c3]) (Ev.now _)
      · have hv : okAt L i = true := by
          have h3 : (rd_T35 L (i : Int)).f1.size ≤ 1500 := by omega
          unfold okAt; rw [e0, decide_eq_true h3, decide_eq_true h0]; simp [c0, c1, c2]
        simp only [okFrom, hv, Bool.true_and]
        refine ⟨Ev_succ ?_, Ev_succ ?_⟩
        · simp (disch := omega) only [spec_FilesOk.l0, if_pos, c0, if_false]
          refine Ev_call es ?_
          simp only [if_pos c1, if_neg c2, if_neg ci, if_neg c3, hn]; exact ihs
        · simp (disch := omega) only [impl_FilesOk.l0, if_pos]
          refine Ev_call ei ?_
          simp only [if_pos c1, if_neg c0, if_neg c2, if_neg c3, if_neg ci, hn]; exact ihi
theorem files_spec (L : List S35) (hl : L.length ≤ 1048576) (hs : ∀ x ∈ L, x.f0.size ≤ 2097152 ∧ x.f1.size ≤ 2097152) : Ev (fun k => spec_FilesOk.f k L) (filesOk L) := by
  unfold filesOk
  by_cases h : L.length ≤ 8
  · rw [decide_eq_true h, Bool.true_and]
    simp (disch := omega) only [spec_FilesOk.f, if_neg]
    exact (files_loop L hl hs L.length 0 (by omega)).1
  · rw [decide_eq_false h, Bool.false_and]
    simp (disch := omega) only [spec_FilesOk.f, if_pos]; exact Ev.now _
theorem files_impl (L : List S35) (hl : L.length ≤ 1048576) (hs : ∀ x ∈ L, x.f0.size ≤ 2097152 ∧ x.f1.size ≤ 2097152) : Ev (fun k => impl_FilesOk.f k L) (filesOk L) := by
  have e := (files_loop L hl hs L.length 0 (by omega)).2
  have q : (okFrom L 0 L.length && decide ((L.length : Int) ≤ 8)) = filesOk L := by
    unfold filesOk
    rw [Bool.and_comm]
    congr 1
    by_cases h : L.length ≤ 8
    · rw [decide_eq_true h, decide_eq_true (by omega)]
    · rw [decide_eq_false h, decide_eq_false (by omega)]
  rw [q] at e
  simp only [impl_FilesOk.f]
  exact e
theorem okFrom_iff (L : List S35) (d : Nat) : ∀ i, okFrom L i d = true ↔ ∀ j, i ≤ j → j < i + d → okAt L j = true := by
  induction d with
  | zero => intro i; exact ⟨fun _ j h1 h2 => absurd h2 (by omega), fun _ => rfl⟩
  | succ d ih =>
    intro i
    simp only [okFrom, Bool.and_eq_true, ih (i + 1)]
    constructor
    · rintro ⟨h, h2⟩ j h3 h4
      rcases Nat.eq_or_lt_of_le h3 with e | e
      · subst e; exact h
      · exact h2 j e (by omega)
    · intro h
      exact ⟨h i (Nat.le_refl _) (by omega), fun j h1 h2 => h j (by omega) (by omega)⟩
theorem filesOk_iff (L : List S35) : filesOk L = true ↔ L.length ≤ 8 ∧ ∀ j, j < L.length → okAt L j = true := by
  unfold filesOk
  rw [Bool.and_eq_true, decide_eq_true_eq, okFrom_iff]
  exact ⟨fun ⟨a, b⟩ => ⟨a, fun j h => b j (by omega) (by omega)⟩, fun ⟨a, b⟩ => ⟨a, fun j _ h => b j (by omega)⟩⟩
theorem Ev_some_of {α : Type} {g : Option α} {a : α} (h : g = some a) : Ev (fun _ => g) a := h ▸ Ev.now a
def pIs (p : ByteArray) : S35 → S35 → Bool := fun _ y => y.f0.toList == p.toList
def idxF (L : List S35) (p : ByteArray) : Int := Lib.idxBy (pIs p) L z35
def textAt (L : List S35) (j : Int) : ByteArray × Bool := if j < 0 then (⟨#[]⟩, false) else ((L.getD j.toNat z35).f1, true)
def findTo (L : List S35) (p : ByteArray) : ByteArray × Bool := if filesOk L = true then textAt L (idxF L p) else (⟨#[]⟩, false)
theorem idx_lt (eq : S35 → S35 → Bool) (z : S35) (L : List S35) : ∀ i : Nat, Lib.idxByFrom eq z L i = -1 ∨ ((i : Int) ≤ Lib.idxByFrom eq z L i ∧ Lib.idxByFrom eq z L i < i + L.length) := by
  induction L with
  | nil => intro i; exact Or.inl rfl
  | cons x r ih =>
    intro i
    rw [Lib.idxByFrom]
    split
    · right; simp only [List.length_cons]; omega
    · rcases ih (i + 1) with h | h
      · exact Or.inl h
      · right; simp only [List.length_cons]; omega
theorem idxF_range (L : List S35) (p : ByteArray) : idxF L p = -1 ∨ (0 ≤ idxF L p ∧ idxF L p < L.length) := by
  have := idx_lt (pIs p) z35 L 0
  unfold idxF Lib.idxBy
  omega
theorem find_loop (L : List S35) (hl : L.length ≤ 1048576) (p : ByteArray) (d : Nat) : ∀ i : Nat, i + d = L.length →
    Ev (fun k => spec_Find.l0 k L p i) (textAt L (Lib.idxByFrom (pIs p) z35 (L.drop i) i)) := by
  induction d with
  | zero =>
    intro i hi
    have hd : L.drop i = [] := List.drop_eq_nil_of_le (by omega)
    rw [hd]
    refine Ev_succ ?_
    simp (disch := omega) only [spec_Find.l0, if_neg]; exact Ev.now _
  | succ d ih =>
    intro i hi
    have e0 : rd_T35 L (i : Int) = L[i]'(by omega) := by
      show L.getD i _ = _; exact getD_at L _ i (by omega)
    have hn : wrap64 ((i : Int) + 1) = ((i + 1 : Nat) : Int) := by rw [w64 (by omega) (by omega)]; omega
    have c0 : (i : Int) < (L.length : Int) := by omega
    have c1 : 0 ≤ (i : Int) := by omega
    rw [List.drop_eq_getElem_cons (by omega), Lib.idxByFrom]
    refine Ev_succ ?_
    simp only [spec_Find.l0, if_pos c0, if_pos c1, hn, e0]
    by_cases h : (L[i]'(by omega)).f0.toList = p.toList
    · have hp : pIs p z35 (L[i]'(by omega)) = true := by unfold pIs; rw [beq_iff_eq]; exact h
      rw [hp, if_pos rfl]
      simp only [if_pos h]
      have c2 : ¬ (i : Int) < 0 := by omega
      unfold textAt
      rw [if_neg c2, Int.toNat_natCast, getD_at L _ i (by omega)]
      exact Ev.now _
    · have hp : pIs p z35 (L[i]'(by omega)) = false := by unfold pIs; exact beq_eq_false_iff_ne.2 h
      rw [hp, if_neg (by simp)]
      simp only [if_neg h]
      exact ih (i + 1) (by omega)
theorem find_spec (L : List S35) (hl : L.length ≤ 1048576) (hs : ∀ x ∈ L, x.f0.size ≤ 2097152 ∧ x.f1.size ≤ 2097152) (p : ByteArray) : Ev (fun k => spec_Find.f k L p) (findTo L p) := by
  simp only [spec_Find.f]
  refine Ev_call (files_spec L hl hs) ?_
  unfold findTo
  by_cases h : filesOk L = true
  · simp only [if_pos h]
    exact find_loop L hl p L.length 0 (by omega)
  · simp only [if_neg h]; exact Ev.now _
abbrev SFl := S35
theorem blt_iff (a b : List UInt8) : Op.bytesLess a b = true ↔ a < b := by rw [bytesLess_eq, decide_eq_true_eq]
/-- The paths of a right list rise. -/
theorem ok_rise (L : List SFl) (h : filesOk L = true) : ∀ d i : Nat, i + d + 1 < L.length → (L.getD i z35).f0.toList < (L.getD (i + d + 1) z35).f0.toList := by
  obtain ⟨_, hok⟩ := (filesOk_iff L).1 h
  have step : ∀ j, j + 1 < L.length → (L.getD j z35).f0.toList < (L.getD (j + 1) z35).f0.toList := by
    intro j hj
    have := hok (j + 1) hj
    unfold okAt at this
    simp only [Bool.and_eq_true, Bool.or_eq_true, decide_eq_true_eq, Nat.add_sub_cancel] at this
    rcases this.1.2 with h0 | h1
    · omega
    · exact (blt_iff _ _).1 h1
  intro d
  induction d with
  | zero => intro i hi; exact step i hi
  | succ d ih => intro i hi; exact List.lt_trans (ih i (by omega)) (step (i + d + 1) (by omega))
theorem ok_apart (L : List SFl) (h : filesOk L = true) (i j : Nat) (hi : i < L.length) (hj : j < L.length) (he : L[i].f0.toList = L[j].f0.toList) : i = j := by
  have key : ∀ a b : Nat, (hab : a < b) → (hb : b < L.length) → (L[a]'(by omega)).f0.toList = L[b].f0.toList → False := by
    intro a b hab hb e
    have := ok_rise L h (b - a - 1) a (by omega)
    rw [show a + (b - a - 1) + 1 = b by omega, getD_at L _ a (by omega), getD_at L _ b hb, e] at this
    exact List.lt_irrefl _ this
  rcases Nat.lt_trichotomy i j with h1 | h1 | h1
  · exact (key i j h1 hj he).elim
  · exact h1
  · exact (key j i h1 hi he.symm).elim
def notP (p : ByteArray) (x : SFl) : Bool := !(x.f0.toList == p.toList)
theorem idx_parts (p : ByteArray) (z : SFl) : ∀ (L : List SFl) (i : Nat), (Lib.idxByFrom (pIs p) z L i = -1 ∧ L.filter (notP p) = L) ∨ ∃ A x B, L = A ++ x :: B ∧ Lib.idxByFrom (pIs p) z L i = ((i + A.length : Nat) : Int) ∧ x.f0.toList = p.toList ∧ A.filter (notP p) = A := by
  intro L
  induction L with
  | nil => intro i; exact .inl ⟨rfl, rfl⟩
  | cons x r ih =>
    intro i
    rw [Lib.idxByFrom]
    by_cases h : x.f0.toList = p.toList
    · have hp : pIs p z x = true := by unfold pIs; rw [beq_iff_eq]; exact h
      rw [hp, if_pos rfl]
      exact .inr ⟨[], x, r, rfl, by simp, h, rfl⟩
    · have hp : pIs p z x = false := by unfold pIs; exact beq_eq_false_iff_ne.2 h
      have hq : notP p x = true := by unfold notP; rw [beq_eq_false_iff_ne.2 h]; rfl
      rw [hp, if_neg (by simp)]
      rcases ih (i + 1) with ⟨e, f⟩ | ⟨A, y, B, rfl, e, hy, f⟩
      · exact .inl ⟨e, by rw [List.filter_cons_of_pos hq, f]⟩
      · exact .inr ⟨x :: A, y, B, rfl, by rw [e, List.length_cons]; congr 1; omega, hy, by rw [List.filter_cons_of_pos hq, f]⟩
theorem idxF_parts (L : List SFl) (p : ByteArray) : (idxF L p = -1 ∧ L.filter (notP p) = L) ∨ ∃ A x B, L = A ++ x :: B ∧ idxF L p = (A.length : Int) ∧ x.f0.toList = p.toList ∧ A.filter (notP p) = A := by
  rcases idx_parts p z35 L 0 with h | ⟨A, x, B, a, b, c⟩
  · exact .inl h
  · exact .inr ⟨A, x, B, a, by unfold idxF Lib.idxBy; rw [b, Nat.zero_add], c⟩
/-- In a right list the path stands once: without it is the list without that place. -/
theorem ok_filter (A B : List SFl) (x : SFl) (p : ByteArray) (h : filesOk (A ++ x :: B) = true) (hx : x.f0.toList = p.toList) (hA : A.filter (notP p) = A) : (A ++ x :: B).filter (notP p) = A ++ B := by
  have hxf : ¬ notP p x = true := by unfold notP; rw [beq_iff_eq.2 hx]; simp
  rw [List.filter_append, List.filter_cons_of_neg hxf, hA]
  congr 1
  apply List.filter_eq_self.2
  intro y hy
  unfold notP
  rw [Bool.not_eq_true', beq_eq_false_iff_ne]
  intro e
  obtain ⟨j, hj, rfl⟩ := List.mem_iff_getElem.1 hy
  have h1 : (A ++ x :: B)[A.length]'(by simp) = x := by simp
  have h2 : (A ++ x :: B)[A.length + 1 + j]'(by simp; omega) = B[j] := by
    rw [List.getElem_append_right (by omega)]
    simp only [show A.length + 1 + j - A.length = j + 1 by omega, List.getElem_cons_succ]
  have := ok_apart _ h A.length (A.length + 1 + j) (by simp) (by simp; omega) (by rw [h1, h2, e, hx])
  omega
theorem drop_T (L : List SFl) (i : Nat) (h : i < L.length) : L.drop i = rd_T35 L (i : Int) :: L.drop (i + 1) := by
  rw [List.drop_eq_getElem_cons h]; congr 1; exact (getD_at L _ i h).symm
theorem insB_len (s : ByteArray) : ∀ l, (insB s l).length = l.length + 1
  | [] => rfl
  | x :: r => by
    rw [insB]
    split
    · simp
    · simp only [List.length_cons, insB_len s r]
theorem putB_len (o : List ByteArray) (s : ByteArray) : (putB o s).length ≤ o.length + 1 := by
  unfold putB
  split
  · omega
  · rw [insB_len]; omega
theorem in_loop (l : List ByteArray) (hl : l.length ≤ 8388608) (s : ByteArray) (d : Nat) : ∀ i : Nat, i + d = l.length → Ev (fun k => spec_l6In.l0 k l s i) (inB (l.drop i) s) := by
  induction d with
  | zero =>
    intro i hi
    have hd : l.drop i = [] := List.drop_eq_nil_of_le (by omega)
    rw [hd]
    refine Ev_succ ?_
    simp (disch := omega) only [spec_l6In.l0, if_neg]; exact Ev.now _
  | succ d ih =>
    intro i hi
    have e0 : rdOf ByteArray.empty l (i : Int) = l[i]'(by omega) := by
      show l.getD i _ = _; exact getD_at l _ i (by omega)
    have hn : wrap64 ((i : Int) + 1) = ((i + 1 : Nat) : Int) := by rw [w64 (by omega) (by omega)]; omega
    have c0 : (i : Int) < (l.length : Int) := by omega
    have c1 : 0 ≤ (i : Int) := by omega
    rw [List.drop_eq_getElem_cons (by omega), show ∀ (x : ByteArray) (r : List ByteArray), inB (x :: r) s = ((x.toList == s.toList) || inB r s) from fun _ _ => rfl]
    refine Ev_succ ?_
    simp only [spec_l6In.l0, if_pos c0, if_pos c1, hn, e0]
    by_cases h : (l[i]'(by omega)).toList = s.toList
    · have hp : ((l[i]'(by omega)).toList == s.toList) = true := beq_iff_eq.2 h
      rw [hp, Bool.true_or]
      simp only [if_pos h]; exact Ev.now _
    · have hp : ((l[i]'(by omega)).toList == s.toList) = false := beq_eq_false_iff_ne.2 h
      rw [hp, Bool.false_or]
      simp only [if_neg h]; exact ih (i + 1) (by omega)
theorem in_spec (l : List ByteArray) (hl : l.length ≤ 8388608) (s : ByteArray) : Ev (fun k => spec_l6In.f k l s) (inB l s) := by
  simp only [spec_l6In.f]
  exact in_loop l hl s l.length 0 (by omega)
theorem put_behind (l : List ByteArray) (hl : l.length ≤ 8388608) (s : ByteArray) (d : Nat) : ∀ (i : Nat) (o : List ByteArray), i + d = l.length → o.length ≤ i + 1 → Ev (fun k => spec_l8Put.l0 k l s o true i) (o ++ l.drop i) := by
  induction d with
  | zero =>
    intro i o hi ho
    rw [List.drop_eq_nil_of_le (by omega), List.append_nil]
    refine Ev_succ ?_
    simp (disch := omega) only [spec_l8Put.l0, if_neg, if_true]; exact Ev.now _
  | succ d ih =>
    intro i o hi ho
    have e0 : rdOf ByteArray.empty l (i : Int) = l[i]'(by omega) := by
      show l.getD i _ = _; exact getD_at l _ i (by omega)
    have hn : wrap64 ((i : Int) + 1) = ((i + 1 : Nat) : Int) := by rw [w64 (by omega) (by omega)]; omega
    have c0 : (i : Int) < (l.length : Int) := by omega
    have c1 : 0 ≤ (i : Int) := by omega
    have c2 : o.length < 8796093022208 := by omega
    have e := ih (i + 1) (o ++ [l[i]'(by omega)]) (by omega) (by simp; omega)
    rw [List.append_assoc, List.singleton_append, ← List.drop_eq_getElem_cons] at e
    refine Ev_succ ?_
    simp only [spec_l8Put.l0, if_pos c0, if_pos c1, if_pos c2, hn, e0, if_true]; exact e
theorem put_ahead (l : List ByteArray) (hl : l.length ≤ 8388608) (s : ByteArray) (d : Nat) : ∀ (i : Nat) (o : List ByteArray), i + d = l.length → o.length ≤ i → Ev (fun k => spec_l8Put.l0 k l s o false i) (o ++ insB s (l.drop i)) := by
  induction d with
  | zero =>
    intro i o hi ho
    rw [List.drop_eq_nil_of_le (by omega), insB]
    have c2 : o.length < 8796093022208 := by omega
    refine Ev_succ ?_
    simp (disch := omega) only [spec_l8Put.l0, if_neg, Bool.false_eq_true, if_false, if_pos c2]; exact Ev.now _
  | succ d ih =>
    intro i o hi ho
    have e0 : rdOf ByteArray.empty l (i : Int) = l[i]'(by omega) := by
      show l.getD i _ = _; exact getD_at l _ i (by omega)
    have hn : wrap64 ((i : Int) + 1) = ((i + 1 : Nat) : Int) := by rw [w64 (by omega) (by omega)]; omega
    have c0 : (i : Int) < (l.length : Int) := by omega
    have c1 : 0 ≤ (i : Int) := by omega
    have c2 : o.length < 8796093022208 := by omega
    have c3 : (o ++ [s]).length < 8796093022208 := by simp; omega
    rw [List.drop_eq_getElem_cons (by omega), insB]
    refine Ev_succ ?_
    simp only [spec_l8Put.l0, if_pos c0, if_pos c1, if_pos c2, hn, e0, Bool.false_eq_true, if_false]
    by_cases h : Op.bytesLess s.toList (l[i]'(by omega)).toList = true
    · simp only [if_pos h, Option.bind_some, if_pos c3]
      have e := put_behind l hl s d (i + 1) (o ++ [s] ++ [l[i]'(by omega)]) (by omega) (by simp; omega)
      have e2 : o ++ [s] ++ [l[i]'(by omega)] ++ l.drop (i + 1) = o ++ s :: l[i]'(by omega) :: l.drop (i + 1) := by simp
      rw [e2] at e
      exact e
    · simp only [if_neg h]
      have e := ih (i + 1) (o ++ [l[i]'(by omega)]) (by omega) (by simp; omega)
      rw [List.append_assoc, List.singleton_append] at e
      exact e
theorem put_ev (l : List ByteArray) (s : ByteArray) (hl : l.length ≤ 8388608) : Ev (fun k => spec_l8Put.f k l s) (putB l s) := by
  simp only [spec_l8Put.f]
  refine Ev_call (in_spec l hl s) ?_
  unfold putB
  by_cases c : inB l s = true
  · simp only [if_pos c]; exact Ev.now _
  · simp only [if_neg c]
    have e := put_ahead l hl s l.length 0 [] (by omega) (by simp)
    rw [List.drop_zero, List.nil_append] at e
    exact e
theorem puts_len : ∀ (L o : List ByteArray), (L.foldl putB o).length ≤ o.length + L.length
  | [], o => Nat.le_refl _
  | x :: r, o => by
    rw [List.foldl_cons, List.length_cons]
    have := puts_len r (putB o x); have := putB_len o x; omega
theorem rising_some (o : List ByteArray) (h : o.length ≤ 140737488355328) : impl_rising.f o = some (o.foldl putB []) := by
  unfold impl_rising.f YtkmcnjpgamaljaaDoor.RisingL.rising.f
  rw [if_pos h]
  unfold YtkmcnjpgamaljaaDoor.RisingL.rising.srt
  rw [rise_puts]
theorem inF_iff (b : List SFl) (x : SFl) : impl_Changed.inF b x = true ↔ ∃ y ∈ b, x.f0.toList = y.f0.toList ∧ x.f1.toList = y.f1.toList := by
  unfold impl_Changed.inF
  rw [List.any_eq_true]
  simp only [Bool.and_eq_true, beq_iff_eq]
theorem ok_uniq (L : List SFl) (h : filesOk L = true) (y z : SFl) (hy : y ∈ L) (hz : z ∈ L) (e : y.f0.toList = z.f0.toList) : y = z := by
  obtain ⟨i, hi, rfl⟩ := List.mem_iff_getElem.1 hy
  obtain ⟨j, hj, rfl⟩ := List.mem_iff_getElem.1 hz
  have := ok_apart L h i j hi hj e
  subst this; rfl
theorem filter_all (p : ByteArray) : ∀ L : List SFl, L.filter (notP p) = L → ∀ y ∈ L, y.f0.toList ≠ p.toList := by
  intro L h y hy e
  rw [← h] at hy
  have := (List.mem_filter.1 hy).2
  unfold notP at this
  rw [beq_iff_eq.2 e] at this
  cases this
/-- What the reference finds of a file's path, held against its text. -/
theorem find_has (b : List SFl) (h : filesOk b = true) (x : SFl) : ((findTo b x.f0).2 = true ∧ (findTo b x.f0).1.toList = x.f1.toList) ↔ impl_Changed.inF b x = true := by
  rw [inF_iff]
  unfold findTo textAt
  rw [if_pos h]
  rcases idxF_parts b x.f0 with ⟨e, f⟩ | ⟨A, y, B, rfl, e, hy, hA⟩
  · rw [e, if_pos (by omega)]
    constructor
    · rintro ⟨h1, _⟩; cases h1
    · rintro ⟨y, hy, e1, _⟩; exact absurd e1.symm (filter_all x.f0 b f y hy)
  · rw [e, if_neg (by omega), getD_mid]
    constructor
    · rintro ⟨_, h2⟩; exact ⟨y, by simp, hy.symm, h2.symm⟩
    · rintro ⟨z, hz, e1, e2⟩
      have := ok_uniq _ h z y hz (by simp) (e1.symm.trans hy.symm)
      subst this
      exact ⟨rfl, e2.symm⟩
theorem find_is (a : List SFl) (h : filesOk a = true) (p : ByteArray) : (findTo a p).2 = true ↔ ∃ y ∈ a, y.f0.toList = p.toList := by
  unfold findTo textAt
  rw [if_pos h]
  rcases idxF_parts a p with ⟨e, f⟩ | ⟨A, y, B, rfl, e, hy, hA⟩
  · rw [e, if_pos (by omega)]
    constructor
    · intro h1; cases h1
    · rintro ⟨y, hy, e1⟩; exact absurd e1 (filter_all p a f y hy)
  · rw [e, if_neg (by omega)]
    exact ⟨fun _ => ⟨y, by simp, hy⟩, fun _ => rfl⟩
def newIn (a b : List SFl) : List ByteArray := (b.filter fun y => !(findTo a y.f0).2).map (·.f0)
theorem dif_cons (b : List SFl) (x : SFl) (r : List SFl) : impl_Changed.dif (x :: r) b = if impl_Changed.inF b x = true then impl_Changed.dif r b else x.f0 :: impl_Changed.dif r b := by
  unfold impl_Changed.dif; rw [List.filter_cons]
  cases impl_Changed.inF b x <;> rfl
theorem new_cons (a : List SFl) (x : SFl) (r : List SFl) : newIn a (x :: r) = if (findTo a x.f0).2 = true then newIn a r else x.f0 :: newIn a r := by
  unfold newIn; rw [List.filter_cons]
  cases (findTo a x.f0).2 <;> rfl
theorem dif_len (a b : List SFl) : (impl_Changed.dif a b).length ≤ a.length := by unfold impl_Changed.dif; rw [List.length_map]; exact List.length_filter_le _ _
theorem ch_l1 (a b : List SFl) (ha : a.length ≤ 1048576) (hsa : ∀ x ∈ a, x.f0.size ≤ 2097152 ∧ x.f1.size ≤ 2097152) (hb : b.length ≤ 1048576) (d : Nat) : ∀ (i : Nat) (o : List ByteArray), i + d = b.length → o.length + d ≤ 8388608 → Ev (fun k => spec_Changed.l1 k a b o i) ((newIn a (b.drop i)).foldl putB o) := by
  induction d with
  | zero =>
    intro i o hi ho
    rw [List.drop_eq_nil_of_le (by omega)]
    refine Ev_succ ?_
    simp (disch := omega) only [spec_Changed.l1, if_neg]; exact Ev.now _
  | succ d ih =>
    intro i o hi ho
    have hn : wrap64 ((i : Int) + 1) = ((i + 1 : Nat) : Int) := by rw [w64 (by omega) (by omega)]; omega
    have c0 : (i : Int) < (b.length : Int) := by omega
    have c1 : 0 ≤ (i : Int) := by omega
    rw [drop_T b i (by omega), new_cons]
    refine Ev_succ ?_
    simp only [spec_Changed.l1, if_pos c0, if_pos c1, hn]
    refine Ev_call (find_spec a ha hsa _) ?_
    by_cases c : (findTo a (rd_T35 b (i : Int)).f0).2 = true
    · simp only [if_pos c]
      exact ih (i + 1) o (by omega) (by omega)
    · simp only [if_neg c]
      have := putB_len o (rd_T35 b (i : Int)).f0
      exact Ev_call (put_ev o _ (by omega)) (ih (i + 1) _ (by omega) (by omega))
theorem ch_l0 (a b : List SFl) (ha : a.length ≤ 1048576) (hsa : ∀ x ∈ a, x.f0.size ≤ 2097152 ∧ x.f1.size ≤ 2097152) (hb : b.length ≤ 1048576) (hsb : ∀ x ∈ b, x.f0.size ≤ 2097152 ∧ x.f1.size ≤ 2097152) (hok : filesOk b = true) (d : Nat) : ∀ (i : Nat) (o : List ByteArray), i + d = a.length → o.length + d ≤ 4194304 → Ev (fun k => spec_Changed.l0 k a b o i) ((newIn a b).foldl putB ((impl_Changed.dif (a.drop i) b).foldl putB o)) := by
  induction d with
  | zero =>
    intro i o hi ho
    rw [List.drop_eq_nil_of_le (by omega)]
    refine Ev_succ ?_
    simp (disch := omega) only [spec_Changed.l0, if_neg]
    have e := ch_l1 a b ha hsa hb b.length 0 o (by omega) (by omega)
    rw [List.drop_zero] at e
    exact e
  | succ d ih =>
    intro i o hi ho
    have hn : wrap64 ((i : Int) + 1) = ((i + 1 : Nat) : Int) := by rw [w64 (by omega) (by omega)]; omega
    have c0 : (i : Int) < (a.length : Int) := by omega
    have c1 : 0 ≤ (i : Int) := by omega
    rw [drop_T a i (by omega), dif_cons]
    refine Ev_succ ?_
    simp only [spec_Changed.l0, if_pos c0, if_pos c1, hn]
    refine Ev_call (find_spec b hb hsb _) ?_
    have hf := find_has b hok (rd_T35 a (i : Int))
    have hpl := putB_len o (rd_T35 a (i : Int)).f0
    by_cases c : (findTo b (rd_T35 a (i : Int)).f0).2 = true
    · simp only [if_pos c]
      by_cases c2 : (findTo b (rd_T35 a (i : Int)).f0).1.toList = (rd_T35 a (i : Int)).f1.toList
      · simp only [if_pos c2, if_pos (hf.1 ⟨c, c2⟩)]
        exact ih (i + 1) o (by omega) (by omega)
      · have hnf : ¬ impl_Changed.inF b (rd_T35 a (i : Int)) = true := fun h => c2 (hf.2 h).2
        simp only [if_neg c2, if_neg hnf]
        exact Ev_call (put_ev o _ (by omega)) (ih (i + 1) _ (by omega) (by omega))
    · have hnf : ¬ impl_Changed.inF b (rd_T35 a (i : Int)) = true := fun h => c (hf.2 h).1
      simp only [if_neg c, if_neg hnf]
      exact Ev_call (put_ev o _ (by omega)) (ih (i + 1) _ (by omega) (by omega))
def chTo (a b : List SFl) : List ByteArray := if filesOk a = true then (if filesOk b = true then (impl_Changed.dif a b ++ impl_Changed.dif b a).foldl putB [] else []) else []
theorem dif_mem (a b : List SFl) (y : ByteArray) : y ∈ impl_Changed.dif a b ↔ ∃ x ∈ a, ¬ impl_Changed.inF b x = true ∧ x.f0 = y := by
  unfold impl_Changed.dif
  simp only [List.mem_map, List.mem_filter, and_assoc, Bool.not_eq_true', Bool.not_eq_true]
theorem new_mem (a b : List SFl) (y : ByteArray) : y ∈ newIn a b ↔ ∃ x ∈ b, ¬ (findTo a x.f0).2 = true ∧ x.f0 = y := by
  unfold newIn
  simp only [List.mem_map, List.mem_filter, and_assoc, Bool.not_eq_true', Bool.not_eq_true]
theorem ch_same (a b : List SFl) (ha : filesOk a = true) (hb : filesOk b = true) : (newIn a b).foldl putB ((impl_Changed.dif a b).foldl putB []) = (impl_Changed.dif a b ++ impl_Changed.dif b a).foldl putB [] := by
  rw [← List.foldl_append]
  obtain ⟨p1, p2⟩ := puts_asc (impl_Changed.dif a b ++ newIn a b) [] List.Pairwise.nil
  obtain ⟨q1, q2⟩ := puts_asc (impl_Changed.dif a b ++ impl_Changed.dif b a) [] List.Pairwise.nil
  refine ascB_ext p1 q1 fun y => ?_
  rw [p2 y, q2 y]
  simp only [List.mem_append, List.not_mem_nil, or_false]
  constructor
  · rintro (h | h)
    · exact .inl h
    · obtain ⟨x, hx, hn, e⟩ := (new_mem a b y).1 h
      refine .inr ((dif_mem b a y).2 ⟨x, hx, fun hi => hn ?_, e⟩)
      obtain ⟨z, hz, e1, _⟩ := (inF_iff a x).1 hi
      exact (find_is a ha x.f0).2 ⟨z, hz, e1.symm⟩
  · rintro (h | h)
    · exact .inl h
    · obtain ⟨z, hz, hn, e⟩ := (dif_mem b a y).1 h
      rcases Classical.em ((findTo a z.f0).2 = true) with c | c
      · obtain ⟨x, hx, e1⟩ := (find_is a ha z.f0).1 c
        refine .inl ((dif_mem a b y).2 ⟨x, hx, fun hi => hn ?_, (toList_inj.1 e1).trans e⟩)
        obtain ⟨y2, hy2, e2, e3⟩ := (inF_iff b x).1 hi
        have := ok_uniq b hb y2 z hy2 hz (e2.symm.trans e1)
        subst this
        exact (inF_iff a y2).2 ⟨x, hx, e2.symm, e3.symm⟩
      · exact .inr ((new_mem a b y).2 ⟨z, hz, c, e⟩)
theorem ch_spec (a b : List SFl) (ha : a.length ≤ 1048576) (hsa : ∀ x ∈ a, x.f0.size ≤ 2097152 ∧ x.f1.size ≤ 2097152) (hb : b.length ≤ 1048576) (hsb : ∀ x ∈ b, x.f0.size ≤ 2097152 ∧ x.f1.size ≤ 2097152) : Ev (fun k => spec_Changed.f k a b) (chTo a b) := by
  simp only [spec_Changed.f, Option.bind_some]
  refine Ev_call (files_spec a ha hsa) ?_
  unfold chTo
  by_cases h : filesOk a = true
  · simp only [if_pos h]
    refine Ev_call (files_spec b hb hsb) ?_
    refine Ev_succ ?_
    by_cases h2 : filesOk b = true
    · simp only [spec_Changed.j0, h2, Bool.not_true, Bool.false_eq_true, if_false, if_true]
      have e := ch_l0 a b ha hsa hb hsb h2 a.length 0 [] (by omega) (by simp; omega)
      rw [List.drop_zero, ch_same a b h h2] at e
      exact e
    · have h3 : filesOk b = false := by simpa using h2
      simp only [spec_Changed.j0, h3, Bool.not_false, if_true, Bool.false_eq_true, if_false]
      exact Ev.now _
  · simp only [if_neg h]
    refine Ev_succ ?_
    simp only [spec_Changed.j0, if_true]
    exact Ev.now _
theorem ch_impl (a b : List SFl) (ha : a.length ≤ 1048576) (hsa : ∀ x ∈ a, x.f0.size ≤ 2097152 ∧ x.f1.size ≤ 2097152) (hb : b.length ≤ 1048576) (hsb : ∀ x ∈ b, x.f0.size ≤ 2097152 ∧ x.f1.size ≤ 2097152) : Ev (fun k => impl_Changed.f k a b) (chTo a b) := by
  simp only [impl_Changed.f]
  refine Ev_call (files_impl a ha hsa) ?_
  unfold chTo
  by_cases h : filesOk a = true
  · simp only [if_pos h]
    refine Ev_call (files_impl b hb hsb) ?_
    by_cases h2 : filesOk b = true
    · have := dif_len a b; have := dif_len b a
      simp only [if_pos h2, if_pos (And.intro ha hb), rising_some (impl_Changed.dif a b ++ impl_Changed.dif b a) (by rw [List.length_append]; omega)]
      exact Ev.now _
    · simp only [if_neg h2]; exact Ev.now _
  · simp only [if_neg h]; exact Ev.now _
theorem chTo_len (a b : List SFl) : (chTo a b).length ≤ a.length + b.length := by
  unfold chTo
  split
  · split
    · have h := puts_len (impl_Changed.dif a b ++ impl_Changed.dif b a) []
      have := dif_len a b; have := dif_len b a
      simp only [List.length_append, List.length_nil] at h
      omega
    · exact Nat.zero_le _
  · exact Nat.zero_le _
theorem szFile_some (b0 : ByteArray) (b1 : ByteArray) (left : Int) (h0 : 0 ≤ left) (h1 : left ≤ 1048576) (hb0 : b0.size ≤ 9223372036854775807) (hb1 : b1.size ≤ 9223372036854775807) :
    ∃ t, laws_szFile.f b0 b1 left = some t ∧ t ≤ left ∧ -1 ≤ t ∧ (0 ≤ t → (b0.size : Int) ≤ left ∧ (b1.size : Int) ≤ left) := by
  by_cases c0 : left - b0.size < 0
  · exact ⟨-1, by simp (disch := omega) only [laws_szFile.f, w64, if_pos, if_neg], by omega, by omega, fun h => absurd h (by omega)⟩
  by_cases c1 : left - b0.size - b1.size < 0
  · exact ⟨-1, by simp (disch := omega) only [laws_szFile.f, w64, if_pos, if_neg], by omega, by omega, fun h => absurd h (by omega)⟩
  exact ⟨left - b0.size - b1.size, by simp (disch := omega) only [laws_szFile.f, w64, if_neg], by omega, by omega, fun _ => ⟨by omega, by omega⟩⟩
theorem szFileS_loop (l : List S32) (hs : ∀ x ∈ l, x.f0.size ≤ 9223372036854775807 ∧ x.f1.size ≤ 9223372036854775807) (hl : l.length ≤ 1048576) (d : Nat) : ∀ (i : Nat) (left : Int), i + d = l.length → 0 ≤ left → left ≤ 1048576 →
    ∃ t, Ev (fun k => laws_szFileS.l0 k l left i) t ∧ t ≤ left ∧ -1 ≤ t ∧ (0 ≤ t → ∀ j, i ≤ j → j < l.length → ((l.getD j z32).f0.size : Int) ≤ left ∧ ((l.getD j z32).f1.size : Int) ≤ left) := by
  induction d with
  | zero =>
    intro i left hi h0 h1
    refine ⟨left, Ev_succ ?_, by omega, by omega, fun _ j hj hj2 => absurd hj2 (by omega)⟩
    simp (disch := omega) only [laws_szFileS.l0, if_neg]; exact Ev.now _
  | succ d ih =>
    intro i left hi h0 h1
    have hx := hs (l.getD i z32) (by rw [getD_at l _ i (by omega)]; exact List.getElem_mem _)
    obtain ⟨t, e, ht, ht1, hf⟩ := szFile_some (l.getD i z32).f0 (l.getD i z32).f1 left h0 h1 hx.1 hx.2
    by_cases hn : t < 0
    · refine ⟨-1, Ev_succ ?_, by omega, by omega, fun h => absurd h (by omega)⟩
      simp (disch := omega) only [laws_szFileS.l0, if_pos, rd_T32, Int.toNat_natCast, e, Option.bind_some]; exact Ev.now _
    · obtain ⟨t2, e2, h2, h3, hf2⟩ := ih (i + 1) t (by omega) (by omega) (by omega)
      refine ⟨t2, Ev_succ ?_, by omega, h3, fun h j hj hj2 => ?_⟩
      · simp (disch := omega) only [laws_szFileS.l0, if_pos, if_neg, rd_T32, Int.toNat_natCast, e, Option.bind_some, w64]; exact e2
      · rcases Nat.eq_or_lt_of_le hj with hj | hj
        · subst hj; exact hf (by omega)
        · have := hf2 h j hj hj2
          exact ⟨by omega, by omega⟩
theorem szFileS_ev (l : List S32) (hl : l.length ≤ 9223372036854775807) (hs : ∀ x ∈ l, x.f0.size ≤ 9223372036854775807 ∧ x.f1.size ≤ 9223372036854775807) (left : Int) (h0 : 0 ≤ left) (h1 : left ≤ 1048576) :
    ∃ t, Ev (fun k => laws_szFileS.f k l left) t ∧ t ≤ left ∧ -1 ≤ t ∧ (0 ≤ t → (l.length : Int) ≤ left ∧ ∀ x ∈ l, (x.f0.size : Int) ≤ left ∧ (x.f1.size : Int) ≤ left) := by
  by_cases c0 : left - l.length < 0
  · refine ⟨-1, ?_, by omega, by omega, fun h => absurd h (by omega)⟩
    simp (disch := omega) only [laws_szFileS.f, w64, if_pos]; exact Ev.now _
  · obtain ⟨t, e, h2, h3, hf⟩ := szFileS_loop l hs (by omega) l.length 0 (left - l.length) (by omega) (by omega) (by omega)
    refine ⟨t, ?_, by omega, h3, fun h => ⟨by omega, fun x hx => ?_⟩⟩
    · simp (disch := omega) only [laws_szFileS.f, w64, if_neg]; exact e
    · obtain ⟨j, hj, rfl⟩ := List.mem_iff_getElem.1 hx
      have := hf h j (by omega) hj
      rw [getD_at l _ j hj] at this
      exact ⟨by omega, by omega⟩
def cvFile (x : S32) : S35 := ⟨x.f0, x.f1⟩
theorem toFileS_loop (l : List S32) (hl : l.length ≤ 1048576) (d : Nat) : ∀ i : Nat, i + d = l.length → Ev (fun k => laws_toFileS.l0 k l ((l.take i).map cvFile ++ List.replicate d z35) i) (l.map cvFile) := by
  induction d with
  | zero =>
    intro i hi
    refine Ev_succ ?_
    simp (disch := omega) only [laws_toFileS.l0, if_neg]
    exact Ev_some (fill_done l cvFile z35 i (by omega))
  | succ d ih =>
    intro i hi
    have e := set_step l cvFile z35 z32 i d hi
    have e2 := ih (i + 1) (by omega)
    rw [← e] at e2
    refine Ev_succ ?_
    simp (disch := (first | omega | (simp only [List.length_append, List.length_map, List.length_take, List.length_replicate]; omega))) only [laws_toFileS.l0, if_pos, rd_T32, laws_toFile.f, Option.bind_some, Int.toNat_natCast, w64]
    exact e2
theorem toFileS_ev (l : List S32) (hl : l.length ≤ 1048576) : Ev (fun k => laws_toFileS.f k l) (l.map cvFile) := by
  have e := toFileS_loop l hl l.length 0 (by omega)
  simp only [List.take_zero, List.map_nil, List.nil_append] at e
  simp (disch := (first | omega | (simp only [Int.toNat_natCast]; omega))) only [laws_toFileS.f, if_pos, Int.toNat_natCast]
  exact e
theorem eqFileS_loop (l : List S35) (hl : l.length ≤ 1048576) (d : Nat) : ∀ i : Nat, i + d = l.length → Ev (fun k => laws_eqFileS.l0 k l l i) true := by
  induction d with
  | zero =>
    intro i hi
    refine Ev_succ ?_
    simp (disch := omega) only [laws_eqFileS.l0, if_neg]; exact Ev.now _
  | succ d ih =>
    intro i hi
    have e := ih (i + 1) (by omega)
    refine Ev_succ ?_
    simp (disch := omega) only [laws_eqFileS.l0, if_pos, if_true, laws_eqFile.f, Option.bind_some, w64]
    exact e
theorem eqFileS_ev (l : List S35) (hl : l.length ≤ 1048576) : Ev (fun k => laws_eqFileS.f k l l) true := by
  have e := eqFileS_loop l hl l.length 0 (by omega)
  simp only [laws_eqFileS.f, if_true]
  exact e
theorem eqStringS_loop (l : List ByteArray) (hl : l.length ≤ 4194304) (d : Nat) : ∀ i : Nat, i + d = l.length → Ev (fun k => laws_eqStringS.l0 k l l i) true := by
  induction d with
  | zero =>
    intro i hi
    refine Ev_succ ?_
    simp (disch := omega) only [laws_eqStringS.l0, if_neg]; exact Ev.now _
  | succ d ih =>
    intro i hi
    have e := ih (i + 1) (by omega)
    refine Ev_succ ?_
    simp (disch := omega) only [laws_eqStringS.l0, if_pos, if_true, w64]
    exact e
theorem eqStringS_ev (l : List ByteArray) (hl : l.length ≤ 4194304) : Ev (fun k => laws_eqStringS.f k l l) true := by
  have e := eqStringS_loop l hl l.length 0 (by omega)
  simp only [laws_eqStringS.f, if_true]
  exact e
theorem markText_loop (d : Nat) : ∀ (x : Int) (acc : ByteArray), 0 ≤ x → x.toNat ≤ d → x < 9223372036854775808 → acc.size + d ≤ 9223372036854775000 → ∃ t, Ev (fun k => laws_markText.l0 k x acc) t := by
  induction d with
  | zero =>
    intro x acc h0 hd h1 hs
    refine ⟨⟨#[109]⟩ ++ acc, Ev_succ ?_⟩
    simp (disch := omega) only [laws_markText.l0, if_neg, if_pos]; exact Ev.now _
  | succ d ih =>
    intro x acc h0 hd h1 hs
    by_cases hx : x > 0
    · have e1 : (strOfNums [(48 + x % 10) % 256]).size = 1 := by rw [strOfNums_size]; rfl
      obtain ⟨t, e⟩ := ih (x / 10) (strOfNums [(48 + x % 10) % 256] ++ acc) (by omega) (by omega) (by omega) (by rw [size_app]; omega)
      refine ⟨t, Ev_succ ?_⟩
      simp (disch := omega) only [laws_markText.l0, if_pos, w64, tmod_nn, tdiv_nn, Option.bind_some]; exact e
    · refine ⟨⟨#[109]⟩ ++ acc, Ev_succ ?_⟩
      simp (disch := omega) only [laws_markText.l0, if_neg, if_pos]; exact Ev.now _
theorem markText_any (x : Int) (h0 : 0 ≤ x) (h1 : x ≤ 1000000000000) : ∃ t, Ev (fun k => laws_markText.f k x) t := by
  by_cases hx : x ≤ 0
  · exact ⟨_, by simp only [laws_markText.f, if_pos hx]; exact Ev.now _⟩
  · obtain ⟨t, e⟩ := markText_loop x.toNat x ⟨#[]⟩ h0 (Nat.le_refl _) (by omega) (by show 0 + x.toNat ≤ _; omega)
    exact ⟨t, by simp only [laws_markText.f, if_neg hx]; exact e⟩
open Classical in
noncomputable def mt (x : Int) : ByteArray := if h : ∃ t, Ev (fun k => laws_markText.f k x) t then Classical.choose h else ⟨#[]⟩
theorem mt_ev (x : Int) (h0 : 0 ≤ x) (h1 : x ≤ 1000000000000) : Ev (fun k => laws_markText.f k x) (mt x) := by
  have h := markText_any x h0 h1
  unfold mt
  rw [dif_pos h]
  exact Classical.choose_spec h
noncomputable def mkStringS : Nat → Int → List ByteArray
  | 0, _ => []
  | n + 1, x => mt (x) :: mkStringS n (x + 1)
theorem markStringS_loop : ∀ (R P : List ByteArray) (x : Int), 1 ≤ x → x + 1 * R.length ≤ 1000000000000 → (P.length : Int) + R.length ≤ 4194304 → Ev (fun k => laws_markStringS.l0 k (P ++ R) x P.length) (x + 1 * R.length, P ++ mkStringS R.length x) := by
  intro R
  induction R with
  | nil =>
    intro P x h1 h2 h3
    refine Ev_succ ?_
    simp (disch := (simp only [List.append_nil]; omega)) only [laws_markStringS.l0, if_neg]
    exact Ev_some (by simp [mkStringS])
  | cons a R ih =>
    intro P x h1 h2 h3
    simp only [List.length_cons] at h2 h3
    have e := ih (P ++ [mt (x)]) (x + 1) (by omega) (by omega) (by simp only [List.length_append, List.length_cons, List.length_nil]; omega)
    have e1 : (P ++ [mt (x)]) ++ R = P ++ mt (x) :: R := by simp
    have e2 : ((P ++ [mt (x)]).length : Int) = (P.length : Int) + 1 := by simp
    rw [e1, e2] at e
    refine Ev_succ ?_
    simp (disch := (first | omega | (simp only [len_mid]; omega))) only [laws_markStringS.l0, if_pos, Option.bind_some, w64, set_mid]
    refine Ev_call (mt_ev (x) (by omega) (by omega)) ?_
    try simp (disch := (first | omega | (simp only [len_mid]; omega))) only [if_pos, Option.bind_some, w64, set_mid]
    have e3 : (P ++ [mt (x)]) ++ mkStringS R.length (x + 1) = P ++ mkStringS (R.length + 1) x := by simp [mkStringS]
    have e4 : x + 1 + 1 * (R.length : Int) = x + 1 * ((a :: R).length : Int) := by simp only [List.length_cons]; omega
    rw [e3, e4] at e
    exact e
theorem markStringS_ev (l : List ByteArray) (x : Int) (h1 : 1 ≤ x) (h2 : x + 1 * l.length ≤ 1000000000000) (h3 : l.length ≤ 4194304) : Ev (fun k => laws_markStringS.f k l x) (x + 1 * l.length, mkStringS l.length x) := by
  have e := markStringS_loop l [] x h1 h2 (by simp; omega)
  simp only [List.nil_append] at e
  simp only [laws_markStringS.f]
  exact e
theorem mkStringS_len : ∀ (n : Nat) (x : Int), (mkStringS n x).length = n
  | 0, _ => rfl
  | n + 1, x => by simp only [mkStringS, List.length_cons, mkStringS_len n]
theorem heldStringS_loop : ∀ (n : Nat) (P : List ByteArray) (x : Int), 1 ≤ x → x + 1 * n ≤ 1000000000000 → (P.length : Int) + n ≤ 4194304 → Ev (fun k => laws_heldStringS.l0 k (P ++ mkStringS n x) x P.length) (x + 1 * n) := by
  intro n
  induction n with
  | zero =>
    intro P x h1 h2 h3
    refine Ev_succ ?_
    simp (disch := (simp only [mkStringS, List.append_nil]; omega)) only [laws_heldStringS.l0, if_neg]
    exact Ev_some (by simp)
  | succ n ih =>
    intro P x h1 h2 h3
    have hl := mkStringS_len n (x + 1)
    have e := ih (P ++ [mt (x)]) (x + 1) (by omega) (by omega) (by simp only [List.length_append, List.length_cons, List.length_nil]; omega)
    have e1 : (P ++ [mt (x)]) ++ mkStringS n (x + 1) = P ++ mt (x) :: mkStringS n (x + 1) := by simp
    have e2 : ((P ++ [mt (x)]).length : Int) = (P.length : Int) + 1 := by simp
    have e4 : x + 1 + 1 * (n : Int) = x + 1 * ((n + 1 : Nat) : Int) := by omega
    rw [e1, e2, e4] at e
    refine Ev_succ ?_
    simp only [mkStringS]
    simp (disch := (first | omega | (simp only [len_mid]; omega))) only [laws_heldStringS.l0, if_pos, if_true, Option.bind_some, w64, rdOf, getD_mid]
    refine Ev_call (mt_ev (x) (by omega) (by omega)) ?_
    try simp (disch := (first | omega | (simp only [len_mid]; omega))) only [if_pos, if_true, Option.bind_some, w64, rdOf, getD_mid]
    exact e
theorem heldStringS_ev (n : Nat) (x : Int) (h1 : 1 ≤ x) (h2 : x + 1 * n ≤ 1000000000000) (h3 : n ≤ 4194304) : Ev (fun k => laws_heldStringS.f k (mkStringS n x) x) (x + 1 * n) := by
  have e := heldStringS_loop n [] x h1 h2 (by simp; omega)
  simp only [List.nil_append] at e
  simp only [laws_heldStringS.f]
  exact e
noncomputable def mkFileS : Nat → Int → List S35
  | 0, _ => []
  | n + 1, x => (⟨mt (x), mt (x + 1)⟩ : S35) :: mkFileS n (x + 1 + 1)
theorem markFileS_loop : ∀ (R P : List S35) (x : Int), 1 ≤ x → x + 2 * R.length ≤ 1000000000000 → (P.length : Int) + R.length ≤ 1048576 → Ev (fun k => laws_markFileS.l0 k (P ++ R) x P.length) (x + 2 * R.length, P ++ mkFileS R.length x) := by
  intro R
  induction R with
  | nil =>
    intro P x h1 h2 h3
    refine Ev_succ ?_
    simp (disch := (simp only [List.append_nil]; omega)) only [laws_markFileS.l0, if_neg]
    exact Ev_some (by simp [mkFileS])
  | cons a R ih =>
    intro P x h1 h2 h3
    simp only [List.length_cons] at h2 h3
    have e := ih (P ++ [(⟨mt (x), mt (x + 1)⟩ : S35)]) (x + 1 + 1) (by omega) (by omega) (by simp only [List.length_append, List.length_cons, List.length_nil]; omega)
    have e1 : (P ++ [(⟨mt (x), mt (x + 1)⟩ : S35)]) ++ R = P ++ (⟨mt (x), mt (x + 1)⟩ : S35) :: R := by simp
    have e2 : ((P ++ [(⟨mt (x), mt (x + 1)⟩ : S35)]).length : Int) = (P.length : Int) + 1 := by simp
    rw [e1, e2] at e
    refine Ev_succ ?_
    simp (disch := (first | omega | (simp only [len_mid]; omega))) only [laws_markFileS.l0, if_pos, Option.bind_some, w64, set_mid, rd_T35, getD_mid]
    refine Ev_call (mt_ev (x) (by omega) (by omega)) ?_
    try simp (disch := (first | omega | (simp only [len_mid]; omega))) only [if_pos, Option.bind_some, w64, set_mid, rd_T35, getD_mid]
    refine Ev_call (mt_ev (x + 1) (by omega) (by omega)) ?_
    try simp (disch := (first | omega | (simp only [len_mid]; omega))) only [if_pos, Option.bind_some, w64, set_mid, rd_T35, getD_mid]
    have e3 : (P ++ [(⟨mt (x), mt (x + 1)⟩ : S35)]) ++ mkFileS R.length (x + 1 + 1) = P ++ mkFileS (R.length + 1) x := by simp [mkFileS]
    have e4 : x + 1 + 1 + 2 * (R.length : Int) = x + 2 * ((a :: R).length : Int) := by simp only [List.length_cons]; omega
    rw [e3, e4] at e
    exact e
theorem markFileS_ev (l : List S35) (x : Int) (h1 : 1 ≤ x) (h2 : x + 2 * l.length ≤ 1000000000000) (h3 : l.length ≤ 1048576) : Ev (fun k => laws_markFileS.f k l x) (x + 2 * l.length, mkFileS l.length x) := by
  have e := markFileS_loop l [] x h1 h2 (by simp; omega)
  simp only [List.nil_append] at e
  simp only [laws_markFileS.f]
  exact e
theorem mkFileS_len : ∀ (n : Nat) (x : Int), (mkFileS n x).length = n
  | 0, _ => rfl
  | n + 1, x => by simp only [mkFileS, List.length_cons, mkFileS_len n]
theorem Changed_good (l m : List S32) (t t2 : Int) (hll : l.length ≤ 1048576) (hlm : m.length ≤ 1048576) (e : Ev (fun k => laws_szFileS.f k l 1048576) t) (hn : ¬ t < 0) (et2 : Ev (fun k => laws_szFileS.f k m t) t2) (hn2 : ¬ t2 < 0)
    (hm : ∀ x ∈ l.map cvFile, x.f0.size ≤ 2097152 ∧ x.f1.size ≤ 2097152) (hm2 : ∀ x ∈ m.map cvFile, x.f0.size ≤ 2097152 ∧ x.f1.size ≤ 2097152) : Ev (fun k => laws_FnExactChanged.f k l m) true := by
  have et := toFileS_ev l hll
  have eu := toFileS_ev m hlm
  have hA : (l.map cvFile).length ≤ 1048576 := by simpa using hll
  have hB : (m.map cvFile).length ≤ 1048576 := by simpa using hlm
  have e1 := ch_spec (l.map cvFile) (m.map cvFile) hA hm hB hm2
  have e2 := ch_impl (l.map cvFile) (m.map cvFile) hA hm hB hm2
  have hr := chTo_len (l.map cvFile) (m.map cvFile)
  generalize l.map cvFile = A at et e1 e2 hA hr
  generalize m.map cvFile = B at eu e1 e2 hB hr
  generalize chTo A B = r at e1 e2 hr
  have qA := eqFileS_ev A hA
  have qB := eqFileS_ev B hB
  have qr := eqStringS_ev r (by omega)
  have mA := markFileS_ev A 1 (by omega) (by omega) (by omega)
  have mB := markFileS_ev B (1 + 2 * A.length) (by omega) (by omega) (by omega)
  have mr := markStringS_ev r 1 (by omega) (by omega) (by omega)
  have hh := heldStringS_ev r.length 1 (by omega) (by omega) (by omega)
  simp only [laws_FnExactChanged.f]
  refine Ev_call e ?_
  simp only [if_neg hn]
  refine Ev_call et2 ?_
  simp only [if_neg hn2]
  refine Ev_call et (Ev_call eu (Ev_call e1 (Ev_call et (Ev_call eu (Ev_call e2 (Ev_call qr ?_))))))
  simp only [if_true]
  refine Ev_call et (Ev_call qA ?_)
  simp only [if_true]
  refine Ev_call eu (Ev_call qB ?_)
  simp only [if_true]
  refine Ev_call mA (Ev_call mB ?_)
  simp (disch := omega) only [if_neg]
  refine Ev_call qr ?_
  refine Ev_succ ?_
  simp only [laws_FnExactChanged.j0, Bool.not_true, Bool.false_eq_true, if_false]
  refine Ev_call mr (Ev_call hh ?_)
  simp (disch := omega) only [if_neg, if_true]
  refine Ev_call et (Ev_call eu (Ev_call e2 (Ev_call qr ?_)))
  simp only [if_true]
  refine Ev_call hh ?_
  simp (disch := omega) only [if_neg, if_true]
  exact Ev.now _
theorem FnExactChanged : laws_FnExactChanged.Say := by
  intro l m hl hm
  simp only [maxLen] at hl hm
  obtain ⟨hl, hs⟩ := hl
  obtain ⟨hm, hms⟩ := hm
  apply Ev.rounds
  obtain ⟨t, e, h2, h3, hf⟩ := szFileS_ev l hl hs 1048576 (by omega) (by omega)
  by_cases hn : t < 0
  · simp only [laws_FnExactChanged.f]
    refine Ev_call e ?_
    simp only [if_pos hn]; exact Ev.now _
  · obtain ⟨hll, hsz⟩ := hf (by omega)
    obtain ⟨t2, et2, h4, h5, hf2⟩ := szFileS_ev m hm hms t (by omega) (by omega)
    by_cases hn2 : t2 < 0
    · simp only [laws_FnExactChanged.f]
      refine Ev_call e ?_
      simp only [if_neg hn]
      refine Ev_call et2 ?_
      simp only [if_pos hn2]
      exact Ev.now _
    · obtain ⟨hlm, hsm⟩ := hf2 (by omega)
      exact Changed_good l m t t2 (by omega) (by omega) e hn et2 hn2 (by
        intro x hx
        obtain ⟨y, hy, rfl⟩ := List.mem_map.1 hx
        have := hsz y hy
        simp only [cvFile]; omega) (by
        intro x hx
        obtain ⟨y, hy, rfl⟩ := List.mem_map.1 hx
        have := hsm y hy
        simp only [cvFile]; omega)


end Go.Proofs.YtkmcnjpgamaljaaDoor.Pure

import Derived.Test.YtmpmfaaodjmpjaaDoorSayFnProbe
import Derived.Test.YtmpmfaaodjmpjaaDoorPathL
import Derived.Test.YtmpmfaaodjmpjaaDoorKit
/- FnProbe: the candidates are paths and unlike; what is found is the first of them that is a file; for every code. -/
namespace Go.Proofs.YtmpmfaaodjmpjaaDoor.Pure
open Go.RowKit Go.Proofs.YtmpmfaaodjmpjaaDoor.PFnProbe Go.Proofs.YtmpmfaaodjmpjaaDoorW.PrintWords Go.Proofs.YtmpmfaaodjmpjaaDoorW.PrintLast Go.Proofs.YtmpmfaaodjmpjaaDoorW.PrintMore Go.Proofs.YtmpmfaaodjmpjaaDoor.Kit
set_option linter.unusedSimpArgs false
set_option linter.unusedVariables false

theorem path_spec_loop (s : ByteArray) (hs : s.size ≤ 4000000) (d : Nat) : ∀ (i : Int), 0 ≤ i → i + d = s.size → Ev (fun k => spec_l2Path.l0 k s i) (okF s i d) := by
  induction d with
  | zero =>
    intro i h0 h1
    refine Ev_succ ?_
    simp (disch := omega) only [spec_l2Path.l0, if_neg]
    exact Ev.now _
  | succ d ih =>
    intro i h0 h1
    refine Ev_succ ?_
    have hw : wrap64 (i + 1) = i + 1 := w64 (by omega) (by omega)
    have h2 : i < (s.size : Int) := by omega
    by_cases ho : okb (bt s i) = true
    · have e := ih (i + 1) (by omega) (by omega)
      rw [okF, ho, Bool.true_and]
      have ho' := of_decide_eq_true ho
      refine Ev.congr (fun k => ?_) e
      simp only [spec_l2Path.l0, if_pos h2, if_pos h0, hw]
      repeat' split
      all_goals first | rfl | (exfalso; omega)
    · rw [okF, Bool.eq_false_iff.mpr ho, Bool.false_and]
      have ho' : ¬ ((97 ≤ bt s i ∧ bt s i ≤ 122) ∨ (48 ≤ bt s i ∧ bt s i ≤ 57) ∨ bt s i = 46 ∨ bt s i = 95 ∨ bt s i = 45 ∨ bt s i = 47) := fun h => ho (decide_eq_true h)
      refine Ev.congr (fun k => ?_) (Ev.now false)
      simp only [spec_l2Path.l0, if_pos h2, if_pos h0, hw]
      repeat' split
      all_goals first | rfl | (exfalso; omega)
theorem path_spec (s : ByteArray) (hs : s.size ≤ 4000000) : Ev (fun k => spec_l2Path.f k s) (isP s) := by
  unfold isP
  by_cases h : 1 ≤ s.size ∧ s.size ≤ 40
  · have c1 : (s.size : Int) ≥ 1 := by omega
    have c2 : decide ((s.size : Int) ≤ 40) = true := decide_eq_true (by omega)
    have c3 : 0 < (s.size : Int) := by omega
    simp only [spec_l2Path.f, spec_l1In.f, if_pos c1, c2, Option.bind_some, if_true, if_pos c3, h.1, h.2, decide_true, Bool.true_and]
    refine Ev_succ ?_
    by_cases hb : bt s 0 = 47
    · have e1 : (bt s 0 != 47) = false := by rw [hb]; rfl
      have e2 : (bt s 0 == 47) = true := by rw [hb]; rfl
      simp only [spec_l2Path.j0, e1, e2, Bool.true_and, Bool.false_eq_true, if_false]
      exact path_spec_loop s hs s.size 0 (by omega) (by omega)
    · have e1 : (bt s 0 != 47) = true := bne_iff_ne.mpr hb
      have e2 : (bt s 0 == 47) = false := beq_eq_false_iff_ne.mpr hb
      simp only [spec_l2Path.j0, e1, e2, Bool.false_and, if_true]
      exact Ev.now _
  · have e : (decide (1 ≤ s.size) && decide (s.size ≤ 40)) = false := by
      rw [← Bool.decide_and]; exact decide_eq_false h
    rw [e, Bool.false_and, Bool.false_and]
    by_cases c1 : (s.size : Int) ≥ 1
    · have c2 : decide ((s.size : Int) ≤ 40) = false := decide_eq_false (by omega)
      simp only [spec_l2Path.f, spec_l1In.f, if_pos c1, c2, Option.bind_some, Bool.false_eq_true, if_false]
      refine Ev_succ ?_
      simp only [spec_l2Path.j0, if_true]
      exact Ev.now _
    · simp only [spec_l2Path.f, spec_l1In.f, if_neg c1, Option.bind_some, Bool.false_eq_true, if_false]
      refine Ev_succ ?_
      simp only [spec_l2Path.j0, if_true]
      exact Ev.now _
theorem path_impl_loop (s : ByteArray) (hs : s.size ≤ 4000000) (d : Nat) : ∀ (i : Int), 0 ≤ i → i + d = s.size → Ev (fun k => impl_isPath.l0 k s s.size i) (okF s i d && (decide (1 ≤ s.size) && decide (s.size ≤ 40) && (bt s 0 == 47))) := by
  induction d with
  | zero =>
    intro i h0 h1
    refine Ev_succ ?_
    rw [okF, Bool.true_and]
    by_cases h : 1 ≤ s.size ∧ s.size ≤ 40
    · have c1 : (s.size : Int) ≥ 1 := by omega
      have c2 : decide ((s.size : Int) ≤ 40) = true := decide_eq_true (by omega)
      have c3 : 0 < (s.size : Int) := by omega
      have c4 : ¬ i < (s.size : Int) := by omega
      simp only [impl_isPath.l0, if_neg c4, impl_in.f, if_pos c1, c2, Option.bind_some, if_true, if_pos c3, h.1, h.2, decide_true, Bool.true_and]
      exact Ev.now _
    · have e : (decide (1 ≤ s.size) && decide (s.size ≤ 40)) = false := by
        rw [← Bool.decide_and]; exact decide_eq_false h
      have c4 : ¬ i < (s.size : Int) := by omega
      rw [e, Bool.false_and]
      by_cases c1 : (s.size : Int) ≥ 1
      · have c2 : decide ((s.size : Int) ≤ 40) = false := decide_eq_false (by omega)
        simp only [impl_isPath.l0, if_neg c4, impl_in.f, if_pos c1, c2, Option.bind_some, Bool.false_eq_true, if_false]
        exact Ev.now _
      · simp only [impl_isPath.l0, if_neg c4, impl_in.f, if_neg c1, Option.bind_some, Bool.false_eq_true, if_false]
        exact Ev.now _
  | succ d ih =>
    intro i h0 h1
    refine Ev_succ ?_
    have hw : wrap64 (i + 1) = i + 1 := w64 (by omega) (by omega)
    have h2 : i < (s.size : Int) := by omega
    by_cases ho : okb (bt s i) = true
    · have e := ih (i + 1) (by omega) (by omega)
      rw [okF, ho, Bool.true_and]
      have ho' := of_decide_eq_true ho
      refine Ev.congr (fun k => ?_) e
      simp only [impl_isPath.l0, if_pos h2, if_pos h0, hw]
      repeat' split
      all_goals first | rfl | (exfalso; omega)
    · rw [okF, Bool.eq_false_iff.mpr ho, Bool.false_and, Bool.false_and]
      have ho' : ¬ ((97 ≤ bt s i ∧ bt s i ≤ 122) ∨ (48 ≤ bt s i ∧ bt s i ≤ 57) ∨ bt s i = 46 ∨ bt s i = 95 ∨ bt s i = 45 ∨ bt s i = 47) := fun h => ho (decide_eq_true h)
      refine Ev.congr (fun k => ?_) (Ev.now false)
      simp only [impl_isPath.l0, if_pos h2, if_pos h0, hw]
      repeat' split
      all_goals first | rfl | (exfalso; omega)
theorem path_impl (s : ByteArray) (hs : s.size ≤ 4000000) : Ev (fun k => impl_isPath.f k s) (isP s) := by
  have e := path_impl_loop s hs s.size 0 (by omega) (by omega)
  rw [Bool.and_comm] at e
  exact e
theorem isP_size {s : ByteArray} (h : isP s = true) : 1 ≤ s.size ∧ s.size ≤ 40 := by
  unfold isP at h
  simp only [Bool.and_eq_true, decide_eq_true_eq] at h
  exact h.1.1
theorem clean_show (st : List ByteArray) (hl : st.length ≤ 50) (hz : ∀ x ∈ st, x.size ≤ 40) (d : Nat) : ∀ (j : Nat), j + d = st.length →
    Ev (fun k => spec_Clean.l1 k st (PB (Lib.joinTail [47] ((st.take j).map (·.data.toList)))) (j : Int)) (PB (Lib.joinTail [47] (st.map (·.data.toList)))) := by
  induction d with
  | zero =>
    intro j hj
    refine Ev_succ ?_
    have c : ¬ (j : Int) < (st.length : Int) := by omega
    simp only [spec_Clean.l1, if_neg c]
    rw [List.take_of_length_le (by omega)]
    exact Ev.now _
  | succ d ih =>
    intro j hj
    have e := ih (j + 1) (by omega)
    refine Ev_succ ?_
    have hjl : j < st.length := by omega
    have c : (j : Int) < (st.length : Int) := by omega
    have c0 : 0 ≤ (j : Int) := by omega
    have hw : wrap64 ((j : Int) + 1) = ((j + 1 : Nat) : Int) := by rw [w64 (by omega) (by omega)]; omega
    have hr : rdOf ByteArray.empty st (j : Int) = st[j] := by simp only [rdOf, Int.toNat_natCast, List.getD, List.getElem?_eq_getElem hjl, Option.getD_some]
    have hb : (Lib.joinTail [47] ((st.take j).map (·.data.toList))).length ≤ 50 * 41 := by
      have := joinTail_le ((st.take j).map (·.data.toList)) 40 (fun x hx => by obtain ⟨y, hy, rfl⟩ := List.mem_map.1 hx; exact hz y (List.mem_of_mem_take hy))
      simp only [List.length_map, List.length_take] at this
      omega
    have hy : st[j].size ≤ 40 := hz _ (List.getElem_mem hjl)
    have hone : (⟨#[47]⟩ : ByteArray) = PB [47] := rfl
    have e1 : (PB (Lib.joinTail [47] ((st.take j).map (·.data.toList))) ++ (⟨#[47]⟩ : ByteArray)) ++ st[j] = PB (Lib.joinTail [47] ((st.take (j + 1)).map (·.data.toList))) := by
      rw [hone, app_PB]
      conv => lhs; rw [← PB_data st[j]]
      rw [app_PB, List.take_succ_eq_append_getElem hjl, List.map_append, List.map_singleton, joinTail_snoc]
    have hs1 : (PB (Lib.joinTail [47] ((st.take j).map (·.data.toList)))).size = (Lib.joinTail [47] ((st.take j).map (·.data.toList))).length := rfl
    have hs2 : (PB (Lib.joinTail [47] ((st.take j).map (·.data.toList))) ++ (⟨#[47]⟩ : ByteArray)).size = (Lib.joinTail [47] ((st.take j).map (·.data.toList))).length + 1 := by rw [size_app, hs1]; rfl
    have d1 : (PB (Lib.joinTail [47] ((st.take j).map (·.data.toList)))).size + 1 ≤ 9223372036854775807 := by rw [hs1]; omega
    have d2 : (PB (Lib.joinTail [47] ((st.take j).map (·.data.toList))) ++ (⟨#[47]⟩ : ByteArray)).size + st[j].size ≤ 9223372036854775807 := by rw [hs2]; omega
    simp only [spec_Clean.l1, if_pos c, if_pos d1, if_pos c0, hr, if_pos d2, hw, e1]
    exact e
theorem cut_here (s : ByteArray) (st : List ByteArray) (fr i : Nat) (h1 : fr ≤ i) (h2 : i ≤ s.size) (hn : ∀ j, fr ≤ j → j < i → bt s (j : Int) ≠ 47) (hc : i < s.size → bt s (i : Int) = 47) :
    ((sp (s.data.toList.drop fr)).map PB).foldl stp st = ((sp (s.data.toList.drop (i + 1))).map PB).foldl stp (stp st (s.extract fr i)) := by
  have hl : s.data.toList.length = s.size := by rw [Array.length_toList]; rfl
  have he : s.extract fr i = PB ((s.data.toList.drop fr).take (i - fr)) := by
    apply data_inj
    rw [data_PB, ByteArray.data_extract, Array.toList_extract, List.extract_eq_take_drop]
  have hno : ∀ x ∈ (s.data.toList.drop fr).take (i - fr), x ≠ 47 := by
    intro x hx e
    obtain ⟨n, hnl, e1⟩ := List.getElem_of_mem hx
    have hb : n < i - fr ∧ fr + n < s.size := by simp at hnl; omega
    rw [List.getElem_take, List.getElem_drop] at e1
    refine hn (fr + n) (by omega) (by omega) ?_
    rw [btAt s (fr + n) hb.2]
    have e2 : s.data.toList[fr + n]'(by omega) = 47 := e1.trans e
    rw [e2]; rfl
  by_cases hi : i < s.size
  · have e47 : s.data.toList[i]'(by omega) = 47 := by
      have := hc hi
      rw [btAt s i hi] at this
      apply UInt8.toNat_inj.1
      have e3 : ((s.data.toList[i]'(by omega)).toNat : Int) = 47 := this
      have e4 : (47 : UInt8).toNat = 47 := rfl
      omega
    have hd : s.data.toList.drop fr = (s.data.toList.drop fr).take (i - fr) ++ 47 :: s.data.toList.drop (i + 1) := by
      conv => lhs; rw [← List.take_append_drop (i - fr) (s.data.toList.drop fr)]
      rw [List.drop_drop, show fr + (i - fr) = i by omega, List.drop_eq_getElem_cons (by omega : i < s.data.toList.length), e47]
    rw [hd, sp_app _ _ hno, List.map_cons, List.foldl_cons, ← he]
  · have h0 : s.data.toList.drop (i + 1) = [] := List.drop_eq_nil_of_le (by omega)
    have hd : s.data.toList.drop fr = (s.data.toList.drop fr).take (i - fr) := by
      rw [List.take_of_length_le]; rw [List.length_drop]; omega
    rw [h0, hd, sp_no _ hno]
    have hz := stp_nil (stp st (s.extract fr i))
    simp only [sp, List.map_cons, List.map_nil, List.foldl_cons, List.foldl_nil, ← he, hz]
theorem clean_spec_loop (s : ByteArray) (hs : s.size ≤ 40) (d : Nat) : ∀ (i fr : Nat) (st : List ByteArray), i + d = s.size + 1 → fr ≤ i → (i = s.size + 1 → fr = i) →
    (∀ j, fr ≤ j → j < i → j < s.size → bt s (j : Int) ≠ 47) → st.length ≤ fr → (∀ x ∈ st, x.size ≤ 40) →
    Ev (fun k => spec_Clean.l0 k s st (fr : Int) (i : Int)) (shown (((sp (s.data.toList.drop fr)).map PB).foldl stp st)) := by
  induction d with
  | zero =>
    intro i fr st hi hf hfi hn hl hz
    obtain rfl := hfi (by omega)
    have h0 : s.data.toList.drop fr = [] := List.drop_eq_nil_of_le (by rw [data_length]; omega)
    have hz0 : stp st (PB []) = st := by unfold stp; rw [if_pos (toList_PB [])]
    rw [h0]
    simp only [sp, List.map_cons, List.map_nil, List.foldl_cons, List.foldl_nil, hz0]
    refine Ev_succ ?_
    have c : ¬ (fr : Int) ≤ (s.size : Int) := by omega
    simp only [spec_Clean.l0, if_neg c]
    by_cases hst : st = []
    · subst hst
      simp only [shown, List.length_nil, Int.natCast_zero, if_true]
      exact Ev.now _
    · have c2 : ¬ (st.length : Int) = 0 := by
        have := List.length_pos_iff.2 hst; omega
      simp only [if_neg c2, shown, if_neg hst]
      exact clean_show st (by omega) hz st.length 0 (by omega)
  | succ d ih =>
    intro i fr st hi hf hfi hn hl hz
    have ci : (i : Int) ≤ (s.size : Int) := by omega
    have hw : wrap64 ((i : Int) + 1) = ((i + 1 : Nat) : Int) := by rw [w64 (by omega) (by omega)]; omega
    have c0 : 0 ≤ (i : Int) := by omega
    by_cases hgo : i < s.size ∧ bt s (i : Int) ≠ 47
    · have e := ih (i + 1) fr st (by omega) (by omega) (by omega) (fun j h1 h2 h3 => by
        by_cases hj : j = i
        · subst hj; exact hgo.2
        · exact hn j h1 (by omega) h3) hl hz
      have c1 : (i : Int) < (s.size : Int) := by omega
      have c2 : (bt s (i : Int) != 47) = true := bne_iff_ne.mpr hgo.2
      refine Ev_succ ?_
      simp only [spec_Clean.l0, if_pos ci, if_pos c1, if_pos c0, c2]
      refine Ev_succ ?_
      simp only [spec_Clean.j1, if_true, hw]
      exact e
    · have hcut := cut_here s st fr i hf (by omega) (fun j h1 h2 => hn j h1 h2 (by omega)) (fun h => by
        by_cases hb : bt s (i : Int) = 47
        · exact hb
        · exact absurd ⟨h, hb⟩ hgo)
      have hps : (s.extract fr i).size ≤ 40 := by rw [ByteArray.size_extract]; omega
      have hlen := stp_len st (s.extract fr i)
      have e := ih (i + 1) (i + 1) (stp st (s.extract fr i)) (by omega) (by omega) (fun _ => rfl) (fun j h1 h2 h3 => by omega) (by omega) (stp_size st _ 40 hz hps)
      rw [hcut]
      have two : ∀ b : Bool, (b = true ↔ (s.extract fr i).toList = [] ∨ (s.extract fr i).toList = [46]) → Ev (fun k => spec_Clean.j2 k s st ((i + 1 : Nat) : Int) (i : Int) (s.extract fr i) b) (shown (((sp (s.data.toList.drop (i + 1))).map PB).foldl stp (stp st (s.extract fr i)))) := by
        intro b hb
        refine Ev_succ ?_
        by_cases hbt : b = true
        · have hs0 : stp st (s.extract fr i) = st := by
            unfold stp
            rcases hb.1 hbt with h | h
            · rw [if_pos h]
            · by_cases h' : (s.extract fr i).toList = []
              · rw [if_pos h']
              · rw [if_neg h', if_pos h]
          rw [hs0] at e ⊢
          simp only [spec_Clean.j2, hbt, if_true, hw]
          exact e
        · have hno : ¬ ((s.extract fr i).toList = [] ∨ (s.extract fr i).toList = [46]) := fun h => hbt (hb.2 h)
          have hn1 : ¬ (s.extract fr i).toList = [] := fun h => hno (.inl h)
          have hn2 : ¬ (s.extract fr i).toList = [46] := fun h => hno (.inr h)
          by_cases hdd : (s.extract fr i).toList = [46, 46]
          · have hs0 : stp st (s.extract fr i) = st.take (st.length - 1) := by unfold stp; rw [if_neg hn1, if_neg hn2, if_pos hdd]
            rw [hs0] at e ⊢
            by_cases hst : st.length = 0
            · have h00 : st.take (st.length - 1) = st := by rw [List.take_of_length_le]; omega
              rw [h00] at e ⊢
              have c3 : ¬ (st.length : Int) > 0 := by omega
              simp only [spec_Clean.j2, hbt, if_false, Bool.false_eq_true, if_pos hdd, if_neg c3, hw]
              exact e
            · have c3 : (st.length : Int) > 0 := by omega
              have c4 : wrap64 ((st.length : Int) - 1) = ((st.length - 1 : Nat) : Int) := by rw [w64 (by omega) (by omega)]; omega
              have c5 : 0 ≤ ((st.length - 1 : Nat) : Int) := by omega
              have c6 : ((st.length - 1 : Nat) : Int) ≤ (st.length : Int) := by omega
              simp only [spec_Clean.j2, hbt, if_false, Bool.false_eq_true, if_pos hdd, if_pos c3, c4, if_pos c5, if_pos c6, Int.toNat_natCast, hw]
              exact e
          · have hs0 : stp st (s.extract fr i) = st ++ [s.extract fr i] := by unfold stp; rw [if_neg hn1, if_neg hn2, if_neg hdd]
            rw [hs0] at e ⊢
            have c7 : st.length < 8796093022208 := by omega
            simp only [spec_Clean.j2, hbt, if_false, Bool.false_eq_true, if_neg hdd, if_pos c7, hw]
            exact e
      have one : Ev (fun k => spec_Clean.j1 k s st (fr : Int) (i : Int) false) (shown (((sp (s.data.toList.drop (i + 1))).map PB).foldl stp (stp st (s.extract fr i)))) := by
        refine Ev_succ ?_
        have c8 : 0 ≤ (fr : Int) := by omega
        have c9 : (fr : Int) ≤ (i : Int) := by omega
        simp only [spec_Clean.j1, Bool.false_eq_true, if_false, if_pos c8, if_pos c9, if_pos ci, Int.toNat_natCast, hw]
        by_cases hp : (s.extract fr i).toList = []
        · simp only [if_pos hp]
          exact two true ⟨fun _ => .inl hp, fun _ => rfl⟩
        · simp only [if_neg hp]
          exact two _ ⟨fun h => .inr (beq_iff_eq.1 h), fun h => beq_iff_eq.2 (h.resolve_left hp)⟩
      refine Ev_succ ?_
      by_cases hi2 : i < s.size
      · have c1 : (i : Int) < (s.size : Int) := by omega
        have c2 : (bt s (i : Int) != 47) = false := by
          by_cases hb : bt s (i : Int) = 47
          · rw [hb]; rfl
          · exact absurd ⟨hi2, hb⟩ hgo
        simp only [spec_Clean.l0, if_pos ci, if_pos c1, if_pos c0, c2]
        exact one
      · have c1 : ¬ (i : Int) < (s.size : Int) := by omega
        simp only [spec_Clean.l0, if_pos ci, if_neg c1]
        exact one
def cleanTo (s : ByteArray) : ByteArray := if isP s = true then shown (cleaned s) else ⟨#[]⟩
theorem clean_spec (s : ByteArray) (hs : s.size ≤ 4000000) : Ev (fun k => spec_Clean.f k s) (cleanTo s) := by
  simp only [spec_Clean.f]
  refine Ev_call (path_spec s hs) ?_
  unfold cleanTo
  by_cases h : isP s = true
  · simp only [if_pos h]
    exact clean_spec_loop s (isP_size h).2 (s.size + 1) 0 0 [] (by omega) (by omega) (by omega) (fun j h1 h2 h3 => by omega) (by simp) (by simp)
  · simp only [if_neg h]
    exact Ev.now _
theorem clean_impl_loop (L : List ByteArray) (hL : L.length ≤ 41) (hz : ∀ x ∈ L, x.size ≤ 40) (d : Nat) : ∀ (i : Nat) (st : List ByteArray), i + d = L.length → st.length ≤ i → (∀ x ∈ st, x.size ≤ 40) →
    Ev (fun k => impl_Clean.l0 k st L (L.length : Int) (i : Int)) (shown ((L.drop i).foldl stp st)) := by
  induction d with
  | zero =>
    intro i st hi hl hzs
    have h0 : L.drop i = [] := List.drop_eq_nil_of_le (by omega)
    rw [h0, List.foldl_nil]
    refine Ev_succ ?_
    have c : ¬ (i : Int) < (L.length : Int) := by omega
    have hj : (Lib.join (st.map (·.data.toList)) [47]).length ≤ 2100 := by
      cases st with
      | nil => simp [Lib.join_nil]
      | cons x r =>
        rw [List.map_cons, Lib.join_cons, List.length_append]
        have h1 := joinTail_le (r.map (·.data.toList)) 40 (fun y hy => by obtain ⟨z, hz2, rfl⟩ := List.mem_map.1 hy; exact hzs z (.tail _ hz2))
        have h2 : x.data.toList.length ≤ 40 := hzs x (.head _)
        simp only [List.length_map, List.length_cons] at h1 hl
        omega
    have hjc : st.length ≤ 140737488355328 ∧ (Lib.join (st.map (·.data.toList)) (⟨#[47]⟩ : ByteArray).data.toList).length ≤ 140737488355328 := ⟨by omega, by
      have e : (⟨#[47]⟩ : ByteArray).data.toList = [47] := rfl
      rw [e]; omega⟩
    have hjz : 1 + (⟨(Lib.join (st.map (·.data.toList)) (⟨#[47]⟩ : ByteArray).data.toList).toArray⟩ : ByteArray).size ≤ 9223372036854775807 := by
      have e : (⟨(Lib.join (st.map (·.data.toList)) (⟨#[47]⟩ : ByteArray).data.toList).toArray⟩ : ByteArray).size = (Lib.join (st.map (·.data.toList)) [47]).length := rfl
      rw [e]; omega
    simp only [impl_Clean.l0, if_neg c, strings_Join.f, if_pos hjc, Option.bind_some, if_pos hjz]
    rw [← join_shown st]
    exact Ev.now _
  | succ d ih =>
    intro i st hi hl hzs
    have hil : i < L.length := by omega
    have hr : rdOf ByteArray.empty L (i : Int) = L[i] := by simp only [rdOf, Int.toNat_natCast, List.getD, List.getElem?_eq_getElem hil, Option.getD_some]
    have hxs : L[i].size ≤ 40 := hz _ (List.getElem_mem hil)
    have hlen := stp_len st L[i]
    have e := ih (i + 1) (stp st L[i]) (by omega) (by omega) (stp_size st _ 40 hzs hxs)
    have hw : wrap64 ((i : Int) + 1) = ((i + 1 : Nat) : Int) := by rw [w64 (by omega) (by omega)]; omega
    have c0 : 0 ≤ (i : Int) := by omega
    have c1 : (i : Int) < (L.length : Int) := by omega
    rw [List.drop_eq_getElem_cons hil, List.foldl_cons]
    generalize L[i] = x at hr hxs hlen e ⊢
    have two : ∀ b : Bool, (b = true ↔ x.toList = [] ∨ x.toList = [46]) → Ev (fun k => impl_Clean.j1 k st x L (L.length : Int) (i : Int) x b) (shown ((L.drop (i + 1)).foldl stp (stp st x))) := by
      intro b hb
      refine Ev_succ ?_
      by_cases hbt : b = true
      · have hs0 : stp st x = st := by
          unfold stp
          rcases hb.1 hbt with h | h
          · rw [if_pos h]
          · by_cases h' : x.toList = []
            · rw [if_pos h']
            · rw [if_neg h', if_pos h]
        rw [hs0] at e ⊢
        simp only [impl_Clean.j1, hbt, if_true, hw]
        exact e
      · have hno : ¬ (x.toList = [] ∨ x.toList = [46]) := fun h => hbt (hb.2 h)
        have hn1 : ¬ x.toList = [] := fun h => hno (.inl h)
        have hn2 : ¬ x.toList = [46] := fun h => hno (.inr h)
        by_cases hdd : x.toList = [46, 46]
        · have hs0 : stp st x = st.take (st.length - 1) := by unfold stp; rw [if_neg hn1, if_neg hn2, if_pos hdd]
          rw [hs0] at e ⊢
          have c4 : mx 0 (wrap64 ((st.length : Int) - 1)) = ((st.length - 1 : Nat) : Int) := by
            rw [w64 (by omega) (by omega)]
            unfold mx
            split <;> omega
          have c5 : 0 ≤ ((st.length - 1 : Nat) : Int) := by omega
          have c6 : ((st.length - 1 : Nat) : Int) ≤ (st.length : Int) := by omega
          simp only [impl_Clean.j1, hbt, if_false, Bool.false_eq_true, if_pos hdd, c4, if_pos c5, if_pos c6, Int.toNat_natCast, hw]
          exact e
        · have hs0 : stp st x = st ++ [x] := by unfold stp; rw [if_neg hn1, if_neg hn2, if_neg hdd]
          rw [hs0] at e ⊢
          have c7 : st.length < 8796093022208 := by omega
          simp only [impl_Clean.j1, hbt, if_false, Bool.false_eq_true, if_neg hdd, if_pos c7, hw]
          exact e
    refine Ev_succ ?_
    simp only [impl_Clean.l0, if_pos c1, if_pos c0, hr]
    by_cases hp : x.toList = []
    · have hpb : (x.toList == ([] : List UInt8)) = true := beq_iff_eq.2 hp
      simp only [if_pos hp, hpb]
      exact two true ⟨fun _ => .inl hp, fun _ => rfl⟩
    · simp only [if_neg hp]
      exact two _ ⟨fun h => .inr (beq_iff_eq.1 h), fun h => beq_iff_eq.2 (h.resolve_left hp)⟩
theorem clean_impl (s : ByteArray) (hs : s.size ≤ 4000000) : Ev (fun k => impl_Clean.f k s) (cleanTo s) := by
  simp only [impl_Clean.f]
  refine Ev_call (path_impl s hs) ?_
  unfold cleanTo
  by_cases h : isP s = true
  · have h40 := (isP_size h).2
    have c : s.size < 4294967281 ∧ 1 ≤ (⟨#[47]⟩ : ByteArray).size := ⟨by omega, Nat.le_refl _⟩
    simp only [if_pos h, strings_Split.f, if_pos c, Option.bind_some, splitB_sp]
    have hl1 := sp_len s.data.toList
    have hl2 := sp_size s.data.toList
    rw [data_length] at hl1 hl2
    exact clean_impl_loop ((sp s.data.toList).map PB) (by rw [List.length_map]; omega) (fun x hx => by
      obtain ⟨p, hp, rfl⟩ := List.mem_map.1 hx
      have := hl2 p hp
      rw [size_PB]; omega) _ 0 [] (Nat.zero_add _) (by simp) (by simp)
  · simp only [if_neg h]
    exact Ev.now _
def beg (p s : ByteArray) : Bool := if p.size ≤ s.size then (s.extract 0 p.size).toList == p.toList else false
theorem beg_spec (p s : ByteArray) : spec_l2Begins.f p s = some (beg p s) := by
  by_cases h : p.size ≤ s.size
  · have c1 : (p.size : Int) ≤ (s.size : Int) := by omega
    have c2 : 0 ≤ (p.size : Int) := by omega
    simp only [spec_l2Begins.f, if_pos c1, if_pos c2, Int.toNat_natCast, beg, if_pos h]
  · have c1 : ¬ (p.size : Int) ≤ (s.size : Int) := by omega
    simp only [spec_l2Begins.f, if_neg c1, beg, if_neg h]
theorem beg_impl (p s : ByteArray) : strings_HasPrefix.f s p = some (beg p s) := by
  by_cases h : p.size ≤ s.size
  · have c1 : (p.size : Int) ≤ (s.size : Int) := by omega
    have c3 : (s.size : Int) ≥ (p.size : Int) := by omega
    have c2 : 0 ≤ (p.size : Int) := by omega
    simp only [strings_HasPrefix.f, stringslite_HasPrefix.f, if_pos c3, if_pos c1, if_pos c2, Int.toNat_natCast, beg, if_pos h, Option.bind_some]
  · have c1 : ¬ (s.size : Int) ≥ (p.size : Int) := by omega
    simp only [strings_HasPrefix.f, stringslite_HasPrefix.f, if_neg c1, beg, if_neg h, Option.bind_some]
def nearTo (a b : ByteArray) : ByteArray := cleanTo (a.extract 0 (Lib.lastIndexByte a 47 + 1).toNat ++ b)
def resolveTo (a b : ByteArray) : ByteArray :=
  if isP a = true then (if beg ⟨#[47]⟩ b = true then cleanTo b else if beg ⟨#[46, 47]⟩ b = true then nearTo a b else if beg ⟨#[46, 46, 47]⟩ b = true then nearTo a b else cleanTo ((⟨#[47, 108, 105, 98, 47]⟩ : ByteArray) ++ b)) else ⟨#[]⟩
theorem bang (s : ByteArray) (j : Nat) (h : j < s.size) : ((s.data[j]!).toNat : Int) = bt s (j : Int) := by
  rw [btAt s j h, getElem!_pos s.data j h, Array.getElem_toList]
theorem last_slash {a : ByteArray} (h : isP a = true) : ∃ i : Nat, i < a.size ∧ Lib.lastIndexByte a 47 = i ∧ bt a (i : Int) = 47 ∧ ∀ j : Nat, i < j → j < a.size → bt a (j : Int) ≠ 47 := by
  have hs := isP_size h
  have h0 : bt a 0 = 47 := by
    unfold isP at h
    simp only [Bool.and_eq_true, decide_eq_true_eq, beq_iff_eq] at h
    exact h.1.2
  rcases Lib.lastIndexByte_spec a 47 with ⟨_, hn⟩ | ⟨i, hi, he, h1, h2⟩
  · exact absurd ((bang a 0 (by omega)).trans h0) (hn 0 (by omega))
  · exact ⟨i, hi, he, (bang a i hi).symm.trans h1, fun j hj hl e => h2 j hj hl ((bang a j hl).trans e)⟩
theorem cut_size (a b : ByteArray) (n : Nat) (ha : a.size ≤ 40) (hb : b.size ≤ 1048576) : (a.extract 0 n).size + b.size ≤ 1048616 ∧ (a.extract 0 n ++ b).size ≤ 4000000 := by
  have h : (a.extract 0 n).size ≤ 40 := by rw [ByteArray.size_extract]; omega
  exact ⟨by omega, by rw [size_app]; omega⟩
theorem resolve_loop (a b : ByteArray) (ha : a.size ≤ 40) (hb : b.size ≤ 1048576) (i : Nat) (hi : i < a.size) (h47 : bt a (i : Int) = 47) (hne : ∀ j : Nat, i < j → j < a.size → bt a (j : Int) ≠ 47) (d : Nat) :
    ∀ m : Nat, m = i + 1 + d → m ≤ a.size → Ev (fun k => spec_Resolve.l0 k a b (m : Int)) (cleanTo (a.extract 0 (i + 1) ++ b)) := by
  induction d with
  | zero =>
    intro m hm hl
    obtain rfl : m = i + 1 := hm
    refine Ev_succ ?_
    have hw : wrap64 (((i + 1 : Nat) : Int) - 1) = (i : Int) := by rw [w64 (by omega) (by omega)]; omega
    have c0 : 0 ≤ (i : Int) := by omega
    have c1 : (i : Int) < (a.size : Int) := by omega
    have c2 : 0 ≤ ((i + 1 : Nat) : Int) := by omega
    have c3 : ((i + 1 : Nat) : Int) ≤ (a.size : Int) := by omega
    have hcs := cut_size a b (i + 1) ha hb
    have c4 : (a.extract 0 (i + 1)).size + b.size ≤ 9223372036854775807 := by omega
    simp only [spec_Resolve.l0, hw, if_pos c0, if_pos c1, if_pos h47, if_pos c2, if_pos c3, Int.toNat_natCast, if_pos c4]
    exact Ev_call (clean_spec _ hcs.2) (Ev.now _)
  | succ d ih =>
    intro m hm hl
    have e := ih (m - 1) (by omega) (by omega)
    refine Ev_succ ?_
    have hw : wrap64 ((m : Int) - 1) = ((m - 1 : Nat) : Int) := by rw [w64 (by omega) (by omega)]; omega
    have c0 : 0 ≤ ((m - 1 : Nat) : Int) := by omega
    have c1 : ((m - 1 : Nat) : Int) < (a.size : Int) := by omega
    have c2 := hne (m - 1) (by omega) (by omega)
    simp only [spec_Resolve.l0, hw, if_pos c0, if_pos c1, if_neg c2]
    exact e
theorem near_spec (a b : ByteArray) (h : isP a = true) (hb : b.size ≤ 1048576) : Ev (fun k => spec_Resolve.l0 k a b (a.size : Int)) (nearTo a b) := by
  obtain ⟨i, hi, he, h1, h2⟩ := last_slash h
  have e := resolve_loop a b (isP_size h).2 hb i hi h1 h2 (a.size - (i + 1)) a.size (by omega) (Nat.le_refl _)
  have q : (Lib.lastIndexByte a 47 + 1).toNat = i + 1 := by rw [he]; omega
  unfold nearTo
  rw [q]
  exact e
theorem resolve_spec (a b : ByteArray) (ha : a.size ≤ 1048576) (hb : b.size ≤ 1048576) : Ev (fun k => spec_Resolve.f k a b) (resolveTo a b) := by
  simp only [spec_Resolve.f]
  refine Ev_call (path_spec a (by omega)) ?_
  unfold resolveTo
  by_cases h : isP a = true
  · simp only [if_pos h, beg_spec, Option.bind_some]
    by_cases h1 : beg ⟨#[47]⟩ b = true
    · simp only [if_pos h1]
      exact Ev_call (clean_spec b (by omega)) (Ev.now _)
    · simp only [if_neg h1]
      by_cases h2 : beg ⟨#[46, 47]⟩ b = true
      · simp only [if_pos h2]
        refine Ev_succ ?_
        simp only [spec_Resolve.j0, Bool.false_eq_true, if_false]
        exact near_spec a b h hb
      · simp only [if_neg h2]
        by_cases h3 : beg ⟨#[46, 46, 47]⟩ b = true
        · simp only [h3, Bool.not_true, if_true]
          refine Ev_succ ?_
          simp only [spec_Resolve.j0, Bool.false_eq_true, if_false]
          exact near_spec a b h hb
        · have h4 : beg ⟨#[46, 46, 47]⟩ b = false := Bool.eq_false_iff.mpr h3
          simp only [h4, Bool.not_false, Bool.false_eq_true, if_false]
          refine Ev_succ ?_
          have c : 5 + b.size ≤ 9223372036854775807 := by omega
          simp only [spec_Resolve.j0, if_true, if_pos c]
          exact Ev_call (clean_spec _ (by rw [size_app]; have : (⟨#[47, 108, 105, 98, 47]⟩ : ByteArray).size = 5 := rfl; omega)) (Ev.now _)
  · simp only [if_neg h]
    exact Ev.now _
theorem last_impl (a : ByteArray) (h : a.size ≤ 40) : strings_LastIndexByte.f a 47 = some (Lib.lastIndexByte a 47) := by
  unfold strings_LastIndexByte.f
  exact if_pos (Nat.lt_of_le_of_lt h (by decide))
theorem Ev_some_of {α : Type} {g : Option α} {a : α} (h : g = some a) : Ev (fun _ => g) a := h ▸ Ev.now a
theorem near_tail (a b : ByteArray) (i : Nat) (h40 : a.size ≤ 40) (hb : b.size ≤ 1048576) (hi : i < a.size) (z : Int) (hz : z = ((i + 1 : Nat) : Int)) : Ev (fun k => (if 0 ≤ z then (if z ≤ (a.size : Int) then (if (a.extract 0 (z : Int).toNat).size + b.size ≤ 9223372036854775807 then ((impl_Clean.f k ((a.extract 0 (z : Int).toNat) ++ b)).bind fun u => (some u)) else (none)) else (none)) else (none))) (cleanTo (a.extract 0 (i + 1) ++ b)) := by
  subst hz
  have c2 : 0 ≤ ((i + 1 : Nat) : Int) := by omega
  have c3 : ((i + 1 : Nat) : Int) ≤ (a.size : Int) := by omega
  have hcs := cut_size a b (i + 1) h40 hb
  have c4 : (a.extract 0 (i + 1)).size + b.size ≤ 9223372036854775807 := by omega
  simp only [if_pos c2, if_pos c3, Int.toNat_natCast, if_pos c4]
  exact Ev_call (clean_impl _ hcs.2) (Ev.now _)
theorem near_impl (a b : ByteArray) (h : isP a = true) (hb : b.size ≤ 1048576) : Ev (fun k => (strings_LastIndexByte.f a 47).bind fun t => (if 0 ≤ (wrap64 (t + 1)) then (if (wrap64 (t + 1)) ≤ (a.size : Int) then (if (a.extract 0 ((wrap64 (t + 1)) : Int).toNat).size + b.size ≤ 9223372036854775807 then ((impl_Clean.f k ((a.extract 0 ((wrap64 (t + 1)) : Int).toNat) ++ b)).bind fun u => (some u)) else (none)) else (none)) else (none))) (nearTo a b) := by
  obtain ⟨i, hi, he, _, _⟩ := last_slash h
  have h40 := (isP_size h).2
  have q : (Lib.lastIndexByte a 47 + 1).toNat = i + 1 := by rw [he]; omega
  have hw : wrap64 ((i : Int) + 1) = ((i + 1 : Nat) : Int) := by rw [w64 (by omega) (by omega)]; omega
  have e := near_tail a b i h40 hb hi _ hw
  unfold nearTo
  rw [q]
  exact Ev_call (g := fun _ => strings_LastIndexByte.f a 47) (Ev_some_of ((last_impl a h40).trans (congrArg some he))) e
theorem resolve_impl (a b : ByteArray) (ha : a.size ≤ 1048576) (hb : b.size ≤ 1048576) : Ev (fun k => impl_Resolve.f k a b) (resolveTo a b) := by
  simp only [impl_Resolve.f]
  refine Ev_call (path_impl a (by omega)) ?_
  unfold resolveTo
  by_cases h : isP a = true
  · simp only [if_pos h, beg_impl, impl_isNear.f, Option.bind_some]
    by_cases h1 : beg ⟨#[47]⟩ b = true
    · simp only [if_pos h1]
      exact Ev_call (clean_impl b (by omega)) (Ev.now _)
    · simp only [if_neg h1]
      by_cases h2 : beg ⟨#[46, 47]⟩ b = true
      · simp only [if_pos h2, Option.bind_some, if_true]
        exact near_impl a b h hb
      · simp only [if_neg h2, Option.bind_some]
        by_cases h3 : beg ⟨#[46, 46, 47]⟩ b = true
        · simp only [if_pos h3]
          exact near_impl a b h hb
        · have c : 5 + b.size ≤ 9223372036854775807 := by omega
          simp only [if_neg h3, if_pos c]
          exact Ev_call (clean_impl _ (by rw [size_app]; have : (⟨#[47, 108, 105, 98, 47]⟩ : ByteArray).size = 5 := rfl; omega)) (Ev.now _)
  · simp only [if_neg h]
    exact Ev.now _
theorem ext_ext (c : ByteArray) (i m : Nat) (h : i ≤ m) : (c.extract 0 m).extract 0 i = c.extract 0 i := by
  apply data_inj
  simp only [ByteArray.data_extract, Array.toList_extract, List.extract_eq_take_drop, List.drop_zero, Nat.sub_zero]
  rw [List.take_take, Nat.min_eq_left h]
theorem ext_size (c : ByteArray) (m : Nat) (h : m ≤ c.size) : (c.extract 0 m).size = m := by rw [ByteArray.size_extract]; omega
theorem ext_bt (c : ByteArray) (m j : Nat) (hj : j < m) (h : m ≤ c.size) : bt (c.extract 0 m) (j : Int) = bt c (j : Int) := by
  rw [btAt _ j (by rw [ext_size c m h]; exact hj), btAt c j (by omega)]
  have e : (c.extract 0 m).data.toList = c.data.toList.take m := by
    simp only [ByteArray.data_extract, Array.toList_extract, List.extract_eq_take_drop, List.drop_zero, Nat.sub_zero]
  have e2 : (c.extract 0 m).data.toList[j]'(by rw [data_length, ext_size c m h]; exact hj) = (c.data.toList.take m)[j]'(by rw [List.length_take, data_length]; omega) := by
    congr 1
  rw [e2, List.getElem_take]
theorem last_of (a : ByteArray) (h0 : bt a 0 = 47) (hs : 0 < a.size) : ∃ i : Nat, i < a.size ∧ Lib.lastIndexByte a 47 = i ∧ bt a (i : Int) = 47 ∧ ∀ j : Nat, i < j → j < a.size → bt a (j : Int) ≠ 47 := by
  rcases Lib.lastIndexByte_spec a 47 with ⟨_, hn⟩ | ⟨i, hi, he, h1, h2⟩
  · exact absurd ((bang a 0 hs).trans h0) (hn 0 hs)
  · exact ⟨i, hi, he, (bang a i hi).symm.trans h1, fun j hj hl e => h2 j hj hl ((bang a j hl).trans e)⟩
theorem up_scan (c : ByteArray) (hs : c.size ≤ 40) (acc r : List ByteArray) (i : Nat) (e : Ev (fun k => spec_Up.l0 k acc c (i : Int)) r) (d : Nat) :
    i + d < c.size → (∀ j : Nat, i < j → j ≤ i + d → bt c (j : Int) ≠ 47) → Ev (fun k => spec_Up.l0 k acc c ((i + d : Nat) : Int)) r := by
  induction d with
  | zero => intro _ _; exact e
  | succ d ih =>
    intro hl hn
    have e2 := ih (by omega) (fun j h1 h2 => hn j h1 (by omega))
    refine Ev_succ ?_
    have c0 : ((i + (d + 1) : Nat) : Int) > 0 := by omega
    have c1 : 0 ≤ ((i + (d + 1) : Nat) : Int) := by omega
    have c2 : ((i + (d + 1) : Nat) : Int) < (c.size : Int) := by omega
    have c3 := hn (i + (d + 1)) (by omega) (Nat.le_refl _)
    have hw : wrap64 (((i + (d + 1) : Nat) : Int) - 1) = ((i + d : Nat) : Int) := by rw [w64 (by omega) (by omega)]; omega
    simp only [spec_Up.l0, if_pos c0, if_pos c1, if_pos c2, if_neg c3, hw]
    exact e2
theorem impl_step (x : ByteArray) (acc r : List ByteArray) (i : Nat) (hs : x.size ≤ 40) (h1 : 1 < x.size) (hi : i < x.size) (he : Lib.lastIndexByte x 47 = i) (ha : acc.length ≤ 50) (z : ByteArray) (hz : z = if (x.extract 0 i).toList = [] then ⟨#[47]⟩ else x.extract 0 i)
    (e : Ev (fun k => impl_Up.l0 k z (acc ++ [z])) r) : Ev (fun k => impl_Up.l0 k x acc) r := by
  refine Ev_succ ?_
  have c0 : (x.size : Int) > 1 := by omega
  have c1 : 0 ≤ (i : Int) := by omega
  have c2 : (i : Int) ≤ (x.size : Int) := by omega
  have c3 : acc.length < 8796093022208 := by omega
  simp only [impl_Up.l0, if_pos c0]
  refine Ev_call (g := fun _ => strings_LastIndexByte.f x 47) (Ev_some_of ((last_impl x hs).trans (congrArg some he))) ?_
  simp only [if_pos c1, if_pos c2, Int.toNat_natCast, if_pos c3]
  by_cases hp : (x.extract 0 i).toList = []
  · rw [if_pos hp] at hz; subst hz
    simp only [if_pos hp]; exact e
  · rw [if_neg hp] at hz; subst hz
    simp only [if_neg hp]; exact e
theorem sp_app2 (a b : List UInt8) : sp (a ++ 47 :: b) = sp a ++ sp b := by
  induction a with
  | nil => simp [sp]
  | cons c a ih =>
    rw [List.cons_append, sp, sp]
    by_cases h : c = 47
    · rw [if_pos h, if_pos h, ih]; rfl
    · rw [if_neg h, if_neg h, ih]
      cases e : sp a with
      | nil => exact absurd e (sp_ne a)
      | cons x t => rfl
theorem join_sp (l : List UInt8) : ∀ h t, sp l = h :: t → h ++ Lib.joinTail [47] t = l := by
  induction l with
  | nil =>
    intro h t e
    simp [sp] at e
    obtain ⟨rfl, rfl⟩ := e
    rfl
  | cons c r ih =>
    intro h t e
    rw [sp] at e
    cases er : sp r with
    | nil => exact absurd er (sp_ne r)
    | cons x y =>
      have e2 := ih x y er
      rw [er] at e
      by_cases hc : c = 47
      · rw [if_pos hc] at e
        obtain ⟨rfl, rfl⟩ := List.cons.inj e
        rw [← e2, hc]
        simp [Lib.joinTail]
      · rw [if_neg hc] at e
        obtain ⟨rfl, rfl⟩ := List.cons.inj e
        rw [List.cons_append, e2]
theorem sp_shown2 (x : ByteArray) (r : List ByteArray) (h : ∀ y ∈ x :: r, good y) : sp (shown (x :: r)).data.toList = [] :: (x :: r).map (·.data.toList) := by
  have e : (shown (x :: r)).data.toList = [] ++ 47 :: (x.data.toList ++ Lib.joinTail [47] (r.map (·.data.toList))) := by
    rw [shown, if_neg (by simp), data_PB]
    simp [Lib.joinTail]
  rw [e, sp_app _ _ (by simp), sp_tail _ _ (h x (.head _)).2.2.2 (fun y hy => by
    obtain ⟨z, hz, rfl⟩ := List.mem_map.1 hy
    exact (h z (.tail _ hz)).2.2.2)]
  rfl
theorem ext_take (c : ByteArray) (i : Nat) : (c.extract 0 i).data.toList = c.data.toList.take i := by
  simp only [ByteArray.data_extract, Array.toList_extract, List.extract_eq_take_drop, List.drop_zero, Nat.sub_zero]
/-- What begins a clean path, up to a slash, is clean. -/
theorem clean_begin (s : ByteArray) (h : isP s = true) (i : Nat) (hi0 : 0 < i) (hi : i < (shown (cleaned s)).size) (h47 : bt (shown (cleaned s)) (i : Int) = 47) : cleanTo ((shown (cleaned s)).extract 0 i) = (shown (cleaned s)).extract 0 i := by
  have hP := (clean_fix h).1
  have hg := good_cleaned s
  cases hst : cleaned s with
  | nil => rw [hst] at hi; have e : (shown []).size = 1 := rfl; omega
  | cons x r =>
    rw [hst] at hi h47 hP hg
    have hsp := sp_shown2 x r hg
    obtain ⟨p1, p2, p3⟩ := (isP_iff _).1 hP
    generalize hc : shown (x :: r) = c at *
    have hlen := data_length c
    have hil : i < c.data.toList.length := by omega
    have e47 : c.data.toList[i] = 47 := by
      have := btAt c i hi
      rw [h47] at this
      apply UInt8.toNat_inj.1
      have e3 : (47 : UInt8).toNat = 47 := rfl
      rw [e3]; omega
    have hl : c.data.toList = c.data.toList.take i ++ 47 :: c.data.toList.drop (i + 1) := by
      have q : 47 :: c.data.toList.drop (i + 1) = c.data.toList.drop i := by rw [← e47]; exact (List.drop_eq_getElem_cons hil).symm
      rw [q, List.take_append_drop]
    have hx := ext_take c i
    have hs2 : sp (c.data.toList.take i) ++ sp (c.data.toList.drop (i + 1)) = [] :: (x :: r).map (·.data.toList) := by
      rw [← sp_app2, ← hl]; exact hsp
    cases ea : sp (c.data.toList.take i) with
    | nil => exact absurd ea (sp_ne _)
    | cons a t =>
      rw [ea, List.cons_append] at hs2
      obtain ⟨ha, ht⟩ := List.cons.inj hs2
      have hj := join_sp _ a t ea
      rw [ha, List.nil_append] at hj
      have hmem : ∀ p ∈ t.map PB, good p := by
        intro p hp
        obtain ⟨q, hq, rfl⟩ := List.mem_map.1 hp
        have : q ∈ (x :: r).map (·.data.toList) := by rw [← ht]; exact List.mem_append_left _ hq
        obtain ⟨y, hy, rfl⟩ := List.mem_map.1 this
        rw [PB_data]; exact hg y hy
      have hne : t.map PB ≠ [] := by
        intro e
        have e2 : t = [] := List.map_eq_nil_iff.1 e
        rw [e2] at hj
        have := congrArg List.length hj
        simp [Lib.joinTail] at this
        omega
      have hcl : cleaned (c.extract 0 i) = t.map PB := by
        unfold cleaned
        rw [hx, ea, ha, List.map_cons, List.foldl_cons, stp_nil, fold_good _ hmem]
        rfl
      have hsh : shown (t.map PB) = c.extract 0 i := by
        rw [shown, if_neg hne]
        apply data_inj
        rw [data_PB, hx, ← hj]
        congr 1
        rw [List.map_map]
        conv => rhs; rw [← List.map_id t]
        exact List.map_congr_left (fun z _ => rfl)
      have hp : isP (c.extract 0 i) = true := by
        rw [isP_iff]
        refine ⟨by rw [ext_size c i (by omega)]; omega, ?_, ?_⟩
        · rw [hx]
          cases ec : c.data.toList with
          | nil => rw [ec] at p2; simp at p2
          | cons y z =>
            rw [ec] at p2
            obtain ⟨j, rfl⟩ : ∃ j, i = j + 1 := ⟨i - 1, by omega⟩
            rw [List.take_succ_cons]; exact p2
        · intro z hz
          rw [hx] at hz
          exact p3 z (List.mem_of_mem_take hz)
      unfold cleanTo
      rw [if_pos hp, hcl, hsh]
/-- The directories that a clean path is in, from its first m bytes up. -/
inductive Ups (c : ByteArray) : Nat → List ByteArray → Prop
  | last (m : Nat) : 1 < m → Ups c m [⟨#[47]⟩]
  | more (m i : Nat) (rest : List ByteArray) : 0 < i → i < m → cleanTo (c.extract 0 i) = c.extract 0 i → Ups c i rest → Ups c m (c.extract 0 i :: rest)
theorem up_loop (c : ByteArray) (h0 : bt c 0 = 47) (h1 : bt c 1 ≠ 47) (hs : c.size ≤ 40) (hcl : ∀ i : Nat, 0 < i → i < c.size → bt c (i : Int) = 47 → cleanTo (c.extract 0 i) = c.extract 0 i) (n : Nat) : ∀ (m : Nat) (acc : List ByteArray), m ≤ n → 1 < m → m ≤ c.size → acc.length + m ≤ 48 →
    ∃ r : List ByteArray, Ups c m r ∧ r.length ≤ m ∧ Ev (fun k => spec_Up.l0 k acc c ((m - 1 : Nat) : Int)) (acc ++ r) ∧ Ev (fun k => impl_Up.l0 k (c.extract 0 m) acc) (acc ++ r) := by
  induction n with
  | zero => intro m acc h2 h3; omega
  | succ n ih =>
    intro m acc hmn hm1 hmc hacc
    have hsz := ext_size c m hmc
    have hb0 : bt (c.extract 0 m) 0 = 47 := (ext_bt c m 0 (by omega) hmc).trans h0
    obtain ⟨i, hi, he, h47, hne⟩ := last_of (c.extract 0 m) hb0 (by omega)
    rw [hsz] at hi hne
    have hc47 : bt c (i : Int) = 47 := (ext_bt c m i hi hmc).symm.trans h47
    have hcne : ∀ j : Nat, i < j → j ≤ i + (m - 1 - i) → bt c (j : Int) ≠ 47 := fun j a b e => hne j a (by omega) ((ext_bt c m j (by omega) hmc).trans e)
    have hi1 : i ≠ 1 := fun e => h1 (by subst e; exact hc47)
    have em : i + (m - 1 - i) = m - 1 := by omega
    by_cases hi0 : i = 0
    · subst hi0
      refine ⟨[⟨#[47]⟩], Ups.last m hm1, by simp; omega, ?_, ?_⟩
      · have e : Ev (fun k => spec_Up.l0 k acc c ((0 : Nat) : Int)) (acc ++ [⟨#[47]⟩]) := by
          refine Ev_succ ?_
          have c0 : ¬ ((0 : Nat) : Int) > 0 := by omega
          have c1 : (c.size : Int) > 1 := by omega
          have c2 : acc.length < 8796093022208 := by omega
          simp only [spec_Up.l0, if_neg c0, if_pos c1, if_pos c2]
          exact Ev.now _
        have q := up_scan c hs acc _ 0 e (m - 1 - 0) (by omega) hcne
        rw [em] at q
        exact q
      · refine impl_step (c.extract 0 m) acc _ 0 (by omega) (by omega) (by omega) he (by omega) ⟨#[47]⟩ ?_ ?_
        · have z : ((c.extract 0 m).extract 0 0).toList = [] := by
            rw [ext_ext c 0 m (by omega), toList_data]
            simp only [ByteArray.data_extract, Array.toList_extract, List.extract_eq_take_drop, List.drop_zero, Nat.sub_zero, List.take_zero]
          rw [if_pos z]
        · refine Ev_succ ?_
          have c0 : ¬ (((⟨#[47]⟩ : ByteArray).size : Int) > 1) := by decide
          simp only [impl_Up.l0, if_neg c0]
          exact Ev.now _
    · obtain ⟨r, hU, hr, e1, e2⟩ := ih i (acc ++ [c.extract 0 i]) (by omega) (by omega) (by omega) (by simp; omega)
      rw [List.append_assoc, List.singleton_append] at e1 e2
      refine ⟨c.extract 0 i :: r, Ups.more m i r (by omega) hi (hcl i (by omega) (by omega) hc47) hU, by simp; omega, ?_, ?_⟩
      · have e : Ev (fun k => spec_Up.l0 k acc c (i : Int)) (acc ++ c.extract 0 i :: r) := by
          refine Ev_succ ?_
          have c0 : (i : Int) > 0 := by omega
          have c1 : 0 ≤ (i : Int) := by omega
          have c2 : (i : Int) < (c.size : Int) := by omega
          have c4 : (i : Int) ≤ (c.size : Int) := by omega
          have c5 : acc.length < 8796093022208 := by omega
          have hw : wrap64 ((i : Int) - 1) = ((i - 1 : Nat) : Int) := by rw [w64 (by omega) (by omega)]; omega
          simp only [spec_Up.l0, if_pos c0, if_pos c1, if_pos c2, if_pos hc47, if_pos c4, if_pos c5, Int.toNat_natCast, hw]
          exact e1
        have q := up_scan c hs acc _ i e (m - 1 - i) (by omega) hcne
        rw [em] at q
        exact q
      · refine impl_step (c.extract 0 m) acc _ i (by omega) (by omega) (by omega) he (by omega) (c.extract 0 i) ?_ e2
        have z : ¬ ((c.extract 0 m).extract 0 i).toList = [] := by
          rw [ext_ext c i m (by omega), toList_data]
          intro e
          have := congrArg List.length e
          rw [data_length, ext_size c i (by omega)] at this
          simp at this; omega
        rw [if_neg z, ext_ext c i m (by omega)]
theorem up_all (s : ByteArray) (hs : s.size ≤ 1048576) : ∃ r : List ByteArray, r.length ≤ 40 ∧ Ev (fun k => spec_Up.f k s) r ∧ Ev (fun k => impl_Up.f k s) r ∧
    ((r = [] ∧ ((cleanTo s).toList = [] ∨ (cleanTo s).toList = [47])) ∨ (isP s = true ∧ 1 < (cleanTo s).size ∧ (cleanTo s).size ≤ 40 ∧ bt (cleanTo s) 0 = 47 ∧ Ups (cleanTo s) (cleanTo s).size r)) := by
  have main : ∃ r : List ByteArray, r.length ≤ 40 ∧ Ev (fun k => spec_Up.l0 k [] (cleanTo s) (wrap64 (((cleanTo s).size : Int) - 1))) r ∧ Ev (fun k => impl_Up.l0 k (cleanTo s) []) r ∧
    ((r = [] ∧ ((cleanTo s).toList = [] ∨ (cleanTo s).toList = [47])) ∨ (isP s = true ∧ 1 < (cleanTo s).size ∧ (cleanTo s).size ≤ 40 ∧ bt (cleanTo s) 0 = 47 ∧ Ups (cleanTo s) (cleanTo s).size r)) := by
    have small : ∀ c : ByteArray, c.size ≤ 1 → Ev (fun k => spec_Up.l0 k [] c (wrap64 ((c.size : Int) - 1))) [] ∧ Ev (fun k => impl_Up.l0 k c []) [] := by
      intro c hc
      refine ⟨Ev_succ ?_, Ev_succ ?_⟩
      · have hw : wrap64 ((c.size : Int) - 1) = (c.size : Int) - 1 := w64 (by omega) (by omega)
        have c0 : ¬ ((c.size : Int) - 1 > 0) := by omega
        have c1 : ¬ ((c.size : Int) > 1) := by omega
        simp only [spec_Up.l0, hw, if_neg c0, if_neg c1]
        exact Ev.now _
      · have c1 : ¬ ((c.size : Int) > 1) := by omega
        simp only [impl_Up.l0, if_neg c1]
        exact Ev.now _
    by_cases hp : isP s = true
    · have ec : cleanTo s = shown (cleaned s) := by unfold cleanTo; rw [if_pos hp]
      rw [ec]
      have hP := (clean_fix hp).1
      have h40 := (isP_size hP).2
      have h1' := (isP_size hP).1
      have h0 : bt (shown (cleaned s)) 0 = 47 := by
        unfold isP at hP
        simp only [Bool.and_eq_true, decide_eq_true_eq, beq_iff_eq] at hP
        exact hP.1.2
      by_cases h1 : (shown (cleaned s)).size ≤ 1
      · refine ⟨[], by simp, (small _ h1).1, (small _ h1).2, Or.inl ⟨rfl, Or.inr ?_⟩⟩
        have hh := ((isP_iff _).1 hP).2.1
        have hl := data_length (shown (cleaned s))
        rw [toList_data]
        cases e : (shown (cleaned s)).data.toList with
        | nil => rw [e] at hh; simp at hh
        | cons y z =>
          rw [e] at hh hl
          simp at hh hl
          rw [hh, List.eq_nil_of_length_eq_zero (l := z) (by omega)]
      · obtain ⟨r, hU, hr, e1, e2⟩ := up_loop (shown (cleaned s)) h0 (shown_second (by omega)) h40 (fun i a b d => clean_begin s hp i a b d) _ (shown (cleaned s)).size [] (Nat.le_refl _) (by omega) (Nat.le_refl _) (by simp; omega)
        have hw : wrap64 (((shown (cleaned s)).size : Int) - 1) = (((shown (cleaned s)).size - 1 : Nat) : Int) := by rw [w64 (by omega) (by omega)]; omega
        have hx : (shown (cleaned s)).extract 0 (shown (cleaned s)).size = shown (cleaned s) := by
          apply data_inj
          simp only [ByteArray.data_extract, Array.toList_extract, List.extract_eq_take_drop, List.drop_zero, Nat.sub_zero]
          exact List.take_of_length_le (by rw [data_length]; omega)
        rw [hw]
        rw [hx] at e2
        rw [List.nil_append] at e1 e2
        exact ⟨r, by omega, e1, e2, Or.inr ⟨hp, by omega, h40, h0, hU⟩⟩
    · have ec : cleanTo s = ⟨#[]⟩ := by unfold cleanTo; rw [if_neg hp]
      rw [ec]
      exact ⟨[], by simp, (small _ (by decide)).1, (small _ (by decide)).2, Or.inl ⟨rfl, Or.inl (toList_data _)⟩⟩
  obtain ⟨r, hr, e1, e2, e3⟩ := main
  refine ⟨r, hr, ?_, ?_, e3⟩
  · simp only [spec_Up.f]; exact Ev_call (clean_spec s (by omega)) e1
  · simp only [impl_Up.f]; exact Ev_call (clean_impl s (by omega)) e2
def inL (l : List ByteArray) (s : ByteArray) : Bool := l.any (fun x => x.toList == s.toList)
theorem inL_cons (x : ByteArray) (l : List ByteArray) (s : ByteArray) : inL (x :: l) s = ((x.toList == s.toList) || inL l s) := rfl
theorem in_loop (l : List ByteArray) (hl : l.length ≤ 1048576) (s : ByteArray) (d : Nat) : ∀ i : Nat, i + d = l.length → Ev (fun k => spec_l6In.l0 k l s i) (inL (l.drop i) s) := by
  induction d with
  | zero =>
    intro i hi
    have hd : l.drop i = [] := List.drop_eq_nil_of_le (by omega)
    rw [hd]
    refine Ev_succ ?_
    simp (disch := omega) only [spec_l6In.l0, if_neg]; exact Ev.now _
  | succ d ih =>
    intro i hi
    have e0 : rdOf ByteArray.empty l (i : Int) = l[i]'(by omega) := by
      show l.getD i _ = _; exact getD_at l _ i (by omega)
    have hn : wrap64 ((i : Int) + 1) = ((i + 1 : Nat) : Int) := by rw [w64 (by omega) (by omega)]; omega
    have c0 : (i : Int) < (l.length : Int) := by omega
    have c1 : 0 ≤ (i : Int) := by omega
    rw [List.drop_eq_getElem_cons (by omega), inL_cons]
    refine Ev_succ ?_
    simp only [spec_l6In.l0, if_pos c0, if_pos c1, hn, e0]
    by_cases h : (l[i]'(by omega)).toList = s.toList
    · have hp : ((l[i]'(by omega)).toList == s.toList) = true := beq_iff_eq.2 h
      rw [hp, Bool.true_or]
      simp only [if_pos h]; exact Ev.now _
    · have hp : ((l[i]'(by omega)).toList == s.toList) = false := beq_eq_false_iff_ne.2 h
      rw [hp, Bool.false_or]
      simp only [if_neg h]; exact ih (i + 1) (by omega)
theorem in_spec (l : List ByteArray) (hl : l.length ≤ 1048576) (s : ByteArray) : Ev (fun k => spec_l6In.f k l s) (inL l s) := by
  simp only [spec_l6In.f]
  exact in_loop l hl s l.length 0 (by omega)
def jsB : ByteArray := ⟨#[46, 106, 115]⟩
def indexB : ByteArray := ⟨#[47, 105, 110, 100, 101, 120, 46, 106, 115]⟩
def libB : ByteArray := ⟨#[47, 108, 105, 98, 47]⟩
def putC (o : List ByteArray) (x : ByteArray) : List ByteArray := if isP x = true then (if inL o x = true then o else o ++ [x]) else o
def addC (o : List ByteArray) (b : ByteArray) : List ByteArray := if b.toList = [] then o else [b, b ++ jsB, b ++ indexB].foldl putC o
def nearB (b : ByteArray) : Bool := beg ⟨#[47]⟩ b || beg ⟨#[46, 47]⟩ b || beg ⟨#[46, 46, 47]⟩ b
theorem contains_loop (l : List ByteArray) (hl : l.length ≤ 1048576) (s : ByteArray) (d : Nat) : ∀ i : Nat, i + d = l.length → ∃ j : Int, Ev (fun k => slices_Index_string_string.l0 k l s (l.length : Int) i) j ∧ decide (j ≥ 0) = inL (l.drop i) s := by
  induction d with
  | zero =>
    intro i hi
    have hd : l.drop i = [] := List.drop_eq_nil_of_le (by omega)
    rw [hd]
    refine ⟨-1, Ev_succ ?_, rfl⟩
    simp (disch := omega) only [slices_Index_string_string.l0, if_neg]; exact Ev.now _
  | succ d ih =>
    intro i hi
    have e0 : rdOf ByteArray.empty l (i : Int) = l[i]'(by omega) := by
      show l.getD i _ = _; exact getD_at l _ i (by omega)
    have hn : wrap64 ((i : Int) + 1) = ((i + 1 : Nat) : Int) := by rw [w64 (by omega) (by omega)]; omega
    have c0 : (i : Int) < (l.length : Int) := by omega
    have c1 : 0 ≤ (i : Int) := by omega
    rw [List.drop_eq_getElem_cons (by omega), inL_cons]
    by_cases h : s.toList = (l[i]'(by omega)).toList
    · have hp : ((l[i]'(by omega)).toList == s.toList) = true := beq_iff_eq.2 h.symm
      refine ⟨i, Ev_succ ?_, by rw [hp, Bool.true_or]; exact decide_eq_true c1⟩
      simp only [slices_Index_string_string.l0, if_pos c0, if_pos c1, e0, if_pos h]; exact Ev.now _
    · have hp : ((l[i]'(by omega)).toList == s.toList) = false := beq_eq_false_iff_ne.2 (fun e => h e.symm)
      obtain ⟨j, e, hj⟩ := ih (i + 1) (by omega)
      refine ⟨j, Ev_succ ?_, by rw [hp, Bool.false_or]; exact hj⟩
      simp only [slices_Index_string_string.l0, if_pos c0, if_pos c1, hn, e0, if_neg h]; exact e
theorem contains_impl (l : List ByteArray) (hl : l.length ≤ 1048576) (s : ByteArray) : Ev (fun k => slices_Contains_string_string.f k l s) (inL l s) := by
  obtain ⟨j, e, hj⟩ := contains_loop l hl s l.length 0 (by omega)
  rw [List.drop_zero] at hj
  rw [← hj]
  simp only [slices_Contains_string_string.f]
  refine Ev_call (a := j) ?_ (Ev.now _)
  simp only [slices_Index_string_string.f]
  exact e
def baseD (b d : ByteArray) : ByteArray := cleanTo ((d ++ libB) ++ b)
theorem cleanTo_size (s : ByteArray) : (cleanTo s).size ≤ 40 := by
  unfold cleanTo
  split
  · next h => exact (isP_size (clean_fix h).1).2
  · decide
theorem putC_len (o : List ByteArray) (x : ByteArray) : (putC o x).length ≤ o.length + 1 := by
  unfold putC
  split
  · split
    · omega
    · simp
  · omega
theorem addC_len (o : List ByteArray) (b : ByteArray) : (addC o b).length ≤ o.length + 3 := by
  unfold addC
  split
  · omega
  · simp only [List.foldl_cons, List.foldl_nil]
    have h1 := putC_len o b
    have h2 := putC_len (putC o b) (b ++ jsB)
    have h3 := putC_len (putC (putC o b) (b ++ jsB)) (b ++ indexB)
    omega
theorem three_size (b : ByteArray) (hb : b.size ≤ 40) : ∀ x ∈ [b, b ++ jsB, b ++ indexB], x.size ≤ 60 := by
  have e1 : jsB.size = 3 := rfl
  have e2 : indexB.size = 9 := rfl
  intro x hx
  simp only [List.mem_cons, List.not_mem_nil, or_false] at hx
  rcases hx with rfl | rfl | rfl
  · omega
  · rw [size_app, e1]; omega
  · rw [size_app, e2]; omega
theorem near_flag (b : ByteArray) : impl_isNear.f b = some (nearB b) := by
  unfold impl_isNear.f nearB
  rw [beg_impl ⟨#[47]⟩ b, Option.bind_some]
  by_cases h1 : beg ⟨#[47]⟩ b = true
  · rw [if_pos h1, h1]; rfl
  · rw [if_neg h1, beg_impl ⟨#[46, 47]⟩ b, Option.bind_some]
    by_cases h2 : beg ⟨#[46, 47]⟩ b = true
    · rw [if_pos h2, h2, Bool.or_true]; rfl
    · rw [if_neg h2, beg_impl ⟨#[46, 46, 47]⟩ b, Option.bind_some, Bool.eq_false_iff.2 h1, Bool.eq_false_iff.2 h2]; rfl
theorem cand2_spec (base : List ByteArray) (i : Int) (r : List ByteArray) (l : List ByteArray) (hl : l.length ≤ 10) (hz : ∀ x ∈ l, x.size ≤ 60) (d : Nat) : ∀ (j : Nat) (out : List ByteArray), j + d = l.length → out.length + d ≤ 100000 →
    Ev (fun k => spec_Candidates.l1 k ((l.drop j).foldl putC out) base (wrap64 (i + 1))) r → Ev (fun k => spec_Candidates.l2 k out base i l j) r := by
  induction d with
  | zero =>
    intro j out hj _ e
    have hd : l.drop j = [] := List.drop_eq_nil_of_le (by omega)
    rw [hd] at e
    refine Ev_succ ?_
    have c0 : ¬ (j : Int) < (l.length : Int) := by omega
    simp only [spec_Candidates.l2, if_neg c0]
    exact e
  | succ d ih =>
    intro j out hj ho e
    have e0 : rdOf ByteArray.empty l (j : Int) = l[j]'(by omega) := by
      show l.getD j _ = _; exact getD_at l _ j (by omega)
    have hx := hz (l[j]'(by omega)) (List.getElem_mem _)
    have hn : wrap64 ((j : Int) + 1) = ((j + 1 : Nat) : Int) := by rw [w64 (by omega) (by omega)]; omega
    have c0 : (j : Int) < (l.length : Int) := by omega
    have c1 : 0 ≤ (j : Int) := by omega
    rw [List.drop_eq_getElem_cons (by omega), List.foldl_cons] at e
    generalize l[j]'(by omega) = x at e0 hx e
    refine Ev_succ ?_
    simp only [spec_Candidates.l2, if_pos c0, if_pos c1, e0, hn]
    refine Ev_call (path_spec x (by omega)) ?_
    by_cases hp : isP x = true
    · simp only [if_pos hp]
      refine Ev_call (in_spec out (by omega) x) ?_
      by_cases hi : inL out x = true
      · have eq : putC out x = out := by unfold putC; rw [if_pos hp, if_pos hi]
        rw [eq] at e
        simp only [if_pos hi]
        exact ih (j + 1) out (by omega) (by omega) e
      · have eq : putC out x = out ++ [x] := by unfold putC; rw [if_pos hp, if_neg hi]
        rw [eq] at e
        have c2 : out.length < 8796093022208 := by omega
        simp only [if_neg hi, if_pos c2]
        exact ih (j + 1) (out ++ [x]) (by omega) (by simp; omega) e
    · have eq : putC out x = out := by unfold putC; rw [if_neg hp]
      rw [eq] at e
      simp only [if_neg hp]
      exact ih (j + 1) out (by omega) (by omega) e
theorem cand1_spec (base : List ByteArray) (hb : base.length ≤ 1000) (hz : ∀ x ∈ base, x.size ≤ 40) (d : Nat) : ∀ (i : Nat) (out : List ByteArray), i + d = base.length → out.length + 3 * d ≤ 10000 →
    Ev (fun k => spec_Candidates.l1 k out base i) ((base.drop i).foldl addC out) := by
  induction d with
  | zero =>
    intro i out hi _
    have hd : base.drop i = [] := List.drop_eq_nil_of_le (by omega)
    rw [hd]
    refine Ev_succ ?_
    have c0 : ¬ (i : Int) < (base.length : Int) := by omega
    simp only [spec_Candidates.l1, if_neg c0]
    exact Ev.now _
  | succ d ih =>
    intro i out hi ho
    have e0 : rdOf ByteArray.empty base (i : Int) = base[i]'(by omega) := by
      show base.getD i _ = _; exact getD_at base _ i (by omega)
    have hx := hz (base[i]'(by omega)) (List.getElem_mem _)
    have hn : wrap64 ((i : Int) + 1) = ((i + 1 : Nat) : Int) := by rw [w64 (by omega) (by omega)]; omega
    have c0 : (i : Int) < (base.length : Int) := by omega
    have c1 : 0 ≤ (i : Int) := by omega
    rw [List.drop_eq_getElem_cons (by omega), List.foldl_cons]
    generalize base[i]'(by omega) = x at e0 hx
    have ha := addC_len out x
    have q := ih (i + 1) (addC out x) (by omega) (by omega)
    refine Ev_succ ?_
    by_cases he : x.toList = []
    · have eq : addC out x = out := by unfold addC; rw [if_pos he]
      rw [eq] at q ⊢
      simp only [spec_Candidates.l1, if_pos c0, if_pos c1, e0, if_pos he, hn]
      exact q
    · have eq : addC out x = [x, x ++ jsB, x ++ indexB].foldl putC out := by unfold addC; rw [if_neg he]
      have c2 : x.size + 3 ≤ 9223372036854775807 := by omega
      have c3 : x.size + 9 ≤ 9223372036854775807 := by omega
      rw [eq] at q ⊢
      simp only [spec_Candidates.l1, if_pos c0, if_pos c1, e0, if_neg he, if_pos c2, if_pos c3, Option.bind_some]
      have z := cand2_spec base i _ [x, x ++ jsB, x ++ indexB] (by simp) (three_size x hx) 3 0 out rfl (by omega) (by rw [hn]; exact q)
      exact z
theorem cand0_spec (b : ByteArray) (hb : b.size ≤ 1048576) (ups : List ByteArray) (hu : ups.length ≤ 100) (hz : ∀ x ∈ ups, x.size ≤ 40) (r : List ByteArray) (d : Nat) : ∀ (i : Nat) (x6 : List ByteArray), i + d = ups.length → x6.length ≤ i →
    Ev (fun k => spec_Candidates.j2 k [] (x6 ++ (ups.drop i).map (baseD b))) r → Ev (fun k => spec_Candidates.l0 k b [] x6 ups i) r := by
  induction d with
  | zero =>
    intro i x6 hi _ e
    have hd : ups.drop i = [] := List.drop_eq_nil_of_le (by omega)
    rw [hd, List.map_nil, List.append_nil] at e
    refine Ev_succ ?_
    have c0 : ¬ (i : Int) < (ups.length : Int) := by omega
    simp only [spec_Candidates.l0, if_neg c0]
    exact e
  | succ d ih =>
    intro i x6 hi ho e
    have e0 : rdOf ByteArray.empty ups (i : Int) = ups[i]'(by omega) := by
      show ups.getD i _ = _; exact getD_at ups _ i (by omega)
    have hx := hz (ups[i]'(by omega)) (List.getElem_mem _)
    have hn : wrap64 ((i : Int) + 1) = ((i + 1 : Nat) : Int) := by rw [w64 (by omega) (by omega)]; omega
    have c0 : (i : Int) < (ups.length : Int) := by omega
    have c1 : 0 ≤ (i : Int) := by omega
    rw [List.drop_eq_getElem_cons (by omega), List.map_cons, ← List.singleton_append, ← List.append_assoc] at e
    generalize ups[i]'(by omega) = x at e0 hx e
    have e5 : libB.size = 5 := rfl
    have c2 : x.size + 5 ≤ 9223372036854775807 := by omega
    have c3 : (x ++ libB).size + b.size ≤ 9223372036854775807 := by rw [size_app, e5]; omega
    have c4 : x6.length < 8796093022208 := by omega
    have c3' : (x ++ (⟨#[47, 108, 105, 98, 47]⟩ : ByteArray)).size + b.size ≤ 9223372036854775807 := c3
    refine Ev_succ ?_
    simp only [spec_Candidates.l0, if_pos c0, if_pos c1, e0, if_pos c2, if_pos c3', hn]
    refine Ev_call (clean_spec ((x ++ libB) ++ b) (by rw [size_app, size_app, e5]; omega)) ?_
    simp only [if_pos c4]
    exact ih (i + 1) (x6 ++ [baseD b x]) (by omega) (by simp; omega) e
theorem cand2_impl (base : List ByteArray) (i : Int) (r : List ByteArray) (l : List ByteArray) (hl : l.length ≤ 10) (hz : ∀ x ∈ l, x.size ≤ 60) (d : Nat) : ∀ (j : Nat) (out : List ByteArray), j + d = l.length → out.length + d ≤ 100000 →
    Ev (fun k => impl_Candidates.l1 k ((l.drop j).foldl putC out) base (base.length : Int) (wrap64 (i + 1))) r → Ev (fun k => impl_Candidates.l2 k out base (base.length : Int) i l (l.length : Int) j) r := by
  induction d with
  | zero =>
    intro j out hj _ e
    have hd : l.drop j = [] := List.drop_eq_nil_of_le (by omega)
    rw [hd] at e
    refine Ev_succ ?_
    have c0 : ¬ (j : Int) < (l.length : Int) := by omega
    simp only [impl_Candidates.l2, if_neg c0]
    exact e
  | succ d ih =>
    intro j out hj ho e
    have e0 : rdOf ByteArray.empty l (j : Int) = l[j]'(by omega) := by
      show l.getD j _ = _; exact getD_at l _ j (by omega)
    have hx := hz (l[j]'(by omega)) (List.getElem_mem _)
    have hn : wrap64 ((j : Int) + 1) = ((j + 1 : Nat) : Int) := by rw [w64 (by omega) (by omega)]; omega
    have c0 : (j : Int) < (l.length : Int) := by omega
    have c1 : 0 ≤ (j : Int) := by omega
    have cB : (j : Int) < (l.length : Int) := by omega
    rw [List.drop_eq_getElem_cons (by omega), List.foldl_cons] at e
    generalize l[j]'(by omega) = x at e0 hx e
    refine Ev_succ ?_
    simp only [impl_Candidates.l2, if_pos c0, if_pos c1, if_pos cB, e0, hn]
    refine Ev_call (path_impl x (by omega)) ?_
    by_cases hp : isP x = true
    · simp only [if_pos hp]
      refine Ev_call (contains_impl out (by omega) x) ?_
      by_cases hi : inL out x = true
      · have eq : putC out x = out := by unfold putC; rw [if_pos hp, if_pos hi]
        rw [eq] at e
        simp only [if_pos hi]
        exact ih (j + 1) out (by omega) (by omega) e
      · have eq : putC out x = out ++ [x] := by unfold putC; rw [if_pos hp, if_neg hi]
        rw [eq] at e
        have c2 : out.length < 8796093022208 := by omega
        simp only [if_neg hi, if_pos c2]
        exact ih (j + 1) (out ++ [x]) (by omega) (by simp; omega) e
    · have eq : putC out x = out := by unfold putC; rw [if_neg hp]
      rw [eq] at e
      simp only [if_neg hp]
      exact ih (j + 1) out (by omega) (by omega) e
theorem cand1_impl (base : List ByteArray) (hb : base.length ≤ 1000) (hz : ∀ x ∈ base, x.size ≤ 40) (d : Nat) : ∀ (i : Nat) (out : List ByteArray), i + d = base.length → out.length + 3 * d ≤ 10000 →
    Ev (fun k => impl_Candidates.l1 k out base (base.length : Int) i) ((base.drop i).foldl addC out) := by
  induction d with
  | zero =>
    intro i out hi _
    have hd : base.drop i = [] := List.drop_eq_nil_of_le (by omega)
    rw [hd]
    refine Ev_succ ?_
    have c0 : ¬ (i : Int) < (base.length : Int) := by omega
    simp only [impl_Candidates.l1, if_neg c0]
    exact Ev.now _
  | succ d ih =>
    intro i out hi ho
    have e0 : rdOf ByteArray.empty base (i : Int) = base[i]'(by omega) := by
      show base.getD i _ = _; exact getD_at base _ i (by omega)
    have hx := hz (base[i]'(by omega)) (List.getElem_mem _)
    have hn : wrap64 ((i : Int) + 1) = ((i + 1 : Nat) : Int) := by rw [w64 (by omega) (by omega)]; omega
    have c0 : (i : Int) < (base.length : Int) := by omega
    have c1 : 0 ≤ (i : Int) := by omega
    rw [List.drop_eq_getElem_cons (by omega), List.foldl_cons]
    generalize base[i]'(by omega) = x at e0 hx
    have ha := addC_len out x
    have q := ih (i + 1) (addC out x) (by omega) (by omega)
    refine Ev_succ ?_
    by_cases he : x.toList = []
    · have eq : addC out x = out := by unfold addC; rw [if_pos he]
      rw [eq] at q ⊢
      simp only [impl_Candidates.l1, if_pos c0, if_pos c1, e0, if_pos he, hn]
      exact q
    · have eq : addC out x = [x, x ++ jsB, x ++ indexB].foldl putC out := by unfold addC; rw [if_neg he]
      have c2 : x.size + 3 ≤ 9223372036854775807 := by omega
      have c3 : x.size + 9 ≤ 9223372036854775807 := by omega
      rw [eq] at q ⊢
      simp only [impl_Candidates.l1, if_pos c0, if_pos c1, e0, if_neg he, if_pos c2, if_pos c3, Option.bind_some]
      have z := cand2_impl base i _ [x, x ++ jsB, x ++ indexB] (by simp) (three_size x hx) 3 0 out rfl (by omega) (by rw [hn]; exact q)
      exact z
theorem cand0_impl (b : ByteArray) (hb : b.size ≤ 1048576) (ups : List ByteArray) (hu : ups.length ≤ 100) (hz : ∀ x ∈ ups, x.size ≤ 40) (r : List ByteArray) (d : Nat) : ∀ (i : Nat) (x6 : List ByteArray), i + d = ups.length → x6.length ≤ i →
    Ev (fun k => impl_Candidates.j1 k (x6 ++ (ups.drop i).map (baseD b))) r → Ev (fun k => impl_Candidates.l0 k b x6 ups (ups.length : Int) i) r := by
  induction d with
  | zero =>
    intro i x6 hi _ e
    have hd : ups.drop i = [] := List.drop_eq_nil_of_le (by omega)
    rw [hd, List.map_nil, List.append_nil] at e
    refine Ev_succ ?_
    have c0 : ¬ (i : Int) < (ups.length : Int) := by omega
    simp only [impl_Candidates.l0, if_neg c0]
    exact e
  | succ d ih =>
    intro i x6 hi ho e
    have e0 : rdOf ByteArray.empty ups (i : Int) = ups[i]'(by omega) := by
      show ups.getD i _ = _; exact getD_at ups _ i (by omega)
    have hx := hz (ups[i]'(by omega)) (List.getElem_mem _)
    have hn : wrap64 ((i : Int) + 1) = ((i + 1 : Nat) : Int) := by rw [w64 (by omega) (by omega)]; omega
    have c0 : (i : Int) < (ups.length : Int) := by omega
    have c1 : 0 ≤ (i : Int) := by omega
    rw [List.drop_eq_getElem_cons (by omega), List.map_cons, ← List.singleton_append, ← List.append_assoc] at e
    generalize ups[i]'(by omega) = x at e0 hx e
    have e5 : libB.size = 5 := rfl
    have c2 : x.size + 5 ≤ 9223372036854775807 := by omega
    have c3 : (x ++ libB).size + b.size ≤ 9223372036854775807 := by rw [size_app, e5]; omega
    have c4 : x6.length < 8796093022208 := by omega
    have c3' : (x ++ (⟨#[47, 108, 105, 98, 47]⟩ : ByteArray)).size + b.size ≤ 9223372036854775807 := c3
    refine Ev_succ ?_
    simp only [impl_Candidates.l0, if_pos c0, if_pos c1, e0, if_pos c2, if_pos c3', hn]
    refine Ev_call (clean_impl ((x ++ libB) ++ b) (by rw [size_app, size_app, e5]; omega)) ?_
    simp only [if_pos c4]
    exact ih (i + 1) (x6 ++ [baseD b x]) (by omega) (by simp; omega) e
def baseOf (a b : ByteArray) (ups : List ByteArray) : List ByteArray := if nearB b = true then [resolveTo a b] else ups.map (baseD b)
def candTo (a b : ByteArray) (ups : List ByteArray) : List ByteArray := if isP a = true then (baseOf a b ups).foldl addC [] else []
theorem resolveTo_size (a b : ByteArray) : (resolveTo a b).size ≤ 40 := by
  unfold resolveTo nearTo
  split
  · split
    · exact cleanTo_size _
    · split
      · exact cleanTo_size _
      · split
        · exact cleanTo_size _
        · exact cleanTo_size _
  · decide
theorem ups_size {c : ByteArray} {m : Nat} {l : List ByteArray} (h : Ups c m l) : m ≤ c.size → c.size ≤ 40 → ∀ x ∈ l, x.size ≤ 40 := by
  induction h with
  | last m h1 =>
    intro _ _ x hx
    obtain rfl := List.mem_singleton.1 hx
    decide
  | more m i rest h0 h1 h2 h3 ih =>
    intro hm hc x hx
    rcases List.mem_cons.1 hx with rfl | hx
    · rw [ext_size c i (by omega)]; omega
    · exact ih (by omega) hc x hx
/-- Both tell the same candidates. -/
theorem cand_both (a b : ByteArray) (ha : a.size ≤ 1048576) (hb : b.size ≤ 1048576) : ∃ ups : List ByteArray, ups.length ≤ 40 ∧ Ev (fun k => spec_Candidates.f k a b) (candTo a b ups) ∧ Ev (fun k => impl_Candidates.f k a b) (candTo a b ups) := by
  obtain ⟨ups, hu, e1, e2, e3⟩ := up_all a ha
  have hz : ∀ x ∈ ups, x.size ≤ 40 := by
    rcases e3 with ⟨rfl, _⟩ | ⟨_, _, h3, _, hU⟩
    · intro x hx; cases hx
    · exact ups_size hU (Nat.le_refl _) h3
  refine ⟨ups, hu, ?_, ?_⟩
  · unfold spec_Candidates.f
    simp only [Option.bind_some]
    refine Ev_call (path_spec a (by omega)) ?_
    unfold candTo
    by_cases hp : isP a = true
    · simp only [if_pos hp]
      have far : nearB b = false → Ev (fun k => spec_Candidates.j0 k a b [] [] false) ((baseOf a b ups).foldl addC []) := by
        intro hn
        have e : baseOf a b ups = ups.map (baseD b) := by unfold baseOf; rw [hn]; rfl
        rw [e]
        refine Ev_succ ?_
        simp only [spec_Candidates.j0, Bool.false_eq_true, if_false]
        refine Ev_call e1 ?_
        refine cand0_spec b hb ups (by omega) hz _ ups.length 0 [] (by omega) (by simp) ?_
        rw [List.drop_zero, List.nil_append]
        refine Ev_succ ?_
        simp only [spec_Candidates.j2]
        exact cand1_spec _ (by rw [List.length_map]; omega) (fun x hx => by obtain ⟨y, _, rfl⟩ := List.mem_map.1 hx; exact cleanTo_size _) (ups.map (baseD b)).length 0 [] (by omega) (by rw [List.length_map]; simp; omega)
      have near : nearB b = true → Ev (fun k => spec_Candidates.j0 k a b [] [] true) ((baseOf a b ups).foldl addC []) := by
        intro hn
        have e : baseOf a b ups = [resolveTo a b] := by unfold baseOf; rw [if_pos hn]
        rw [e]
        refine Ev_succ ?_
        simp only [spec_Candidates.j0, if_true]
        refine Ev_call (resolve_spec a b ha hb) ?_
        have c : ([] : List ByteArray).length < 8796093022208 := by simp
        simp only [if_pos c, List.nil_append]
        refine Ev_succ ?_
        simp only [spec_Candidates.j2]
        exact cand1_spec [resolveTo a b] (by simp) (fun x hx => by obtain rfl := List.mem_singleton.1 hx; exact resolveTo_size a b) 1 0 [] rfl (by simp)
      refine Ev_call (Ev_some_of (beg_spec ⟨#[47]⟩ b)) ?_
      by_cases h1 : beg ⟨#[47]⟩ b = true
      · simp only [if_pos h1]; exact near (by unfold nearB; rw [h1]; rfl)
      · simp only [if_neg h1]
        refine Ev_call (Ev_some_of (beg_spec ⟨#[46, 47]⟩ b)) ?_
        by_cases h2 : beg ⟨#[46, 47]⟩ b = true
        · simp only [if_pos h2]; exact near (by unfold nearB; rw [h2, Bool.or_true]; rfl)
        · simp only [if_neg h2]
          refine Ev_call (Ev_some_of (beg_spec ⟨#[46, 46, 47]⟩ b)) ?_
          by_cases h3 : beg ⟨#[46, 46, 47]⟩ b = true
          · rw [h3]; exact near (by unfold nearB; rw [h3, Bool.or_true])
          · rw [Bool.eq_false_iff.2 h3]
            exact far (by unfold nearB; rw [Bool.eq_false_iff.2 h1, Bool.eq_false_iff.2 h2, Bool.eq_false_iff.2 h3]; rfl)
    · simp only [if_neg hp]; exact Ev.now _
  · unfold impl_Candidates.f
    refine Ev_call (path_impl a (by omega)) ?_
    unfold candTo
    by_cases hp : isP a = true
    · simp only [if_pos hp, Option.bind_some]
      refine Ev_call (a := nearB b) (g := fun _ => impl_isNear.f b) (Ev_some_of (near_flag b)) ?_
      by_cases hn : nearB b = true
      · have e : baseOf a b ups = [resolveTo a b] := by unfold baseOf; rw [if_pos hn]
        rw [e]
        simp only [if_pos hn]
        refine Ev_call (resolve_impl a b ha hb) ?_
        have c : ([] : List ByteArray).length < 8796093022208 := by simp
        simp only [if_pos c, List.nil_append]
        refine Ev_succ ?_
        simp only [impl_Candidates.j1]
        exact cand1_impl [resolveTo a b] (by simp) (fun x hx => by obtain rfl := List.mem_singleton.1 hx; exact resolveTo_size a b) 1 0 [] rfl (by simp)
      · have e : baseOf a b ups = ups.map (baseD b) := by unfold baseOf; rw [if_neg hn]
        rw [e]
        simp only [if_neg hn]
        refine Ev_call e2 ?_
        refine cand0_impl b hb ups (by omega) hz _ ups.length 0 [] (by omega) (by simp) ?_
        rw [List.drop_zero, List.nil_append]
        refine Ev_succ ?_
        simp only [impl_Candidates.j1]
        exact cand1_impl _ (by rw [List.length_map]; omega) (fun x hx => by obtain ⟨y, _, rfl⟩ := List.mem_map.1 hx; exact cleanTo_size _) (ups.map (baseD b)).length 0 [] (by omega) (by rw [List.length_map]; simp; omega)
    · simp only [if_neg hp]; exact Ev.now _
theorem candTo_len (a b : ByteArray) (ups : List ByteArray) (h : ups.length ≤ 40) : (candTo a b ups).length ≤ 200 := by
  have key : ∀ (l : List ByteArray) (o : List ByteArray), (l.foldl addC o).length ≤ o.length + 3 * l.length := by
    intro l
    induction l with
    | nil => intro o; simp
    | cons x r ih => intro o; rw [List.foldl_cons]; have := ih (addC o x); have := addC_len o x; simp only [List.length_cons]; omega
  unfold candTo
  split
  · have := key (baseOf a b ups) []
    have hb : (baseOf a b ups).length ≤ 40 := by
      unfold baseOf
      split
      · simp
      · rw [List.length_map]; exact h
    simp only [List.length_nil] at this; omega
  · simp
def okAt (L : List S51) (i : Nat) : Bool :=
  !((L.getD i z51).f0.toList == [47]) && ((cleanTo (L.getD i z51).f0).toList == (L.getD i z51).f0.toList) && !((L.getD i z51).f0.toList == []) &&
    (decide (i = 0) || Op.bytesLess (L.getD (i - 1) z51).f0.toList (L.getD i z51).f0.toList) && decide ((L.getD i z51).f1.size ≤ 1500)
def okFrom (L : List S51) (i : Nat) : Nat → Bool
  | 0 => true
  | d + 1 => okAt L i && okFrom L (i + 1) d
def filesOk (L : List S51) : Bool := decide (L.length ≤ 8) && okFrom L 0 L.length
theorem files_loop (L : List S51) (hl : L.length ≤ 1048576) (hs : ∀ x ∈ L, x.f0.size ≤ 2097152 ∧ x.f1.size ≤ 2097152) (d : Nat) : ∀ i : Nat, i + d = L.length →
    Ev (fun k => spec_FilesOk.l0 k L i) (okFrom L i d) ∧ Ev (fun k => impl_FilesOk.l0 k L L L.length i) (okFrom L i d && decide ((L.length : Int) ≤ 8)) := by
  induction d with
  | zero =>
    intro i hi
    refine ⟨Ev_succ ?_, Ev_succ ?_⟩
    · simp (disch := omega) only [spec_FilesOk.l0, if_neg]; exact Ev.now _
    · simp (disch := omega) only [impl_FilesOk.l0, if_neg]; exact Ev_some (by simp [okFrom])
  | succ d ih =>
    intro i hi
    have e0 : L.getD i z51 = rd_T51 L (i : Int) := rfl
    have hx := hs (rd_T51 L (i : Int)) (by rw [← e0, getD_at L _ i (by omega)]; exact List.getElem_mem _)
    obtain ⟨ihs, ihi⟩ := ih (i + 1) (by omega)
    have es := clean_spec (rd_T51 L (i : Int)).f0 (by omega)
    have ei := clean_impl (rd_T51 L (i : Int)).f0 (by omega)
    by_cases c0 : (rd_T51 L (i : Int)).f0.toList = [47]
    · have hv : okAt L i = false := by unfold okAt; rw [e0]; simp [c0]
      simp only [okFrom, hv, Bool.false_and]
      refine ⟨Ev_succ ?_, Ev_succ ?_⟩
      · simp (disch := omega) only [spec_FilesOk.l0, if_pos, c0, if_true]; exact Ev.now _
      · simp (disch := omega) only [impl_FilesOk.l0, if_pos]
        refine Ev_call ei ?_
        simp only [c0, if_true, ite_self]; exact Ev.now _
    by_cases c1 : (cleanTo (rd_T51 L (i : Int)).f0).toList = (rd_T51 L (i : Int)).f0.toList
    case neg =>
      have hv : okAt L i = false := by unfold okAt; rw [e0]; simp [c1]
      simp only [okFrom, hv, Bool.false_and]
      refine ⟨Ev_succ ?_, Ev_succ ?_⟩
      · simp (disch := omega) only [spec_FilesOk.l0, if_pos, c0, if_false]
        refine Ev_call es ?_
        simp only [c1, if_false]; exact Ev.now _
      · simp (disch := omega) only [impl_FilesOk.l0, if_pos]
        refine Ev_call ei ?_
        simp only [c1, if_false]; exact Ev.now _
    by_cases c2 : (rd_T51 L (i : Int)).f0.toList = []
    · have hv : okAt L i = false := by unfold okAt; rw [e0]; simp [c2]
      simp only [okFrom, hv, Bool.false_and]
      refine ⟨Ev_succ ?_, Ev_succ ?_⟩
      · simp (disch := omega) only [spec_FilesOk.l0, if_pos, c0, if_false]
        refine Ev_call es ?_
        exact Ev.congr (fun k => by simp only [if_pos c1, if_pos c2]) (Ev.now _)
      · simp (disch := omega) only [impl_FilesOk.l0, if_pos]
        refine Ev_call ei ?_
        exact Ev.congr (fun k => by simp only [if_pos c1, if_neg c0, if_pos c2]) (Ev.now _)
    by_cases ci : (i : Int) > 0
    · have e3 : ((i : Int) - 1).toNat = i - 1 := by omega
      have hw : wrap64 ((i : Int) - 1) = (i : Int) - 1 := w64 (by omega) (by omega)
      have e1 : L.getD (i - 1) z51 = rd_T51 L (wrap64 ((i : Int) - 1)) := by rw [hw, rd_T51, e3]
      have d1 : 0 ≤ wrap64 ((i : Int) - 1) := by rw [hw]; omega
      have d2 : wrap64 ((i : Int) - 1) < (L.length : Int) := by rw [hw]; omega
      by_cases cl : Op.bytesLess ((rd_T51 L (wrap64 ((i : Int) - 1))).f0.toList) ((rd_T51 L (i : Int)).f0.toList) = true
      · by_cases c3 : ((rd_T51 L (i : Int)).f1.size : Int) > 1500
        · have hv : okAt L i = false := by
            have h3 : ¬ (rd_T51 L (i : Int)).f1.size ≤ 1500 := by omega
            unfold okAt; rw [e0, decide_eq_false h3]; simp
          simp only [okFrom, hv, Bool.false_and]
          refine ⟨Ev_succ ?_, Ev_succ ?_⟩
          · simp (disch := omega) only [spec_FilesOk.l0, if_pos, c0, if_false]
            refine Ev_call es ?_
            exact Ev.congr (fun k => by simp only [if_pos c1, if_neg c2, if_pos ci, if_pos d1, if_pos d2, if_pos cl, if_pos c3]) (Ev.now _)
          · simp (disch := omega) only [impl_FilesOk.l0, if_pos]
            refine Ev_call ei ?_
            exact Ev.congr (fun k => by simp only [if_pos c1, if_neg c0, if_neg c2, if_pos c3]) (Ev.now _)
        · have hv : okAt L i = true := by
            have h3 : (rd_T51 L (i : Int)).f1.size ≤ 1500 := by omega
            unfold okAt; rw [e0, e1, decide_eq_true h3, cl]; simp [c0, c1, c2]
          have hn : wrap64 ((i : Int) + 1) = ((i + 1 : Nat) : Int) := by rw [w64 (by omega) (by omega)]; omega
          simp only [okFrom, hv, Bool.true_and]
          refine ⟨Ev_succ ?_, Ev_succ ?_⟩
          · simp (disch := omega) only [spec_FilesOk.l0, if_pos, c0, if_false]
            refine Ev_call es ?_
            simp only [if_pos c1, if_neg c2, if_pos ci, if_pos d1, if_pos d2, if_pos cl, if_neg c3, hn]; exact ihs
          · simp (disch := omega) only [impl_FilesOk.l0, if_pos]
            refine Ev_call ei ?_
            simp only [if_pos c1, if_neg c0, if_neg c2, if_neg c3, if_pos ci, if_pos d1, if_pos d2, if_pos cl, hn]; exact ihi
      · have hv : okAt L i = false := by
          have h0 : ¬ i = 0 := by omega
          unfold okAt; rw [e0, e1, decide_eq_false h0, Bool.eq_false_iff.2 cl]; simp
        simp only [okFrom, hv, Bool.false_and]
        refine ⟨Ev_succ ?_, Ev_succ ?_⟩
        · simp (disch := omega) only [spec_FilesOk.l0, if_pos, c0, if_false]
          refine Ev_call es ?_
          exact Ev.congr (fun k => by simp only [if_pos c1, if_neg c2, if_pos ci, if_pos d1, if_pos d2, if_neg cl]) (Ev.now _)
        · simp (disch := omega) only [impl_FilesOk.l0, if_pos]
          refine Ev_call ei ?_
          simp only [if_pos c1, if_neg c0, if_neg c2]
          by_cases c3 : ((rd_T51 L (i : Int)).f1.size : Int) > 1500
          · exact Ev.congr (fun k => by simp only [if_pos c3]) (Ev.now _)
          · exact Ev.congr (fun k => by simp only [if_neg c3, if_pos ci, if_pos d1, if_pos d2, if_neg cl]) (Ev.now _)
    · have h0 : i = 0 := by omega
      have hn : wrap64 ((i : Int) + 1) = ((i + 1 : Nat) : Int) := by rw [w64 (by omega) (by omega)]; omega
      by_cases c3 : ((rd_T51 L (i : Int)).f1.size : Int) > 1500
      · have hv : okAt L i = false := by
          have h3 : ¬ (rd_T51 L (i : Int)).f1.size ≤ 1500 := by omega
          unfold okAt; rw [e0, decide_eq_false h3]; simp
        simp only [okFrom, hv, Bool.false_and]
        refine ⟨Ev_succ ?_, Ev_succ ?_⟩
        · simp (disch := omega) only [spec_FilesOk.l0, if_pos, c0, if_false]
          refine Ev_call es ?_
          exact Ev.congr (fun k => by simp only [if_pos c1, if_neg c2, if_neg ci, if_pos c3]) (Ev.now _)
        · simp (disch := omega) only [impl_FilesOk.l0, if_pos]
          refine Ev_call ei ?_
          exact Ev.congr (fun k => by simp only [if_pos c1, if_neg c0, if_neg c2, if_pos c3]) (Ev.now _)
      · have hv : okAt L i = true := by
          have h3 : (rd_T51 L (i : Int)).f1.size ≤ 1500 := by omega
          unfold okAt; rw [e0, decide_eq_true h3, decide_eq_true h0]; simp [c0, c1, c2]
        simp only [okFrom, hv, Bool.true_and]
        refine ⟨Ev_succ ?_, Ev_succ ?_⟩
        · simp (disch := omega) only [spec_FilesOk.l0, if_pos, c0, if_false]
          refine Ev_call es ?_
          simp only [if_pos c1, if_neg c2, if_neg ci, if_neg c3, hn]; exact ihs
        · simp (disch := omega) only [impl_FilesOk.l0, if_pos]
          refine Ev_call ei ?_
          simp only [if_pos c1, if_neg c0, if_neg c2, if_neg c3, if_neg ci, hn]; exact ihi
theorem files_spec (L : List S51) (hl : L.length ≤ 1048576) (hs : ∀ x ∈ L, x.f0.size ≤ 2097152 ∧ x.f1.size ≤ 2097152) : Ev (fun k => spec_FilesOk.f k L) (filesOk L) := by
  unfold filesOk
  by_cases h : L.length ≤ 8
  · rw [decide_eq_true h, Bool.true_and]
    simp (disch := omega) only [spec_FilesOk.f, if_neg]
    exact (files_loop L hl hs L.length 0 (by omega)).1
  · rw [decide_eq_false h, Bool.false_and]
    simp (disch := omega) only [spec_FilesOk.f, if_pos]; exact Ev.now _
theorem files_impl (L : List S51) (hl : L.length ≤ 1048576) (hs : ∀ x ∈ L, x.f0.size ≤ 2097152 ∧ x.f1.size ≤ 2097152) : Ev (fun k => impl_FilesOk.f k L) (filesOk L) := by
  have e := (files_loop L hl hs L.length 0 (by omega)).2
  have q : (okFrom L 0 L.length && decide ((L.length : Int) ≤ 8)) = filesOk L := by
    unfold filesOk
    rw [Bool.and_comm]
    congr 1
    by_cases h : L.length ≤ 8
    · rw [decide_eq_true h, decide_eq_true (by omega)]
    · rw [decide_eq_false h, decide_eq_false (by omega)]
  rw [q] at e
  simp only [impl_FilesOk.f]
  exact e
theorem okFrom_iff (L : List S51) (d : Nat) : ∀ i, okFrom L i d = true ↔ ∀ j, i ≤ j → j < i + d → okAt L j = true := by
  induction d with
  | zero => intro i; exact ⟨fun _ j h1 h2 => absurd h2 (by omega), fun _ => rfl⟩
  | succ d ih =>
    intro i
    simp only [okFrom, Bool.and_eq_true, ih (i + 1)]
    constructor
    · rintro ⟨h, h2⟩ j h3 h4
      rcases Nat.eq_or_lt_of_le h3 with e | e
      · subst e; exact h
      · exact h2 j e (by omega)
    · intro h
      exact ⟨h i (Nat.le_refl _) (by omega), fun j h1 h2 => h j (by omega) (by omega)⟩
theorem filesOk_iff (L : List S51) : filesOk L = true ↔ L.length ≤ 8 ∧ ∀ j, j < L.length → okAt L j = true := by
  unfold filesOk
  rw [Bool.and_eq_true, decide_eq_true_eq, okFrom_iff]
  exact ⟨fun ⟨a, b⟩ => ⟨a, fun j h => b j (by omega) (by omega)⟩, fun ⟨a, b⟩ => ⟨a, fun j _ h => b j (by omega)⟩⟩
def pIs (p : ByteArray) : S51 → S51 → Bool := fun _ y => y.f0.toList == p.toList
def idxF (L : List S51) (p : ByteArray) : Int := Lib.idxBy (pIs p) L z51
def textAt (L : List S51) (j : Int) : ByteArray × Bool := if j < 0 then (⟨#[]⟩, false) else ((L.getD j.toNat z51).f1, true)
def findTo (L : List S51) (p : ByteArray) : ByteArray × Bool := if filesOk L = true then textAt L (idxF L p) else (⟨#[]⟩, false)
theorem idx_lt (eq : S51 → S51 → Bool) (z : S51) (L : List S51) : ∀ i : Nat, Lib.idxByFrom eq z L i = -1 ∨ ((i : Int) ≤ Lib.idxByFrom eq z L i ∧ Lib.idxByFrom eq z L i < i + L.length) := by
  induction L with
  | nil => intro i; exact Or.inl rfl
  | cons x r ih =>
    intro i
    rw [Lib.idxByFrom]
    split
    · right; simp only [List.length_cons]; omega
    · rcases ih (i + 1) with h | h
      · exact Or.inl h
      · right; simp only [List.length_cons]; omega
theorem idxF_range (L : List S51) (p : ByteArray) : idxF L p = -1 ∨ (0 ≤ idxF L p ∧ idxF L p < L.length) := by
  have := idx_lt (pIs p) z51 L 0
  unfold idxF Lib.idxBy
  omega
theorem fileAt_eq (L : List S51) (hl : L.length ≤ 1048576) (p : ByteArray) : impl_fileAt.f L p = some (idxF L p) := by
  unfold impl_fileAt.f
  rw [if_pos (by omega)]
  rfl
theorem find_loop (L : List S51) (hl : L.length ≤ 1048576) (p : ByteArray) (d : Nat) : ∀ i : Nat, i + d = L.length →
    Ev (fun k => spec_Find.l0 k L p i) (textAt L (Lib.idxByFrom (pIs p) z51 (L.drop i) i)) := by
  induction d with
  | zero =>
    intro i hi
    have hd : L.drop i = [] := List.drop_eq_nil_of_le (by omega)
    rw [hd]
    refine Ev_succ ?_
    simp (disch := omega) only [spec_Find.l0, if_neg]; exact Ev.now _
  | succ d ih =>
    intro i hi
    have e0 : rd_T51 L (i : Int) = L[i]'(by omega) := by
      show L.getD i _ = _; exact getD_at L _ i (by omega)
    have hn : wrap64 ((i : Int) + 1) = ((i + 1 : Nat) : Int) := by rw [w64 (by omega) (by omega)]; omega
    have c0 : (i : Int) < (L.length : Int) := by omega
    have c1 : 0 ≤ (i : Int) := by omega
    rw [List.drop_eq_getElem_cons (by omega), Lib.idxByFrom]
    refine Ev_succ ?_
    simp only [spec_Find.l0, if_pos c0, if_pos c1, hn, e0]
    by_cases h : (L[i]'(by omega)).f0.toList = p.toList
    · have hp : pIs p z51 (L[i]'(by omega)) = true := by unfold pIs; rw [beq_iff_eq]; exact h
      rw [hp, if_pos rfl]
      simp only [if_pos h]
      have c2 : ¬ (i : Int) < 0 := by omega
      unfold textAt
      rw [if_neg c2, Int.toNat_natCast, getD_at L _ i (by omega)]
      exact Ev.now _
    · have hp : pIs p z51 (L[i]'(by omega)) = false := by unfold pIs; exact beq_eq_false_iff_ne.2 h
      rw [hp, if_neg (by simp)]
      simp only [if_neg h]
      exact ih (i + 1) (by omega)
theorem find_spec (L : List S51) (hl : L.length ≤ 1048576) (hs : ∀ x ∈ L, x.f0.size ≤ 2097152 ∧ x.f1.size ≤ 2097152) (p : ByteArray) : Ev (fun k => spec_Find.f k L p) (findTo L p) := by
  simp only [spec_Find.f]
  refine Ev_call (files_spec L hl hs) ?_
  unfold findTo
  by_cases h : filesOk L = true
  · simp only [if_pos h]
    exact find_loop L hl p L.length 0 (by omega)
  · simp only [if_neg h]; exact Ev.now _
theorem find_impl (L : List S51) (hl : L.length ≤ 1048576) (hs : ∀ x ∈ L, x.f0.size ≤ 2097152 ∧ x.f1.size ≤ 2097152) (p : ByteArray) : Ev (fun k => impl_Find.f k L p) (findTo L p) := by
  simp only [impl_Find.f]
  refine Ev_call (g := fun _ => impl_fileAt.f L p) (Ev_some_of (fileAt_eq L hl p)) ?_
  unfold findTo textAt
  have hr := idxF_range L p
  by_cases c : idxF L p < 0
  · simp only [if_pos c, ite_self]; exact Ev.now _
  · simp only [if_neg c]
    refine Ev_call (files_impl L hl hs) ?_
    by_cases h : filesOk L = true
    · have c1 : 0 ≤ idxF L p := by omega
      have c2 : idxF L p < (L.length : Int) := by omega
      simp only [if_pos h, if_pos c1, if_pos c2]
      exact Ev.now _
    · simp only [if_neg h]; exact Ev.now _
def probeL (L : List S51) : List ByteArray → ByteArray × Bool
  | [] => (⟨#[]⟩, false)
  | c :: r => if (findTo L c).2 = true then (c, true) else probeL L r
theorem probe_impl_loop (L : List S51) (hl : L.length ≤ 1048576) (hs : ∀ x ∈ L, x.f0.size ≤ 2097152 ∧ x.f1.size ≤ 2097152) (cs : List ByteArray) (hc : cs.length ≤ 1048576) (d : Nat) : ∀ i : Nat, i + d = cs.length →
    Ev (fun k => impl_Probe.l0 k L cs (cs.length : Int) i) (probeL L (cs.drop i)) := by
  induction d with
  | zero =>
    intro i hi
    have hd : cs.drop i = [] := List.drop_eq_nil_of_le (by omega)
    rw [hd]
    refine Ev_succ ?_
    have c0 : ¬ (i : Int) < (cs.length : Int) := by omega
    simp only [impl_Probe.l0, if_neg c0]; exact Ev.now _
  | succ d ih =>
    intro i hi
    have e0 : rdOf ByteArray.empty cs (i : Int) = cs[i]'(by omega) := by
      show cs.getD i _ = _; exact getD_at cs _ i (by omega)
    have hn : wrap64 ((i : Int) + 1) = ((i + 1 : Nat) : Int) := by rw [w64 (by omega) (by omega)]; omega
    have c0 : (i : Int) < (cs.length : Int) := by omega
    have c1 : 0 ≤ (i : Int) := by omega
    rw [List.drop_eq_getElem_cons (by omega), probeL]
    refine Ev_succ ?_
    simp only [impl_Probe.l0, if_pos c0, if_pos c1, e0, hn]
    refine Ev_call (find_impl L hl hs _) ?_
    by_cases h : (findTo L (cs[i]'(by omega))).2 = true
    · simp only [if_pos h]; exact Ev.now _
    · simp only [if_neg h]; exact ih (i + 1) (by omega)
theorem probe_impl (L : List S51) (hl : L.length ≤ 1048576) (hs : ∀ x ∈ L, x.f0.size ≤ 2097152 ∧ x.f1.size ≤ 2097152) (a b : ByteArray) (cs : List ByteArray) (hc : cs.length ≤ 1048576) (e : Ev (fun k => impl_Candidates.f k a b) cs) : Ev (fun k => impl_Probe.f k L a b) (probeL L cs) := by
  simp only [impl_Probe.f]
  exact Ev_call e (probe_impl_loop L hl hs cs hc cs.length 0 (by omega))
theorem and255 (x : Int) : 0 ≤ Go.bits .and .i64 x 255 ∧ Go.bits .and .i64 x 255 ≤ 255 := by
  have h : (BitVec.ofInt IntKind.i64.bits x &&& BitVec.ofInt IntKind.i64.bits 255).toNat ≤ 255 := by
    rw [BitVec.toNat_and]
    exact Nat.le_trans Nat.and_le_right (by decide)
  simp only [Go.bits]
  rw [wraps_i64 _ (by omega) (by omega)]
  omega
theorem byte_some (b : List Int) (hb : b.length ≤ 140737488355328) (i h : Int) (h0 : 0 ≤ i) (h1 : i ≤ b.length) : ∃ x i' h', spec_l1Byte.f b i h = some (x, i', h') ∧ 0 ≤ x ∧ x ≤ 255 ∧ 0 ≤ i' ∧ i' ≤ b.length := by
  by_cases c : i < (b.length : Int)
  · have e : wrap64 (i + 1) = i + 1 := w64 (by omega) (by omega)
    exact ⟨_, i + 1, _, by simp only [spec_l1Byte.f, if_pos c, if_pos h0, e]; rfl, (and255 _).1, (and255 _).2, by omega, by omega⟩
  · exact ⟨_, i, _, by simp only [spec_l1Byte.f, if_neg c]; rfl, (and255 _).1, (and255 _).2, h0, h1⟩
theorem below_some (b : List Int) (hb : b.length ≤ 140737488355328) (i h : Int) (h0 : 0 ≤ i) (h1 : i ≤ b.length) (n : Int) : ∃ x i' h', spec_l1Below.f b i h n = some (x, i', h') ∧ 0 ≤ x ∧ (0 < n → x < n) ∧ (n ≤ 0 → x = 0) ∧ 0 ≤ i' ∧ i' ≤ b.length := by
  by_cases c : n ≤ 0
  · exact ⟨0, i, h, by simp only [spec_l1Below.f, if_pos c], by omega, by omega, fun _ => rfl, h0, h1⟩
  · obtain ⟨x, i1, q1, e1, a1, b1, c1, d1⟩ := byte_some b hb i h h0 h1
    have hz : ¬ n = 0 := by omega
    by_cases c2 : n ≤ 256
    · refine ⟨Int.tmod x n, i1, q1, ?_, ?_, ?_, ?_, c1, d1⟩
      · simp only [spec_l1Below.f, if_neg c, if_pos c2, e1, Option.bind_some, if_neg hz]
      · rw [tmod_nn a1]; exact Int.emod_nonneg _ hz
      · intro _; rw [tmod_nn a1]; exact Int.emod_lt_of_pos _ (by omega)
      · intro h; exact absurd h c
    · obtain ⟨y, i2, q2, e2, a2, b2, c3, d2⟩ := byte_some b hb i1 q1 c1 d1
      obtain ⟨z, i3, q3, e3, a3, b3, c4, d3⟩ := byte_some b hb i2 q2 c3 d2
      obtain ⟨v, i4, q4, e4, a4, b4, c5, d4⟩ := byte_some b hb i3 q3 c4 d3
      have hw : wrap64 ((wrap64 ((wrap64 ((wrap64 (x * 16777216)) + (wrap64 (y * 65536)))) + (wrap64 (z * 256)))) + v) = x * 16777216 + y * 65536 + z * 256 + v := by
        rw [w64 (x := x * 16777216) (by omega) (by omega), w64 (x := y * 65536) (by omega) (by omega), w64 (x := z * 256) (by omega) (by omega), w64 (x := x * 16777216 + y * 65536) (by omega) (by omega), w64 (x := x * 16777216 + y * 65536 + z * 256) (by omega) (by omega), w64 (by omega) (by omega)]
      have hp : 0 ≤ x * 16777216 + y * 65536 + z * 256 + v := by omega
      refine ⟨Int.tmod (x * 16777216 + y * 65536 + z * 256 + v) n, i4, q4, ?_, ?_, ?_, ?_, c5, d4⟩
      · simp only [spec_l1Below.f, if_neg c, if_neg c2, e1, e2, e3, e4, Option.bind_some, if_neg hz, hw]
      · rw [tmod_nn hp]; exact Int.emod_nonneg _ hz
      · intro _; rw [tmod_nn hp]; exact Int.emod_lt_of_pos _ (by omega)
      · intro h; exact absurd h c
theorem once_some (b : List Int) (hb : b.length ≤ 140737488355328) (i h : Int) (h0 : 0 ≤ i) (h1 : i ≤ b.length) (n : Int) : ∃ x i' h', spec_l1Once.f b i h n = some (x, i', h') ∧ 0 ≤ i' ∧ i' ≤ b.length := by
  obtain ⟨x, i1, q1, e1, a1, b1, c1, d1, f1⟩ := below_some b hb i h h0 h1 n
  exact ⟨x == 0, i1, q1, by simp only [spec_l1Once.f, e1, Option.bind_some], d1, f1⟩
theorem pick_some (b : List Int) (hb : b.length ≤ 140737488355328) (i h : Int) (h0 : 0 ≤ i) (h1 : i ≤ b.length) (l : List ByteArray) (hl : 0 < l.length) : ∃ s i' h', spec_l1Pick.f b i h l = some (s, i', h') ∧ s ∈ l ∧ 0 ≤ i' ∧ i' ≤ b.length := by
  obtain ⟨x, i1, q1, e1, a1, b1, c1, d1, f1⟩ := below_some b hb i h h0 h1 l.length
  have hx : x < (l.length : Int) := b1 (by omega)
  refine ⟨rdOf ByteArray.empty l x, i1, q1, by simp only [spec_l1Pick.f, e1, Option.bind_some, if_pos a1, if_pos hx], ?_, d1, f1⟩
  rw [rdOf, getD_at l _ _ (by omega)]; exact List.getElem_mem _
theorem new_loop (l : List Int) (hl : l.length ≤ 140737488355328) (d : Nat) : ∀ (x3 x4 : Int), 0 ≤ x4 → x4 + d = l.length → ∃ h, Ev (fun k => spec_l1New.l0 k l x3 x4) (l, 0, h) := by
  induction d with
  | zero =>
    intro x3 x4 h0 h1
    refine ⟨x3, Ev_succ ?_⟩
    have c : ¬ x4 < (l.length : Int) := by omega
    simp only [spec_l1New.l0, if_neg c]; exact Ev.now _
  | succ d ih =>
    intro x3 x4 h0 h1
    by_cases c2 : x4 < 4000
    · obtain ⟨h, e⟩ := ih (Go.bits .and .i64 (wrap64 ((wrap64 ((wrap64 (x3 * 131)) + (wrap64 (rd l x4)))) + 7)) 1073741823) (x4 + 1) (by omega) (by omega)
      refine ⟨h, Ev_succ ?_⟩
      have c : x4 < (l.length : Int) := by omega
      have hw : wrap64 (x4 + 1) = x4 + 1 := w64 (by omega) (by omega)
      simp only [spec_l1New.l0, if_pos c, if_pos c2, if_pos h0, hw]; exact e
    · refine ⟨x3, Ev_succ ?_⟩
      have c : x4 < (l.length : Int) := by omega
      simp only [spec_l1New.l0, if_pos c, if_neg c2]; exact Ev.now _
theorem new_ev (l : List Int) (hl : l.length ≤ 140737488355328) : ∃ h, Ev (fun k => spec_l1New.f k l) (l, 0, h) := by
  simp only [spec_l1New.f]
  exact new_loop l hl l.length _ 0 (by omega) (by omega)
theorem drawp_loop (b : List Int) (hb : b.length ≤ 140737488355328) (P : List ByteArray) (hP : P.length ≤ 10) (hz : ∀ x ∈ P, x.size ≤ 100) (d : Nat) : ∀ (i : Nat) (L : List S51) (x h : Int), i + d = P.length → L.length ≤ i → (∀ y ∈ L, y.f0.size ≤ 2097152 ∧ y.f1.size ≤ 2097152) → 0 ≤ x → x ≤ b.length →
    ∃ r : List S51 × ByteArray × ByteArray, Ev (fun k => spec_DrawProbe.l0 k P L i b x h) r ∧ r.1.length ≤ 10 ∧ (∀ y ∈ r.1, y.f0.size ≤ 2097152 ∧ y.f1.size ≤ 2097152) ∧ r.2.1.size ≤ 41 ∧ r.2.2.size ≤ 41 := by
  induction d with
  | zero =>
    intro i L x h hi hl hL h0 h1
    obtain ⟨s1, i1, q1, e1, m1, a1, b1⟩ := pick_some b hb x h h0 h1 ([(⟨#[47, 97, 47, 98]⟩ : ByteArray), (⟨#[47, 122]⟩ : ByteArray), (⟨#[47, 97, 47, 98, 47, 99]⟩ : ByteArray), (⟨#[47]⟩ : ByteArray)] : List ByteArray) (by decide)
    have z1 : s1.size ≤ 41 := (show ∀ s ∈ ([(⟨#[47, 97, 47, 98]⟩ : ByteArray), (⟨#[47, 122]⟩ : ByteArray), (⟨#[47, 97, 47, 98, 47, 99]⟩ : ByteArray), (⟨#[47]⟩ : ByteArray)] : List ByteArray), s.size ≤ 41 by decide) _ m1
    obtain ⟨s2, i2, q2, e2, m2, a2, b2⟩ := pick_some b hb i1 q1 a1 b1 ([(⟨#[103]⟩ : ByteArray), (⟨#[104]⟩ : ByteArray), (⟨#[46, 47, 120]⟩ : ByteArray), (⟨#[46, 46, 47, 120]⟩ : ByteArray), (⟨#[47, 100]⟩ : ByteArray), (⟨#[47, 120]⟩ : ByteArray), (⟨#[113]⟩ : ByteArray), (⟨#[46, 46, 47, 46, 46, 47, 120]⟩ : ByteArray)] : List ByteArray) (by decide)
    have z2 : s2.size ≤ 41 := (show ∀ s ∈ ([(⟨#[103]⟩ : ByteArray), (⟨#[104]⟩ : ByteArray), (⟨#[46, 47, 120]⟩ : ByteArray), (⟨#[46, 46, 47, 120]⟩ : ByteArray), (⟨#[47, 100]⟩ : ByteArray), (⟨#[47, 120]⟩ : ByteArray), (⟨#[113]⟩ : ByteArray), (⟨#[46, 46, 47, 46, 46, 47, 120]⟩ : ByteArray)] : List ByteArray), s.size ≤ 41 by decide) _ m2
    refine ⟨(L, s1, s2), Ev_succ ?_, by simp only; omega, hL, z1, z2⟩
    have c0 : ¬ (i : Int) < (P.length : Int) := by omega
    simp only [spec_DrawProbe.l0, if_neg c0]
    exact Ev_call (Ev_some_of e1) (Ev_call (Ev_some_of e2) (Ev.now _))
  | succ d ih =>
    intro i L x h hi hl hL h0 h1
    obtain ⟨o, i1, q1, e1, a1, b1⟩ := once_some b hb x h h0 h1 2
    have e0 : rdOf ByteArray.empty P (i : Int) = P[i]'(by omega) := by
      show P.getD i _ = _; exact getD_at P _ i (by omega)
    have hx := hz (P[i]'(by omega)) (List.getElem_mem _)
    have hn : wrap64 ((i : Int) + 1) = ((i + 1 : Nat) : Int) := by rw [w64 (by omega) (by omega)]; omega
    have c0 : (i : Int) < (P.length : Int) := by omega
    have c1 : 0 ≤ (i : Int) := by omega
    have c2 : L.length < 4398046511104 := by omega
    generalize P[i]'(by omega) = p at e0 hx
    cases o with
    | true =>
      obtain ⟨r, er, k1, k2, k3⟩ := ih (i + 1) (L ++ [⟨p, ⟨#[]⟩⟩]) i1 q1 (by omega) (by simp; omega) (by
        intro y hy
        rcases List.mem_append.1 hy with hy | hy
        · exact hL y hy
        · obtain rfl := List.mem_singleton.1 hy
          exact ⟨by simp only; omega, by simp only; decide⟩) a1 b1
      refine ⟨r, Ev_succ ?_, k1, k2, k3⟩
      simp only [spec_DrawProbe.l0, if_pos c0]
      refine Ev_call (Ev_some_of e1) ?_
      simp only [if_true, if_pos c1, if_pos c2, e0, hn]
      exact er
    | false =>
      obtain ⟨r, er, k1, k2, k3⟩ := ih (i + 1) L i1 q1 (by omega) (by omega) hL a1 b1
      refine ⟨r, Ev_succ ?_, k1, k2, k3⟩
      simp only [spec_DrawProbe.l0, if_pos c0]
      refine Ev_call (Ev_some_of e1) ?_
      simp only [Bool.false_eq_true, if_false, hn]
      exact er
theorem draw_probe (l : List Int) (hl : l.length ≤ 140737488355328) : ∃ r : List S51 × ByteArray × ByteArray, Ev (fun k => spec_DrawProbe.f k l) r ∧ r.1.length ≤ 10 ∧ (∀ y ∈ r.1, y.f0.size ≤ 2097152 ∧ y.f1.size ≤ 2097152) ∧ r.2.1.size ≤ 41 ∧ r.2.2.size ≤ 41 := by
  obtain ⟨h, e0⟩ := new_ev l hl
  obtain ⟨r, er, k⟩ := drawp_loop l hl ([(⟨#[47, 97, 47, 108, 105, 98, 47, 103, 46, 106, 115]⟩ : ByteArray), (⟨#[47, 97, 47, 120, 46, 106, 115]⟩ : ByteArray), (⟨#[47, 100, 47, 105, 110, 100, 101, 120, 46, 106, 115]⟩ : ByteArray), (⟨#[47, 108, 105, 98, 47, 103]⟩ : ByteArray), (⟨#[47, 108, 105, 98, 47, 104, 47, 105, 110, 100, 101, 120, 46, 106, 115]⟩ : ByteArray), (⟨#[47, 120]⟩ : ByteArray)] : List ByteArray) (by decide) (by decide) 6 0 [] 0 h (by decide) (by simp) (by intro y hy; cases hy) (by omega) (by omega)
  refine ⟨r, ?_, k⟩
  unfold spec_DrawProbe.f
  exact Ev_call e0 er
theorem same_loop (l : List ByteArray) (hl : l.length ≤ 1048576) (d : Nat) : ∀ i : Nat, i + d = l.length → Ev (fun k => laws_sameTexts.l0 k l l i) true := by
  induction d with
  | zero =>
    intro i hi
    refine Ev_succ ?_
    simp (disch := omega) only [laws_sameTexts.l0, if_neg]; exact Ev.now _
  | succ d ih =>
    intro i hi
    refine Ev_succ ?_
    have hn : wrap64 ((i : Int) + 1) = ((i + 1 : Nat) : Int) := by rw [w64 (by omega) (by omega)]; omega
    simp (disch := omega) only [laws_sameTexts.l0, if_pos, if_true, hn]; exact ih (i + 1) (by omega)
theorem same_ev (l : List ByteArray) (hl : l.length ≤ 1048576) : Ev (fun k => laws_sameTexts.f k l l) true := by
  simp only [laws_sameTexts.f, if_true]
  exact same_loop l hl l.length 0 (by omega)
theorem has_loop (l : List ByteArray) (hl : l.length ≤ 1048576) (s : ByteArray) (d : Nat) : ∀ i : Nat, i + d = l.length → Ev (fun k => laws_has.l0 k l s i) (inL (l.drop i) s) := by
  induction d with
  | zero =>
    intro i hi
    have hd : l.drop i = [] := List.drop_eq_nil_of_le (by omega)
    rw [hd]
    refine Ev_succ ?_
    simp (disch := omega) only [laws_has.l0, if_neg]; exact Ev.now _
  | succ d ih =>
    intro i hi
    have e0 : rdOf ByteArray.empty l (i : Int) = l[i]'(by omega) := by
      show l.getD i _ = _; exact getD_at l _ i (by omega)
    have hn : wrap64 ((i : Int) + 1) = ((i + 1 : Nat) : Int) := by rw [w64 (by omega) (by omega)]; omega
    have c0 : (i : Int) < (l.length : Int) := by omega
    have c1 : 0 ≤ (i : Int) := by omega
    rw [List.drop_eq_getElem_cons (by omega), inL_cons]
    refine Ev_succ ?_
    simp only [laws_has.l0, if_pos c0, if_pos c1, hn, e0]
    by_cases h : (l[i]'(by omega)).toList = s.toList
    · have hp : ((l[i]'(by omega)).toList == s.toList) = true := beq_iff_eq.2 h
      rw [hp, Bool.true_or]
      simp only [if_pos h]; exact Ev.now _
    · have hp : ((l[i]'(by omega)).toList == s.toList) = false := beq_eq_false_iff_ne.2 h
      rw [hp, Bool.false_or]
      simp only [if_neg h]; exact ih (i + 1) (by omega)
theorem has_ev (l : List ByteArray) (hl : l.length ≤ 1048576) (s : ByteArray) : Ev (fun k => laws_has.f k l s) (inL l s) := by
  simp only [laws_has.f]
  exact has_loop l hl s l.length 0 (by omega)
/-- Paths, and unlike. -/
def Good (r : List ByteArray) : Prop := (∀ x ∈ r, isP x = true) ∧ r.Pairwise (fun a b => a.toList ≠ b.toList)
theorem inL_false {l : List ByteArray} {s : ByteArray} : inL l s = false ↔ ∀ x ∈ l, x.toList ≠ s.toList := by
  unfold inL
  rw [List.any_eq_false]
  exact ⟨fun h x hx e => h x hx (beq_iff_eq.2 e), fun h x hx e => h x hx (beq_iff_eq.1 e)⟩
theorem good_put (o : List ByteArray) (x : ByteArray) (h : Good o) : Good (putC o x) := by
  unfold putC
  by_cases hp : isP x = true
  · rw [if_pos hp]
    by_cases hi : inL o x = true
    · rw [if_pos hi]; exact h
    · rw [if_neg hi]
      have hf := inL_false.1 (Bool.eq_false_iff.2 hi)
      refine ⟨fun y hy => ?_, List.pairwise_append.2 ⟨h.2, List.pairwise_singleton _ _, fun a ha b hb => ?_⟩⟩
      · rcases List.mem_append.1 hy with hy | hy
        · exact h.1 y hy
        · obtain rfl := List.mem_singleton.1 hy; exact hp
      · obtain rfl := List.mem_singleton.1 hb; exact hf a ha
  · rw [if_neg hp]; exact h
theorem good_add (o : List ByteArray) (b : ByteArray) (h : Good o) : Good (addC o b) := by
  unfold addC
  split
  · exact h
  · simp only [List.foldl_cons, List.foldl_nil]
    exact good_put _ _ (good_put _ _ (good_put _ _ h))
theorem good_fold (l : List ByteArray) : ∀ o, Good o → Good (l.foldl addC o) := by
  induction l with
  | nil => intro o h; exact h
  | cons x r ih => intro o h; exact ih _ (good_add o x h)
theorem good_cand (a b : ByteArray) (ups : List ByteArray) : Good (candTo a b ups) := by
  have h0 : Good [] := ⟨fun x hx => absurd hx List.not_mem_nil, List.Pairwise.nil⟩
  unfold candTo
  split
  · exact good_fold _ _ h0
  · exact h0
theorem probe_law (L : List S51) (hl : L.length ≤ 1048576) (hs : ∀ x ∈ L, x.f0.size ≤ 2097152 ∧ x.f1.size ≤ 2097152) (r : List ByteArray) (hr : r.length ≤ 1000) (hg : Good r) (d : Nat) : ∀ i : Nat, i + d = r.length →
    Ev (fun k => laws_FnProbe.l0 k L r (probeL L (r.drop i)).1 (probeL L (r.drop i)).2 i) true := by
  induction d with
  | zero =>
    intro i hi
    have hd : r.drop i = [] := List.drop_eq_nil_of_le (by omega)
    rw [hd]
    refine Ev_succ ?_
    have c0 : ¬ (i : Int) < (r.length : Int) := by omega
    simp only [laws_FnProbe.l0, if_neg c0, probeL, Bool.false_eq_true, if_false]
    exact Ev_some (by rw [beq_iff_eq, toList_data])
  | succ d ih =>
    intro i hi
    have q := ih (i + 1) (by omega)
    have e0 : rdOf ByteArray.empty r (i : Int) = r[i]'(by omega) := by
      show r.getD i _ = _; exact getD_at r _ i (by omega)
    have hn : wrap64 ((i : Int) + 1) = ((i + 1 : Nat) : Int) := by rw [w64 (by omega) (by omega)]; omega
    have c0 : (i : Int) < (r.length : Int) := by omega
    have c1 : 0 ≤ (i : Int) := by omega
    have c3 : (i : Int) ≤ (r.length : Int) := by omega
    have hp := hg.1 (r[i]'(by omega)) (List.getElem_mem _)
    have hin : inL (r.take i) (r[i]'(by omega)) = false := by
      rw [inL_false]
      intro x hx
      obtain ⟨j, hj, rfl⟩ := List.mem_iff_getElem.1 hx
      have hj' : j < i := by rw [List.length_take] at hj; omega
      rw [List.getElem_take]
      exact List.pairwise_iff_getElem.1 hg.2 j i (by omega) (by omega) hj'
    rw [List.drop_eq_getElem_cons (by omega), probeL]
    generalize hc : r[i]'(by omega) = c at e0 hp hin
    have hsz := isP_size hp
    have h47 : bt c 0 = 47 := by
      unfold isP at hp
      simp only [Bool.and_eq_true, decide_eq_true_eq, beq_iff_eq] at hp
      exact hp.1.2
    have hne : ¬ c.toList = [] := by
      rw [toList_data]; intro e
      have := data_length c
      rw [e] at this; simp at this; omega
    have c2 : 0 < (c.size : Int) := by omega
    refine Ev_succ ?_
    simp only [laws_FnProbe.l0, if_pos c0, if_pos c1, e0]
    refine Ev_call (find_spec L hl hs c) ?_
    simp only [if_neg hne, if_pos c2, if_pos h47, if_pos c3, Int.toNat_natCast]
    refine Ev_call (has_ev (r.take i) (by rw [List.length_take]; omega) c) ?_
    rw [hin]
    refine Ev_succ ?_
    simp only [laws_FnProbe.j1, Bool.false_eq_true, if_false]
    by_cases hf : (findTo L c).2 = true
    · simp only [if_pos hf, if_true, if_pos c1, if_pos c0, e0]
      exact Ev_some (by rw [beq_iff_eq])
    · simp only [if_neg hf, hn]
      exact q
theorem FnProbe : laws_FnProbe.Say := by
  intro l hlw
  apply Ev.rounds
  simp only [laws_FnProbe.f, laws_big.f, Option.bind_some]
  by_cases h : (l.length : Int) > 1048576
  · simp only [decide_eq_true h, if_true]; exact Ev.now _
  · simp only [decide_eq_false h, Bool.false_eq_true, if_false]
    obtain ⟨⟨L, a, b⟩, e, h1, h2, h3, h4⟩ := draw_probe l (by omega)
    have h1' : L.length ≤ 10 := h1
    have h3' : a.size ≤ 41 := h3
    have h4' : b.size ≤ 41 := h4
    obtain ⟨ups, hu, c1, c2⟩ := cand_both a b (by omega) (by omega)
    have hr := candTo_len a b ups hu
    have hg := good_cand a b ups
    generalize candTo a b ups = r at c1 c2 hr hg
    refine Ev_call e ?_
    refine Ev_call c2 (Ev_call (probe_impl L (by omega) h2 a b r (by omega) c2) (Ev_call c1 (Ev_call (same_ev r (by omega)) ?_)))
    simp only [if_true]
    exact probe_law L (by omega) h2 r (by omega) hg r.length 0 (by omega)


end Go.Proofs.YtmpmfaaodjmpjaaDoor.Pure

import Derived.Test.YtmpmfaaodjmpjaaDoorSayFnExactReadFiles
import Derived.Test.YtmpmfaaodjmpjaaDoorSegL
import Derived.Test.YtmpmfaaodjmpjaaDoorVarL
import Derived.Test.YtmpmfaaodjmpjaaDoorKit
/- FnExactReadFiles: both take the same pieces, and what is taken whole is what would be shown; for every text. -/
namespace Go.Proofs.YtmpmfaaodjmpjaaDoor.Pure
open Go.RowKit Go.Proofs.YtmpmfaaodjmpjaaDoor.PFnExactReadFiles Go.Proofs.YtmpmfaaodjmpjaaDoorW.PrintWords Go.Proofs.YtmpmfaaodjmpjaaDoorW.PrintLast Go.Proofs.YtmpmfaaodjmpjaaDoorW.PrintMore Go.Proofs.YtmpmfaaodjmpjaaDoor.Kit
set_option linter.unusedSimpArgs false
set_option linter.unusedVariables false

theorem path_spec_loop (s : ByteArray) (hs : s.size ≤ 4000000) (d : Nat) : ∀ (i : Int), 0 ≤ i → i + d = s.size → Ev (fun k => spec_l2Path.l0 k s i) (okF s i d) := by
  induction d with
  | zero =>
    intro i h0 h1
    refine Ev_succ ?_
    simp (disch := omega) only [spec_l2Path.l0, if_neg]
    exact Ev.now _
  | succ d ih =>
    intro i h0 h1
    refine Ev_succ ?_
    have hw : wrap64 (i + 1) = i + 1 := w64 (by omega) (by omega)
    have h2 : i < (s.size : Int) := by omega
    by_cases ho : okb (bt s i) = true
    · have e := ih (i + 1) (by omega) (by omega)
      rw [okF, ho, Bool.true_and]
      have ho' := of_decide_eq_true ho
      refine Ev.congr (fun k => ?_) e
      simp only [spec_l2Path.l0, if_pos h2, if_pos h0, hw]
      repeat' split
      all_goals first | rfl | (exfalso; omega)
    · rw [okF, Bool.eq_false_iff.mpr ho, Bool.false_and]
      have ho' : ¬ ((97 ≤ bt s i ∧ bt s i ≤ 122) ∨ (48 ≤ bt s i ∧ bt s i ≤ 57) ∨ bt s i = 46 ∨ bt s i = 95 ∨ bt s i = 45 ∨ bt s i = 47) := fun h => ho (decide_eq_true h)
      refine Ev.congr (fun k => ?_) (Ev.now false)
      simp only [spec_l2Path.l0, if_pos h2, if_pos h0, hw]
      repeat' split
      all_goals first | rfl | (exfalso; omega)
theorem path_spec (s : ByteArray) (hs : s.size ≤ 4000000) : Ev (fun k => spec_l2Path.f k s) (isP s) := by
  unfold isP
  by_cases h : 1 ≤ s.size ∧ s.size ≤ 40
  · have c1 : (s.size : Int) ≥ 1 := by omega
    have c2 : decide ((s.size : Int) ≤ 40) = true := decide_eq_true (by omega)
    have c3 : 0 < (s.size : Int) := by omega
    simp only [spec_l2Path.f, spec_l1In.f, if_pos c1, c2, Option.bind_some, if_true, if_pos c3, h.1, h.2, decide_true, Bool.true_and]
    refine Ev_succ ?_
    by_cases hb : bt s 0 = 47
    · have e1 : (bt s 0 != 47) = false := by rw [hb]; rfl
      have e2 : (bt s 0 == 47) = true := by rw [hb]; rfl
      simp only [spec_l2Path.j0, e1, e2, Bool.true_and, Bool.false_eq_true, if_false]
      exact path_spec_loop s hs s.size 0 (by omega) (by omega)
    · have e1 : (bt s 0 != 47) = true := bne_iff_ne.mpr hb
      have e2 : (bt s 0 == 47) = false := beq_eq_false_iff_ne.mpr hb
      simp only [spec_l2Path.j0, e1, e2, Bool.false_and, if_true]
      exact Ev.now _
  · have e : (decide (1 ≤ s.size) && decide (s.size ≤ 40)) = false := by
      rw [← Bool.decide_and]; exact decide_eq_false h
    rw [e, Bool.false_and, Bool.false_and]
    by_cases c1 : (s.size : Int) ≥ 1
    · have c2 : decide ((s.size : Int) ≤ 40) = false := decide_eq_false (by omega)
      simp only [spec_l2Path.f, spec_l1In.f, if_pos c1, c2, Option.bind_some, Bool.false_eq_true, if_false]
      refine Ev_succ ?_
      simp only [spec_l2Path.j0, if_true]
      exact Ev.now _
    · simp only [spec_l2Path.f, spec_l1In.f, if_neg c1, Option.bind_some, Bool.false_eq_true, if_false]
      refine Ev_succ ?_
      simp only [spec_l2Path.j0, if_true]
      exact Ev.now _
theorem path_impl_loop (s : ByteArray) (hs : s.size ≤ 4000000) (d : Nat) : ∀ (i : Int), 0 ≤ i → i + d = s.size → Ev (fun k => impl_isPath.l0 k s s.size i) (okF s i d && (decide (1 ≤ s.size) && decide (s.size ≤ 40) && (bt s 0 == 47))) := by
  induction d with
  | zero =>
    intro i h0 h1
    refine Ev_succ ?_
    rw [okF, Bool.true_and]
    by_cases h : 1 ≤ s.size ∧ s.size ≤ 40
    · have c1 : (s.size : Int) ≥ 1 := by omega
      have c2 : decide ((s.size : Int) ≤ 40) = true := decide_eq_true (by omega)
      have c3 : 0 < (s.size : Int) := by omega
      have c4 : ¬ i < (s.size : Int) := by omega
      simp only [impl_isPath.l0, if_neg c4, impl_in.f, if_pos c1, c2, Option.bind_some, if_true, if_pos c3, h.1, h.2, decide_true, Bool.true_and]
      exact Ev.now _
    · have e : (decide (1 ≤ s.size) && decide (s.size ≤ 40)) = false := by
        rw [← Bool.decide_and]; exact decide_eq_false h
      have c4 : ¬ i < (s.size : Int) := by omega
      rw [e, Bool.false_and]
      by_cases c1 : (s.size : Int) ≥ 1
      · have c2 : decide ((s.size : Int) ≤ 40) = false := decide_eq_false (by omega)
        simp only [impl_isPath.l0, if_neg c4, impl_in.f, if_pos c1, c2, Option.bind_some, Bool.false_eq_true, if_false]
        exact Ev.now _
      · simp only [impl_isPath.l0, if_neg c4, impl_in.f, if_neg c1, Option.bind_some, Bool.false_eq_true, if_false]
        exact Ev.now _
  | succ d ih =>
    intro i h0 h1
    refine Ev_succ ?_
    have hw : wrap64 (i + 1) = i + 1 := w64 (by omega) (by omega)
    have h2 : i < (s.size : Int) := by omega
    by_cases ho : okb (bt s i) = true
    · have e := ih (i + 1) (by omega) (by omega)
      rw [okF, ho, Bool.true_and]
      have ho' := of_decide_eq_true ho
      refine Ev.congr (fun k => ?_) e
      simp only [impl_isPath.l0, if_pos h2, if_pos h0, hw]
      repeat' split
      all_goals first | rfl | (exfalso; omega)
    · rw [okF, Bool.eq_false_iff.mpr ho, Bool.false_and, Bool.false_and]
      have ho' : ¬ ((97 ≤ bt s i ∧ bt s i ≤ 122) ∨ (48 ≤ bt s i ∧ bt s i ≤ 57) ∨ bt s i = 46 ∨ bt s i = 95 ∨ bt s i = 45 ∨ bt s i = 47) := fun h => ho (decide_eq_true h)
      refine Ev.congr (fun k => ?_) (Ev.now false)
      simp only [impl_isPath.l0, if_pos h2, if_pos h0, hw]
      repeat' split
      all_goals first | rfl | (exfalso; omega)
theorem path_impl (s : ByteArray) (hs : s.size ≤ 4000000) : Ev (fun k => impl_isPath.f k s) (isP s) := by
  have e := path_impl_loop s hs s.size 0 (by omega) (by omega)
  rw [Bool.and_comm] at e
  exact e
theorem isP_size {s : ByteArray} (h : isP s = true) : 1 ≤ s.size ∧ s.size ≤ 40 := by
  unfold isP at h
  simp only [Bool.and_eq_true, decide_eq_true_eq] at h
  exact h.1.1
theorem clean_show (st : List ByteArray) (hl : st.length ≤ 50) (hz : ∀ x ∈ st, x.size ≤ 40) (d : Nat) : ∀ (j : Nat), j + d = st.length →
    Ev (fun k => spec_Clean.l1 k st (PB (Lib.joinTail [47] ((st.take j).map (·.data.toList)))) (j : Int)) (PB (Lib.joinTail [47] (st.map (·.data.toList)))) := by
  induction d with
  | zero =>
    intro j hj
    refine Ev_succ ?_
    have c : ¬ (j : Int) < (st.length : Int) := by omega
    simp only [spec_Clean.l1, if_neg c]
    rw [List.take_of_length_le (by omega)]
    exact Ev.now _
  | succ d ih =>
    intro j hj
    have e := ih (j + 1) (by omega)
    refine Ev_succ ?_
    have hjl : j < st.length := by omega
    have c : (j : Int) < (st.length : Int) := by omega
    have c0 : 0 ≤ (j : Int) := by omega
    have hw : wrap64 ((j : Int) + 1) = ((j + 1 : Nat) : Int) := by rw [w64 (by omega) (by omega)]; omega
    have hr : rdOf ByteArray.empty st (j : Int) = st[j] := by simp only [rdOf, Int.toNat_natCast, List.getD, List.getElem?_eq_getElem hjl, Option.getD_some]
    have hb : (Lib.joinTail [47] ((st.take j).map (·.data.toList))).length ≤ 50 * 41 := by
      have := joinTail_le ((st.take j).map (·.data.toList)) 40 (fun x hx => by obtain ⟨y, hy, rfl⟩ := List.mem_map.1 hx; exact hz y (List.mem_of_mem_take hy))
      simp only [List.length_map, List.length_take] at this
      omega
    have hy : st[j].size ≤ 40 := hz _ (List.getElem_mem hjl)
    have hone : (⟨#[47]⟩ : ByteArray) = PB [47] := rfl
    have e1 : (PB (Lib.joinTail [47] ((st.take j).map (·.data.toList))) ++ (⟨#[47]⟩ : ByteArray)) ++ st[j] = PB (Lib.joinTail [47] ((st.take (j + 1)).map (·.data.toList))) := by
      rw [hone, app_PB]
      conv => lhs; rw [← PB_data st[j]]
      rw [app_PB, List.take_succ_eq_append_getElem hjl, List.map_append, List.map_singleton, joinTail_snoc]
    have hs1 : (PB (Lib.joinTail [47] ((st.take j).map (·.data.toList)))).size = (Lib.joinTail [47] ((st.take j).map (·.data.toList))).length := rfl
    have hs2 : (PB (Lib.joinTail [47] ((st.take j).map (·.data.toList))) ++ (⟨#[47]⟩ : ByteArray)).size = (Lib.joinTail [47] ((st.take j).map (·.data.toList))).length + 1 := by rw [size_app, hs1]; rfl
    have d1 : (PB (Lib.joinTail [47] ((st.take j).map (·.data.toList)))).size + 1 ≤ 9223372036854775807 := by rw [hs1]; omega
    have d2 : (PB (Lib.joinTail [47] ((st.take j).map (·.data.toList))) ++ (⟨#[47]⟩ : ByteArray)).size + st[j].size ≤ 9223372036854775807 := by rw [hs2]; omega
    simp only [spec_Clean.l1, if_pos c, if_pos d1, if_pos c0, hr, if_pos d2, hw, e1]
    exact e
theorem cut_here (s : ByteArray) (st : List ByteArray) (fr i : Nat) (h1 : fr ≤ i) (h2 : i ≤ s.size) (hn : ∀ j, fr ≤ j → j < i → bt s (j : Int) ≠ 47) (hc : i < s.size → bt s (i : Int) = 47) :
    ((sp (s.data.toList.drop fr)).map PB).foldl stp st = ((sp (s.data.toList.drop (i + 1))).map PB).foldl stp (stp st (s.extract fr i)) := by
  have hl : s.data.toList.length = s.size := by rw [Array.length_toList]; rfl
  have he : s.extract fr i = PB ((s.data.toList.drop fr).take (i - fr)) := by
    apply data_inj
    rw [data_PB, ByteArray.data_extract, Array.toList_extract, List.extract_eq_take_drop]
  have hno : ∀ x ∈ (s.data.toList.drop fr).take (i - fr), x ≠ 47 := by
    intro x hx e
    obtain ⟨n, hnl, e1⟩ := List.getElem_of_mem hx
    have hb : n < i - fr ∧ fr + n < s.size := by simp at hnl; omega
    rw [List.getElem_take, List.getElem_drop] at e1
    refine hn (fr + n) (by omega) (by omega) ?_
    rw [btAt s (fr + n) hb.2]
    have e2 : s.data.toList[fr + n]'(by omega) = 47 := e1.trans e
    rw [e2]; rfl
  by_cases hi : i < s.size
  · have e47 : s.data.toList[i]'(by omega) = 47 := by
      have := hc hi
      rw [btAt s i hi] at this
      apply UInt8.toNat_inj.1
      have e3 : ((s.data.toList[i]'(by omega)).toNat : Int) = 47 := this
      have e4 : (47 : UInt8).toNat = 47 := rfl
      omega
    have hd : s.data.toList.drop fr = (s.data.toList.drop fr).take (i - fr) ++ 47 :: s.data.toList.drop (i + 1) := by
      conv => lhs; rw [← List.take_append_drop (i - fr) (s.data.toList.drop fr)]
      rw [List.drop_drop, show fr + (i - fr) = i by omega, List.drop_eq_getElem_cons (by omega : i < s.data.toList.length), e47]
    rw [hd, sp_app _ _ hno, List.map_cons, List.foldl_cons, ← he]
  · have h0 : s.data.toList.drop (i + 1) = [] := List.drop_eq_nil_of_le (by omega)
    have hd : s.data.toList.drop fr = (s.data.toList.drop fr).take (i - fr) := by
      rw [List.take_of_length_le]; rw [List.length_drop]; omega
    rw [h0, hd, sp_no _ hno]
    have hz := stp_nil (stp st (s.extract fr i))
    simp only [sp, List.map_cons, List.map_nil, List.foldl_cons, List.foldl_nil, ← he, hz]
theorem clean_spec_loop (s : ByteArray) (hs : s.size ≤ 40) (d : Nat) : ∀ (i fr : Nat) (st : List ByteArray), i + d = s.size + 1 → fr ≤ i → (i = s.size + 1 → fr = i) →
    (∀ j, fr ≤ j → j < i → j < s.size → bt s (j : Int) ≠ 47) → st.length ≤ fr → (∀ x ∈ st, x.size ≤ 40) →
    Ev (fun k => spec_Clean.l0 k s st (fr : Int) (i : Int)) (shown (((sp (s.data.toList.drop fr)).map PB).foldl stp st)) := by
  induction d with
  | zero =>
    intro i fr st hi hf hfi hn hl hz
    obtain rfl := hfi (by omega)
    have h0 : s.data.toList.drop fr = [] := List.drop_eq_nil_of_le (by rw [data_length]; omega)
    have hz0 : stp st (PB []) = st := by unfold stp; rw [if_pos (toList_PB [])]
    rw [h0]
    simp only [sp, List.map_cons, List.map_nil, List.foldl_cons, List.foldl_nil, hz0]
    refine Ev_succ ?_
    have c : ¬ (fr : Int) ≤ (s.size : Int) := by omega
    simp only [spec_Clean.l0, if_neg c]
    by_cases hst : st = []
    · subst hst
      simp only [shown, List.length_nil, Int.natCast_zero, if_true]
      exact Ev.now _
    · have c2 : ¬ (st.length : Int) = 0 := by
        have := List.length_pos_iff.2 hst; omega
      simp only [if_neg c2, shown, if_neg hst]
      exact clean_show st (by omega) hz st.length 0 (by omega)
  | succ d ih =>
    intro i fr st hi hf hfi hn hl hz
    have ci : (i : Int) ≤ (s.size : Int) := by omega
    have hw : wrap64 ((i : Int) + 1) = ((i + 1 : Nat) : Int) := by rw [w64 (by omega) (by omega)]; omega
    have c0 : 0 ≤ (i : Int) := by omega
    by_cases hgo : i < s.size ∧ bt s (i : Int) ≠ 47
    · have e := ih (i + 1) fr st (by omega) (by omega) (by omega) (fun j h1 h2 h3 => by
        by_cases hj : j = i
        · subst hj; exact hgo.2
        · exact hn j h1 (by omega) h3) hl hz
      have c1 : (i : Int) < (s.size : Int) := by omega
      have c2 : (bt s (i : Int) != 47) = true := bne_iff_ne.mpr hgo.2
      refine Ev_succ ?_
      simp only [spec_Clean.l0, if_pos ci, if_pos c1, if_pos c0, c2]
      refine Ev_succ ?_
      simp only [spec_Clean.j1, if_true, hw]
      exact e
    · have hcut := cut_here s st fr i hf (by omega) (fun j h1 h2 => hn j h1 h2 (by omega)) (fun h => by
        by_cases hb : bt s (i : Int) = 47
        · exact hb
        · exact absurd ⟨h, hb⟩ hgo)
      have hps : (s.extract fr i).size ≤ 40 := by rw [ByteArray.size_extract]; omega
      have hlen := stp_len st (s.extract fr i)
      have e := ih (i + 1) (i + 1) (stp st (s.extract fr i)) (by omega) (by omega) (fun _ => rfl) (fun j h1 h2 h3 => by omega) (by omega) (stp_size st _ 40 hz hps)
      rw [hcut]
      have two : ∀ b : Bool, (b = true ↔ (s.extract fr i).toList = [] ∨ (s.extract fr i).toList = [46]) → Ev (fun k => spec_Clean.j2 k s st ((i + 1 : Nat) : Int) (i : Int) (s.extract fr i) b) (shown (((sp (s.data.toList.drop (i + 1))).map PB).foldl stp (stp st (s.extract fr i)))) := by
        intro b hb
        refine Ev_succ ?_
        by_cases hbt : b = true
        · have hs0 : stp st (s.extract fr i) = st := by
            unfold stp
            rcases hb.1 hbt with h | h
            · rw [if_pos h]
            · by_cases h' : (s.extract fr i).toList = []
              · rw [if_pos h']
              · rw [if_neg h', if_pos h]
          rw [hs0] at e ⊢
          simp only [spec_Clean.j2, hbt, if_true, hw]
          exact e
        · have hno : ¬ ((s.extract fr i).toList = [] ∨ (s.extract fr i).toList = [46]) := fun h => hbt (hb.2 h)
          have hn1 : ¬ (s.extract fr i).toList = [] := fun h => hno (.inl h)
          have hn2 : ¬ (s.extract fr i).toList = [46] := fun h => hno (.inr h)
          by_cases hdd : (s.extract fr i).toList = [46, 46]
          · have hs0 : stp st (s.extract fr i) = st.take (st.length - 1) := by unfold stp; rw [if_neg hn1, if_neg hn2, if_pos hdd]
            rw [hs0] at e ⊢
            by_cases hst : st.length = 0
            · have h00 : st.take (st.length - 1) = st := by rw [List.take_of_length_le]; omega
              rw [h00] at e ⊢
              have c3 : ¬ (st.length : Int) > 0 := by omega
              simp only [spec_Clean.j2, hbt, if_false, Bool.false_eq_true, if_pos hdd, if_neg c3, hw]
              exact e
            · have c3 : (st.length : Int) > 0 := by omega
              have c4 : wrap64 ((st.length : Int) - 1) = ((st.length - 1 : Nat) : Int) := by rw [w64 (by omega) (by omega)]; omega
              have c5 : 0 ≤ ((st.length - 1 : Nat) : Int) := by omega
              have c6 : ((st.length - 1 : Nat) : Int) ≤ (st.length : Int) := by omega
              simp only [spec_Clean.j2, hbt, if_false, Bool.false_eq_true, if_pos hdd, if_pos c3, c4, if_pos c5, if_pos c6, Int.toNat_natCast, hw]
              exact e
          · have hs0 : stp st (s.extract fr i) = st ++ [s.extract fr i] := by unfold stp; rw [if_neg hn1, if_neg hn2, if_neg hdd]
            rw [hs0] at e ⊢
            have c7 : st.length < 8796093022208 := by omega
            simp only [spec_Clean.j2, hbt, if_false, Bool.false_eq_true, if_neg hdd, if_pos c7, hw]
            exact e
      have one : Ev (fun k => spec_Clean.j1 k s st (fr : Int) (i : Int) false) (shown (((sp (s.data.toList.drop (i + 1))).map PB).foldl stp (stp st (s.extract fr i)))) := by
        refine Ev_succ ?_
        have c8 : 0 ≤ (fr : Int) := by omega
        have c9 : (fr : Int) ≤ (i : Int) := by omega
        simp only [spec_Clean.j1, Bool.false_eq_true, if_false, if_pos c8, if_pos c9, if_pos ci, Int.toNat_natCast, hw]
        by_cases hp : (s.extract fr i).toList = []
        · simp only [if_pos hp]
          exact two true ⟨fun _ => .inl hp, fun _ => rfl⟩
        · simp only [if_neg hp]
          exact two _ ⟨fun h => .inr (beq_iff_eq.1 h), fun h => beq_iff_eq.2 (h.resolve_left hp)⟩
      refine Ev_succ ?_
      by_cases hi2 : i < s.size
      · have c1 : (i : Int) < (s.size : Int) := by omega
        have c2 : (bt s (i : Int) != 47) = false := by
          by_cases hb : bt s (i : Int) = 47
          · rw [hb]; rfl
          · exact absurd ⟨hi2, hb⟩ hgo
        simp only [spec_Clean.l0, if_pos ci, if_pos c1, if_pos c0, c2]
        exact one
      · have c1 : ¬ (i : Int) < (s.size : Int) := by omega
        simp only [spec_Clean.l0, if_pos ci, if_neg c1]
        exact one
def cleanTo (s : ByteArray) : ByteArray := if isP s = true then shown (cleaned s) else ⟨#[]⟩
theorem clean_spec (s : ByteArray) (hs : s.size ≤ 4000000) : Ev (fun k => spec_Clean.f k s) (cleanTo s) := by
  simp only [spec_Clean.f]
  refine Ev_call (path_spec s hs) ?_
  unfold cleanTo
  by_cases h : isP s = true
  · simp only [if_pos h]
    exact clean_spec_loop s (isP_size h).2 (s.size + 1) 0 0 [] (by omega) (by omega) (by omega) (fun j h1 h2 h3 => by omega) (by simp) (by simp)
  · simp only [if_neg h]
    exact Ev.now _
theorem clean_impl_loop (L : List ByteArray) (hL : L.length ≤ 41) (hz : ∀ x ∈ L, x.size ≤ 40) (d : Nat) : ∀ (i : Nat) (st : List ByteArray), i + d = L.length → st.length ≤ i → (∀ x ∈ st, x.size ≤ 40) →
    Ev (fun k => impl_Clean.l0 k st L (L.length : Int) (i : Int)) (shown ((L.drop i).foldl stp st)) := by
  induction d with
  | zero =>
    intro i st hi hl hzs
    have h0 : L.drop i = [] := List.drop_eq_nil_of_le (by omega)
    rw [h0, List.foldl_nil]
    refine Ev_succ ?_
    have c : ¬ (i : Int) < (L.length : Int) := by omega
    have hj : (Lib.join (st.map (·.data.toList)) [47]).length ≤ 2100 := by
      cases st with
      | nil => simp [Lib.join_nil]
      | cons x r =>
        rw [List.map_cons, Lib.join_cons, List.length_append]
        have h1 := joinTail_le (r.map (·.data.toList)) 40 (fun y hy => by obtain ⟨z, hz2, rfl⟩ := List.mem_map.1 hy; exact hzs z (.tail _ hz2))
        have h2 : x.data.toList.length ≤ 40 := hzs x (.head _)
        simp only [List.length_map, List.length_cons] at h1 hl
        omega
    have hjc : st.length ≤ 140737488355328 ∧ (Lib.join (st.map (·.data.toList)) (⟨#[47]⟩ : ByteArray).data.toList).length ≤ 140737488355328 := ⟨by omega, by
      have e : (⟨#[47]⟩ : ByteArray).data.toList = [47] := rfl
      rw [e]; omega⟩
    have hjz : 1 + (⟨(Lib.join (st.map (·.data.toList)) (⟨#[47]⟩ : ByteArray).data.toList).toArray⟩ : ByteArray).size ≤ 9223372036854775807 := by
      have e : (⟨(Lib.join (st.map (·.data.toList)) (⟨#[47]⟩ : ByteArray).data.toList).toArray⟩ : ByteArray).size = (Lib.join (st.map (·.data.toList)) [47]).length := rfl
      rw [e]; omega
    simp only [impl_Clean.l0, if_neg c, strings_Join.f, if_pos hjc, Option.bind_some, if_pos hjz]
    rw [← join_shown st]
    exact Ev.now _
  | succ d ih =>
    intro i st hi hl hzs
    have hil : i < L.length := by omega
    have hr : rdOf ByteArray.empty L (i : Int) = L[i] := by simp only [rdOf, Int.toNat_natCast, List.getD, List.getElem?_eq_getElem hil, Option.getD_some]
    have hxs : L[i].size ≤ 40 := hz _ (List.getElem_mem hil)
    have hlen := stp_len st L[i]
    have e := ih (i + 1) (stp st L[i]) (by omega) (by omega) (stp_size st _ 40 hzs hxs)
    have hw : wrap64 ((i : Int) + 1) = ((i + 1 : Nat) : Int) := by rw [w64 (by omega) (by omega)]; omega
    have c0 : 0 ≤ (i : Int) := by omega
    have c1 : (i : Int) < (L.length : Int) := by omega
    rw [List.drop_eq_getElem_cons hil, List.foldl_cons]
    generalize L[i] = x at hr hxs hlen e ⊢
    have two : ∀ b : Bool, (b = true ↔ x.toList = [] ∨ x.toList = [46]) → Ev (fun k => impl_Clean.j1 k st x L (L.length : Int) (i : Int) x b) (shown ((L.drop (i + 1)).foldl stp (stp st x))) := by
      intro b hb
      refine Ev_succ ?_
      by_cases hbt : b = true
      · have hs0 : stp st x = st := by
          unfold stp
          rcases hb.1 hbt with h | h
          · rw [if_pos h]
          · by_cases h' : x.toList = []
            · rw [if_pos h']
            · rw [if_neg h', if_pos h]
        rw [hs0] at e ⊢
        simp only [impl_Clean.j1, hbt, if_true, hw]
        exact e
      · have hno : ¬ (x.toList = [] ∨ x.toList = [46]) := fun h => hbt (hb.2 h)
        have hn1 : ¬ x.toList = [] := fun h => hno (.inl h)
        have hn2 : ¬ x.toList = [46] := fun h => hno (.inr h)
        by_cases hdd : x.toList = [46, 46]
        · have hs0 : stp st x = st.take (st.length - 1) := by unfold stp; rw [if_neg hn1, if_neg hn2, if_pos hdd]
          rw [hs0] at e ⊢
          have c4 : mx 0 (wrap64 ((st.length : Int) - 1)) = ((st.length - 1 : Nat) : Int) := by
            rw [w64 (by omega) (by omega)]
            unfold mx
            split <;> omega
          have c5 : 0 ≤ ((st.length - 1 : Nat) : Int) := by omega
          have c6 : ((st.length - 1 : Nat) : Int) ≤ (st.length : Int) := by omega
          simp only [impl_Clean.j1, hbt, if_false, Bool.false_eq_true, if_pos hdd, c4, if_pos c5, if_pos c6, Int.toNat_natCast, hw]
          exact e
        · have hs0 : stp st x = st ++ [x] := by unfold stp; rw [if_neg hn1, if_neg hn2, if_neg hdd]
          rw [hs0] at e ⊢
          have c7 : st.length < 8796093022208 := by omega
          simp only [impl_Clean.j1, hbt, if_false, Bool.false_eq_true, if_neg hdd, if_pos c7, hw]
          exact e
    refine Ev_succ ?_
    simp only [impl_Clean.l0, if_pos c1, if_pos c0, hr]
    by_cases hp : x.toList = []
    · have hpb : (x.toList == ([] : List UInt8)) = true := beq_iff_eq.2 hp
      simp only [if_pos hp, hpb]
      exact two true ⟨fun _ => .inl hp, fun _ => rfl⟩
    · simp only [if_neg hp]
      exact two _ ⟨fun h => .inr (beq_iff_eq.1 h), fun h => beq_iff_eq.2 (h.resolve_left hp)⟩
theorem clean_impl (s : ByteArray) (hs : s.size ≤ 4000000) : Ev (fun k => impl_Clean.f k s) (cleanTo s) := by
  simp only [impl_Clean.f]
  refine Ev_call (path_impl s hs) ?_
  unfold cleanTo
  by_cases h : isP s = true
  · have h40 := (isP_size h).2
    have c : s.size < 4294967281 ∧ 1 ≤ (⟨#[47]⟩ : ByteArray).size := ⟨by omega, Nat.le_refl _⟩
    simp only [if_pos h, strings_Split.f, if_pos c, Option.bind_some, splitB_sp]
    have hl1 := sp_len s.data.toList
    have hl2 := sp_size s.data.toList
    rw [data_length] at hl1 hl2
    exact clean_impl_loop ((sp s.data.toList).map PB) (by rw [List.length_map]; omega) (fun x hx => by
      obtain ⟨p, hp, rfl⟩ := List.mem_map.1 hx
      have := hl2 p hp
      rw [size_PB]; omega) _ 0 [] (Nat.zero_add _) (by simp) (by simp)
  · simp only [if_neg h]
    exact Ev.now _
def okAt (L : List S51) (i : Nat) : Bool :=
  !((L.getD i z51).f0.toList == [47]) && ((cleanTo (L.getD i z51).f0).toList == (L.getD i z51).f0.toList) && !((L.getD i z51).f0.toList == []) &&
    (decide (i = 0) || Op.bytesLess (L.getD (i - 1) z51).f0.toList (L.getD i z51).f0.toList) && decide ((L.getD i z51).f1.size ≤ 1500)
def okFrom (L : List S51) (i : Nat) : Nat → Bool
  | 0 => true
  | d + 1 => okAt L i && okFrom L (i + 1) d
def filesOk (L : List S51) : Bool := decide (L.length ≤ 8) && okFrom L 0 L.length
theorem files_loop (L : List S51) (hl : L.length ≤ 1048576) (hs : ∀ x ∈ L, x.f0.size ≤ 2097152 ∧ x.f1.size ≤ 2097152) (d : Nat) : ∀ i : Nat, i + d = L.length →
    Ev (fun k => spec_FilesOk.l0 k L i) (okFrom L i d) ∧ Ev (fun k => impl_FilesOk.l0 k L L L.length i) (okFrom L i d && decide ((L.length : Int) ≤ 8)) := by
  induction d with
  | zero =>
    intro i hi
    refine ⟨Ev_succ ?_, Ev_succ ?_⟩
    · simp (disch := omega) only [spec_FilesOk.l0, if_neg]; exact Ev.now _
    · simp (disch := omega) only [impl_FilesOk.l0, if_neg]; exact Ev_some (by simp [okFrom])
  | succ d ih =>
    intro i hi
    have e0 : L.getD i z51 = rd_T51 L (i : Int) := rfl
    have hx := hs (rd_T51 L (i : Int)) (by rw [← e0, getD_at L _ i (by omega)]; exact List.getElem_mem _)
    obtain ⟨ihs, ihi⟩ := ih (i + 1) (by omega)
    have es := clean_spec (rd_T51 L (i : Int)).f0 (by omega)
    have ei := clean_impl (rd_T51 L (i : Int)).f0 (by omega)
    by_cases c0 : (rd_T51 L (i : Int)).f0.toList = [47]
    · have hv : okAt L i = false := by unfold okAt; rw [e0]; simp [c0]
      simp only [okFrom, hv, Bool.false_and]
      refine ⟨Ev_succ ?_, Ev_succ ?_⟩
      · simp (disch := omega) only [spec_FilesOk.l0, if_pos, c0, if_true]; exact Ev.now _
      · simp (disch := omega) only [impl_FilesOk.l0, if_pos]
        refine Ev_call ei ?_
        simp only [c0, if_true, ite_self]; exact Ev.now _
    by_cases c1 : (cleanTo (rd_T51 L (i : Int)).f0).toList = (rd_T51 L (i : Int)).f0.toList
    case neg =>
      have hv : okAt L i = false := by unfold okAt; rw [e0]; simp [c1]
      simp only [okFrom, hv, Bool.false_and]
      refine ⟨Ev_succ ?_, Ev_succ ?_⟩
      · simp (disch := omega) only [spec_FilesOk.l0, if_pos, c0, if_false]
        refine Ev_call es ?_
        simp only [c1, if_false]; exact Ev.now _
      · simp (disch := omega) only [impl_FilesOk.l0, if_pos]
        refine Ev_call ei ?_
        simp only [c1, if_false]; exact Ev.now _
    by_cases c2 : (rd_T51 L (i : Int)).f0.toList = []
    · have hv : okAt L i = false := by unfold okAt; rw [e0]; simp [c2]
      simp only [okFrom, hv, Bool.false_and]
      refine ⟨Ev_succ ?_, Ev_succ ?_⟩
      · simp (disch := omega) only [spec_FilesOk.l0, if_pos, c0, if_false]
        refine Ev_call es ?_
        exact Ev.congr (fun k => by simp only [if_pos c1, if_pos c2]) (Ev.now _)
      · simp (disch := omega) only [impl_FilesOk.l0, if_pos]
        refine Ev_call ei ?_
        exact Ev.congr (fun k => by simp only [if_pos c1, if_neg c0, if_pos c2]) (Ev.now _)
    by_cases ci : (i : Int) > 0
    · have e3 : ((i : Int) - 1).toNat = i - 1 := by omega
      have hw : wrap64 ((i : Int) - 1) = (i : Int) - 1 := w64 (by omega) (by omega)
      have e1 : L.getD (i - 1) z51 = rd_T51 L (wrap64 ((i : Int) - 1)) := by rw [hw, rd_T51, e3]
      have d1 : 0 ≤ wrap64 ((i : Int) - 1) := by rw [hw]; omega
      have d2 : wrap64 ((i : Int) - 1) < (L.length : Int) := by rw [hw]; omega
      by_cases cl : Op.bytesLess ((rd_T51 L (wrap64 ((i : Int) - 1))).f0.toList) ((rd_T51 L (i : Int)).f0.toList) = true
      · by_cases c3 : ((rd_T51 L (i : Int)).f1.size : Int) > 1500
        · have hv : okAt L i = false := by
            have h3 : ¬ (rd_T51 L (i : Int)).f1.size ≤ 1500 := by omega
            unfold okAt; rw [e0, decide_eq_false h3]; simp
          simp only [okFrom, hv, Bool.false_and]
          refine ⟨Ev_succ ?_, Ev_succ ?_⟩
          · simp (disch := omega) only [spec_FilesOk.l0, if_pos, c0, if_false]
            refine Ev_call es ?_
            exact Ev.congr (fun k => by simp only [if_pos c1, if_neg c2, if_pos ci, if_pos d1, if_pos d2, if_pos cl, if_pos c3]) (Ev.now _)
          · simp (disch := omega) only [impl_FilesOk.l0, if_pos]
            refine Ev_call ei ?_
            exact Ev.congr (fun k => by simp only [if_pos c1, if_neg c0, if_neg c2, if_pos c3]) (Ev.now _)
        · have hv : okAt L i = true := by
            have h3 : (rd_T51 L (i : Int)).f1.size ≤ 1500 := by omega
            unfold okAt; rw [e0, e1, decide_eq_true h3, cl]; simp [c0, c1, c2]
          have hn : wrap64 ((i : Int) + 1) = ((i + 1 : Nat) : Int) := by rw [w64 (by omega) (by omega)]; omega
          simp only [okFrom, hv, Bool.true_and]
          refine ⟨Ev_succ ?_, Ev_succ ?_⟩
          · simp (disch := omega) only [spec_FilesOk.l0, if_pos, c0, if_false]
            refine Ev_call es ?_
            simp only [if_pos c1, if_neg c2, if_pos ci, if_pos d1, if_pos d2, if_pos cl, if_neg c3, hn]; exact ihs
          · simp (disch := omega) only [impl_FilesOk.l0, if_pos]
            refine Ev_call ei ?_
            simp only [if_pos c1, if_neg c0, if_neg c2, if_neg c3, if_pos ci, if_pos d1, if_pos d2, if_pos cl, hn]; exact ihi
      · have hv : okAt L i = false := by
          have h0 : ¬ i = 0 := by omega
          unfold okAt; rw [e0, e1, decide_eq_false h0, Bool.eq_false_iff.2 cl]; simp
        simp only [okFrom, hv, Bool.false_and]
        refine ⟨Ev_succ ?_, Ev_succ ?_⟩
        · simp (disch := omega) only [spec_FilesOk.l0, if_pos, c0, if_false]
          refine Ev_call es ?_
          exact Ev.congr (fun k => by simp only [if_pos c1, if_neg c2, if_pos ci, if_pos d1, if_pos d2, if_neg cl]) (Ev.now _)
        · simp (disch := omega) only [impl_FilesOk.l0, if_pos]
          refine Ev_call ei ?_
          simp only [if_pos c1, if_neg c0, if_neg c2]
          by_cases c3 : ((rd_T51 L (i : Int)).f1.size : Int) > 1500
          · exact Ev.congr (fun k => by simp only [if_pos c3]) (Ev.now _)
          · exact Ev.congr (fun k => by simp only [if_neg c3, if_pos ci, if_pos d1, if_pos d2, if_neg cl]) (Ev.now _)
    · have h0 : i = 0 := by omega
      have hn : wrap64 ((i : Int) + 1) = ((i + 1 : Nat) : Int) := by rw [w64 (by omega) (by omega)]; omega
      by_cases c3 : ((rd_T51 L (i : Int)).f1.size : Int) > 1500
      · have hv : okAt L i = false := by
          have h3 : ¬ (rd_T51 L (i : Int)).f1.size ≤ 1500 := by omega
          unfold okAt; rw [e0, decide_eq_false h3]; simp
        simp only [okFrom, hv, Bool.false_and]
        refine ⟨Ev_succ ?_, Ev_succ ?_⟩
        · simp (disch := omega) only [spec_FilesOk.l0, if_pos, c0, if_false]
          refine Ev_call es ?_
          exact Ev.congr (fun k => by simp only [if_pos c1, if_neg c2, if_neg ci, if_pos c3]) (Ev.now _)
        · simp (disch := omega) only [impl_FilesOk.l0, if_pos]
          refine Ev_call ei ?_
          exact Ev.congr (fun k => by simp only [if_pos c1, if_neg c0, if_neg c2, if_pos c3]) (Ev.now _)
      · have hv : okAt L i = true := by
          have h3 : (rd_T51 L (i : Int)).f1.size ≤ 1500 := by omega
          unfold okAt; rw [e0, decide_eq_true h3, decide_eq_true h0]; simp [c0, c1, c2]
        simp only [okFrom, hv, Bool.true_and]
        refine ⟨Ev_succ ?_, Ev_succ ?_⟩
        · simp (disch := omega) only [spec_FilesOk.l0, if_pos, c0, if_false]
          refine Ev_call es ?_
          simp only [if_pos c1, if_neg c2, if_neg ci, if_neg c3, hn]; exact ihs
        · simp (disch := omega) only [impl_FilesOk.l0, if_pos]
          refine Ev_call ei ?_
          simp only [if_pos c1, if_neg c0, if_neg c2, if_neg c3, if_neg ci, hn]; exact ihi
theorem files_spec (L : List S51) (hl : L.length ≤ 1048576) (hs : ∀ x ∈ L, x.f0.size ≤ 2097152 ∧ x.f1.size ≤ 2097152) : Ev (fun k => spec_FilesOk.f k L) (filesOk L) := by
  unfold filesOk
  by_cases h : L.length ≤ 8
  · rw [decide_eq_true h, Bool.true_and]
    simp (disch := omega) only [spec_FilesOk.f, if_neg]
    exact (files_loop L hl hs L.length 0 (by omega)).1
  · rw [decide_eq_false h, Bool.false_and]
    simp (disch := omega) only [spec_FilesOk.f, if_pos]; exact Ev.now _
theorem files_impl (L : List S51) (hl : L.length ≤ 1048576) (hs : ∀ x ∈ L, x.f0.size ≤ 2097152 ∧ x.f1.size ≤ 2097152) : Ev (fun k => impl_FilesOk.f k L) (filesOk L) := by
  have e := (files_loop L hl hs L.length 0 (by omega)).2
  have q : (okFrom L 0 L.length && decide ((L.length : Int) ≤ 8)) = filesOk L := by
    unfold filesOk
    rw [Bool.and_comm]
    congr 1
    by_cases h : L.length ≤ 8
    · rw [decide_eq_true h, decide_eq_true (by omega)]
    · rw [decide_eq_false h, decide_eq_false (by omega)]
  rw [q] at e
  simp only [impl_FilesOk.f]
  exact e
theorem okFrom_iff (L : List S51) (d : Nat) : ∀ i, okFrom L i d = true ↔ ∀ j, i ≤ j → j < i + d → okAt L j = true := by
  induction d with
  | zero => intro i; exact ⟨fun _ j h1 h2 => absurd h2 (by omega), fun _ => rfl⟩
  | succ d ih =>
    intro i
    simp only [okFrom, Bool.and_eq_true, ih (i + 1)]
    constructor
    · rintro ⟨h, h2⟩ j h3 h4
      rcases Nat.eq_or_lt_of_le h3 with e | e
      · subst e; exact h
      · exact h2 j e (by omega)
    · intro h
      exact ⟨h i (Nat.le_refl _) (by omega), fun j h1 h2 => h j (by omega) (by omega)⟩
theorem filesOk_iff (L : List S51) : filesOk L = true ↔ L.length ≤ 8 ∧ ∀ j, j < L.length → okAt L j = true := by
  unfold filesOk
  rw [Bool.and_eq_true, decide_eq_true_eq, okFrom_iff]
  exact ⟨fun ⟨a, b⟩ => ⟨a, fun j h => b j (by omega) (by omega)⟩, fun ⟨a, b⟩ => ⟨a, fun j _ h => b j (by omega)⟩⟩
theorem svar_loop (d : Nat) : ∀ (x : Int) (acc : List Int), x.toNat ≤ d → 0 ≤ x → (acc.length : Int) + x / 4 < 140737488355328 →
    Ev (fun k => spec_Var.l0 k x acc) (strOfNums (acc ++ varL x.toNat)) := by
  induction d with
  | zero =>
    intro x acc hd h0 hl
    refine Ev_succ ?_
    rw [varL_small (by omega)]
    have e : x % 256 = (x.toNat : Int) := by omega
    simp (disch := omega) only [spec_Var.l0, if_pos, if_neg, e]; exact Ev.now _
  | succ d ih =>
    intro x acc hd h0 hl
    by_cases h : 128 ≤ x
    · have e1 := ih (x / 128) (acc ++ [(128 + x % 128) % 256]) (by omega) (by omega) (by simp; omega)
      refine Ev_succ ?_
      simp (disch := omega) only [spec_Var.l0, if_pos, w64, tdiv_nn, tmod_nn]
      rw [varL_big (by omega)]
      have e2 : ((128 + x.toNat % 128 : Nat) : Int) = (128 + x % 128) % 256 := by omega
      have e3 : x.toNat / 128 = (x / 128).toNat := by omega
      rw [e2, e3, show acc ++ (128 + x % 128) % 256 :: varL (x / 128).toNat = acc ++ [(128 + x % 128) % 256] ++ varL (x / 128).toNat by simp]
      exact e1
    · refine Ev_succ ?_
      rw [varL_small (by omega)]
      have e : x % 256 = (x.toNat : Int) := by omega
      simp (disch := omega) only [spec_Var.l0, if_pos, if_neg, e]; exact Ev.now _
theorem svar (x : Int) (h0 : 0 ≤ x) (h1 : x ≤ 562949953421311) : Ev (fun k => spec_Var.f k x) (strOfNums (varL x.toNat)) := by
  have e := svar_loop x.toNat x [] (Nat.le_refl _) h0 (by simp; omega)
  simp (disch := omega) only [spec_Var.f, spec_l1In.f, if_pos, Option.bind_some, decide_eq_true h1]
  exact e
theorem pow7 {j : Nat} (h : j ≤ 7) : 128 ^ j ≤ 562949953421312 := by
  have := Nat.pow_le_pow_right (n := 128) (by decide) h
  have e : 128 ^ 7 = 562949953421312 := by decide
  omega
/-- The inner loop comes to the value of the first bytes. -/
theorem inner (s : ByteArray) (kk : Nat) (hk : kk ≤ s.size) (h7 : kk ≤ 7) (r : Int × Int) (h : Ev (fun k => spec_ReadVar.l1 k s kk (valL ((bytesOf s).take kk)) (-1)) r) (j : Nat) :
    ∀ i : Nat, i ≤ kk → j = i → Ev (fun k => spec_ReadVar.l1 k s kk (valL (((bytesOf s).take kk).drop i)) ((i : Int) - 1)) r := by
  induction j with
  | zero =>
    intro i _ hi
    subst hi
    exact h
  | succ j ih =>
    intro i hi he
    subst he
    have hb := bt_range s j
    have hl : (bytesOf s).length = s.size := B_len s
    have hlt : j < ((bytesOf s).take kk).length := by rw [List.length_take]; omega
    have hd : ((bytesOf s).take kk).drop j = bt s j :: ((bytesOf s).take kk).drop (j + 1) := by
      rw [List.drop_eq_getElem_cons hlt, List.getElem_take, bt_B]
      congr 1
      rw [getD_at _ _ _ (by rw [hl]; simp; omega)]
      rfl
    have hv := valL_lt (((bytesOf s).take kk).drop (j + 1))
    have hn := valL_nn (((bytesOf s).take kk).drop (j + 1))
    have hp := pow7 (j := (((bytesOf s).take kk).drop (j + 1)).length) (by simp; omega)
    have e := ih j (by omega) rfl
    rw [hd] at e
    simp only [valL] at e
    refine Ev_succ ?_
    have e1 : ((j + 1 : Nat) : Int) - 1 = j := by omega
    rw [e1]
    have e2 : valL (((bytesOf s).take kk).drop (j + 1)) * 128 + bt s j % 128 = bt s j % 128 + 128 * valL (((bytesOf s).take kk).drop (j + 1)) := by omega
    simp (disch := omega) only [spec_ReadVar.l1, if_pos, w64, tmod_nn, e2]
    exact e
theorem chk (s : ByteArray) (kk : Nat) (n : Nat) : (strOfNums (varL n)).toList = (s.extract 0 kk).toList ↔ varL n = (bytesOf s).take kk := by
  rw [toList_B, B_str _ (varL_range n), B_ext, List.drop_zero]
theorem spec_hit (s : ByteArray) (hz : s.size ≤ 1048576) (kk : Nat) (h1 : 1 ≤ kk) (h7 : kk ≤ 7) (hs : kk ≤ s.size) (h : varL (valL ((bytesOf s).take kk)).toNat = (bytesOf s).take kk) :
    Ev (fun k => spec_ReadVar.l0 k s kk) (valL ((bytesOf s).take kk), (kk : Int)) := by
  have hv := valL_lt ((bytesOf s).take kk)
  have hn := valL_nn ((bytesOf s).take kk)
  have hp := pow7 (j := ((bytesOf s).take kk).length) (by simp; omega)
  have hin := inner s kk hs h7 (valL ((bytesOf s).take kk), (kk : Int)) (by
    refine Ev_succ ?_
    simp (disch := omega) only [spec_ReadVar.l1, if_neg]
    refine Ev_call (svar _ hn (by omega)) ?_
    simp (disch := omega) only [if_pos, Int.toNat_natCast]
    simp only [if_pos ((chk s kk _).2 h)]
    exact Ev.now _) kk kk (Nat.le_refl _) rfl
  rw [List.drop_of_length_le (by simp; omega)] at hin
  refine Ev_succ ?_
  simp (disch := omega) only [spec_ReadVar.l0, if_pos, decide_eq_true (show (kk : Int) ≤ (s.size : Int) by omega)]
  refine Ev_succ ?_
  simp (disch := omega) only [spec_ReadVar.j1, if_true, w64]
  exact hin
theorem spec_miss (s : ByteArray) (hz : s.size ≤ 1048576) (kk : Nat) (h1 : 1 ≤ kk) (h7 : kk ≤ 7) (hs : kk ≤ s.size) (h : varL (valL ((bytesOf s).take kk)).toNat ≠ (bytesOf s).take kk) (r : Int × Int)
    (hr : Ev (fun k => spec_ReadVar.l0 k s ((kk + 1 : Nat) : Int)) r) : Ev (fun k => spec_ReadVar.l0 k s kk) r := by
  have hv := valL_lt ((bytesOf s).take kk)
  have hn := valL_nn ((bytesOf s).take kk)
  have hp := pow7 (j := ((bytesOf s).take kk).length) (by simp; omega)
  have hin := inner s kk hs h7 r (by
    refine Ev_succ ?_
    simp (disch := omega) only [spec_ReadVar.l1, if_neg]
    refine Ev_call (svar _ hn (by omega)) ?_
    simp (disch := omega) only [if_pos, Int.toNat_natCast, w64]
    simp only [if_neg (fun e => h ((chk s kk _).1 e))]
    exact hr) kk kk (Nat.le_refl _) rfl
  rw [List.drop_of_length_le (by simp; omega)] at hin
  refine Ev_succ ?_
  simp (disch := omega) only [spec_ReadVar.l0, if_pos, decide_eq_true (show (kk : Int) ≤ (s.size : Int) by omega)]
  refine Ev_succ ?_
  simp (disch := omega) only [spec_ReadVar.j1, if_true, w64]
  exact hin
theorem spec_end (s : ByteArray) (kk : Nat) (h : 7 < kk ∨ s.size < kk) : Ev (fun k => spec_ReadVar.l0 k s kk) (0, 0) := by
  refine Ev_succ ?_
  by_cases h7 : kk ≤ 7
  · simp (disch := omega) only [spec_ReadVar.l0, if_pos, decide_eq_false (show ¬ (kk : Int) ≤ (s.size : Int) by omega)]
    refine Ev_succ ?_
    simp only [spec_ReadVar.j1, Bool.false_eq_true, if_false]; exact Ev.now _
  · simp (disch := omega) only [spec_ReadVar.l0, if_neg]
    refine Ev_succ ?_
    simp only [spec_ReadVar.j1, Bool.false_eq_true, if_false]; exact Ev.now _
/-- Behind a byte that ends a number nothing is found any more. -/
theorem spec_rest (s : ByteArray) (hz : s.size ≤ 1048576) (j : Nat) (hj : (bytesOf s).getD j 0 < 128) (d : Nat) : ∀ kk : Nat, j + 2 ≤ kk → kk + d = 9 + j → Ev (fun k => spec_ReadVar.l0 k s kk) (0, 0) := by
  induction d with
  | zero => intro kk h1 hd; exact spec_end s kk (by omega)
  | succ d ih =>
    intro kk h1 hd
    by_cases h7 : kk ≤ 7 ∧ kk ≤ s.size
    · obtain ⟨h7, hs⟩ := h7
      have hl : (bytesOf s).length = s.size := B_len s
      refine spec_miss s hz kk (by omega) h7 hs (varL_not_mid _ j (by rw [List.length_take]; omega) ?_ _) _ (ih (kk + 1) (by omega) (by omega))
      rw [List.getD_eq_getElem?_getD, List.getElem?_take_of_lt (by omega), ← List.getD_eq_getElem?_getD]
      exact hj
    · exact spec_end s kk (by omega)
theorem shl7 (v : Int) (j : Nat) (hj : j ≤ 6) (h0 : 0 ≤ v) (h1 : v < 128) : shl .i64 v (7 * (j : Int)) = v * ((128 ^ j : Nat) : Int) := by
  unfold shl
  have e : min (7 * (j : Int)).toNat IntKind.i64.bits = 7 * j := by simp only [IntKind.bits]; omega
  have e2 : (2 : Int) ^ (7 * j) = ((128 ^ j : Nat) : Int) := by rw [Int.pow_mul, Int.natCast_pow]; rfl
  rw [e, e2]
  have hp := pow7 (j := j) (by omega)
  have hp6 := pow7 (j := j + 1) (by omega)
  have hs6 : 128 ^ (j + 1) = 128 ^ j * 128 := Nat.pow_succ _ _
  have hq : v * ((128 ^ j : Nat) : Int) ≤ 128 * ((128 ^ j : Nat) : Int) := Int.mul_le_mul_of_nonneg_right (by omega) (Int.natCast_nonneg _)
  have hq0 : 0 ≤ v * ((128 ^ j : Nat) : Int) := Int.mul_nonneg h0 (Int.natCast_nonneg _)
  exact wraps_i64 _ hq0 (by omega)
theorem both (s : ByteArray) (hz : s.size ≤ 1048576) (d : Nat) : ∀ j : Nat, j + d = 8 → j ≤ s.size → (∀ y ∈ (bytesOf s).take j, 128 ≤ y ∧ y < 256) →
    ∃ r, Ev (fun k => spec_ReadVar.l0 k s ((j + 1 : Nat) : Int)) r ∧ Ev (fun k => impl_ReadVar.l0 k s (valL ((bytesOf s).take j)) j) r := by
  have hl : (bytesOf s).length = s.size := B_len s
  induction d with
  | zero =>
    intro j hj hs hp
    refine ⟨(0, 0), spec_end s _ (by omega), Ev_succ ?_⟩
    simp (disch := omega) only [impl_ReadVar.l0, if_neg]
    refine Ev_succ ?_
    simp only [impl_ReadVar.j1, Bool.false_eq_true, if_false]; exact Ev.now _
  | succ d ih =>
    intro j hj hs hp
    by_cases hjs : j < 7 ∧ j < s.size
    · obtain ⟨hj7, hjs⟩ := hjs
      have hb := bt_range s j
      have hbt : bt s j = (bytesOf s).getD j 0 := by rw [bt_B]; rfl
      have htk : (bytesOf s).take (j + 1) = (bytesOf s).take j ++ [bt s j] := by
        rw [List.take_succ_eq_append_getElem (by omega), hbt, getD_at _ _ _ (by omega)]
      have hlen : ((bytesOf s).take j).length = j := by rw [List.length_take]; omega
      have hv := valL_lt ((bytesOf s).take j)
      have hn := valL_nn ((bytesOf s).take j)
      rw [hlen] at hv
      have hpw := pow7 (j := j) (by omega)
      have hpos : 0 < 128 ^ j := Nat.pow_pos (by decide)
      have hval : valL ((bytesOf s).take (j + 1)) = valL ((bytesOf s).take j) + bt s j % 128 * ((128 ^ j : Nat) : Int) := by rw [htk, valL_snoc, hlen]
      have hq : bt s j % 128 * ((128 ^ j : Nat) : Int) ≤ 127 * ((128 ^ j : Nat) : Int) := Int.mul_le_mul_of_nonneg_right (by omega) (by omega)
      have hq0 : 0 ≤ bt s j % 128 * ((128 ^ j : Nat) : Int) := Int.mul_nonneg (by omega) (by omega)
      have hp6 := pow7 (j := j + 1) (by omega)
      have hs6 : 128 ^ (j + 1) = 128 ^ j * 128 := Nat.pow_succ _ _
      have eor : Go.bits .or .i64 (valL ((bytesOf s).take j)) (shl .i64 (Go.bits .and .i64 (bt s j) 127) (7 * (j : Int))) = valL ((bytesOf s).take (j + 1)) := by
        rw [Kit.i64_and127 (x := bt s j) (by omega) (by omega), shl7 _ j (by omega) (by omega) (by omega), hval]
        have e27 : (2 : Int) ^ (7 * j) = ((128 ^ j : Nat) : Int) := by rw [Int.pow_mul, Int.natCast_pow]; rfl
        refine i64_or_high (7 * j) hq0 ?_ (by omega) hn (by rw [e27]; exact hv) (by omega)
        rw [e27]; exact Int.mul_emod_left _ _
      by_cases hbig : 127 < bt s j
      · obtain ⟨r, e1, e2⟩ := ih (j + 1) (by omega) (by omega) (by
          rw [htk]
          intro y hy
          rcases List.mem_append.1 hy with hy | hy
          · exact hp y hy
          · obtain rfl := List.mem_singleton.1 hy; omega)
        refine ⟨r, spec_miss s hz (j + 1) (by omega) (by omega) (by omega) (by rw [htk]; exact varL_not_big _ _ (by omega) _) r e1, Ev_succ ?_⟩
        simp (disch := omega) only [impl_ReadVar.l0, if_pos, decide_eq_true (show (j : Int) < (s.size : Int) by omega)]
        refine Ev_succ ?_
        simp (disch := omega) only [impl_ReadVar.j1, if_true, if_pos, w64, eor]
        exact e2
      · by_cases hzr : bt s j = 0 ∧ 0 < j
        · obtain ⟨hzr, hj0⟩ := hzr
          refine ⟨(0, 0), spec_miss s hz (j + 1) (by omega) (by omega) (by omega) (by
            rw [htk, hzr]
            exact varL_not_zero _ (fun e => by rw [e] at hlen; simp at hlen; omega) _) _ (spec_rest s hz j (by omega) 7 (j + 1 + 1) (by omega) (by omega)), Ev_succ ?_⟩
          simp (disch := omega) only [impl_ReadVar.l0, if_pos, decide_eq_true (show (j : Int) < (s.size : Int) by omega)]
          refine Ev_succ ?_
          simp (disch := omega) only [impl_ReadVar.j1, if_true, if_pos, if_neg, w64]
          exact Ev.now _
        · have hcan : varL (valL ((bytesOf s).take (j + 1))).toNat = (bytesOf s).take (j + 1) := by
            rw [htk]
            exact (varL_valL (bt s j) (by omega) (by omega) _ hp (fun hne => by
              have : j ≠ 0 := fun e => by subst e; simp at hne
              omega)).1
          refine ⟨_, spec_hit s hz (j + 1) (by omega) (by omega) (by omega) hcan, Ev_succ ?_⟩
          simp (disch := omega) only [impl_ReadVar.l0, if_pos, decide_eq_true (show (j : Int) < (s.size : Int) by omega)]
          refine Ev_succ ?_
          by_cases h00 : bt s j = 0
          · simp (disch := omega) only [impl_ReadVar.j1, if_true, if_pos, if_neg, w64, eor]
            exact Ev_some (by simp)
          · simp (disch := omega) only [impl_ReadVar.j1, if_true, if_pos, if_neg, w64, eor]
            exact Ev_some (by simp)
    · refine ⟨(0, 0), spec_end s _ (by omega), Ev_succ ?_⟩
      by_cases h7 : j < 7
      · simp (disch := omega) only [impl_ReadVar.l0, if_pos, decide_eq_false (show ¬ (j : Int) < (s.size : Int) by omega)]
        refine Ev_succ ?_
        simp only [impl_ReadVar.j1, Bool.false_eq_true, if_false]; exact Ev.now _
      · simp (disch := omega) only [impl_ReadVar.l0, if_neg]
        refine Ev_succ ?_
        simp only [impl_ReadVar.j1, Bool.false_eq_true, if_false]; exact Ev.now _
theorem bt_rng (s : ByteArray) (i : Int) : 0 ≤ bt s i ∧ bt s i < 256 := by
  rw [bt_B]
  rcases Nat.lt_or_ge i.toNat (bytesOf s).length with h | h
  · rw [getD_at _ _ _ h]; exact B_range s _ (List.getElem_mem _)
  · rw [List.getD_eq_getElem?_getD, List.getElem?_eq_none h]; exact ⟨Int.le_refl 0, by decide⟩
/-! the numbers of variable length -/
theorem valL_varL (n : Nat) : valL (varL n) = n := by
  induction n using Nat.strongRecOn with
  | _ n ih =>
    by_cases h : n < 128
    · rw [varL_small h]; simp only [valL]; omega
    · rw [varL_big h]; simp only [valL]; rw [ih (n / 128) (by omega)]; omega
def rvL (l : List Int) : Nat → Nat → Int × Int
  | 0, _ => (0, 0)
  | d + 1, j => if j < l.length then (if 127 < l.getD j 0 then rvL l d (j + 1) else if l.getD j 0 = 0 ∧ 0 < j then (0, 0) else (valL (l.take (j + 1)), ((j + 1 : Nat) : Int))) else (0, 0)
theorem rv_impl (s : ByteArray) (hz : s.size ≤ 1048576) (d : Nat) : ∀ j : Nat, j + d = 7 → j ≤ s.size → (∀ y ∈ (bytesOf s).take j, 128 ≤ y ∧ y < 256) →
    Ev (fun k => impl_ReadVar.l0 k s (valL ((bytesOf s).take j)) j) (rvL (bytesOf s) d j) := by
  have hl : (bytesOf s).length = s.size := B_len s
  induction d with
  | zero =>
    intro j hj hs hp
    refine Ev_succ ?_
    simp (disch := omega) only [impl_ReadVar.l0, if_neg]
    refine Ev_succ ?_
    simp only [impl_ReadVar.j1, Bool.false_eq_true, if_false]; exact Ev.now _
  | succ d ih =>
    intro j hj hs hp
    by_cases hjs : j < s.size
    · have hb := bt_rng s j
      have hbt : bt s j = (bytesOf s).getD j 0 := by rw [bt_B]; rfl
      have htk : (bytesOf s).take (j + 1) = (bytesOf s).take j ++ [bt s j] := by
        rw [List.take_succ_eq_append_getElem (by omega), hbt, getD_at _ _ _ (by omega)]
      have hlen : ((bytesOf s).take j).length = j := by rw [List.length_take]; omega
      have hv := valL_lt ((bytesOf s).take j)
      have hn := valL_nn ((bytesOf s).take j)
      rw [hlen] at hv
      have hpw := pow7 (j := j) (by omega)
      have hpos : 0 < 128 ^ j := Nat.pow_pos (by decide)
      have hval : valL ((bytesOf s).take (j + 1)) = valL ((bytesOf s).take j) + bt s j % 128 * ((128 ^ j : Nat) : Int) := by rw [htk, valL_snoc, hlen]
      have hq : bt s j % 128 * ((128 ^ j : Nat) : Int) ≤ 127 * ((128 ^ j : Nat) : Int) := Int.mul_le_mul_of_nonneg_right (by omega) (by omega)
      have hq0 : 0 ≤ bt s j % 128 * ((128 ^ j : Nat) : Int) := Int.mul_nonneg (by omega) (by omega)
      have hp6 := pow7 (j := j + 1) (by omega)
      have hs6 : 128 ^ (j + 1) = 128 ^ j * 128 := Nat.pow_succ _ _
      have eor : Go.bits .or .i64 (valL ((bytesOf s).take j)) (shl .i64 (Go.bits .and .i64 (bt s j) 127) (7 * (j : Int))) = valL ((bytesOf s).take (j + 1)) := by
        rw [Kit.i64_and127 (x := bt s j) (by omega) (by omega), shl7 _ j (by omega) (by omega) (by omega), hval]
        have e27 : (2 : Int) ^ (7 * j) = ((128 ^ j : Nat) : Int) := by rw [Int.pow_mul, Int.natCast_pow]; rfl
        refine i64_or_high (7 * j) hq0 ?_ (by omega) hn (by rw [e27]; exact hv) (by omega)
        rw [e27]; exact Int.mul_emod_left _ _
      rw [rvL, if_pos (by omega), ← hbt]
      by_cases hbig : 127 < bt s j
      · rw [if_pos hbig]
        have e2 := ih (j + 1) (by omega) (by omega) (by
          rw [htk]
          intro y hy
          rcases List.mem_append.1 hy with hy | hy
          · exact hp y hy
          · obtain rfl := List.mem_singleton.1 hy; omega)
        refine Ev_succ ?_
        simp (disch := omega) only [impl_ReadVar.l0, if_pos, decide_eq_true (show (j : Int) < (s.size : Int) by omega)]
        refine Ev_succ ?_
        simp (disch := omega) only [impl_ReadVar.j1, if_true, if_pos, w64, eor]
        exact e2
      · rw [if_neg hbig]
        refine Ev_succ ?_
        simp (disch := omega) only [impl_ReadVar.l0, if_pos, decide_eq_true (show (j : Int) < (s.size : Int) by omega)]
        refine Ev_succ ?_
        by_cases hzr : bt s j = 0 ∧ 0 < j
        · rw [if_pos hzr]
          obtain ⟨hzr, hj0⟩ := hzr
          simp (disch := omega) only [impl_ReadVar.j1, if_true, if_pos, if_neg, w64]
          exact Ev.now _
        · rw [if_neg hzr]
          by_cases h00 : bt s j = 0
          · simp (disch := omega) only [impl_ReadVar.j1, if_true, if_pos, if_neg, w64, eor]
            exact Ev_some (by simp)
          · simp (disch := omega) only [impl_ReadVar.j1, if_true, if_pos, if_neg, w64, eor]
            exact Ev_some (by simp)
    · rw [rvL, if_neg (by omega)]
      refine Ev_succ ?_
      simp (disch := omega) only [impl_ReadVar.l0, if_pos, decide_eq_false (show ¬ (j : Int) < (s.size : Int) by omega)]
      refine Ev_succ ?_
      simp only [impl_ReadVar.j1, Bool.false_eq_true, if_false]; exact Ev.now _
def readV (s : ByteArray) : Int × Int := rvL (bytesOf s) 7 0
theorem readV_impl (s : ByteArray) (hz : s.size ≤ 1048576) : Ev (fun k => impl_ReadVar.f k s) (readV s) := by
  have e := rv_impl s hz 7 0 rfl (by omega) (by simp)
  simp only [impl_ReadVar.f]
  exact e
/-- A number is read back, whatever stands behind. -/
theorem rvL_var (l : List Int) (p : List Int) (x : Int) (t : List Int) (hl : l = p ++ x :: t) (hp : ∀ y ∈ p, 128 ≤ y) (h1 : x < 128) (hx : p ≠ [] → x ≠ 0) (d : Nat) : ∀ j : Nat, p.length < j + d → j ≤ p.length → rvL l d j = (valL (p ++ [x]), ((p.length + 1 : Nat) : Int)) := by
  have hlen : l.length = p.length + 1 + t.length := by rw [hl]; exact len_mid p t x
  induction d with
  | zero => intro j h0 h2; omega
  | succ d ih =>
    intro j h0 h2
    rw [rvL, if_pos (by omega)]
    by_cases h : j < p.length
    · have e : l.getD j 0 = p[j] := by rw [hl, List.getD_eq_getElem?_getD, List.getElem?_append_left h, List.getElem?_eq_getElem h]; rfl
      have := hp p[j] (List.getElem_mem h)
      rw [e, if_pos (by omega)]
      exact ih (j + 1) (by omega) (by omega)
    · obtain rfl : j = p.length := by omega
      have e : l.getD p.length 0 = x := by
        have := getD_mid p t x 0
        rw [Int.toNat_natCast] at this
        rw [hl]; exact this
      have ht : l.take (p.length + 1) = p ++ [x] := by
        rw [hl, show p ++ x :: t = (p ++ [x]) ++ t by simp]
        exact List.take_left' (by simp)
      rw [e, if_neg (by omega), if_neg, ht]
      rintro ⟨a, b⟩
      exact hx (fun e2 => by rw [e2] at b; simp at b) a
/-- What is read is what would be written. -/
theorem rvL_canon (l : List Int) (h0 : ∀ y ∈ l, 0 ≤ y ∧ y < 256) (d : Nat) : ∀ j : Nat, j + d = 7 → (∀ y ∈ l.take j, 128 ≤ y ∧ y < 256) → (rvL l d j).2 = 0 ∨ ∃ m : Nat, (rvL l d j).2 = m ∧ m ≤ l.length ∧ 0 ≤ (rvL l d j).1 ∧ (rvL l d j).1 ≤ 562949953421311 ∧ varL (rvL l d j).1.toNat = l.take m := by
  induction d with
  | zero => intro j _ _; exact Or.inl rfl
  | succ d ih =>
    intro j hj hp
    rw [rvL]
    by_cases hjl : j < l.length
    · rw [if_pos hjl]
      have e : l.getD j 0 = l[j] := getD_at l 0 j hjl
      have hb := h0 l[j] (List.getElem_mem hjl)
      have htk : l.take (j + 1) = l.take j ++ [l[j]] := List.take_succ_eq_append_getElem hjl
      rw [e]
      by_cases hbig : 127 < l[j]
      · rw [if_pos hbig]
        refine ih (j + 1) (by omega) ?_
        rw [htk]
        intro y hy
        rcases List.mem_append.1 hy with hy | hy
        · exact hp y hy
        · obtain rfl := List.mem_singleton.1 hy; omega
      · rw [if_neg hbig]
        by_cases hz : l[j] = 0 ∧ 0 < j
        · rw [if_pos hz]; exact Or.inl rfl
        · rw [if_neg hz]
          refine Or.inr ⟨j + 1, rfl, by omega, valL_nn _, ?_, ?_⟩
          · have := valL_lt (l.take (j + 1))
            have hlen : (l.take (j + 1)).length = j + 1 := by rw [List.length_take]; omega
            rw [hlen] at this
            have hp7 := pow7 (j := j + 1) (by omega)
            simp only
            omega
          · rw [htk]
            have hlen : (l.take j).length = j := by rw [List.length_take]; omega
            exact (varL_valL l[j] (by omega) (by omega) _ hp (fun hne h00 => hz ⟨h00, by
              rcases Nat.eq_zero_or_pos j with q | q
              · subst q; simp at hne
              · exact q⟩)).1
    · rw [if_neg hjl]; exact Or.inl rfl
/-! hexadecimal -/
theorem str_size (l : List Int) : (strOfNums l).size = l.length := by
  show (strOfNums l).data.size = _
  rw [← Array.length_toList]; simp [strOfNums]
theorem var_size (n : Nat) (h : n ≤ 2097152) : (strOfNums (varL n)).size ≤ 4 := by
  rw [str_size]; exact varL_len n 3 (by omega)
def pieceB (s : ByteArray) : ByteArray := strOfNums (varL s.size) ++ s
def addF (a : ByteArray) (x : S51) : ByteArray := a ++ (pieceB x.f0 ++ pieceB x.f1)
def showTo (L : List S51) : ByteArray := if filesOk L = true then L.foldl addF (⟨#[102]⟩ ++ strOfNums (varL L.length)) else ⟨#[]⟩
theorem piece_size (s : ByteArray) (h : s.size ≤ 2097152) : (pieceB s).size ≤ 2097156 := by
  unfold pieceB; rw [size_app]; have := var_size s.size h; omega
theorem piece_spec (s : ByteArray) (h : s.size ≤ 2097152) : Ev (fun k => spec_l12Piece.f k s) (pieceB s) := by
  simp only [spec_l12Piece.f]
  refine Ev_call (svar s.size (by omega) (by omega)) ?_
  rw [Int.toNat_natCast]
  have := var_size s.size h
  have c : (strOfNums (varL s.size)).size + s.size ≤ 9223372036854775807 := by omega
  simp only [if_pos c]; exact Ev.now _
theorem show_loop (L : List S51) (hl : L.length ≤ 8) (hs : ∀ x ∈ L, x.f0.size ≤ 2097152 ∧ x.f1.size ≤ 2097152) (d : Nat) : ∀ (i : Nat) (acc : ByteArray), i + d = L.length → acc.size ≤ 100 + i * 8000000 →
    Ev (fun k => spec_ShowFiles.l0 k L acc i) ((L.drop i).foldl addF acc) := by
  induction d with
  | zero =>
    intro i acc hi _
    have hd : L.drop i = [] := List.drop_eq_nil_of_le (by omega)
    rw [hd]
    refine Ev_succ ?_
    simp (disch := omega) only [spec_ShowFiles.l0, if_neg]; exact Ev.now _
  | succ d ih =>
    intro i acc hi ha
    have e0 : rd_T51 L (i : Int) = L[i]'(by omega) := by
      show L.getD i _ = _; exact getD_at L _ i (by omega)
    have hx := hs (L[i]'(by omega)) (List.getElem_mem _)
    rw [List.drop_eq_getElem_cons (by omega), List.foldl_cons]
    generalize hq : L[i]'(by omega) = x at hx e0 ⊢
    have z0 := piece_size x.f0 hx.1
    have z1 := piece_size x.f1 hx.2
    have hadd : addF acc x = (acc ++ pieceB x.f0) ++ pieceB x.f1 := by unfold addF; rw [ByteArray.append_assoc]
    have hsz : (addF acc x).size = acc.size + ((pieceB x.f0).size + (pieceB x.f1).size) := by unfold addF; rw [size_app, size_app]
    have i1 := ih (i + 1) (addF acc x) (by omega) (by omega)
    have hn : wrap64 ((i : Int) + 1) = ((i + 1 : Nat) : Int) := by rw [w64 (by omega) (by omega)]; omega
    have c0 : (i : Int) < (L.length : Int) := by omega
    have c1 : 0 ≤ (i : Int) := by omega
    refine Ev_succ ?_
    · simp only [spec_ShowFiles.l0, if_pos c0, if_pos c1, e0]
      refine Ev_call (piece_spec x.f0 hx.1) ?_
      have c2 : acc.size + (pieceB x.f0).size ≤ 9223372036854775807 := by omega
      simp only [if_pos c2]
      refine Ev_call (piece_spec x.f1 hx.2) ?_
      have c3 : (acc ++ pieceB x.f0).size + (pieceB x.f1).size ≤ 9223372036854775807 := by rw [size_app]; omega
      simp only [if_pos c3, hn]
      rw [← hadd]; exact i1
theorem show_start (n : Nat) (h : n ≤ 8) : ((⟨#[102]⟩ : ByteArray) ++ strOfNums (varL n)).size ≤ 100 ∧ 1 + (strOfNums (varL n)).size ≤ 9223372036854775807 := by
  have := var_size n (by omega)
  have e : (⟨#[102]⟩ : ByteArray).size = 1 := rfl
  rw [size_app, e]; omega
theorem show_spec (L : List S51) (hl : L.length ≤ 1048576) (hs : ∀ x ∈ L, x.f0.size ≤ 2097152 ∧ x.f1.size ≤ 2097152) : Ev (fun k => spec_ShowFiles.f k L) (showTo L) := by
  simp only [spec_ShowFiles.f]
  refine Ev_call (files_spec L hl hs) ?_
  unfold showTo
  by_cases h : filesOk L = true
  · simp only [if_pos h]
    have h8 := ((filesOk_iff L).1 h).1
    refine Ev_call (svar L.length (by omega) (by omega)) ?_
    rw [Int.toNat_natCast]
    have q := show_start L.length h8
    simp only [if_pos q.2]
    have e := (show_loop L h8 hs L.length 0 _ (by omega) (by omega : ((⟨#[102]⟩ : ByteArray) ++ strOfNums (varL L.length)).size ≤ 100 + 0 * 8000000))
    exact e
  · simp only [if_neg h]; exact Ev.now _
theorem Ev_uniq {α : Type} {g : Nat → Option α} {a b : α} (h1 : Ev g a) (h2 : Ev g b) : a = b := by
  obtain ⟨k1, e1⟩ := h1
  obtain ⟨k2, e2⟩ := h2
  have q1 := e1 (k1 + k2) (by omega)
  have q2 := e2 (k1 + k2) (by omega)
  rw [q1] at q2
  exact Option.some.inj q2
theorem readV_spec (s : ByteArray) (hz : s.size ≤ 1048576) : Ev (fun k => spec_ReadVar.f k s) (readV s) := by
  obtain ⟨r, e1, e2⟩ := both s hz 8 0 (by omega) (by omega) (by simp)
  have e3 : Ev (fun k => impl_ReadVar.f k s) r := e2
  rw [Ev_uniq (readV_impl s hz) e3]
  exact e1
theorem readV_canon (s : ByteArray) : (readV s).2 = 0 ∨ ∃ m n : Nat, readV s = ((n : Int), (m : Int)) ∧ 1 ≤ m ∧ m ≤ s.size ∧ n ≤ 562949953421311 ∧ varL n = (bytesOf s).take m := by
  rcases rvL_canon (bytesOf s) (B_range s) 7 0 rfl (by simp) with h | ⟨m, h1, h2, h3, h4, h5⟩
  · exact .inl h
  · by_cases hm : m = 0
    · exact .inl (by show (rvL (bytesOf s) 7 0).2 = 0; rw [h1, hm]; rfl)
    · refine .inr ⟨m, (rvL (bytesOf s) 7 0).1.toNat, ?_, by omega, by rw [← B_len]; exact h2, by omega, h5⟩
      show rvL (bytesOf s) 7 0 = _
      rw [← h1]
      exact Prod.ext (by show _ = ((rvL (bytesOf s) 7 0).1.toNat : Int); omega) rfl
/-- A piece that begins at a place, and where it ends. -/
def takeP (s : ByteArray) (p : Nat) : Option (ByteArray × Nat) :=
  if (readV (s.extract p s.size)).2 = 0 then none
  else if (readV (s.extract p s.size)).1 > (s.size : Int) - (p + (readV (s.extract p s.size)).2) then none
  else some (s.extract (p + (readV (s.extract p s.size)).2.toNat) (p + (readV (s.extract p s.size)).2.toNat + (readV (s.extract p s.size)).1.toNat), p + (readV (s.extract p s.size)).2.toNat + (readV (s.extract p s.size)).1.toNat)
theorem size_ext (s : ByteArray) (i j : Nat) (hj : j ≤ s.size) : (s.extract i j).size = j - i := by rw [ByteArray.size_extract]; omega
theorem ext_ext (s : ByteArray) (p i : Nat) (hp : p ≤ s.size) : (s.extract p s.size).extract i (s.extract p s.size).size = s.extract (p + i) s.size := by
  apply data_inj
  rw [size_ext s p s.size (Nat.le_refl _)]
  simp only [ByteArray.data_extract, Array.toList_extract, List.extract_eq_take_drop]
  rw [List.drop_take, List.take_take, List.drop_drop]
  congr 1
  omega
theorem ext_ext2 (s : ByteArray) (p i j : Nat) (hj : p + j ≤ s.size) : (s.extract p s.size).extract i j = s.extract (p + i) (p + j) := by
  apply data_inj
  simp only [ByteArray.data_extract, Array.toList_extract, List.extract_eq_take_drop]
  rw [List.drop_take, List.take_take, List.drop_drop]
  congr 1
  omega
theorem app_ext (s : ByteArray) (i j k : Nat) (h1 : i ≤ j) (h2 : j ≤ k) : s.extract i j ++ s.extract j k = s.extract i k := by
  apply data_inj
  rw [data_app]
  simp only [ByteArray.data_extract, Array.toList_extract, List.extract_eq_take_drop]
  rw [show k - i = (j - i) + (k - j) by omega, List.take_add, List.drop_drop, show i + (j - i) = j by omega]
theorem takeP_ok (s : ByteArray) (p : Nat) (hp : p ≤ s.size) (t : ByteArray) (e : Nat) (h : takeP s p = some (t, e)) : p ≤ e ∧ e ≤ s.size ∧ pieceB t = s.extract p e := by
  unfold takeP at h
  rcases readV_canon (s.extract p s.size) with h0 | ⟨m, n, h1, h2, h3, h4, h5⟩
  · rw [if_pos h0] at h; cases h
  · rw [h1] at h
    rw [size_ext s p s.size (Nat.le_refl _)] at h3
    by_cases c1 : (m : Int) = 0
    · omega
    · simp only [if_neg c1] at h
      by_cases c2 : (n : Int) > (s.size : Int) - (p + m)
      · rw [if_pos c2] at h; cases h
      · rw [if_neg c2] at h
        simp only [Option.some.injEq, Prod.mk.injEq, Int.toNat_natCast] at h
        obtain ⟨rfl, rfl⟩ := h
        refine ⟨by omega, by omega, ?_⟩
        unfold pieceB
        have hsz : (s.extract (p + m) (p + m + n)).size = n := by rw [size_ext _ _ _ (by omega)]; omega
        rw [hsz, h5]
        have hv : strOfNums ((bytesOf (s.extract p s.size)).take m) = s.extract p (p + m) := by
          have := B_ext (s.extract p s.size) 0 m
          rw [List.drop_zero] at this
          rw [← this, str_B, ext_ext2 s p 0 m (by omega)]; rfl
        rw [hv, app_ext s p (p + m) (p + m + n) (by omega) (by omega)]
/-- So many files from a place on. -/
def parseP (s : ByteArray) : Nat → Nat → List S51 → Option (List S51 × Nat)
  | 0, p, out => some (out, p)
  | d + 1, p, out => match takeP s p with | none => none | some (t1, e1) => (match takeP s e1 with | none => none | some (t2, e2) => parseP s d e2 (out ++ [⟨t1, t2⟩]))
theorem parseP_ok (s : ByteArray) (d : Nat) : ∀ (p : Nat) (out L : List S51) (e : Nat) (a : ByteArray), p ≤ s.size → parseP s d p out = some (L, e) → a = s.extract 0 p → (∀ x ∈ out, x.f0.size ≤ s.size ∧ x.f1.size ≤ s.size) →
    e ≤ s.size ∧ p ≤ e ∧ (∃ N, L = out ++ N ∧ N.length = d ∧ N.foldl addF a = s.extract 0 e) ∧ (∀ x ∈ L, x.f0.size ≤ s.size ∧ x.f1.size ≤ s.size) := by
  induction d with
  | zero =>
    intro p out L e a hp h ha hs
    simp only [parseP, Option.some.injEq, Prod.mk.injEq] at h
    obtain ⟨rfl, rfl⟩ := h
    exact ⟨hp, Nat.le_refl _, ⟨[], by simp, rfl, ha⟩, hs⟩
  | succ d ih =>
    intro p out L e a hp h ha hs
    rw [parseP] at h
    cases h1 : takeP s p with
    | none => rw [h1] at h; cases h
    | some q =>
      obtain ⟨t1, e1⟩ := q
      rw [h1] at h
      simp only at h
      cases h2 : takeP s e1 with
      | none => rw [h2] at h; cases h
      | some q =>
        obtain ⟨t2, e2⟩ := q
        rw [h2] at h
        simp only at h
        obtain ⟨a1, a2, a3⟩ := takeP_ok s p hp t1 e1 h1
        obtain ⟨b1, b2, b3⟩ := takeP_ok s e1 a2 t2 e2 h2
        have z1 : t1.size ≤ s.size := by
          have := congrArg ByteArray.size a3
          unfold pieceB at this
          rw [size_app, size_ext _ _ _ a2] at this; omega
        have z2 : t2.size ≤ s.size := by
          have := congrArg ByteArray.size b3
          unfold pieceB at this
          rw [size_app, size_ext _ _ _ b2] at this; omega
        obtain ⟨c1, c2, ⟨N, n1, n2, n3⟩, c4⟩ := ih e2 (out ++ [⟨t1, t2⟩]) L e (addF a ⟨t1, t2⟩) b2 h (by
          unfold addF
          simp only
          rw [a3, b3, ha, app_ext s p e1 e2 a1 b1, app_ext s 0 p e2 (Nat.zero_le _) (by omega)]) (by
          intro x hx
          rcases List.mem_append.1 hx with hx | hx
          · exact hs x hx
          · rw [List.mem_singleton] at hx; rw [hx]; exact ⟨z1, z2⟩)
        exact ⟨c1, by omega, ⟨⟨t1, t2⟩ :: N, by rw [n1]; simp, by simp [n2], by rw [List.foldl_cons]; exact n3⟩, c4⟩
/-! The reference -/
theorem vars_spec (s : ByteArray) (hz : s.size ≤ 1048576) (p : Nat) (hp : p ≤ s.size) : Ev (fun k => spec_l12Vars.f k s (p : Int) 1) (if (readV (s.extract p s.size)).2 = 0 then ([], -1) else ([(readV (s.extract p s.size)).1], (p : Int) + (readV (s.extract p s.size)).2)) := by
  have hsz := size_ext s p s.size (Nat.le_refl _)
  have e := readV_spec (s.extract p s.size) (by omega)
  have hc := readV_canon (s.extract p s.size)
  generalize readV (s.extract p s.size) = r at e hc ⊢
  have c0 : ¬ (p : Int) < 0 := by omega
  have c1 : decide ((p : Int) > (s.size : Int)) = false := decide_eq_false (by omega)
  have c2 : (0 : Int) ≤ (p : Int) := by omega
  have c3 : (p : Int) ≤ (s.size : Int) := by omega
  have c4 : (0 : Int) < 1 := by decide
  have c5 : ([] : List Int).length < 17592186044416 := by decide
  simp only [spec_l12Vars.f]
  refine Ev_succ ?_
  simp only [spec_l12Vars.l0, if_pos c4, if_neg c0, c1]
  refine Ev_succ ?_
  simp only [spec_l12Vars.j1, Bool.false_eq_true, if_false, if_pos c2, if_pos c3, Int.toNat_natCast]
  refine Ev_call e ?_
  by_cases h : r.2 = 0
  · rw [if_pos h]
    simp only [if_pos h]
    exact Ev.now _
  · rw [if_neg h]
    simp only [if_neg h, if_pos c5]
    refine Ev_succ ?_
    have hw : wrap64 ((p : Int) + r.2) = (p : Int) + r.2 := by
      rcases hc with hc | ⟨m, n, h1, h2, h3, h4, h5⟩
      · exact absurd hc h
      · rw [h1]; exact w64 (by simp only; omega) (by simp only; omega)
    have c6 : ¬ wrap64 (0 + 1) < 1 := by rw [w64 (by omega) (by omega)]; omega
    simp only [spec_l12Vars.l0, if_neg c6, hw, List.nil_append]
    exact Ev.now _
theorem vars_bad (s : ByteArray) : Ev (fun k => spec_l12Vars.f k s (-1) 1) ([], -1) := by
  simp only [spec_l12Vars.f]
  refine Ev_succ ?_
  have c4 : (0 : Int) < 1 := by decide
  have c0 : (-1 : Int) < 0 := by decide
  simp only [spec_l12Vars.l0, if_pos c4, if_pos c0]
  refine Ev_succ ?_
  simp only [spec_l12Vars.j1, if_true]
  exact Ev.now _
theorem take_spec (s : ByteArray) (hz : s.size ≤ 1048576) (p : Nat) (hp : p ≤ s.size) : Ev (fun k => spec_l12Take.f k s (p : Int)) (match takeP s p with | some (t, e) => (t, (e : Int)) | none => (⟨#[]⟩, -1)) := by
  have e := vars_spec s hz p hp
  have hc := readV_canon (s.extract p s.size)
  rw [size_ext s p s.size (Nat.le_refl _)] at hc
  unfold takeP
  generalize readV (s.extract p s.size) = r at e hc ⊢
  simp only [spec_l12Take.f]
  by_cases h : r.2 = 0
  · rw [if_pos h] at e
    rw [if_pos h]
    refine Ev_call e ?_
    have c : (-1 : Int) < 0 := by decide
    simp only [if_pos c]
    exact Ev.now _
  · rw [if_neg h] at e
    rw [if_neg h]
    rcases hc with hc | ⟨m, n, h1, h2, h3, h4, h5⟩
    · exact absurd hc h
    · subst h1
      refine Ev_call e ?_
      have c : ¬ ((p : Int) + (m : Int)) < 0 := by omega
      have c1 : (0 : Int) < (([(n : Int)] : List Int).length : Int) := by simp
      have hrd : rd [(n : Int)] 0 = (n : Int) := rfl
      have hw : wrap64 ((s.size : Int) - ((p : Int) + (m : Int))) = (s.size : Int) - ((p : Int) + (m : Int)) := w64 (by omega) (by omega)
      simp only [if_neg c, if_pos c1, hrd, hw]
      by_cases c2 : (n : Int) > (s.size : Int) - ((p : Int) + (m : Int))
      · simp only [if_pos c2]
        exact Ev.now _
      · have hw2 : wrap64 (((p : Int) + (m : Int)) + (n : Int)) = (p : Int) + (m : Int) + (n : Int) := w64 (by omega) (by omega)
        have c3 : (0 : Int) ≤ (p : Int) + (m : Int) := by omega
        have c4 : (p : Int) + (m : Int) ≤ (p : Int) + (m : Int) + (n : Int) := by omega
        have c5 : (p : Int) + (m : Int) + (n : Int) ≤ (s.size : Int) := by omega
        simp only [if_neg c2, hw2, if_pos c3, if_pos c4, if_pos c5, Int.toNat_natCast]
        refine Ev_some ?_
        rw [show ((p : Int) + (m : Int)).toNat = p + m by omega, show ((p : Int) + (m : Int) + (n : Int)).toNat = p + m + n by omega]
        simp only [Prod.mk.injEq, true_and]
        omega
theorem take_bad (s : ByteArray) : Ev (fun k => spec_l12Take.f k s (-1)) (⟨#[]⟩, -1) := by
  simp only [spec_l12Take.f]
  refine Ev_call (vars_bad s) ?_
  have c : (-1 : Int) < 0 := by decide
  simp only [if_pos c]
  exact Ev.now _
def specEnd (s : ByteArray) (o : Option (List S51 × Nat)) : List S51 × Bool := match o with | none => ([], false) | some (L, _) => if (showTo L).toList = s.toList then (L, true) else ([], false)
theorem read_spec (s : ByteArray) (hz : s.size ≤ 1048576) (q n : Nat) (hn : n ≤ 8) (d : Nat) : ∀ (i p : Nat) (out : List S51), i + d = n → out.length = i → p ≤ s.size → (∀ x ∈ out, x.f0.size ≤ s.size ∧ x.f1.size ≤ s.size) →
    Ev (fun k => spec_ReadFiles.l0 k s out [(n : Int)] (p : Int) (i : Int)) (specEnd s (parseP s d p out)) := by
  have c1 : (0 : Int) < (([(n : Int)] : List Int).length : Int) := by simp
  have hrd : rd [(n : Int)] 0 = (n : Int) := rfl
  induction d with
  | zero =>
    intro i p out hi ho hp hs
    have c2 : ¬ (i : Int) < (n : Int) := by omega
    refine Ev_succ ?_
    simp only [spec_ReadFiles.l0, if_pos c1, hrd, if_neg c2]
    refine Ev_call (show_spec out (by omega) (fun x hx => by have := hs x hx; omega)) ?_
    unfold specEnd
    simp only [parseP]
    split <;> exact Ev.now _
  | succ d ih =>
    intro i p out hi ho hp hs
    have c2 : (i : Int) < (n : Int) := by omega
    have t1 := take_spec s hz p hp
    refine Ev_succ ?_
    simp only [spec_ReadFiles.l0, if_pos c1, hrd, if_pos c2]
    rw [parseP]
    cases h1 : takeP s p with
    | none =>
      rw [h1] at t1
      refine Ev_call t1 (Ev_call (take_bad s) ?_)
      have c : (-1 : Int) < 0 := by decide
      simp only [if_pos c]
      exact Ev.now _
    | some x =>
      obtain ⟨a, e1⟩ := x
      rw [h1] at t1
      obtain ⟨g1, g2, g3⟩ := takeP_ok s p hp a e1 h1
      have t2 := take_spec s hz e1 g2
      refine Ev_call t1 ?_
      simp only
      cases h2 : takeP s e1 with
      | none =>
        rw [h2] at t2
        refine Ev_call t2 ?_
        have c : (-1 : Int) < 0 := by decide
        simp only [if_pos c]
        exact Ev.now _
      | some x =>
        obtain ⟨b, e2⟩ := x
        rw [h2] at t2
        obtain ⟨g4, g5, g6⟩ := takeP_ok s e1 g2 b e2 h2
        have z1 : a.size ≤ s.size := by
          have := congrArg ByteArray.size g3
          unfold pieceB at this
          rw [size_app, size_ext _ _ _ g2] at this; omega
        have z2 : b.size ≤ s.size := by
          have := congrArg ByteArray.size g6
          unfold pieceB at this
          rw [size_app, size_ext _ _ _ g5] at this; omega
        refine Ev_call t2 ?_
        have c : ¬ (e2 : Int) < 0 := by omega
        have c3 : out.length < 4398046511104 := by omega
        have hw : wrap64 ((i : Int) + 1) = ((i + 1 : Nat) : Int) := by rw [w64 (by omega) (by omega)]; omega
        simp only [if_neg c, if_pos c3, hw]
        exact ih (i + 1) e2 (out ++ [⟨a, b⟩]) (by omega) (by simp [ho]) g5 (by
          intro x hx
          rcases List.mem_append.1 hx with hx | hx
          · exact hs x hx
          · rw [List.mem_singleton] at hx; rw [hx]; exact ⟨z1, z2⟩)

/-! The program -/
theorem num_bad (R : ByteArray) (hz : R.size ≤ 1048576) (most : Int) : Ev (fun k => impl_reader_number.f k R true most) (0, R, true) := by
  simp only [impl_reader_number.f]
  refine Ev_call (readV_impl R hz) ?_
  simp only [if_true]
  exact Ev.now _
theorem piece_bad (R : ByteArray) (hz : R.size ≤ 1048576) : Ev (fun k => impl_reader_piece.f k R true) (⟨#[]⟩, R, true) := by
  simp only [impl_reader_piece.f]
  refine Ev_call (num_bad R hz _) ?_
  simp only [if_true]
  exact Ev.now _
theorem num_good (s : ByteArray) (hz : s.size ≤ 1048576) (p : Nat) (hp : p ≤ s.size) (most : Int) : Ev (fun k => impl_reader_number.f k (s.extract p s.size) false most)
    (if (readV (s.extract p s.size)).2 = 0 ∨ (readV (s.extract p s.size)).1 > most then (0, s.extract p s.size, true) else ((readV (s.extract p s.size)).1, s.extract (p + (readV (s.extract p s.size)).2.toNat) s.size, false)) := by
  have hsz := size_ext s p s.size (Nat.le_refl _)
  have e := readV_impl (s.extract p s.size) (by omega)
  have hc := readV_canon (s.extract p s.size)
  simp only [impl_reader_number.f]
  refine Ev_call e ?_
  generalize readV (s.extract p s.size) = r at hc ⊢
  simp only [Bool.false_eq_true, if_false]
  by_cases h : r.2 = 0
  · simp only [if_pos h]
    rw [if_pos (.inl h)]
    exact Ev.now _
  · simp only [if_neg h]
    by_cases h2 : r.1 > most
    · simp only [if_pos h2]
      rw [if_pos (.inr h2)]
      exact Ev.now _
    · simp only [if_neg h2]
      have hno : ¬ (r.2 = 0 ∨ r.1 > most) := fun q => q.elim h h2
      rw [if_neg hno]
      rcases hc with hc | ⟨m, n, q1, q2, q3, q4, q5⟩
      · exact absurd hc h
      · have g1 : (0 : Int) ≤ r.2 := by rw [q1]; simp
        have g2 : r.2 ≤ ((s.extract p s.size).size : Int) := by rw [q1]; simp only; omega
        simp only [if_pos g1, if_pos g2]
        rw [ext_ext s p _ hp]
        exact Ev.now _
theorem piece_good (s : ByteArray) (hz : s.size ≤ 1048576) (p : Nat) (hp : p ≤ s.size) : ∃ t X b, Ev (fun k => impl_reader_piece.f k (s.extract p s.size) false) (t, X, b) ∧ X.size ≤ s.size ∧ (match takeP s p with | some (t', e) => t = t' ∧ X = s.extract e s.size ∧ b = false | none => b = true) := by
  have hsz := size_ext s p s.size (Nat.le_refl _)
  have e := num_good s hz p hp ((s.extract p s.size).size : Int)
  have hc := readV_canon (s.extract p s.size)
  unfold takeP
  rw [hsz] at e hc
  simp only [impl_reader_piece.f, hsz]
  generalize readV (s.extract p s.size) = r at e hc ⊢
  by_cases h : r.2 = 0
  · rw [if_pos (.inl h)] at e
    rw [if_pos h]
    refine ⟨⟨#[]⟩, s.extract p s.size, true, Ev_call e ?_, by omega, rfl⟩
    simp only [if_true]
    exact Ev.now _
  · rw [if_neg h]
    rcases hc with hc | ⟨m, n, q1, q2, q3, q4, q5⟩
    · exact absurd hc h
    · subst q1
      by_cases h2 : (n : Int) > ((s.size - p : Nat) : Int)
      · rw [if_pos (.inr h2)] at e
        have h3 : (n : Int) > (s.size : Int) - ((p : Int) + (m : Int)) := by omega
        simp only [if_pos h3]
        refine ⟨⟨#[]⟩, s.extract p s.size, true, Ev_call e ?_, by omega, rfl⟩
        simp only [if_true]
        exact Ev.now _
      · have hno : ¬ ((m : Int) = 0 ∨ (n : Int) > ((s.size - p : Nat) : Int)) := fun q => q.elim h h2
        rw [if_neg hno] at e
        simp only [Int.toNat_natCast] at e ⊢
        have hsz2 := size_ext s (p + m) s.size (Nat.le_refl _)
        by_cases h3 : (n : Int) > (s.size : Int) - ((p : Int) + (m : Int))
        · simp only [if_pos h3]
          refine ⟨⟨#[]⟩, s.extract (p + m) s.size, true, Ev_call e ?_, by omega, rfl⟩
          have h4 : (n : Int) > ((s.extract (p + m) s.size).size : Int) := by omega
          simp only [Bool.false_eq_true, if_false, if_pos h4]
          exact Ev.now _
        · simp only [if_neg h3]
          have h4 : ¬ (n : Int) > ((s.extract (p + m) s.size).size : Int) := by omega
          have h5 : (0 : Int) ≤ (n : Int) := by omega
          have h6 : (n : Int) ≤ ((s.extract (p + m) s.size).size : Int) := by omega
          have hsz3 := size_ext s (p + m + n) s.size (Nat.le_refl _)
          refine ⟨s.extract (p + m) (p + m + n), s.extract (p + m + n) s.size, false, Ev_call e ?_, by omega, rfl, rfl, rfl⟩
          simp only [Bool.false_eq_true, if_false, if_neg h4, if_pos h5, if_pos h6, Int.toNat_natCast]
          rw [ext_ext s (p + m) n (by omega), ext_ext2 s (p + m) 0 n (by omega), Nat.add_zero]
          exact Ev.now _
theorem loop_bad (X : ByteArray) (hz : X.size ≤ 1048576) (n : Nat) (hn : n ≤ 8) (d : Nat) : ∀ (i : Nat) (out : List S51), i + d = n → out.length = i → ∃ L, Ev (fun k => impl_ReadFiles.l0 k X true (i : Int) (n : Int) out) (X, true, L) := by
  induction d with
  | zero =>
    intro i out hi ho
    have c : ¬ (i : Int) < (n : Int) := by omega
    refine ⟨out, Ev_succ ?_⟩
    simp only [impl_ReadFiles.l0, if_neg c]
    exact Ev.now _
  | succ d ih =>
    intro i out hi ho
    obtain ⟨L, e⟩ := ih (i + 1) (out ++ [⟨⟨#[]⟩, ⟨#[]⟩⟩]) (by omega) (by simp [ho])
    have c : (i : Int) < (n : Int) := by omega
    have c3 : out.length < 4398046511104 := by omega
    have hw : wrap64 ((i : Int) + 1) = ((i + 1 : Nat) : Int) := by rw [w64 (by omega) (by omega)]; omega
    refine ⟨L, Ev_succ ?_⟩
    simp only [impl_ReadFiles.l0, if_pos c]
    refine Ev_call (piece_bad X hz) (Ev_call (piece_bad X hz) ?_)
    simp only [if_pos c3, hw]
    exact e
theorem loop_good (s : ByteArray) (hz : s.size ≤ 1048576) (n : Nat) (hn : n ≤ 8) (d : Nat) : ∀ (i p : Nat) (out : List S51), i + d = n → out.length = i → p ≤ s.size →
    ∃ X b L, Ev (fun k => impl_ReadFiles.l0 k (s.extract p s.size) false (i : Int) (n : Int) out) (X, b, L) ∧ (match parseP s d p out with | some (L', e) => X = s.extract e s.size ∧ b = false ∧ L = L' | none => b = true) := by
  induction d with
  | zero =>
    intro i p out hi ho hp
    have c : ¬ (i : Int) < (n : Int) := by omega
    refine ⟨s.extract p s.size, false, out, Ev_succ ?_, rfl, rfl, rfl⟩
    simp only [impl_ReadFiles.l0, if_neg c]
    exact Ev.now _
  | succ d ih =>
    intro i p out hi ho hp
    have c : (i : Int) < (n : Int) := by omega
    have c3 : out.length < 4398046511104 := by omega
    have hw : wrap64 ((i : Int) + 1) = ((i + 1 : Nat) : Int) := by rw [w64 (by omega) (by omega)]; omega
    obtain ⟨t1, X1, b1, e1, z1, m1⟩ := piece_good s hz p hp
    rw [parseP]
    cases h1 : takeP s p with
    | none =>
      rw [h1] at m1
      have hb1 : b1 = true := m1
      subst hb1
      obtain ⟨L, e3⟩ := loop_bad X1 (by omega) n hn d (i + 1) (out ++ [⟨t1, ⟨#[]⟩⟩]) (by omega) (by simp [ho])
      refine ⟨X1, true, L, Ev_succ ?_, rfl⟩
      simp only [impl_ReadFiles.l0, if_pos c]
      refine Ev_call e1 (Ev_call (piece_bad X1 (by omega)) ?_)
      simp only [if_pos c3, hw]
      exact e3
    | some x =>
      obtain ⟨t1', p1⟩ := x
      rw [h1] at m1
      obtain ⟨rfl, rfl, rfl⟩ := m1
      obtain ⟨g1, g2, g3⟩ := takeP_ok s p hp t1 p1 h1
      obtain ⟨t2, X2, b2, e2, z2, m2⟩ := piece_good s hz p1 g2
      simp only
      cases h2 : takeP s p1 with
      | none =>
        rw [h2] at m2
        have hb2 : b2 = true := m2
        subst hb2
        obtain ⟨L, e3⟩ := loop_bad X2 (by omega) n hn d (i + 1) (out ++ [⟨t1, t2⟩]) (by omega) (by simp [ho])
        refine ⟨X2, true, L, Ev_succ ?_, rfl⟩
        simp only [impl_ReadFiles.l0, if_pos c]
        refine Ev_call e1 (Ev_call e2 ?_)
        simp only [if_pos c3, hw]
        exact e3
      | some y =>
        obtain ⟨t2', p2⟩ := y
        rw [h2] at m2
        obtain ⟨rfl, rfl, rfl⟩ := m2
        obtain ⟨g4, g5, g6⟩ := takeP_ok s p1 g2 t2 p2 h2
        obtain ⟨X, b, L, e3, m3⟩ := ih (i + 1) p2 (out ++ [⟨t1, t2⟩]) (by omega) (by simp [ho]) g5
        refine ⟨X, b, L, Ev_succ ?_, m3⟩
        simp only [impl_ReadFiles.l0, if_pos c]
        refine Ev_call e1 (Ev_call e2 ?_)
        simp only [if_pos c3, hw]
        exact e3
/-! Both -/
theorem foldl_front (L : List S51) : ∀ a : ByteArray, ∃ r, (L.foldl addF a).data.toList = a.data.toList ++ r := by
  induction L with
  | nil => intro a; exact ⟨[], by simp⟩
  | cons x L ih =>
    intro a
    obtain ⟨r, h⟩ := ih (addF a x)
    exact ⟨(pieceB x.f0 ++ pieceB x.f1).data.toList ++ r, by rw [List.foldl_cons, h]; unfold addF; rw [data_app, List.append_assoc]⟩
def readTo (s : ByteArray) : List S51 × Bool :=
  if s.size = 0 ∨ bt s 0 ≠ 102 ∨ (readV (s.extract 1 s.size)).2 = 0 ∨ (readV (s.extract 1 s.size)).1 > 8 then ([], false) else
    match parseP s (readV (s.extract 1 s.size)).1.toNat (1 + (readV (s.extract 1 s.size)).2.toNat) [] with
    | none => ([], false)
    | some (L, e) => if e = s.size ∧ filesOk L = true then (L, true) else ([], false)
theorem fin_bad (k0 : List S51) (X : ByteArray) : Ev (fun k => (impl_reader_done.f X true).bind fun d => (if d.1 = true then ((impl_FilesOk.f k k0).bind fun ok => (if ok = true then some (k0, true) else some ([], false))) else some ([], false))) ([], false) := by
  simp only [impl_reader_done.f, if_true, Option.bind_some, Bool.false_eq_true, if_false]
  exact Ev.now _
theorem read_impl (s : ByteArray) (hz : s.size ≤ 1048576) : Ev (fun k => impl_ReadFiles.f k s) (readTo s) := by
  simp only [impl_ReadFiles.f]
  unfold readTo
  have hbad : ∀ X : ByteArray, X.size ≤ s.size → Ev (fun k => (impl_reader_number.f k X true 8).bind fun n => ((impl_ReadFiles.l0 k n.2.1 n.2.2 0 n.1 []).bind fun x => ((impl_reader_done.f x.1 x.2.1).bind fun d => (if d.1 = true then ((impl_FilesOk.f k x.2.2).bind fun ok => (if ok = true then some (x.2.2, true) else some ([], false))) else some ([], false))))) ([], false) := by
    intro X hX
    obtain ⟨L, e⟩ := loop_bad X (by omega) 0 (by omega) 0 0 [] rfl rfl
    refine Ev_call (num_bad X (by omega) 8) (Ev_call (a := (X, true, L)) e ?_)
    exact fin_bad L X
  by_cases h0 : s.size = 0
  · rw [if_pos (.inl h0)]
    have c : (s.size : Int) = 0 := by omega
    simp only [impl_reader_head.f, if_pos c, Option.bind_some]
    exact hbad s (Nat.le_refl _)
  have c : ¬ (s.size : Int) = 0 := by omega
  have c1 : (0 : Int) < (s.size : Int) := by omega
  have c2 : (1 : Int) ≤ (s.size : Int) := by omega
  by_cases h1 : bt s 0 = 102
  · have hx : s.extract 1 s.size = s.extract 1 s.size := rfl
    simp only [impl_reader_head.f, if_neg c, if_pos c1, if_pos h1, if_pos c2, Option.bind_some]
    have e := num_good s hz 1 (by omega) 8
    have hc := readV_canon (s.extract 1 s.size)
    have hsz := size_ext s 1 s.size (Nat.le_refl _)
    rw [hsz] at hc
    by_cases h2 : (readV (s.extract 1 s.size)).2 = 0 ∨ (readV (s.extract 1 s.size)).1 > 8
    · rw [if_pos (.inr (.inr h2))]
      rw [if_pos h2] at e
      obtain ⟨L, e2⟩ := loop_bad (s.extract 1 s.size) (by omega) 0 (by omega) 0 0 [] rfl rfl
      refine Ev_call e (Ev_call (a := (s.extract 1 s.size, true, L)) e2 ?_)
      exact fin_bad L _
    · have hno : ¬ (s.size = 0 ∨ bt s 0 ≠ 102 ∨ (readV (s.extract 1 s.size)).2 = 0 ∨ (readV (s.extract 1 s.size)).1 > 8) := fun q => q.elim h0 (fun q => q.elim (fun q => q h1) h2)
      rw [if_neg hno]
      rw [if_neg h2] at e
      rcases hc with hc | ⟨m, n, q1, q2, q3, q4, q5⟩
      · exact absurd (.inl hc) h2
      · rw [q1] at e h2 ⊢
        simp only [Int.toNat_natCast] at e h2 ⊢
        have hn8 : n ≤ 8 := by
          rcases Nat.lt_or_ge 8 n with q | q
          · exact absurd (.inr (by omega)) h2
          · exact q
        obtain ⟨X, b, L, e2, m2⟩ := loop_good s hz n hn8 n 0 (1 + m) [] (by omega) rfl (by omega)
        refine Ev_call e (Ev_call (a := (X, b, L)) e2 ?_)
        cases hp : parseP s n (1 + m) [] with
        | none =>
          rw [hp] at m2
          have hb : b = true := m2
          subst hb
          exact fin_bad L X
        | some y =>
          obtain ⟨L', e'⟩ := y
          rw [hp] at m2
          have m2' : X = s.extract e' s.size ∧ b = false ∧ L = L' := m2
          obtain ⟨rfl, rfl, rfl⟩ := m2'
          obtain ⟨g1, g2, ⟨N, g3, g4, _⟩, g5⟩ := parseP_ok s n (1 + m) [] L e' (s.extract 0 (1 + m)) (by omega) hp rfl (by simp)
          have hsz2 := size_ext s e' s.size (Nat.le_refl _)
          have hLl : L.length = n := by rw [g3, List.nil_append]; exact g4
          simp only [impl_reader_done.f, Bool.false_eq_true, if_false, Option.bind_some]
          by_cases he : e' = s.size
          · have hemp : ((s.extract e' s.size).toList == ([] : List UInt8)) = true := by
              rw [beq_iff_eq, toList_data]
              apply List.length_eq_zero_iff.1
              have := B_len (s.extract e' s.size)
              rw [show (s.extract e' s.size).data.toList.length = (bytesOf (s.extract e' s.size)).length by simp [bytesOf]]
              omega
            simp only [hemp, if_true]
            refine Ev_call (files_impl L (by omega) (fun x hx => by have := g5 x hx; omega)) ?_
            by_cases hf : filesOk L = true
            · have hR : (if e' = s.size ∧ filesOk L = true then (L, true) else (([] : List S51), false)) = (L, true) := if_pos ⟨he, hf⟩
              rw [hR]
              simp only [if_pos hf]
              exact Ev.now _
            · have hR : (if e' = s.size ∧ filesOk L = true then (L, true) else (([] : List S51), false)) = ([], false) := if_neg (fun q => hf q.2)
              rw [hR]
              simp only [if_neg hf]
              exact Ev.now _
          · have hemp : ((s.extract e' s.size).toList == ([] : List UInt8)) = false := by
              rw [beq_eq_false_iff_ne, toList_data]
              intro q
              have := B_len (s.extract e' s.size)
              unfold bytesOf at this
              rw [q] at this
              simp at this
              omega
            rw [if_neg (fun q => he q.1)]
            simp only [hemp, Bool.false_eq_true, if_false]
            exact Ev.now _
  · rw [if_pos (.inr (.inl h1))]
    simp only [impl_reader_head.f, if_neg c, if_pos c1, if_neg h1, Option.bind_some]
    exact hbad s (Nat.le_refl _)
theorem read_spec_f (s : ByteArray) (hz : s.size ≤ 1048576) : Ev (fun k => spec_ReadFiles.f k s) (readTo s) := by
  simp only [spec_ReadFiles.f, Option.bind_some]
  unfold readTo
  by_cases h0 : s.size = 0
  · rw [if_pos (.inl h0)]
    have hv : Ev (fun k => spec_l12Vars.f k s 1 1) ([], -1) := by
      simp only [spec_l12Vars.f]
      refine Ev_succ ?_
      have c4 : (0 : Int) < 1 := by decide
      have c0 : ¬ (1 : Int) < 0 := by decide
      have c1 : decide ((1 : Int) > (s.size : Int)) = true := decide_eq_true (by omega)
      simp only [spec_l12Vars.l0, if_pos c4, if_neg c0, c1]
      refine Ev_succ ?_
      simp only [spec_l12Vars.j1, if_true]
      exact Ev.now _
    refine Ev_call hv ?_
    have c : (-1 : Int) < 0 := by decide
    simp only [if_pos c]
    refine Ev_succ ?_
    simp only [spec_ReadFiles.j0, if_true]
    exact Ev.now _
  · have e := vars_spec s hz 1 (by omega)
    have hc := readV_canon (s.extract 1 s.size)
    have hsz := size_ext s 1 s.size (Nat.le_refl _)
    rw [hsz] at hc
    by_cases h2 : (readV (s.extract 1 s.size)).2 = 0
    · rw [if_pos (.inr (.inr (.inl h2)))]
      rw [if_pos h2] at e
      refine Ev_call e ?_
      have c : (-1 : Int) < 0 := by decide
      simp only [if_pos c]
      refine Ev_succ ?_
      simp only [spec_ReadFiles.j0, if_true]
      exact Ev.now _
    · rw [if_neg h2] at e
      rcases hc with hc | ⟨m, n, q1, q2, q3, q4, q5⟩
      · exact absurd hc h2
      · have hD : ((1 : Nat) : Int) = 1 := rfl
        rw [q1] at e ⊢
        simp only [Int.toNat_natCast] at e ⊢
        refine Ev_call e ?_
        have c : ¬ ((1 : Nat) : Int) + (m : Int) < 0 := by omega
        have c1 : (0 : Int) < (([(n : Int)] : List Int).length : Int) := by simp
        have hrd : rd [(n : Int)] 0 = (n : Int) := rfl
        simp only [if_neg c, if_pos c1, hrd]
        refine Ev_succ ?_
        by_cases h8 : (n : Int) > 8
        · rw [if_pos (.inr (.inr (.inr h8)))]
          simp only [spec_ReadFiles.j0, decide_eq_true h8, if_true]
          exact Ev.now _
        · simp only [spec_ReadFiles.j0, decide_eq_false h8, Bool.false_eq_true, if_false]
          have e2 := read_spec s hz (1 + m) n (by omega) n 0 (1 + m) [] (by omega) rfl (by omega) (by simp)
          rw [show ((1 + m : Nat) : Int) = ((1 : Nat) : Int) + (m : Int) by omega] at e2
          have hres : specEnd s (parseP s n (1 + m) []) = if s.size = 0 ∨ bt s 0 ≠ 102 ∨ (m : Int) = 0 ∨ (n : Int) > 8 then ([], false) else (match parseP s n (1 + m) [] with | none => ([], false) | some (L, e) => if e = s.size ∧ filesOk L = true then (L, true) else ([], false)) := by
            have hm0 : ¬ (m : Int) = 0 := by omega
            have h8' : ¬ (n : Int) > 8 := h8
            cases hp : parseP s n (1 + m) [] with
            | none => unfold specEnd; simp only [ite_self]
            | some y =>
              obtain ⟨L, e'⟩ := y
              obtain ⟨g1, g2, ⟨N, g3, g4, _⟩, g5⟩ := parseP_ok s n (1 + m) [] L e' (s.extract 0 (1 + m)) (by omega) hp rfl (by simp)
              have hLl : L.length = n := by rw [g3, List.nil_append]; exact g4
              unfold specEnd
              simp only
              by_cases hf : filesOk L = true
              · have hshow : showTo L = L.foldl addF (⟨#[102]⟩ ++ strOfNums (varL n)) := by unfold showTo; rw [if_pos hf, hLl]
                by_cases h1 : bt s 0 = 102
                · have hpre : (⟨#[102]⟩ : ByteArray) ++ strOfNums (varL n) = s.extract 0 (1 + m) := by
                    have hv : strOfNums (varL n) = s.extract 1 (1 + m) := by
                      rw [q5]
                      have := B_ext (s.extract 1 s.size) 0 m
                      rw [List.drop_zero] at this
                      rw [← this, str_B, ext_ext2 s 1 0 m (by omega)]
                    have hf1 : (⟨#[102]⟩ : ByteArray) = s.extract 0 1 := by
                      apply B_inj.1
                      rw [B_ext, List.drop_zero]
                      have hb0 : (bytesOf s).getD 0 0 = 102 := by rw [bt_B] at h1; exact h1
                      cases hq : bytesOf s with
                      | nil => have := B_len s; rw [hq] at this; simp at this; omega
                      | cons x r =>
                        rw [hq] at hb0
                        have hx : x = 102 := hb0
                        rw [hx]; rfl
                    rw [hv, hf1, app_ext s 0 1 (1 + m) (by omega) (by omega)]
                  obtain ⟨_, _, ⟨N2, w1, w2, w3⟩, _⟩ := parseP_ok s n (1 + m) [] L e' _ (by omega) hp hpre (by simp)
                  rw [List.nil_append] at w1
                  rw [← w1] at w3
                  have hno : ¬ (s.size = 0 ∨ bt s 0 ≠ 102 ∨ (m : Int) = 0 ∨ (n : Int) > 8) := fun q => q.elim h0 (fun q => q.elim (fun q => q h1) (fun q => q.elim hm0 h8'))
                  rw [hshow, w3]
                  rw [if_neg hno (c := s.size = 0 ∨ bt s 0 ≠ 102 ∨ (m : Int) = 0 ∨ (n : Int) > 8)]
                  by_cases he : e' = s.size
                  · have hall : (s.extract 0 e').toList = s.toList := by
                      rw [toList_inj, he]
                      apply data_inj
                      simp only [ByteArray.data_extract, Array.toList_extract, List.extract_eq_take_drop, List.drop_zero]
                      apply List.take_of_length_le
                      rw [Array.length_toList]; exact Nat.le_refl _
                    rw [if_pos hall, if_pos ⟨he, hf⟩]
                  · have hall : ¬ (s.extract 0 e').toList = s.toList := by
                      rw [toList_inj]
                      intro q
                      have := congrArg ByteArray.size q
                      rw [size_ext s 0 e' g1] at this
                      omega
                    rw [if_neg hall, if_neg (fun q => he q.1)]
                · have hne : ¬ (showTo L).toList = s.toList := by
                    rw [hshow, toList_inj]
                    intro q
                    obtain ⟨r, hr⟩ := foldl_front L (⟨#[102]⟩ ++ strOfNums (varL n))
                    rw [q, data_app] at hr
                    apply h1
                    rw [bt_B]
                    unfold bytesOf
                    rw [hr]; rfl
                  rw [if_neg hne, if_pos (.inr (.inl h1))]
              · have hshow : showTo L = ⟨#[]⟩ := by unfold showTo; rw [if_neg hf]
                have hne : ¬ (showTo L).toList = s.toList := by
                  rw [hshow, toList_inj]
                  rintro rfl
                  exact h0 rfl
                rw [if_neg hne]
                split
                · rfl
                · rw [if_neg (fun q => hf q.2)]
          rw [← hres]
          exact e2
theorem eqFileS_loop (l : List S51) (hl : l.length ≤ 1048576) (d : Nat) : ∀ i : Nat, i + d = l.length → Ev (fun k => laws_eqFileS.l0 k l l i) true := by
  induction d with
  | zero =>
    intro i hi
    refine Ev_succ ?_
    simp (disch := omega) only [laws_eqFileS.l0, if_neg]; exact Ev.now _
  | succ d ih =>
    intro i hi
    have e := ih (i + 1) (by omega)
    refine Ev_succ ?_
    simp (disch := omega) only [laws_eqFileS.l0, if_pos, if_true, laws_eqFile.f, Option.bind_some, w64]
    exact e
theorem eqFileS_ev (l : List S51) (hl : l.length ≤ 1048576) : Ev (fun k => laws_eqFileS.f k l l) true := by
  have e := eqFileS_loop l hl l.length 0 (by omega)
  simp only [laws_eqFileS.f, if_true]
  exact e
theorem markText_loop (d : Nat) : ∀ (x : Int) (acc : ByteArray), 0 ≤ x → x.toNat ≤ d → x < 9223372036854775808 → acc.size + d ≤ 9223372036854775000 → ∃ t, Ev (fun k => laws_markText.l0 k x acc) t := by
  induction d with
  | zero =>
    intro x acc h0 hd h1 hs
    refine ⟨⟨#[109]⟩ ++ acc, Ev_succ ?_⟩
    simp (disch := omega) only [laws_markText.l0, if_neg, if_pos]; exact Ev.now _
  | succ d ih =>
    intro x acc h0 hd h1 hs
    by_cases hx : x > 0
    · have e1 : (strOfNums [(48 + x % 10) % 256]).size = 1 := by rw [strOfNums_size]; rfl
      obtain ⟨t, e⟩ := ih (x / 10) (strOfNums [(48 + x % 10) % 256] ++ acc) (by omega) (by omega) (by omega) (by rw [size_app]; omega)
      refine ⟨t, Ev_succ ?_⟩
      simp (disch := omega) only [laws_markText.l0, if_pos, w64, tmod_nn, tdiv_nn, Option.bind_some]; exact e
    · refine ⟨⟨#[109]⟩ ++ acc, Ev_succ ?_⟩
      simp (disch := omega) only [laws_markText.l0, if_neg, if_pos]; exact Ev.now _
theorem markText_any (x : Int) (h0 : 0 ≤ x) (h1 : x ≤ 1000000000000) : ∃ t, Ev (fun k => laws_markText.f k x) t := by
  by_cases hx : x ≤ 0
  · exact ⟨_, by simp only [laws_markText.f, if_pos hx]; exact Ev.now _⟩
  · obtain ⟨t, e⟩ := markText_loop x.toNat x ⟨#[]⟩ h0 (Nat.le_refl _) (by omega) (by show 0 + x.toNat ≤ _; omega)
    exact ⟨t, by simp only [laws_markText.f, if_neg hx]; exact e⟩
open Classical in
noncomputable def mt (x : Int) : ByteArray := if h : ∃ t, Ev (fun k => laws_markText.f k x) t then Classical.choose h else ⟨#[]⟩
theorem mt_ev (x : Int) (h0 : 0 ≤ x) (h1 : x ≤ 1000000000000) : Ev (fun k => laws_markText.f k x) (mt x) := by
  have h := markText_any x h0 h1
  unfold mt
  rw [dif_pos h]
  exact Classical.choose_spec h
noncomputable def mkFileS : Nat → Int → List S51
  | 0, _ => []
  | n + 1, x => (⟨mt (x), mt (x + 1)⟩ : S51) :: mkFileS n (x + 1 + 1)
theorem markFileS_loop : ∀ (R P : List S51) (x : Int), 1 ≤ x → x + 2 * R.length ≤ 1000000000000 → (P.length : Int) + R.length ≤ 1048576 → Ev (fun k => laws_markFileS.l0 k (P ++ R) x P.length) (x + 2 * R.length, P ++ mkFileS R.length x) := by
  intro R
  induction R with
  | nil =>
    intro P x h1 h2 h3
    refine Ev_succ ?_
    simp (disch := (simp only [List.append_nil]; omega)) only [laws_markFileS.l0, if_neg]
    exact Ev_some (by simp [mkFileS])
  | cons a R ih =>
    intro P x h1 h2 h3
    simp only [List.length_cons] at h2 h3
    have e := ih (P ++ [(⟨mt (x), mt (x + 1)⟩ : S51)]) (x + 1 + 1) (by omega) (by omega) (by simp only [List.length_append, List.length_cons, List.length_nil]; omega)
    have e1 : (P ++ [(⟨mt (x), mt (x + 1)⟩ : S51)]) ++ R = P ++ (⟨mt (x), mt (x + 1)⟩ : S51) :: R := by simp
    have e2 : ((P ++ [(⟨mt (x), mt (x + 1)⟩ : S51)]).length : Int) = (P.length : Int) + 1 := by simp
    rw [e1, e2] at e
    refine Ev_succ ?_
    simp (disch := (first | omega | (simp only [len_mid]; omega))) only [laws_markFileS.l0, if_pos, Option.bind_some, w64, set_mid, rd_T51, getD_mid]
    refine Ev_call (mt_ev (x) (by omega) (by omega)) ?_
    try simp (disch := (first | omega | (simp only [len_mid]; omega))) only [if_pos, Option.bind_some, w64, set_mid, rd_T51, getD_mid]
    refine Ev_call (mt_ev (x + 1) (by omega) (by omega)) ?_
    try simp (disch := (first | omega | (simp only [len_mid]; omega))) only [if_pos, Option.bind_some, w64, set_mid, rd_T51, getD_mid]
    have e3 : (P ++ [(⟨mt (x), mt (x + 1)⟩ : S51)]) ++ mkFileS R.length (x + 1 + 1) = P ++ mkFileS (R.length + 1) x := by simp [mkFileS]
    have e4 : x + 1 + 1 + 2 * (R.length : Int) = x + 2 * ((a :: R).length : Int) := by simp only [List.length_cons]; omega
    rw [e3, e4] at e
    exact e
theorem markFileS_ev (l : List S51) (x : Int) (h1 : 1 ≤ x) (h2 : x + 2 * l.length ≤ 1000000000000) (h3 : l.length ≤ 1048576) : Ev (fun k => laws_markFileS.f k l x) (x + 2 * l.length, mkFileS l.length x) := by
  have e := markFileS_loop l [] x h1 h2 (by simp; omega)
  simp only [List.nil_append] at e
  simp only [laws_markFileS.f]
  exact e
theorem mkFileS_len : ∀ (n : Nat) (x : Int), (mkFileS n x).length = n
  | 0, _ => rfl
  | n + 1, x => by simp only [mkFileS, List.length_cons, mkFileS_len n]
theorem heldFileS_loop : ∀ (n : Nat) (P : List S51) (x : Int), 1 ≤ x → x + 2 * n ≤ 1000000000000 → (P.length : Int) + n ≤ 1048576 → Ev (fun k => laws_heldFileS.l0 k (P ++ mkFileS n x) x P.length) (x + 2 * n) := by
  intro n
  induction n with
  | zero =>
    intro P x h1 h2 h3
    refine Ev_succ ?_
    simp (disch := (simp only [mkFileS, List.append_nil]; omega)) only [laws_heldFileS.l0, if_neg]
    exact Ev_some (by simp)
  | succ n ih =>
    intro P x h1 h2 h3
    have hl := mkFileS_len n (x + 1 + 1)
    have e := ih (P ++ [(⟨mt (x), mt (x + 1)⟩ : S51)]) (x + 1 + 1) (by omega) (by omega) (by simp only [List.length_append, List.length_cons, List.length_nil]; omega)
    have e1 : (P ++ [(⟨mt (x), mt (x + 1)⟩ : S51)]) ++ mkFileS n (x + 1 + 1) = P ++ (⟨mt (x), mt (x + 1)⟩ : S51) :: mkFileS n (x + 1 + 1) := by simp
    have e2 : ((P ++ [(⟨mt (x), mt (x + 1)⟩ : S51)]).length : Int) = (P.length : Int) + 1 := by simp
    have e4 : x + 1 + 1 + 2 * (n : Int) = x + 2 * ((n + 1 : Nat) : Int) := by omega
    rw [e1, e2, e4] at e
    refine Ev_succ ?_
    simp only [mkFileS]
    simp (disch := (first | omega | (simp only [len_mid]; omega))) only [laws_heldFileS.l0, if_pos, if_true, Option.bind_some, w64, rd_T51, getD_mid]
    refine Ev_call (mt_ev (x) (by omega) (by omega)) ?_
    try simp (disch := (first | omega | (simp only [len_mid]; omega))) only [if_pos, if_true, Option.bind_some, w64, rd_T51, getD_mid]
    refine Ev_call (mt_ev (x + 1) (by omega) (by omega)) ?_
    try simp (disch := (first | omega | (simp only [len_mid]; omega))) only [if_pos, if_true, Option.bind_some, w64, rd_T51, getD_mid]
    exact e
theorem heldFileS_ev (n : Nat) (x : Int) (h1 : 1 ≤ x) (h2 : x + 2 * n ≤ 1000000000000) (h3 : n ≤ 1048576) : Ev (fun k => laws_heldFileS.f k (mkFileS n x) x) (x + 2 * n) := by
  have e := heldFileS_loop n [] x h1 h2 (by simp; omega)
  simp only [List.nil_append] at e
  simp only [laws_heldFileS.f]
  exact e
theorem FnExactReadFiles : laws_FnExactReadFiles.Say := by
  intro a ha
  apply Ev.rounds
  simp only [laws_FnExactReadFiles.f]
  by_cases h : (a.size : Int) > 1048576
  · simp only [if_pos h]; exact Ev.now _
  simp only [if_neg h]
  have e1 := read_spec_f a (by omega)
  have e2 := read_impl a (by omega)
  have hl : (readTo a).1.length ≤ 8 := by
    unfold readTo
    split
    · simp
    · next hq =>
      cases hp : parseP a (readV (a.extract 1 a.size)).1.toNat (1 + (readV (a.extract 1 a.size)).2.toNat) [] with
      | none => simp
      | some y =>
        obtain ⟨L, e⟩ := y
        simp only
        split
        · next hf => exact ((filesOk_iff L).1 hf.2).1
        · simp
  generalize readTo a = r at e1 e2 hl
  obtain ⟨l, b⟩ := r
  simp only at hl
  have eq := eqFileS_ev l (by omega)
  refine Ev_call e1 (Ev_call e2 (Ev_call eq ?_))
  simp only [if_true, bne_self_eq_false]
  refine Ev_succ ?_
  simp only [laws_FnExactReadFiles.j0, Bool.false_eq_true, if_false]
  refine Ev_call (markFileS_ev l 1 (by omega) (by omega) (by omega)) ?_
  have eh := heldFileS_ev l.length 1 (by omega) (by omega) (by omega)
  refine Ev_call eh ?_
  simp (disch := omega) only [if_neg, if_true]
  refine Ev_call e2 (Ev_call eq ?_)
  simp only [if_true, bne_self_eq_false]
  refine Ev_succ ?_
  simp only [laws_FnExactReadFiles.j1, Bool.false_eq_true, if_false]
  refine Ev_call eh ?_
  simp (disch := omega) only [if_neg, if_true]
  exact Ev.now _


end Go.Proofs.YtmpmfaaodjmpjaaDoor.Pure

import Derived.Test.YtpomlknkfedekaaDoorSayFnExactUp
import Derived.Test.YtpomlknkfedekaaDoorPathL
import Derived.Test.YtpomlknkfedekaaDoorKit
/- FnExactUp: both walk back over the slashes of the cleaned path and tell the same directories; the marks stay; for every text. -/
namespace Go.Proofs.YtpomlknkfedekaaDoor.Pure
open Go.RowKit Go.Proofs.YtpomlknkfedekaaDoor.PFnExactUp Go.Proofs.YtpomlknkfedekaaDoorW.PrintWords Go.Proofs.YtpomlknkfedekaaDoorW.PrintLast Go.Proofs.YtpomlknkfedekaaDoorW.PrintMore Go.Proofs.YtpomlknkfedekaaDoor.Kit
set_option linter.unusedSimpArgs false
set_option linter.unusedVariables false

theorem path_spec_loop (s : ByteArray) (hs : s.size ≤ 4000000) (d : Nat) : ∀ (i : Int), 0 ≤ i → i + d = s.size → Ev (fun k => spec_l2Path.l0 k s i) (okF s i d) := by
  induction d with
  | zero =>
    intro i h0 h1
    refine Ev_succ ?_
    simp (disch := omega) only [spec_l2Path.l0, if_neg]
    exact Ev.now _
  | succ d ih =>
    intro i h0 h1
    refine Ev_succ ?_
    have hw : wrap64 (i + 1) = i + 1 := w64 (by omega) (by omega)
    have h2 : i < (s.size : Int) := by omega
    by_cases ho : okb (bt s i) = true
    · have e := ih (i + 1) (by omega) (by omega)
      rw [okF, ho, Bool.true_and]
      have ho' := of_decide_eq_true ho
      refine Ev.congr (fun k => ?_) e
      simp only [spec_l2Path.l0, if_pos h2, if_pos h0, hw]
      repeat' split
      all_goals first | rfl | (exfalso; omega)
    · rw [okF, Bool.eq_false_iff.mpr ho, Bool.false_and]
      have ho' : ¬ ((97 ≤ bt s i ∧ bt s i ≤ 122) ∨ (48 ≤ bt s i ∧ bt s i ≤ 57) ∨ bt s i = 46 ∨ bt s i = 95 ∨ bt s i = 45 ∨ bt s i = 47) := fun h => ho (decide_eq_true h)
      refine Ev.congr (fun k => ?_) (Ev.now false)
      simp only [spec_l2Path.l0, if_pos h2, if_pos h0, hw]
      repeat' split
      all_goals first | rfl | (exfalso; omega)
theorem path_spec (s : ByteArray) (hs : s.size ≤ 4000000) : Ev (fun k => spec_l2Path.f k s) (isP s) := by
  unfold isP
  by_cases h : 1 ≤ s.size ∧ s.size ≤ 40
  · have c1 : (s.size : Int) ≥ 1 := by omega
    have c2 : decide ((s.size : Int) ≤ 40) = true := decide_eq_true (by omega)
    have c3 : 0 < (s.size : Int) := by omega
    simp only [spec_l2Path.f, spec_l1In.f, if_pos c1, c2, Option.bind_some, if_true, if_pos c3, h.1, h.2, decide_true, Bool.true_and]
    refine Ev_succ ?_
    by_cases hb : bt s 0 = 47
    · have e1 : (bt s 0 != 47) = false := by rw [hb]; rfl
      have e2 : (bt s 0 == 47) = true := by rw [hb]; rfl
      simp only [spec_l2Path.j0, e1, e2, Bool.true_and, Bool.false_eq_true, if_false]
      exact path_spec_loop s hs s.size 0 (by omega) (by omega)
    · have e1 : (bt s 0 != 47) = true := bne_iff_ne.mpr hb
      have e2 : (bt s 0 == 47) = false := beq_eq_false_iff_ne.mpr hb
      simp only [spec_l2Path.j0, e1, e2, Bool.false_and, if_true]
      exact Ev.now _
  · have e : (decide (1 ≤ s.size) && decide (s.size ≤ 40)) = false := by
      rw [← Bool.decide_and]; exact decide_eq_false h
    rw [e, Bool.false_and, Bool.false_and]
    by_cases c1 : (s.size : Int) ≥ 1
    · have c2 : decide ((s.size : Int) ≤ 40) = false := decide_eq_false (by omega)
      simp only [spec_l2Path.f, spec_l1In.f, if_pos c1, c2, Option.bind_some, Bool.false_eq_true, if_false]
      refine Ev_succ ?_
      simp only [spec_l2Path.j0, if_true]
      exact Ev.now _
    · simp only [spec_l2Path.f, spec_l1In.f, if_neg c1, Option.bind_some, Bool.false_eq_true, if_false]
      refine Ev_succ ?_
      simp only [spec_l2Path.j0, if_true]
      exact Ev.now _
theorem path_impl_loop (s : ByteArray) (hs : s.size ≤ 4000000) (d : Nat) : ∀ (i : Int), 0 ≤ i → i + d = s.size → Ev (fun k => impl_isPath.l0 k s s.size i) (okF s i d && (decide (1 ≤ s.size) && decide (s.size ≤ 40) && (bt s 0 == 47))) := by
  induction d with
  | zero =>
    intro i h0 h1
    refine Ev_succ ?_
    rw [okF, Bool.true_and]
    by_cases h : 1 ≤ s.size ∧ s.size ≤ 40
    · have c1 : (s.size : Int) ≥ 1 := by omega
      have c2 : decide ((s.size : Int) ≤ 40) = true := decide_eq_true (by omega)
      have c3 : 0 < (s.size : Int) := by omega
      have c4 : ¬ i < (s.size : Int) := by omega
      simp only [impl_isPath.l0, if_neg c4, impl_in.f, if_pos c1, c2, Option.bind_some, if_true, if_pos c3, h.1, h.2, decide_true, Bool.true_and]
      exact Ev.now _
    · have e : (decide (1 ≤ s.size) && decide (s.size ≤ 40)) = false := by
        rw [← Bool.decide_and]; exact decide_eq_false h
      have c4 : ¬ i < (s.size : Int) := by omega
      rw [e, Bool.false_and]
      by_cases c1 : (s.size : Int) ≥ 1
      · have c2 : decide ((s.size : Int) ≤ 40) = false := decide_eq_false (by omega)
        simp only [impl_isPath.l0, if_neg c4, impl_in.f, if_pos c1, c2, Option.bind_some, Bool.false_eq_true, if_false]
        exact Ev.now _
      · simp only [impl_isPath.l0, if_neg c4, impl_in.f, if_neg c1, Option.bind_some, Bool.false_eq_true, if_false]
        exact Ev.now _
  | succ d ih =>
    intro i h0 h1
    refine Ev_succ ?_
    have hw : wrap64 (i + 1) = i + 1 := w64 (by omega) (by omega)
    have h2 : i < (s.size : Int) := by omega
    by_cases ho : okb (bt s i) = true
    · have e := ih (i + 1) (by omega) (by omega)
      rw [okF, ho, Bool.true_and]
      have ho' := of_decide_eq_true ho
      refine Ev.congr (fun k => ?_) e
      simp only [impl_isPath.l0, if_pos h2, if_pos h0, hw]
      repeat' split
      all_goals first | rfl | (exfalso; omega)
    · rw [okF, Bool.eq_false_iff.mpr ho, Bool.false_and, Bool.false_and]
      have ho' : ¬ ((97 ≤ bt s i ∧ bt s i ≤ 122) ∨ (48 ≤ bt s i ∧ bt s i ≤ 57) ∨ bt s i = 46 ∨ bt s i = 95 ∨ bt s i = 45 ∨ bt s i = 47) := fun h => ho (decide_eq_true h)
      refine Ev.congr (fun k => ?_) (Ev.now false)
      simp only [impl_isPath.l0, if_pos h2, if_pos h0, hw]
      repeat' split
      all_goals first | rfl | (exfalso; omega)
theorem path_impl (s : ByteArray) (hs : s.size ≤ 4000000) : Ev (fun k => impl_isPath.f k s) (isP s) := by
  have e := path_impl_loop s hs s.size 0 (by omega) (by omega)
  rw [Bool.and_comm] at e
  exact e
theorem isP_size {s : ByteArray} (h : isP s = true) : 1 ≤ s.size ∧ s.size ≤ 40 := by
  unfold isP at h
  simp only [Bool.and_eq_true, decide_eq_true_eq] at h
  exact h.1.1
theorem clean_show (st : List ByteArray) (hl : st.length ≤ 50) (hz : ∀ x ∈ st, x.size ≤ 40) (d : Nat) : ∀ (j : Nat), j + d = st.length →
    Ev (fun k => spec_Clean.l1 k st (PB (Lib.joinTail [47] ((st.take j).map (·.data.toList)))) (j : Int)) (PB (Lib.joinTail [47] (st.map (·.data.toList)))) := by
  induction d with
  | zero =>
    intro j hj
    refine Ev_succ ?_
    have c : ¬ (j : Int) < (st.length : Int) := by omega
    simp only [spec_Clean.l1, if_neg c]
    rw [List.take_of_length_le (by omega)]
    exact Ev.now _
  | succ d ih =>
    intro j hj
    have e := ih (j + 1) (by omega)
    refine Ev_succ ?_
    have hjl : j < st.length := by omega
    have c : (j : Int) < (st.length : Int) := by omega
    have c0 : 0 ≤ (j : Int) := by omega
    have hw : wrap64 ((j : Int) + 1) = ((j + 1 : Nat) : Int) := by rw [w64 (by omega) (by omega)]; omega
    have hr : rdOf ByteArray.empty st (j : Int) = st[j] := by simp only [rdOf, Int.toNat_natCast, List.getD, List.getElem?_eq_getElem hjl, Option.getD_some]
    have hb : (Lib.joinTail [47] ((st.take j).map (·.data.toList))).length ≤ 50 * 41 := by
      have := joinTail_le ((st.take j).map (·.data.toList)) 40 (fun x hx => by obtain ⟨y, hy, rfl⟩ := List.mem_map.1 hx; exact hz y (List.mem_of_mem_take hy))
      simp only [List.length_map, List.length_take] at this
      omega
    have hy : st[j].size ≤ 40 := hz _ (List.getElem_mem hjl)
    have hone : (⟨#[47]⟩ : ByteArray) = PB [47] := rfl
    have e1 : (PB (Lib.joinTail [47] ((st.take j).map (·.data.toList))) ++ (⟨#[47]⟩ : ByteArray)) ++ st[j] = PB (Lib.joinTail [47] ((st.take (j + 1)).map (·.data.toList))) := by
      rw [hone, app_PB]
      conv => lhs; rw [← PB_data st[j]]
      rw [app_PB, List.take_succ_eq_append_getElem hjl, List.map_append, List.map_singleton, joinTail_snoc]
    have hs1 : (PB (Lib.joinTail [47] ((st.take j).map (·.data.toList)))).size = (Lib.joinTail [47] ((st.take j).map (·.data.toList))).length := rfl
    have hs2 : (PB (Lib.joinTail [47] ((st.take j).map (·.data.toList))) ++ (⟨#[47]⟩ : ByteArray)).size = (Lib.joinTail [47] ((st.take j).map (·.data.toList))).length + 1 := by rw [size_app, hs1]; rfl
    have d1 : (PB (Lib.joinTail [47] ((st.take j).map (·.data.toList)))).size + 1 ≤ 9223372036854775807 := by rw [hs1]; omega
    have d2 : (PB (Lib.joinTail [47] ((st.take j).map (·.data.toList))) ++ (⟨#[47]⟩ : ByteArray)).size + st[j].size ≤ 9223372036854775807 := by rw [hs2]; omega
    simp only [spec_Clean.l1, if_pos c, if_pos d1, if_pos c0, hr, if_pos d2, hw, e1]
    exact e
theorem cut_here (s : ByteArray) (st : List ByteArray) (fr i : Nat) (h1 : fr ≤ i) (h2 : i ≤ s.size) (hn : ∀ j, fr ≤ j → j < i → bt s (j : Int) ≠ 47) (hc : i < s.size → bt s (i : Int) = 47) :
    ((sp (s.data.toList.drop fr)).map PB).foldl stp st = ((sp (s.data.toList.drop (i + 1))).map PB).foldl stp (stp st (s.extract fr i)) := by
  have hl : s.data.toList.length = s.size := by rw [Array.length_toList]; rfl
  have he : s.extract fr i = PB ((s.data.toList.drop fr).take (i - fr)) := by
    apply data_inj
    rw [data_PB, ByteArray.data_extract, Array.toList_extract, List.extract_eq_take_drop]
  have hno : ∀ x ∈ (s.data.toList.drop fr).take (i - fr), x ≠ 47 := by
    intro x hx e
    obtain ⟨n, hnl, e1⟩ := List.getElem_of_mem hx
    have hb : n < i - fr ∧ fr + n < s.size := by simp at hnl; omega
    rw [List.getElem_take, List.getElem_drop] at e1
    refine hn (fr + n) (by omega) (by omega) ?_
    rw [btAt s (fr + n) hb.2]
    have e2 : s.data.toList[fr + n]'(by omega) = 47 := e1.trans e
    rw [e2]; rfl
  by_cases hi : i < s.size
  · have e47 : s.data.toList[i]'(by omega) = 47 := by
      have := hc hi
      rw [btAt s i hi] at this
      apply UInt8.toNat_inj.1
      have e3 : ((s.data.toList[i]'(by omega)).toNat : Int) = 47 := this
      have e4 : (47 : UInt8).toNat = 47 := rfl
      omega
    have hd : s.data.toList.drop fr = (s.data.toList.drop fr).take (i - fr) ++ 47 :: s.data.toList.drop (i + 1) := by
      conv => lhs; rw [← List.take_append_drop (i - fr) (s.data.toList.drop fr)]
      rw [List.drop_drop, show fr + (i - fr) = i by omega, List.drop_eq_getElem_cons (by omega : i < s.data.toList.length), e47]
    rw [hd, sp_app _ _ hno, List.map_cons, List.foldl_cons, ← he]
  · have h0 : s.data.toList.drop (i + 1) = [] := List.drop_eq_nil_of_le (by omega)
    have hd : s.data.toList.drop fr = (s.data.toList.drop fr).take (i - fr) := by
      rw [List.take_of_length_le]; rw [List.length_drop]; omega
    rw [h0, hd, sp_no _ hno]
    have hz := stp_nil (stp st (s.extract fr i))
    simp only [sp, List.map_cons, List.map_nil, List.foldl_cons, List.foldl_nil, ← he, hz]
theorem clean_spec_loop (s : ByteArray) (hs : s.size ≤ 40) (d : Nat) : ∀ (i fr : Nat) (st : List ByteArray), i + d = s.size + 1 → fr ≤ i → (i = s.size + 1 → fr = i) →
    (∀ j, fr ≤ j → j < i → j < s.size → bt s (j : Int) ≠ 47) → st.length ≤ fr → (∀ x ∈ st, x.size ≤ 40) →
    Ev (fun k => spec_Clean.l0 k s st (fr : Int) (i : Int)) (shown (((sp (s.data.toList.drop fr)).map PB).foldl stp st)) := by
  induction d with
  | zero =>
    intro i fr st hi hf hfi hn hl hz
    obtain rfl := hfi (by omega)
    have h0 : s.data.toList.drop fr = [] := List.drop_eq_nil_of_le (by rw [data_length]; omega)
    have hz0 : stp st (PB []) = st := by unfold stp; rw [if_pos (toList_PB [])]
    rw [h0]
    simp only [sp, List.map_cons, List.map_nil, List.foldl_cons, List.foldl_nil, hz0]
    refine Ev_succ ?_
    have c : ¬ (fr : Int) ≤ (s.size : Int) := by omega
    simp only [spec_Clean.l0, if_neg c]
    by_cases hst : st = []
    · subst hst
      simp only [shown, List.length_nil, Int.natCast_zero, if_true]
      exact Ev.now _
    · have c2 : ¬ (st.length : Int) = 0 := by
        have := List.length_pos_iff.2 hst; omega
      simp only [if_neg c2, shown, if_neg hst]
      exact clean_show st (by omega) hz st.length 0 (by omega)
  | succ d ih =>
    intro i fr st hi hf hfi hn hl hz
    have ci : (i : Int) ≤ (s.size : Int) := by omega
    have hw : wrap64 ((i : Int) + 1) = ((i + 1 : Nat) : Int) := by rw [w64 (by omega) (by omega)]; omega
    have c0 : 0 ≤ (i : Int) := by omega
    by_cases hgo : i < s.size ∧ bt s (i : Int) ≠ 47
    · have e := ih (i + 1) fr st (by omega) (by omega) (by omega) (fun j h1 h2 h3 => by
        by_cases hj : j = i
        · subst hj; exact hgo.2
        · exact hn j h1 (by omega) h3) hl hz
      have c1 : (i : Int) < (s.size : Int) := by omega
      have c2 : (bt s (i : Int) != 47) = true := bne_iff_ne.mpr hgo.2
      refine Ev_succ ?_
      simp only [spec_Clean.l0, if_pos ci, if_pos c1, if_pos c0, c2]
      refine Ev_succ ?_
      simp only [spec_Clean.j1, if_true, hw]
      exact e
    · have hcut := cut_here s st fr i hf (by omega) (fun j h1 h2 => hn j h1 h2 (by omega)) (fun h => by
        by_cases hb : bt s (i : Int) = 47
        · exact hb
        · exact absurd ⟨h, hb⟩ hgo)
      have hps : (s.extract fr i).size ≤ 40 := by rw [ByteArray.size_extract]; omega
      have hlen := stp_len st (s.extract fr i)
      have e := ih (i + 1) (i + 1) (stp st (s.extract fr i)) (by omega) (by omega) (fun _ => rfl) (fun j h1 h2 h3 => by omega) (by omega) (stp_size st _ 40 hz hps)
      rw [hcut]
      have two : ∀ b : Bool, (b = true ↔ (s.extract fr i).toList = [] ∨ (s.extract fr i).toList = [46]) → Ev (fun k => spec_Clean.j2 k s st ((i + 1 : Nat) : Int) (i : Int) (s.extract fr i) b) (shown (((sp (s.data.toList.drop (i + 1))).map PB).foldl stp (stp st (s.extract fr i)))) := by
        intro b hb
        refine Ev_succ ?_
        by_cases hbt : b = true
        · have hs0 : stp st (s.extract fr i) = st := by
            unfold stp
            rcases hb.1 hbt with h | h
            · rw [if_pos h]
            · by_cases h' : (s.extract fr i).toList = []
              · rw [if_pos h']
              · rw [if_neg h', if_pos h]
          rw [hs0] at e ⊢
          simp only [spec_Clean.j2, hbt, if_true, hw]
          exact e
        · have hno : ¬ ((s.extract fr i).toList = [] ∨ (s.extract fr i).toList = [46]) := fun h => hbt (hb.2 h)
          have hn1 : ¬ (s.extract fr i).toList = [] := fun h => hno (.inl h)
          have hn2 : ¬ (s.extract fr i).toList = [46] := fun h => hno (.inr h)
          by_cases hdd : (s.extract fr i).toList = [46, 46]
          · have hs0 : stp st (s.extract fr i) = st.take (st.length - 1) := by unfold stp; rw [if_neg hn1, if_neg hn2, if_pos hdd]
            rw [hs0] at e ⊢
            by_cases hst : st.length = 0
            · have h00 : st.take (st.length - 1) = st := by rw [List.take_of_length_le]; omega
              rw [h00] at e ⊢
              have c3 : ¬ (st.length : Int) > 0 := by omega
              simp only [spec_Clean.j2, hbt, if_false, Bool.false_eq_true, if_pos hdd, if_neg c3, hw]
              exact e
            · have c3 : (st.length : Int) > 0 := by omega
              have c4 : wrap64 ((st.length : Int) - 1) = ((st.length - 1 : Nat) : Int) := by rw [w64 (by omega) (by omega)]; omega
              have c5 : 0 ≤ ((st.length - 1 : Nat) : Int) := by omega
              have c6 : ((st.length - 1 : Nat) : Int) ≤ (st.length : Int) := by omega
              simp only [spec_Clean.j2, hbt, if_false, Bool.false_eq_true, if_pos hdd, if_pos c3, c4, if_pos c5, if_pos c6, Int.toNat_natCast, hw]
              exact e
          · have hs0 : stp st (s.extract fr i) = st ++ [s.extract fr i] := by unfold stp; rw [if_neg hn1, if_neg hn2, if_neg hdd]
            rw [hs0] at e ⊢
            have c7 : st.length < 8796093022208 := by omega
            simp only [spec_Clean.j2, hbt, if_false, Bool.false_eq_true, if_neg hdd, if_pos c7, hw]
            exact e
      have one : Ev (fun k => spec_Clean.j1 k s st (fr : Int) (i : Int) false) (shown (((sp (s.data.toList.drop (i + 1))).map PB).foldl stp (stp st (s.extract fr i)))) := by
        refine Ev_succ ?_
        have c8 : 0 ≤ (fr : Int) := by omega
        have c9 : (fr : Int) ≤ (i : Int) := by omega
        simp only [spec_Clean.j1, Bool.false_eq_true, if_false, if_pos c8, if_pos c9, if_pos ci, Int.toNat_natCast, hw]
        by_cases hp : (s.extract fr i).toList = []
        · simp only [if_pos hp]
          exact two true ⟨fun _ => .inl hp, fun _ => rfl⟩
        · simp only [if_neg hp]
          exact two _ ⟨fun h => .inr (beq_iff_eq.1 h), fun h => beq_iff_eq.2 (h.resolve_left hp)⟩
      refine Ev_succ ?_
      by_cases hi2 : i < s.size
      · have c1 : (i : Int) < (s.size : Int) := by omega
        have c2 : (bt s (i : Int) != 47) = false := by
          by_cases hb : bt s (i : Int) = 47
          · rw [hb]; rfl
          · exact absurd ⟨hi2, hb⟩ hgo
        simp only [spec_Clean.l0, if_pos ci, if_pos c1, if_pos c0, c2]
        exact one
      · have c1 : ¬ (i : Int) < (s.size : Int) := by omega
        simp only [spec_Clean.l0, if_pos ci, if_neg c1]
        exact one
def cleanTo (s : ByteArray) : ByteArray := if isP s = true then shown (cleaned s) else ⟨#[]⟩
theorem clean_spec (s : ByteArray) (hs : s.size ≤ 4000000) : Ev (fun k => spec_Clean.f k s) (cleanTo s) := by
  simp only [spec_Clean.f]
  refine Ev_call (path_spec s hs) ?_
  unfold cleanTo
  by_cases h : isP s = true
  · simp only [if_pos h]
    exact clean_spec_loop s (isP_size h).2 (s.size + 1) 0 0 [] (by omega) (by omega) (by omega) (fun j h1 h2 h3 => by omega) (by simp) (by simp)
  · simp only [if_neg h]
    exact Ev.now _
theorem clean_impl_loop (L : List ByteArray) (hL : L.length ≤ 41) (hz : ∀ x ∈ L, x.size ≤ 40) (d : Nat) : ∀ (i : Nat) (st : List ByteArray), i + d = L.length → st.length ≤ i → (∀ x ∈ st, x.size ≤ 40) →
    Ev (fun k => impl_Clean.l0 k st L (L.length : Int) (i : Int)) (shown ((L.drop i).foldl stp st)) := by
  induction d with
  | zero =>
    intro i st hi hl hzs
    have h0 : L.drop i = [] := List.drop_eq_nil_of_le (by omega)
    rw [h0, List.foldl_nil]
    refine Ev_succ ?_
    have c : ¬ (i : Int) < (L.length : Int) := by omega
    have hj : (Lib.join (st.map (·.data.toList)) [47]).length ≤ 2100 := by
      cases st with
      | nil => simp [Lib.join_nil]
      | cons x r =>
        rw [List.map_cons, Lib.join_cons, List.length_append]
        have h1 := joinTail_le (r.map (·.data.toList)) 40 (fun y hy => by obtain ⟨z, hz2, rfl⟩ := List.mem_map.1 hy; exact hzs z (.tail _ hz2))
        have h2 : x.data.toList.length ≤ 40 := hzs x (.head _)
        simp only [List.length_map, List.length_cons] at h1 hl
        omega
    have hjc : st.length ≤ 140737488355328 ∧ (Lib.join (st.map (·.data.toList)) (⟨#[47]⟩ : ByteArray).data.toList).length ≤ 140737488355328 := ⟨by omega, by
      have e : (⟨#[47]⟩ : ByteArray).data.toList = [47] := rfl
      rw [e]; omega⟩
    have hjz : 1 + (⟨(Lib.join (st.map (·.data.toList)) (⟨#[47]⟩ : ByteArray).data.toList).toArray⟩ : ByteArray).size ≤ 9223372036854775807 := by
      have e : (⟨(Lib.join (st.map (·.data.toList)) (⟨#[47]⟩ : ByteArray).data.toList).toArray⟩ : ByteArray).size = (Lib.join (st.map (·.data.toList)) [47]).length := rfl
      rw [e]; omega
    simp only [impl_Clean.l0, if_neg c, strings_Join.f, if_pos hjc, Option.bind_some, if_pos hjz]
    rw [← join_shown st]
    exact Ev.now _
  | succ d ih =>
    intro i st hi hl hzs
    have hil : i < L.length := by omega
    have hr : rdOf ByteArray.empty L (i : Int) = L[i] := by simp only [rdOf, Int.toNat_natCast, List.getD, List.getElem?_eq_getElem hil, Option.getD_some]
    have hxs : L[i].size ≤ 40 := hz _ (List.getElem_mem hil)
    have hlen := stp_len st L[i]
    have e := ih (i + 1) (stp st L[i]) (by omega) (by omega) (stp_size st _ 40 hzs hxs)
    have hw : wrap64 ((i : Int) + 1) = ((i + 1 : Nat) : Int) := by rw [w64 (by omega) (by omega)]; omega
    have c0 : 0 ≤ (i : Int) := by omega
    have c1 : (i : Int) < (L.length : Int) := by omega
    rw [List.drop_eq_getElem_cons hil, List.foldl_cons]
    generalize L[i] = x at hr hxs hlen e ⊢
    have two : ∀ b : Bool, (b = true ↔ x.toList = [] ∨ x.toList = [46]) → Ev (fun k => impl_Clean.j1 k st x L (L.length : Int) (i : Int) x b) (shown ((L.drop (i + 1)).foldl stp (stp st x))) := by
      intro b hb
      refine Ev_succ ?_
      by_cases hbt : b = true
      · have hs0 : stp st x = st := by
          unfold stp
          rcases hb.1 hbt with h | h
          · rw [if_pos h]
          · by_cases h' : x.toList = []
            · rw [if_pos h']
            · rw [if_neg h', if_pos h]
        rw [hs0] at e ⊢
        simp only [impl_Clean.j1, hbt, if_true, hw]
        exact e
      · have hno : ¬ (x.toList = [] ∨ x.toList = [46]) := fun h => hbt (hb.2 h)
        have hn1 : ¬ x.toList = [] := fun h => hno (.inl h)
        have hn2 : ¬ x.toList = [46] := fun h => hno (.inr h)
        by_cases hdd : x.toList = [46, 46]
        · have hs0 : stp st x = st.take (st.length - 1) := by unfold stp; rw [if_neg hn1, if_neg hn2, if_pos hdd]
          rw [hs0] at e ⊢
          have c4 : mx 0 (wrap64 ((st.length : Int) - 1)) = ((st.length - 1 : Nat) : Int) := by
            rw [w64 (by omega) (by omega)]
            unfold mx
            split <;> omega
          have c5 : 0 ≤ ((st.length - 1 : Nat) : Int) := by omega
          have c6 : ((st.length - 1 : Nat) : Int) ≤ (st.length : Int) := by omega
          simp only [impl_Clean.j1, hbt, if_false, Bool.false_eq_true, if_pos hdd, c4, if_pos c5, if_pos c6, Int.toNat_natCast, hw]
          exact e
        · have hs0 : stp st x = st ++ [x] := by unfold stp; rw [if_neg hn1, if_neg hn2, if_neg hdd]
          rw [hs0] at e ⊢
          have c7 : st.length < 8796093022208 := by omega
          simp only [impl_Clean.j1, hbt, if_false, Bool.false_eq_true, if_neg hdd, if_pos c7, hw]
          exact e
    refine Ev_succ ?_
    simp only [impl_Clean.l0, if_pos c1, if_pos c0, hr]
    by_cases hp : x.toList = []
    · have hpb : (x.toList == ([] : List UInt8)) = true := beq_iff_eq.2 hp
      simp only [if_pos hp, hpb]
      exact two true ⟨fun _ => .inl hp, fun _ => rfl⟩
    · simp only [if_neg hp]
      exact two _ ⟨fun h => .inr (beq_iff_eq.1 h), fun h => beq_iff_eq.2 (h.resolve_left hp)⟩
theorem clean_impl (s : ByteArray) (hs : s.size ≤ 4000000) : Ev (fun k => impl_Clean.f k s) (cleanTo s) := by
  simp only [impl_Clean.f]
  refine Ev_call (path_impl s hs) ?_
  unfold cleanTo
  by_cases h : isP s = true
  · have h40 := (isP_size h).2
    have c : s.size < 4294967281 ∧ 1 ≤ (⟨#[47]⟩ : ByteArray).size := ⟨by omega, Nat.le_refl _⟩
    simp only [if_pos h, strings_Split.f, if_pos c, Option.bind_some, splitB_sp]
    have hl1 := sp_len s.data.toList
    have hl2 := sp_size s.data.toList
    rw [data_length] at hl1 hl2
    exact clean_impl_loop ((sp s.data.toList).map PB) (by rw [List.length_map]; omega) (fun x hx => by
      obtain ⟨p, hp, rfl⟩ := List.mem_map.1 hx
      have := hl2 p hp
      rw [size_PB]; omega) _ 0 [] (Nat.zero_add _) (by simp) (by simp)
  · simp only [if_neg h]
    exact Ev.now _
theorem bang (s : ByteArray) (j : Nat) (h : j < s.size) : ((s.data[j]!).toNat : Int) = bt s (j : Int) := by
  rw [btAt s j h, getElem!_pos s.data j h, Array.getElem_toList]
theorem last_impl (a : ByteArray) (h : a.size ≤ 40) : strings_LastIndexByte.f a 47 = some (Lib.lastIndexByte a 47) := by
  unfold strings_LastIndexByte.f
  exact if_pos (Nat.lt_of_le_of_lt h (by decide))
theorem Ev_some_of {α : Type} {g : Option α} {a : α} (h : g = some a) : Ev (fun _ => g) a := h ▸ Ev.now a
theorem ext_ext (c : ByteArray) (i m : Nat) (h : i ≤ m) : (c.extract 0 m).extract 0 i = c.extract 0 i := by
  apply data_inj
  simp only [ByteArray.data_extract, Array.toList_extract, List.extract_eq_take_drop, List.drop_zero, Nat.sub_zero]
  rw [List.take_take, Nat.min_eq_left h]
theorem ext_size (c : ByteArray) (m : Nat) (h : m ≤ c.size) : (c.extract 0 m).size = m := by rw [ByteArray.size_extract]; omega
theorem ext_bt (c : ByteArray) (m j : Nat) (hj : j < m) (h : m ≤ c.size) : bt (c.extract 0 m) (j : Int) = bt c (j : Int) := by
  rw [btAt _ j (by rw [ext_size c m h]; exact hj), btAt c j (by omega)]
  have e : (c.extract 0 m).data.toList = c.data.toList.take m := by
    simp only [ByteArray.data_extract, Array.toList_extract, List.extract_eq_take_drop, List.drop_zero, Nat.sub_zero]
  have e2 : (c.extract 0 m).data.toList[j]'(by rw [data_length, ext_size c m h]; exact hj) = (c.data.toList.take m)[j]'(by rw [List.length_take, data_length]; omega) := by
    congr 1
  rw [e2, List.getElem_take]
theorem last_of (a : ByteArray) (h0 : bt a 0 = 47) (hs : 0 < a.size) : ∃ i : Nat, i < a.size ∧ Lib.lastIndexByte a 47 = i ∧ bt a (i : Int) = 47 ∧ ∀ j : Nat, i < j → j < a.size → bt a (j : Int) ≠ 47 := by
  rcases Lib.lastIndexByte_spec a 47 with ⟨_, hn⟩ | ⟨i, hi, he, h1, h2⟩
  · exact absurd ((bang a 0 hs).trans h0) (hn 0 hs)
  · exact ⟨i, hi, he, (bang a i hi).symm.trans h1, fun j hj hl e => h2 j hj hl ((bang a j hl).trans e)⟩
theorem up_scan (c : ByteArray) (hs : c.size ≤ 40) (acc r : List ByteArray) (i : Nat) (e : Ev (fun k => spec_Up.l0 k acc c (i : Int)) r) (d : Nat) :
    i + d < c.size → (∀ j : Nat, i < j → j ≤ i + d → bt c (j : Int) ≠ 47) → Ev (fun k => spec_Up.l0 k acc c ((i + d : Nat) : Int)) r := by
  induction d with
  | zero => intro _ _; exact e
  | succ d ih =>
    intro hl hn
    have e2 := ih (by omega) (fun j h1 h2 => hn j h1 (by omega))
    refine Ev_succ ?_
    have c0 : ((i + (d + 1) : Nat) : Int) > 0 := by omega
    have c1 : 0 ≤ ((i + (d + 1) : Nat) : Int) := by omega
    have c2 : ((i + (d + 1) : Nat) : Int) < (c.size : Int) := by omega
    have c3 := hn (i + (d + 1)) (by omega) (Nat.le_refl _)
    have hw : wrap64 (((i + (d + 1) : Nat) : Int) - 1) = ((i + d : Nat) : Int) := by rw [w64 (by omega) (by omega)]; omega
    simp only [spec_Up.l0, if_pos c0, if_pos c1, if_pos c2, if_neg c3, hw]
    exact e2
theorem impl_step (x : ByteArray) (acc r : List ByteArray) (i : Nat) (hs : x.size ≤ 40) (h1 : 1 < x.size) (hi : i < x.size) (he : Lib.lastIndexByte x 47 = i) (ha : acc.length ≤ 50) (z : ByteArray) (hz : z = if (x.extract 0 i).toList = [] then ⟨#[47]⟩ else x.extract 0 i)
    (e : Ev (fun k => impl_Up.l0 k z (acc ++ [z])) r) : Ev (fun k => impl_Up.l0 k x acc) r := by
  refine Ev_succ ?_
  have c0 : (x.size : Int) > 1 := by omega
  have c1 : 0 ≤ (i : Int) := by omega
  have c2 : (i : Int) ≤ (x.size : Int) := by omega
  have c3 : acc.length < 8796093022208 := by omega
  simp only [impl_Up.l0, if_pos c0]
  refine Ev_call (g := fun _ => strings_LastIndexByte.f x 47) (Ev_some_of ((last_impl x hs).trans (congrArg some he))) ?_
  simp only [if_pos c1, if_pos c2, Int.toNat_natCast, if_pos c3]
  by_cases hp : (x.extract 0 i).toList = []
  · rw [if_pos hp] at hz; subst hz
    simp only [if_pos hp]; exact e
  · rw [if_neg hp] at hz; subst hz
    simp only [if_neg hp]; exact e
theorem up_loop (c : ByteArray) (h0 : bt c 0 = 47) (h1 : bt c 1 ≠ 47) (hs : c.size ≤ 40) (n : Nat) : ∀ (m : Nat) (acc : List ByteArray), m ≤ n → 1 < m → m ≤ c.size → acc.length + m ≤ 48 →
    ∃ r : List ByteArray, r.length ≤ 50 ∧ Ev (fun k => spec_Up.l0 k acc c ((m - 1 : Nat) : Int)) r ∧ Ev (fun k => impl_Up.l0 k (c.extract 0 m) acc) r := by
  induction n with
  | zero => intro m acc h2 h3; omega
  | succ n ih =>
    intro m acc hmn hm1 hmc hacc
    have hsz := ext_size c m hmc
    have hb0 : bt (c.extract 0 m) 0 = 47 := (ext_bt c m 0 (by omega) hmc).trans h0
    obtain ⟨i, hi, he, h47, hne⟩ := last_of (c.extract 0 m) hb0 (by omega)
    rw [hsz] at hi hne
    have hc47 : bt c (i : Int) = 47 := (ext_bt c m i hi hmc).symm.trans h47
    have hcne : ∀ j : Nat, i < j → j ≤ i + (m - 1 - i) → bt c (j : Int) ≠ 47 := fun j a b e => hne j a (by omega) ((ext_bt c m j (by omega) hmc).trans e)
    have hi1 : i ≠ 1 := fun e => h1 (by subst e; exact hc47)
    have em : i + (m - 1 - i) = m - 1 := by omega
    by_cases hi0 : i = 0
    · subst hi0
      refine ⟨acc ++ [⟨#[47]⟩], by simp; omega, ?_, ?_⟩
      · have e : Ev (fun k => spec_Up.l0 k acc c ((0 : Nat) : Int)) (acc ++ [⟨#[47]⟩]) := by
          refine Ev_succ ?_
          have c0 : ¬ ((0 : Nat) : Int) > 0 := by omega
          have c1 : (c.size : Int) > 1 := by omega
          have c2 : acc.length < 8796093022208 := by omega
          simp only [spec_Up.l0, if_neg c0, if_pos c1, if_pos c2]
          exact Ev.now _
        have q := up_scan c hs acc _ 0 e (m - 1 - 0) (by omega) hcne
        rw [em] at q
        exact q
      · refine impl_step (c.extract 0 m) acc _ 0 (by omega) (by omega) (by omega) he (by omega) ⟨#[47]⟩ ?_ ?_
        · have z : ((c.extract 0 m).extract 0 0).toList = [] := by
            rw [ext_ext c 0 m (by omega), toList_data]
            simp only [ByteArray.data_extract, Array.toList_extract, List.extract_eq_take_drop, List.drop_zero, Nat.sub_zero, List.take_zero]
          rw [if_pos z]
        · refine Ev_succ ?_
          have c0 : ¬ (((⟨#[47]⟩ : ByteArray).size : Int) > 1) := by decide
          simp only [impl_Up.l0, if_neg c0]
          exact Ev.now _
    · obtain ⟨r, hr, e1, e2⟩ := ih i (acc ++ [c.extract 0 i]) (by omega) (by omega) (by omega) (by simp; omega)
      refine ⟨r, hr, ?_, ?_⟩
      · have e : Ev (fun k => spec_Up.l0 k acc c (i : Int)) r := by
          refine Ev_succ ?_
          have c0 : (i : Int) > 0 := by omega
          have c1 : 0 ≤ (i : Int) := by omega
          have c2 : (i : Int) < (c.size : Int) := by omega
          have c4 : (i : Int) ≤ (c.size : Int) := by omega
          have c5 : acc.length < 8796093022208 := by omega
          have hw : wrap64 ((i : Int) - 1) = ((i - 1 : Nat) : Int) := by rw [w64 (by omega) (by omega)]; omega
          simp only [spec_Up.l0, if_pos c0, if_pos c1, if_pos c2, if_pos hc47, if_pos c4, if_pos c5, Int.toNat_natCast, hw]
          exact e1
        have q := up_scan c hs acc r i e (m - 1 - i) (by omega) hcne
        rw [em] at q
        exact q
      · refine impl_step (c.extract 0 m) acc r i (by omega) (by omega) (by omega) he (by omega) (c.extract 0 i) ?_ e2
        have z : ¬ ((c.extract 0 m).extract 0 i).toList = [] := by
          rw [ext_ext c i m (by omega), toList_data]
          intro e
          have := congrArg List.length e
          rw [data_length, ext_size c i (by omega)] at this
          simp at this; omega
        rw [if_neg z, ext_ext c i m (by omega)]
theorem up_both (s : ByteArray) (hs : s.size ≤ 1048576) : ∃ r : List ByteArray, r.length ≤ 50 ∧ Ev (fun k => spec_Up.f k s) r ∧ Ev (fun k => impl_Up.f k s) r := by
  have main : ∃ r : List ByteArray, r.length ≤ 50 ∧ Ev (fun k => spec_Up.l0 k [] (cleanTo s) (wrap64 (((cleanTo s).size : Int) - 1))) r ∧ Ev (fun k => impl_Up.l0 k (cleanTo s) []) r := by
    have small : ∀ c : ByteArray, c.size ≤ 1 → ∃ r : List ByteArray, r.length ≤ 50 ∧ Ev (fun k => spec_Up.l0 k [] c (wrap64 ((c.size : Int) - 1))) r ∧ Ev (fun k => impl_Up.l0 k c []) r := by
      intro c hc
      refine ⟨[], by simp, Ev_succ ?_, Ev_succ ?_⟩
      · have hw : wrap64 ((c.size : Int) - 1) = (c.size : Int) - 1 := w64 (by omega) (by omega)
        have c0 : ¬ ((c.size : Int) - 1 > 0) := by omega
        have c1 : ¬ ((c.size : Int) > 1) := by omega
        simp only [spec_Up.l0, hw, if_neg c0, if_neg c1]
        exact Ev.now _
      · have c1 : ¬ ((c.size : Int) > 1) := by omega
        simp only [impl_Up.l0, if_neg c1]
        exact Ev.now _
    by_cases hp : isP s = true
    · have ec : cleanTo s = shown (cleaned s) := by unfold cleanTo; rw [if_pos hp]
      rw [ec]
      have hP := (clean_fix hp).1
      have h40 := (isP_size hP).2
      by_cases h1 : (shown (cleaned s)).size ≤ 1
      · exact small _ h1
      · have h0 : bt (shown (cleaned s)) 0 = 47 := by
          unfold isP at hP
          simp only [Bool.and_eq_true, decide_eq_true_eq, beq_iff_eq] at hP
          exact hP.1.2
        obtain ⟨r, hr, e1, e2⟩ := up_loop (shown (cleaned s)) h0 (shown_second (by omega)) h40 _ (shown (cleaned s)).size [] (Nat.le_refl _) (by omega) (Nat.le_refl _) (by simp; omega)
        have hw : wrap64 (((shown (cleaned s)).size : Int) - 1) = (((shown (cleaned s)).size - 1 : Nat) : Int) := by rw [w64 (by omega) (by omega)]; omega
        have hx : (shown (cleaned s)).extract 0 (shown (cleaned s)).size = shown (cleaned s) := by
          apply data_inj
          simp only [ByteArray.data_extract, Array.toList_extract, List.extract_eq_take_drop, List.drop_zero, Nat.sub_zero]
          exact List.take_of_length_le (by rw [data_length]; omega)
        rw [hw]
        rw [hx] at e2
        exact ⟨r, hr, e1, e2⟩
    · have ec : cleanTo s = ⟨#[]⟩ := by unfold cleanTo; rw [if_neg hp]
      rw [ec]
      exact small _ (by decide)
  obtain ⟨r, hr, e1, e2⟩ := main
  refine ⟨r, hr, ?_, ?_⟩
  · simp only [spec_Up.f]; exact Ev_call (clean_spec s (by omega)) e1
  · simp only [impl_Up.f]; exact Ev_call (clean_impl s (by omega)) e2
theorem eqStringS_loop (l : List ByteArray) (hl : l.length ≤ 1048576) (d : Nat) : ∀ i : Nat, i + d = l.length → Ev (fun k => laws_eqStringS.l0 k l l i) true := by
  induction d with
  | zero =>
    intro i hi
    refine Ev_succ ?_
    simp (disch := omega) only [laws_eqStringS.l0, if_neg]; exact Ev.now _
  | succ d ih =>
    intro i hi
    have e := ih (i + 1) (by omega)
    refine Ev_succ ?_
    simp (disch := omega) only [laws_eqStringS.l0, if_pos, if_true, w64]
    exact e
theorem eqStringS_ev (l : List ByteArray) (hl : l.length ≤ 1048576) : Ev (fun k => laws_eqStringS.f k l l) true := by
  have e := eqStringS_loop l hl l.length 0 (by omega)
  simp only [laws_eqStringS.f, if_true]
  exact e
theorem markText_loop (d : Nat) : ∀ (x : Int) (acc : ByteArray), 0 ≤ x → x.toNat ≤ d → x < 9223372036854775808 → acc.size + d ≤ 9223372036854775000 → ∃ t, Ev (fun k => laws_markText.l0 k x acc) t := by
  induction d with
  | zero =>
    intro x acc h0 hd h1 hs
    refine ⟨⟨#[109]⟩ ++ acc, Ev_succ ?_⟩
    simp (disch := omega) only [laws_markText.l0, if_neg, if_pos]; exact Ev.now _
  | succ d ih =>
    intro x acc h0 hd h1 hs
    by_cases hx : x > 0
    · have e1 : (strOfNums [(48 + x % 10) % 256]).size = 1 := by rw [strOfNums_size]; rfl
      obtain ⟨t, e⟩ := ih (x / 10) (strOfNums [(48 + x % 10) % 256] ++ acc) (by omega) (by omega) (by omega) (by rw [size_app]; omega)
      refine ⟨t, Ev_succ ?_⟩
      simp (disch := omega) only [laws_markText.l0, if_pos, w64, tmod_nn, tdiv_nn, Option.bind_some]; exact e
    · refine ⟨⟨#[109]⟩ ++ acc, Ev_succ ?_⟩
      simp (disch := omega) only [laws_markText.l0, if_neg, if_pos]; exact Ev.now _
theorem markText_any (x : Int) (h0 : 0 ≤ x) (h1 : x ≤ 1000000000000) : ∃ t, Ev (fun k => laws_markText.f k x) t := by
  by_cases hx : x ≤ 0
  · exact ⟨_, by simp only [laws_markText.f, if_pos hx]; exact Ev.now _⟩
  · obtain ⟨t, e⟩ := markText_loop x.toNat x ⟨#[]⟩ h0 (Nat.le_refl _) (by omega) (by show 0 + x.toNat ≤ _; omega)
    exact ⟨t, by simp only [laws_markText.f, if_neg hx]; exact e⟩
open Classical in
noncomputable def mt (x : Int) : ByteArray := if h : ∃ t, Ev (fun k => laws_markText.f k x) t then Classical.choose h else ⟨#[]⟩
theorem mt_ev (x : Int) (h0 : 0 ≤ x) (h1 : x ≤ 1000000000000) : Ev (fun k => laws_markText.f k x) (mt x) := by
  have h := markText_any x h0 h1
  unfold mt
  rw [dif_pos h]
  exact Classical.choose_spec h
noncomputable def mkStringS : Nat → Int → List ByteArray
  | 0, _ => []
  | n + 1, x => mt (x) :: mkStringS n (x + 1)
theorem markStringS_loop : ∀ (R P : List ByteArray) (x : Int), 1 ≤ x → x + 1 * R.length ≤ 1000000000000 → (P.length : Int) + R.length ≤ 1048576 → Ev (fun k => laws_markStringS.l0 k (P ++ R) x P.length) (x + 1 * R.length, P ++ mkStringS R.length x) := by
  intro R
  induction R with
  | nil =>
    intro P x h1 h2 h3
    refine Ev_succ ?_
    simp (disch := (simp only [List.append_nil]; omega)) only [laws_markStringS.l0, if_neg]
    exact Ev_some (by simp [mkStringS])
  | cons a R ih =>
    intro P x h1 h2 h3
    simp only [List.length_cons] at h2 h3
    have e := ih (P ++ [mt (x)]) (x + 1) (by omega) (by omega) (by simp only [List.length_append, List.length_cons, List.length_nil]; omega)
    have e1 : (P ++ [mt (x)]) ++ R = P ++ mt (x) :: R := by simp
    have e2 : ((P ++ [mt (x)]).length : Int) = (P.length : Int) + 1 := by simp
    rw [e1, e2] at e
    refine Ev_succ ?_
    simp (disch := (first | omega | (simp only [len_mid]; omega))) only [laws_markStringS.l0, if_pos, Option.bind_some, w64, set_mid]
    refine Ev_call (mt_ev (x) (by omega) (by omega)) ?_
    try simp (disch := (first | omega | (simp only [len_mid]; omega))) only [if_pos, Option.bind_some, w64, set_mid]
    have e3 : (P ++ [mt (x)]) ++ mkStringS R.length (x + 1) = P ++ mkStringS (R.length + 1) x := by simp [mkStringS]
    have e4 : x + 1 + 1 * (R.length : Int) = x + 1 * ((a :: R).length : Int) := by simp only [List.length_cons]; omega
    rw [e3, e4] at e
    exact e
theorem markStringS_ev (l : List ByteArray) (x : Int) (h1 : 1 ≤ x) (h2 : x + 1 * l.length ≤ 1000000000000) (h3 : l.length ≤ 1048576) : Ev (fun k => laws_markStringS.f k l x) (x + 1 * l.length, mkStringS l.length x) := by
  have e := markStringS_loop l [] x h1 h2 (by simp; omega)
  simp only [List.nil_append] at e
  simp only [laws_markStringS.f]
  exact e
theorem mkStringS_len : ∀ (n : Nat) (x : Int), (mkStringS n x).length = n
  | 0, _ => rfl
  | n + 1, x => by simp only [mkStringS, List.length_cons, mkStringS_len n]
theorem heldStringS_loop : ∀ (n : Nat) (P : List ByteArray) (x : Int), 1 ≤ x → x + 1 * n ≤ 1000000000000 → (P.length : Int) + n ≤ 1048576 → Ev (fun k => laws_heldStringS.l0 k (P ++ mkStringS n x) x P.length) (x + 1 * n) := by
  intro n
  induction n with
  | zero =>
    intro P x h1 h2 h3
    refine Ev_succ ?_
    simp (disch := (simp only [mkStringS, List.append_nil]; omega)) only [laws_heldStringS.l0, if_neg]
    exact Ev_some (by simp)
  | succ n ih =>
    intro P x h1 h2 h3
    have hl := mkStringS_len n (x + 1)
    have e := ih (P ++ [mt (x)]) (x + 1) (by omega) (by omega) (by simp only [List.length_append, List.length_cons, List.length_nil]; omega)
    have e1 : (P ++ [mt (x)]) ++ mkStringS n (x + 1) = P ++ mt (x) :: mkStringS n (x + 1) := by simp
    have e2 : ((P ++ [mt (x)]).length : Int) = (P.length : Int) + 1 := by simp
    have e4 : x + 1 + 1 * (n : Int) = x + 1 * ((n + 1 : Nat) : Int) := by omega
    rw [e1, e2, e4] at e
    refine Ev_succ ?_
    simp only [mkStringS]
    simp (disch := (first | omega | (simp only [len_mid]; omega))) only [laws_heldStringS.l0, if_pos, if_true, Option.bind_some, w64, rdOf, getD_mid]
    refine Ev_call (mt_ev (x) (by omega) (by omega)) ?_
    try simp (disch := (first | omega | (simp only [len_mid]; omega))) only [if_pos, if_true, Option.bind_some, w64, rdOf, getD_mid]
    exact e
theorem heldStringS_ev (n : Nat) (x : Int) (h1 : 1 ≤ x) (h2 : x + 1 * n ≤ 1000000000000) (h3 : n ≤ 1048576) : Ev (fun k => laws_heldStringS.f k (mkStringS n x) x) (x + 1 * n) := by
  have e := heldStringS_loop n [] x h1 h2 (by simp; omega)
  simp only [List.nil_append] at e
  simp only [laws_heldStringS.f]
  exact e
theorem FnExactUp : laws_FnExactUp.Say := by
  intro s _
  apply Ev.rounds
  simp only [laws_FnExactUp.f]
  by_cases h : (s.size : Int) > 1048576
  · simp only [if_pos h]; exact Ev.now _
  · simp only [if_neg h]
    obtain ⟨r, hr, e1, e2⟩ := up_both s (by omega)
    refine Ev_call e1 (Ev_call e2 (Ev_call (eqStringS_ev r (by omega)) ?_))
    simp only [if_true]
    refine Ev_call (markStringS_ev r 1 (by omega) (by omega) (by omega)) ?_
    have eh := heldStringS_ev r.length 1 (by omega) (by omega) (by omega)
    refine Ev_call eh ?_
    simp (disch := omega) only [if_neg, if_true]
    refine Ev_call e2 (Ev_call (eqStringS_ev r (by omega)) ?_)
    simp only [if_true]
    refine Ev_call eh ?_
    simp (disch := omega) only [if_neg, if_true]
    exact Ev.now _


end Go.Proofs.YtpomlknkfedekaaDoor.Pure

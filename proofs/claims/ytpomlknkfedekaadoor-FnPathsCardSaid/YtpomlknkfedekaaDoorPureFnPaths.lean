import Derived.Test.YtpomlknkfedekaaDoorSayFnPaths
import Derived.Test.YtpomlknkfedekaaDoorPathL
import Derived.Test.YtpomlknkfedekaaDoorKit
/- FnPaths: both resolve alike; what is cleaned is clean; from one directory a request leads to one place; for every code. -/
namespace Go.Proofs.YtpomlknkfedekaaDoor.Pure
open Go.RowKit Go.Proofs.YtpomlknkfedekaaDoor.PFnPaths Go.Proofs.YtpomlknkfedekaaDoorW.PrintWords Go.Proofs.YtpomlknkfedekaaDoorW.PrintLast Go.Proofs.YtpomlknkfedekaaDoorW.PrintMore Go.Proofs.YtpomlknkfedekaaDoor.Kit
set_option linter.unusedSimpArgs false
set_option linter.unusedVariables false

theorem path_spec_loop (s : ByteArray) (hs : s.size ≤ 4000000) (d : Nat) : ∀ (i : Int), 0 ≤ i → i + d = s.size → Ev (fun k => spec_l2Path.l0 k s i) (okF s i d) := by
  induction d with
  | zero =>
    intro i h0 h1
    refine Ev_succ ?_
    simp (disch := omega) only [spec_l2Path.l0, if_neg]
    exact Ev.now _
  | succ d ih =>
    intro i h0 h1
    refine Ev_succ ?_
    have hw : wrap64 (i + 1) = i + 1 := w64 (by omega) (by omega)
    have h2 : i < (s.size : Int) := by omega
    by_cases ho : okb (bt s i) = true
    · have e := ih (i + 1) (by omega) (by omega)
      rw [okF, ho, Bool.true_and]
      have ho' := of_decide_eq_true ho
      refine Ev.congr (fun k => ?_) e
      simp only [spec_l2Path.l0, if_pos h2, if_pos h0, hw]
      repeat' split
      all_goals first | rfl | (exfalso; omega)
    · rw [okF, Bool.eq_false_iff.mpr ho, Bool.false_and]
      have ho' : ¬ ((97 ≤ bt s i ∧ bt s i ≤ 122) ∨ (48 ≤ bt s i ∧ bt s i ≤ 57) ∨ bt s i = 46 ∨ bt s i = 95 ∨ bt s i = 45 ∨ bt s i = 47) := fun h => ho (decide_eq_true h)
      refine Ev.congr (fun k => ?_) (Ev.now false)
      simp only [spec_l2Path.l0, if_pos h2, if_pos h0, hw]
      repeat' split
      all_goals first | rfl | (exfalso; omega)
theorem path_spec (s : ByteArray) (hs : s.size ≤ 4000000) : Ev (fun k => spec_l2Path.f k s) (isP s) := by
  unfold isP
  by_cases h : 1 ≤ s.size ∧ s.size ≤ 40
  · have c1 : (s.size : Int) ≥ 1 := by omega
    have c2 : decide ((s.size : Int) ≤ 40) = true := decide_eq_true (by omega)
    have c3 : 0 < (s.size : Int) := by omega
    simp only [spec_l2Path.f, spec_l1In.f, if_pos c1, c2, Option.bind_some, if_true, if_pos c3, h.1, h.2, decide_true, Bool.true_and]
    refine Ev_succ ?_
    by_cases hb : bt s 0 = 47
    · have e1 : (bt s 0 != 47) = false := by rw [hb]; rfl
      have e2 : (bt s 0 == 47) = true := by rw [hb]; rfl
      simp only [spec_l2Path.j0, e1, e2, Bool.true_and, Bool.false_eq_true, if_false]
      exact path_spec_loop s hs s.size 0 (by omega) (by omega)
    · have e1 : (bt s 0 != 47) = true := bne_iff_ne.mpr hb
      have e2 : (bt s 0 == 47) = false := beq_eq_false_iff_ne.mpr hb
      simp only [spec_l2Path.j0, e1, e2, Bool.false_and, if_true]
      exact Ev.now _
  · have e : (decide (1 ≤ s.size) && decide (s.size ≤ 40)) = false := by
      rw [← Bool.decide_and]; exact decide_eq_false h
    rw [e, Bool.false_and, Bool.false_and]
    by_cases c1 : (s.size : Int) ≥ 1
    · have c2 : decide ((s.size : Int) ≤ 40) = false := decide_eq_false (by omega)
      simp only [spec_l2Path.f, spec_l1In.f, if_pos c1, c2, Option.bind_some, Bool.false_eq_true, if_false]
      refine Ev_succ ?_
      simp only [spec_l2Path.j0, if_true]
      exact Ev.now _
    · simp only [spec_l2Path.f, spec_l1In.f, if_neg c1, Option.bind_some, Bool.false_eq_true, if_false]
      refine Ev_succ ?_
      simp only [spec_l2Path.j0, if_true]
      exact Ev.now _
theorem path_impl_loop (s : ByteArray) (hs : s.size ≤ 4000000) (d : Nat) : ∀ (i : Int), 0 ≤ i → i + d = s.size → Ev (fun k => impl_isPath.l0 k s s.size i) (okF s i d && (decide (1 ≤ s.size) && decide (s.size ≤ 40) && (bt s 0 == 47))) := by
  induction d with
  | zero =>
    intro i h0 h1
    refine Ev_succ ?_
    rw [okF, Bool.true_and]
    by_cases h : 1 ≤ s.size ∧ s.size ≤ 40
    · have c1 : (s.size : Int) ≥ 1 := by omega
      have c2 : decide ((s.size : Int) ≤ 40) = true := decide_eq_true (by omega)
      have c3 : 0 < (s.size : Int) := by omega
      have c4 : ¬ i < (s.size : Int) := by omega
      simp only [impl_isPath.l0, if_neg c4, impl_in.f, if_pos c1, c2, Option.bind_some, if_true, if_pos c3, h.1, h.2, decide_true, Bool.true_and]
      exact Ev.now _
    · have e : (decide (1 ≤ s.size) && decide (s.size ≤ 40)) = false := by
        rw [← Bool.decide_and]; exact decide_eq_false h
      have c4 : ¬ i < (s.size : Int) := by omega
      rw [e, Bool.false_and]
      by_cases c1 : (s.size : Int) ≥ 1
      · have c2 : decide ((s.size : Int) ≤ 40) = false := decide_eq_false (by omega)
        simp only [impl_isPath.l0, if_neg c4, impl_in.f, if_pos c1, c2, Option.bind_some, Bool.false_eq_true, if_false]
        exact Ev.now _
      · simp only [impl_isPath.l0, if_neg c4, impl_in.f, if_neg c1, Option.bind_some, Bool.false_eq_true, if_false]
        exact Ev.now _
  | succ d ih =>
    intro i h0 h1
    refine Ev_succ ?_
    have hw : wrap64 (i + 1) = i + 1 := w64 (by omega) (by omega)
    have h2 : i < (s.size : Int) := by omega
    by_cases ho : okb (bt s i) = true
    · have e := ih (i + 1) (by omega) (by omega)
      rw [okF, ho, Bool.true_and]
      have ho' := of_decide_eq_true ho
      refine Ev.congr (fun k => ?_) e
      simp only [impl_isPath.l0, if_pos h2, if_pos h0, hw]
      repeat' split
      all_goals first | rfl | (exfalso; omega)
    · rw [okF, Bool.eq_false_iff.mpr ho, Bool.false_and, Bool.false_and]
      have ho' : ¬ ((97 ≤ bt s i ∧ bt s i ≤ 122) ∨ (48 ≤ bt s i ∧ bt s i ≤ 57) ∨ bt s i = 46 ∨ bt s i = 95 ∨ bt s i = 45 ∨ bt s i = 47) := fun h => ho (decide_eq_true h)
      refine Ev.congr (fun k => ?_) (Ev.now false)
      simp only [impl_isPath.l0, if_pos h2, if_pos h0, hw]
      repeat' split
      all_goals first | rfl | (exfalso; omega)
theorem path_impl (s : ByteArray) (hs : s.size ≤ 4000000) : Ev (fun k => impl_isPath.f k s) (isP s) := by
  have e := path_impl_loop s hs s.size 0 (by omega) (by omega)
  rw [Bool.and_comm] at e
  exact e
theorem isP_size {s : ByteArray} (h : isP s = true) : 1 ≤ s.size ∧ s.size ≤ 40 := by
  unfold isP at h
  simp only [Bool.and_eq_true, decide_eq_true_eq] at h
  exact h.1.1
theorem clean_show (st : List ByteArray) (hl : st.length ≤ 50) (hz : ∀ x ∈ st, x.size ≤ 40) (d : Nat) : ∀ (j : Nat), j + d = st.length →
    Ev (fun k => spec_Clean.l1 k st (PB (Lib.joinTail [47] ((st.take j).map (·.data.toList)))) (j : Int)) (PB (Lib.joinTail [47] (st.map (·.data.toList)))) := by
  induction d with
  | zero =>
    intro j hj
    refine Ev_succ ?_
    have c : ¬ (j : Int) < (st.length : Int) := by omega
    simp only [spec_Clean.l1, if_neg c]
    rw [List.take_of_length_le (by omega)]
    exact Ev.now _
  | succ d ih =>
    intro j hj
    have e := ih (j + 1) (by omega)
    refine Ev_succ ?_
    have hjl : j < st.length := by omega
    have c : (j : Int) < (st.length : Int) := by omega
    have c0 : 0 ≤ (j : Int) := by omega
    have hw : wrap64 ((j : Int) + 1) = ((j + 1 : Nat) : Int) := by rw [w64 (by omega) (by omega)]; omega
    have hr : rdOf ByteArray.empty st (j : Int) = st[j] := by simp only [rdOf, Int.toNat_natCast, List.getD, List.getElem?_eq_getElem hjl, Option.getD_some]
    have hb : (Lib.joinTail [47] ((st.take j).map (·.data.toList))).length ≤ 50 * 41 := by
      have := joinTail_le ((st.take j).map (·.data.toList)) 40 (fun x hx => by obtain ⟨y, hy, rfl⟩ := List.mem_map.1 hx; exact hz y (List.mem_of_mem_take hy))
      simp only [List.length_map, List.length_take] at this
      omega
    have hy : st[j].size ≤ 40 := hz _ (List.getElem_mem hjl)
    have hone : (⟨#[47]⟩ : ByteArray) = PB [47] := rfl
    have e1 : (PB (Lib.joinTail [47] ((st.take j).map (·.data.toList))) ++ (⟨#[47]⟩ : ByteArray)) ++ st[j] = PB (Lib.joinTail [47] ((st.take (j + 1)).map (·.data.toList))) := by
      rw [hone, app_PB]
      conv => lhs; rw [← PB_data st[j]]
      rw [app_PB, List.take_succ_eq_append_getElem hjl, List.map_append, List.map_singleton, joinTail_snoc]
    have hs1 : (PB (Lib.joinTail [47] ((st.take j).map (·.data.toList)))).size = (Lib.joinTail [47] ((st.take j).map (·.data.toList))).length := rfl
    have hs2 : (PB (Lib.joinTail [47] ((st.take j).map (·.data.toList))) ++ (⟨#[47]⟩ : ByteArray)).size = (Lib.joinTail [47] ((st.take j).map (·.data.toList))).length + 1 := by rw [size_app, hs1]; rfl
    have d1 : (PB (Lib.joinTail [47] ((st.take j).map (·.data.toList)))).size + 1 ≤ 9223372036854775807 := by rw [hs1]; omega
    have d2 : (PB (Lib.joinTail [47] ((st.take j).map (·.data.toList))) ++ (⟨#[47]⟩ : ByteArray)).size + st[j].size ≤ 9223372036854775807 := by rw [hs2]; omega
    simp only [spec_Clean.l1, if_pos c, if_pos d1, if_pos c0, hr, if_pos d2, hw, e1]
    exact e
theorem cut_here (s : ByteArray) (st : List ByteArray) (fr i : Nat) (h1 : fr ≤ i) (h2 : i ≤ s.size) (hn : ∀ j, fr ≤ j → j < i → bt s (j : Int) ≠ 47) (hc : i < s.size → bt s (i : Int) = 47) :
    ((sp (s.data.toList.drop fr)).map PB).foldl stp st = ((sp (s.data.toList.drop (i + 1))).map PB).foldl stp (stp st (s.extract fr i)) := by
  have hl : s.data.toList.length = s.size := by rw [Array.length_toList]; rfl
  have he : s.extract fr i = PB ((s.data.toList.drop fr).take (i - fr)) := by
    apply data_inj
    rw [data_PB, ByteArray.data_extract, Array.toList_extract, List.extract_eq_take_drop]
  have hno : ∀ x ∈ (s.data.toList.drop fr).take (i - fr), x ≠ 47 := by
    intro x hx e
    obtain ⟨n, hnl, e1⟩ := List.getElem_of_mem hx
    have hb : n < i - fr ∧ fr + n < s.size := by simp at hnl; omega
    rw [List.getElem_take, List.getElem_drop] at e1
    refine hn (fr + n) (by omega) (by omega) ?_
    rw [btAt s (fr + n) hb.2]
    have e2 : s.data.toList[fr + n]'(by omega) = 47 := e1.trans e
    rw [e2]; rfl
  by_cases hi : i < s.size
  · have e47 : s.data.toList[i]'(by omega) = 47 := by
      have := hc hi
      rw [btAt s i hi] at this
      apply UInt8.toNat_inj.1
      have e3 : ((s.data.toList[i]'(by omega)).toNat : Int) = 47 := this
      have e4 : (47 : UInt8).toNat = 47 := rfl
      omega
    have hd : s.data.toList.drop fr = (s.data.toList.drop fr).take (i - fr) ++ 47 :: s.data.toList.drop (i + 1) := by
      conv => lhs; rw [← List.take_append_drop (i - fr) (s.data.toList.drop fr)]
      rw [List.drop_drop, show fr + (i - fr) = i by omega, List.drop_eq_getElem_cons (by omega : i < s.data.toList.length), e47]
    rw [hd, sp_app _ _ hno, List.map_cons, List.foldl_cons, ← he]
  · have h0 : s.data.toList.drop (i + 1) = [] := List.drop_eq_nil_of_le (by omega)
    have hd : s.data.toList.drop fr = (s.data.toList.drop fr).take (i - fr) := by
      rw [List.take_of_length_le]; rw [List.length_drop]; omega
    rw [h0, hd, sp_no _ hno]
    have hz := stp_nil (stp st (s.extract fr i))
    simp only [sp, List.map_cons, List.map_nil, List.foldl_cons, List.foldl_nil, ← he, hz]
theorem clean_spec_loop (s : ByteArray) (hs : s.size ≤ 40) (d : Nat) : ∀ (i fr : Nat) (st : List ByteArray), i + d = s.size + 1 → fr ≤ i → (i = s.size + 1 → fr = i) →
    (∀ j, fr ≤ j → j < i → j < s.size → bt s (j : Int) ≠ 47) → st.length ≤ fr → (∀ x ∈ st, x.size ≤ 40) →
    Ev (fun k => spec_Clean.l0 k s st (fr : Int) (i : Int)) (shown (((sp (s.data.toList.drop fr)).map PB).foldl stp st)) := by
  induction d with
  | zero =>
    intro i fr st hi hf hfi hn hl hz
    obtain rfl := hfi (by omega)
    have h0 : s.data.toList.drop fr = [] := List.drop_eq_nil_of_le (by rw [data_length]; omega)
    have hz0 : stp st (PB []) = st := by unfold stp; rw [if_pos (toList_PB [])]
    rw [h0]
    simp only [sp, List.map_cons, List.map_nil, List.foldl_cons, List.foldl_nil, hz0]
    refine Ev_succ ?_
    have c : ¬ (fr : Int) ≤ (s.size : Int) := by omega
    simp only [spec_Clean.l0, if_neg c]
    by_cases hst : st = []
    · subst hst
      simp only [shown, List.length_nil, Int.natCast_zero, if_true]
      exact Ev.now _
    · have c2 : ¬ (st.length : Int) = 0 := by
        have := List.length_pos_iff.2 hst; omega
      simp only [if_neg c2, shown, if_neg hst]
      exact clean_show st (by omega) hz st.length 0 (by omega)
  | succ d ih =>
    intro i fr st hi hf hfi hn hl hz
    have ci : (i : Int) ≤ (s.size : Int) := by omega
    have hw : wrap64 ((i : Int) + 1) = ((i + 1 : Nat) : Int) := by rw [w64 (by omega) (by omega)]; omega
    have c0 : 0 ≤ (i : Int) := by omega
    by_cases hgo : i < s.size ∧ bt s (i : Int) ≠ 47
    · have e := ih (i + 1) fr st (by omega) (by omega) (by omega) (fun j h1 h2 h3 => by
        by_cases hj : j = i
        · subst hj; exact hgo.2
        · exact hn j h1 (by omega) h3) hl hz
      have c1 : (i : Int) < (s.size : Int) := by omega
      have c2 : (bt s (i : Int) != 47) = true := bne_iff_ne.mpr hgo.2
      refine Ev_succ ?_
      simp only [spec_Clean.l0, if_pos ci, if_pos c1, if_pos c0, c2]
      refine Ev_succ ?_
      simp only [spec_Clean.j1, if_true, hw]
      exact e
    · have hcut := cut_here s st fr i hf (by omega) (fun j h1 h2 => hn j h1 h2 (by omega)) (fun h => by
        by_cases hb : bt s (i : Int) = 47
        · exact hb
        · exact absurd ⟨h, hb⟩ hgo)
      have hps : (s.extract fr i).size ≤ 40 := by rw [ByteArray.size_extract]; omega
      have hlen := stp_len st (s.extract fr i)
      have e := ih (i + 1) (i + 1) (stp st (s.extract fr i)) (by omega) (by omega) (fun _ => rfl) (fun j h1 h2 h3 => by omega) (by omega) (stp_size st _ 40 hz hps)
      rw [hcut]
      have two : ∀ b : Bool, (b = true ↔ (s.extract fr i).toList = [] ∨ (s.extract fr i).toList = [46]) → Ev (fun k => spec_Clean.j2 k s st ((i + 1 : Nat) : Int) (i : Int) (s.extract fr i) b) (shown (((sp (s.data.toList.drop (i + 1))).map PB).foldl stp (stp st (s.extract fr i)))) := by
        intro b hb
        refine Ev_succ ?_
        by_cases hbt : b = true
        · have hs0 : stp st (s.extract fr i) = st := by
            unfold stp
            rcases hb.1 hbt with h | h
            · rw [if_pos h]
            · by_cases h' : (s.extract fr i).toList = []
              · rw [if_pos h']
              · rw [if_neg h', if_pos h]
          rw [hs0] at e ⊢
          simp only [spec_Clean.j2, hbt, if_true, hw]
          exact e
        · have hno : ¬ ((s.extract fr i).toList = [] ∨ (s.extract fr i).toList = [46]) := fun h => hbt (hb.2 h)
          have hn1 : ¬ (s.extract fr i).toList = [] := fun h => hno (.inl h)
          have hn2 : ¬ (s.extract fr i).toList = [46] := fun h => hno (.inr h)
          by_cases hdd : (s.extract fr i).toList = [46, 46]
          · have hs0 : stp st (s.extract fr i) = st.take (st.length - 1) := by unfold stp; rw [if_neg hn1, if_neg hn2, if_pos hdd]
            rw [hs0] at e ⊢
            by_cases hst : st.length = 0
            · have h00 : st.take (st.length - 1) = st := by rw [List.take_of_length_le]; omega
              rw [h00] at e ⊢
              have c3 : ¬ (st.length : Int) > 0 := by omega
              simp only [spec_Clean.j2, hbt, if_false, Bool.false_eq_true, if_pos hdd, if_neg c3, hw]
              exact e
            · have c3 : (st.length : Int) > 0 := by omega
              have c4 : wrap64 ((st.length : Int) - 1) = ((st.length - 1 : Nat) : Int) := by rw [w64 (by omega) (by omega)]; omega
              have c5 : 0 ≤ ((st.length - 1 : Nat) : Int) := by omega
              have c6 : ((st.length - 1 : Nat) : Int) ≤ (st.length : Int) := by omega
              simp only [spec_Clean.j2, hbt, if_false, Bool.false_eq_true, if_pos hdd, if_pos c3, c4, if_pos c5, if_pos c6, Int.toNat_natCast, hw]
              exact e
          · have hs0 : stp st (s.extract fr i) = st ++ [s.extract fr i] := by unfold stp; rw [if_neg hn1, if_neg hn2, if_neg hdd]
            rw [hs0] at e ⊢
            have c7 : st.length < 8796093022208 := by omega
            simp only [spec_Clean.j2, hbt, if_false, Bool.false_eq_true, if_neg hdd, if_pos c7, hw]
            exact e
      have one : Ev (fun k => spec_Clean.j1 k s st (fr : Int) (i : Int) false) (shown (((sp (s.data.toList.drop (i + 1))).map PB).foldl stp (stp st (s.extract fr i)))) := by
        refine Ev_succ ?_
        have c8 : 0 ≤ (fr : Int) := by omega
        have c9 : (fr : Int) ≤ (i : Int) := by omega
        simp only [spec_Clean.j1, Bool.false_eq_true, if_false, if_pos c8, if_pos c9, if_pos ci, Int.toNat_natCast, hw]
        by_cases hp : (s.extract fr i).toList = []
        · simp only [if_pos hp]
          exact two true ⟨fun _ => .inl hp, fun _ => rfl⟩
        · simp only [if_neg hp]
          exact two _ ⟨fun h => .inr (beq_iff_eq.1 h), fun h => beq_iff_eq.2 (h.resolve_left hp)⟩
      refine Ev_succ ?_
      by_cases hi2 : i < s.size
      · have c1 : (i : Int) < (s.size : Int) := by omega
        have c2 : (bt s (i : Int) != 47) = false := by
          by_cases hb : bt s (i : Int) = 47
          · rw [hb]; rfl
          · exact absurd ⟨hi2, hb⟩ hgo
        simp only [spec_Clean.l0, if_pos ci, if_pos c1, if_pos c0, c2]
        exact one
      · have c1 : ¬ (i : Int) < (s.size : Int) := by omega
        simp only [spec_Clean.l0, if_pos ci, if_neg c1]
        exact one
def cleanTo (s : ByteArray) : ByteArray := if isP s = true then shown (cleaned s) else ⟨#[]⟩
theorem clean_spec (s : ByteArray) (hs : s.size ≤ 4000000) : Ev (fun k => spec_Clean.f k s) (cleanTo s) := by
  simp only [spec_Clean.f]
  refine Ev_call (path_spec s hs) ?_
  unfold cleanTo
  by_cases h : isP s = true
  · simp only [if_pos h]
    exact clean_spec_loop s (isP_size h).2 (s.size + 1) 0 0 [] (by omega) (by omega) (by omega) (fun j h1 h2 h3 => by omega) (by simp) (by simp)
  · simp only [if_neg h]
    exact Ev.now _
theorem clean_impl_loop (L : List ByteArray) (hL : L.length ≤ 41) (hz : ∀ x ∈ L, x.size ≤ 40) (d : Nat) : ∀ (i : Nat) (st : List ByteArray), i + d = L.length → st.length ≤ i → (∀ x ∈ st, x.size ≤ 40) →
    Ev (fun k => impl_Clean.l0 k st L (L.length : Int) (i : Int)) (shown ((L.drop i).foldl stp st)) := by
  induction d with
  | zero =>
    intro i st hi hl hzs
    have h0 : L.drop i = [] := List.drop_eq_nil_of_le (by omega)
    rw [h0, List.foldl_nil]
    refine Ev_succ ?_
    have c : ¬ (i : Int) < (L.length : Int) := by omega
    have hj : (Lib.join (st.map (·.data.toList)) [47]).length ≤ 2100 := by
      cases st with
      | nil => simp [Lib.join_nil]
      | cons x r =>
        rw [List.map_cons, Lib.join_cons, List.length_append]
        have h1 := joinTail_le (r.map (·.data.toList)) 40 (fun y hy => by obtain ⟨z, hz2, rfl⟩ := List.mem_map.1 hy; exact hzs z (.tail _ hz2))
        have h2 : x.data.toList.length ≤ 40 := hzs x (.head _)
        simp only [List.length_map, List.length_cons] at h1 hl
        omega
    have hjc : st.length ≤ 140737488355328 ∧ (Lib.join (st.map (·.data.toList)) (⟨#[47]⟩ : ByteArray).data.toList).length ≤ 140737488355328 := ⟨by omega, by
      have e : (⟨#[47]⟩ : ByteArray).data.toList = [47] := rfl
      rw [e]; omega⟩
    have hjz : 1 + (⟨(Lib.join (st.map (·.data.toList)) (⟨#[47]⟩ : ByteArray).data.toList).toArray⟩ : ByteArray).size ≤ 9223372036854775807 := by
      have e : (⟨(Lib.join (st.map (·.data.toList)) (⟨#[47]⟩ : ByteArray).data.toList).toArray⟩ : ByteArray).size = (Lib.join (st.map (·.data.toList)) [47]).length := rfl
      rw [e]; omega
    simp only [impl_Clean.l0, if_neg c, strings_Join.f, if_pos hjc, Option.bind_some, if_pos hjz]
    rw [← join_shown st]
    exact Ev.now _
  | succ d ih =>
    intro i st hi hl hzs
    have hil : i < L.length := by omega
    have hr : rdOf ByteArray.empty L (i : Int) = L[i] := by simp only [rdOf, Int.toNat_natCast, List.getD, List.getElem?_eq_getElem hil, Option.getD_some]
    have hxs : L[i].size ≤ 40 := hz _ (List.getElem_mem hil)
    have hlen := stp_len st L[i]
    have e := ih (i + 1) (stp st L[i]) (by omega) (by omega) (stp_size st _ 40 hzs hxs)
    have hw : wrap64 ((i : Int) + 1) = ((i + 1 : Nat) : Int) := by rw [w64 (by omega) (by omega)]; omega
    have c0 : 0 ≤ (i : Int) := by omega
    have c1 : (i : Int) < (L.length : Int) := by omega
    rw [List.drop_eq_getElem_cons hil, List.foldl_cons]
    generalize L[i] = x at hr hxs hlen e ⊢
    have two : ∀ b : Bool, (b = true ↔ x.toList = [] ∨ x.toList = [46]) → Ev (fun k => impl_Clean.j1 k st x L (L.length : Int) (i : Int) x b) (shown ((L.drop (i + 1)).foldl stp (stp st x))) := by
      intro b hb
      refine Ev_succ ?_
      by_cases hbt : b = true
      · have hs0 : stp st x = st := by
          unfold stp
          rcases hb.1 hbt with h | h
          · rw [if_pos h]
          · by_cases h' : x.toList = []
            · rw [if_pos h']
            · rw [if_neg h', if_pos h]
        rw [hs0] at e ⊢
        simp only [impl_Clean.j1, hbt, if_true, hw]
        exact e
      · have hno : ¬ (x.toList = [] ∨ x.toList = [46]) := fun h => hbt (hb.2 h)
        have hn1 : ¬ x.toList = [] := fun h => hno (.inl h)
        have hn2 : ¬ x.toList = [46] := fun h => hno (.inr h)
        by_cases hdd : x.toList = [46, 46]
        · have hs0 : stp st x = st.take (st.length - 1) := by unfold stp; rw [if_neg hn1, if_neg hn2, if_pos hdd]
          rw [hs0] at e ⊢
          have c4 : mx 0 (wrap64 ((st.length : Int) - 1)) = ((st.length - 1 : Nat) : Int) := by
            rw [w64 (by omega) (by omega)]
            unfold mx
            split <;> omega
          have c5 : 0 ≤ ((st.length - 1 : Nat) : Int) := by omega
          have c6 : ((st.length - 1 : Nat) : Int) ≤ (st.length : Int) := by omega
          simp only [impl_Clean.j1, hbt, if_false, Bool.false_eq_true, if_pos hdd, c4, if_pos c5, if_pos c6, Int.toNat_natCast, hw]
          exact e
        · have hs0 : stp st x = st ++ [x] := by unfold stp; rw [if_neg hn1, if_neg hn2, if_neg hdd]
          rw [hs0] at e ⊢
          have c7 : st.length < 8796093022208 := by omega
          simp only [impl_Clean.j1, hbt, if_false, Bool.false_eq_true, if_neg hdd, if_pos c7, hw]
          exact e
    refine Ev_succ ?_
    simp only [impl_Clean.l0, if_pos c1, if_pos c0, hr]
    by_cases hp : x.toList = []
    · have hpb : (x.toList == ([] : List UInt8)) = true := beq_iff_eq.2 hp
      simp only [if_pos hp, hpb]
      exact two true ⟨fun _ => .inl hp, fun _ => rfl⟩
    · simp only [if_neg hp]
      exact two _ ⟨fun h => .inr (beq_iff_eq.1 h), fun h => beq_iff_eq.2 (h.resolve_left hp)⟩
theorem clean_impl (s : ByteArray) (hs : s.size ≤ 4000000) : Ev (fun k => impl_Clean.f k s) (cleanTo s) := by
  simp only [impl_Clean.f]
  refine Ev_call (path_impl s hs) ?_
  unfold cleanTo
  by_cases h : isP s = true
  · have h40 := (isP_size h).2
    have c : s.size < 4294967281 ∧ 1 ≤ (⟨#[47]⟩ : ByteArray).size := ⟨by omega, Nat.le_refl _⟩
    simp only [if_pos h, strings_Split.f, if_pos c, Option.bind_some, splitB_sp]
    have hl1 := sp_len s.data.toList
    have hl2 := sp_size s.data.toList
    rw [data_length] at hl1 hl2
    exact clean_impl_loop ((sp s.data.toList).map PB) (by rw [List.length_map]; omega) (fun x hx => by
      obtain ⟨p, hp, rfl⟩ := List.mem_map.1 hx
      have := hl2 p hp
      rw [size_PB]; omega) _ 0 [] (Nat.zero_add _) (by simp) (by simp)
  · simp only [if_neg h]
    exact Ev.now _
def beg (p s : ByteArray) : Bool := if p.size ≤ s.size then (s.extract 0 p.size).toList == p.toList else false
theorem beg_spec (p s : ByteArray) : spec_l2Begins.f p s = some (beg p s) := by
  by_cases h : p.size ≤ s.size
  · have c1 : (p.size : Int) ≤ (s.size : Int) := by omega
    have c2 : 0 ≤ (p.size : Int) := by omega
    simp only [spec_l2Begins.f, if_pos c1, if_pos c2, Int.toNat_natCast, beg, if_pos h]
  · have c1 : ¬ (p.size : Int) ≤ (s.size : Int) := by omega
    simp only [spec_l2Begins.f, if_neg c1, beg, if_neg h]
theorem beg_impl (p s : ByteArray) : strings_HasPrefix.f s p = some (beg p s) := by
  by_cases h : p.size ≤ s.size
  · have c1 : (p.size : Int) ≤ (s.size : Int) := by omega
    have c3 : (s.size : Int) ≥ (p.size : Int) := by omega
    have c2 : 0 ≤ (p.size : Int) := by omega
    simp only [strings_HasPrefix.f, stringslite_HasPrefix.f, if_pos c3, if_pos c1, if_pos c2, Int.toNat_natCast, beg, if_pos h, Option.bind_some]
  · have c1 : ¬ (s.size : Int) ≥ (p.size : Int) := by omega
    simp only [strings_HasPrefix.f, stringslite_HasPrefix.f, if_neg c1, beg, if_neg h, Option.bind_some]
def nearTo (a b : ByteArray) : ByteArray := cleanTo (a.extract 0 (Lib.lastIndexByte a 47 + 1).toNat ++ b)
def resolveTo (a b : ByteArray) : ByteArray :=
  if isP a = true then (if beg ⟨#[47]⟩ b = true then cleanTo b else if beg ⟨#[46, 47]⟩ b = true then nearTo a b else if beg ⟨#[46, 46, 47]⟩ b = true then nearTo a b else cleanTo ((⟨#[47, 108, 105, 98, 47]⟩ : ByteArray) ++ b)) else ⟨#[]⟩
theorem bang (s : ByteArray) (j : Nat) (h : j < s.size) : ((s.data[j]!).toNat : Int) = bt s (j : Int) := by
  rw [btAt s j h, getElem!_pos s.data j h, Array.getElem_toList]
theorem last_slash {a : ByteArray} (h : isP a = true) : ∃ i : Nat, i < a.size ∧ Lib.lastIndexByte a 47 = i ∧ bt a (i : Int) = 47 ∧ ∀ j : Nat, i < j → j < a.size → bt a (j : Int) ≠ 47 := by
  have hs := isP_size h
  have h0 : bt a 0 = 47 := by
    unfold isP at h
    simp only [Bool.and_eq_true, decide_eq_true_eq, beq_iff_eq] at h
    exact h.1.2
  rcases Lib.lastIndexByte_spec a 47 with ⟨_, hn⟩ | ⟨i, hi, he, h1, h2⟩
  · exact absurd ((bang a 0 (by omega)).trans h0) (hn 0 (by omega))
  · exact ⟨i, hi, he, (bang a i hi).symm.trans h1, fun j hj hl e => h2 j hj hl ((bang a j hl).trans e)⟩
theorem cut_size (a b : ByteArray) (n : Nat) (ha : a.size ≤ 40) (hb : b.size ≤ 1048576) : (a.extract 0 n).size + b.size ≤ 1048616 ∧ (a.extract 0 n ++ b).size ≤ 4000000 := by
  have h : (a.extract 0 n).size ≤ 40 := by rw [ByteArray.size_extract]; omega
  exact ⟨by omega, by rw [size_app]; omega⟩
theorem resolve_loop (a b : ByteArray) (ha : a.size ≤ 40) (hb : b.size ≤ 1048576) (i : Nat) (hi : i < a.size) (h47 : bt a (i : Int) = 47) (hne : ∀ j : Nat, i < j → j < a.size → bt a (j : Int) ≠ 47) (d : Nat) :
    ∀ m : Nat, m = i + 1 + d → m ≤ a.size → Ev (fun k => spec_Resolve.l0 k a b (m : Int)) (cleanTo (a.extract 0 (i + 1) ++ b)) := by
  induction d with
  | zero =>
    intro m hm hl
    obtain rfl : m = i + 1 := hm
    refine Ev_succ ?_
    have hw : wrap64 (((i + 1 : Nat) : Int) - 1) = (i : Int) := by rw [w64 (by omega) (by omega)]; omega
    have c0 : 0 ≤ (i : Int) := by omega
    have c1 : (i : Int) < (a.size : Int) := by omega
    have c2 : 0 ≤ ((i + 1 : Nat) : Int) := by omega
    have c3 : ((i + 1 : Nat) : Int) ≤ (a.size : Int) := by omega
    have hcs := cut_size a b (i + 1) ha hb
    have c4 : (a.extract 0 (i + 1)).size + b.size ≤ 9223372036854775807 := by omega
    simp only [spec_Resolve.l0, hw, if_pos c0, if_pos c1, if_pos h47, if_pos c2, if_pos c3, Int.toNat_natCast, if_pos c4]
    exact Ev_call (clean_spec _ hcs.2) (Ev.now _)
  | succ d ih =>
    intro m hm hl
    have e := ih (m - 1) (by omega) (by omega)
    refine Ev_succ ?_
    have hw : wrap64 ((m : Int) - 1) = ((m - 1 : Nat) : Int) := by rw [w64 (by omega) (by omega)]; omega
    have c0 : 0 ≤ ((m - 1 : Nat) : Int) := by omega
    have c1 : ((m - 1 : Nat) : Int) < (a.size : Int) := by omega
    have c2 := hne (m - 1) (by omega) (by omega)
    simp only [spec_Resolve.l0, hw, if_pos c0, if_pos c1, if_neg c2]
    exact e
theorem near_spec (a b : ByteArray) (h : isP a = true) (hb : b.size ≤ 1048576) : Ev (fun k => spec_Resolve.l0 k a b (a.size : Int)) (nearTo a b) := by
  obtain ⟨i, hi, he, h1, h2⟩ := last_slash h
  have e := resolve_loop a b (isP_size h).2 hb i hi h1 h2 (a.size - (i + 1)) a.size (by omega) (Nat.le_refl _)
  have q : (Lib.lastIndexByte a 47 + 1).toNat = i + 1 := by rw [he]; omega
  unfold nearTo
  rw [q]
  exact e
theorem resolve_spec (a b : ByteArray) (ha : a.size ≤ 1048576) (hb : b.size ≤ 1048576) : Ev (fun k => spec_Resolve.f k a b) (resolveTo a b) := by
  simp only [spec_Resolve.f]
  refine Ev_call (path_spec a (by omega)) ?_
  unfold resolveTo
  by_cases h : isP a = true
  · simp only [if_pos h, beg_spec, Option.bind_some]
    by_cases h1 : beg ⟨#[47]⟩ b = true
    · simp only [if_pos h1]
      exact Ev_call (clean_spec b (by omega)) (Ev.now _)
    · simp only [if_neg h1]
      by_cases h2 : beg ⟨#[46, 47]⟩ b = true
      · simp only [if_pos h2]
        refine Ev_succ ?_
        simp only [spec_Resolve.j0, Bool.false_eq_true, if_false]
        exact near_spec a b h hb
      · simp only [if_neg h2]
        by_cases h3 : beg ⟨#[46, 46, 47]⟩ b = true
        · simp only [h3, Bool.not_true, if_true]
          refine Ev_succ ?_
          simp only [spec_Resolve.j0, Bool.false_eq_true, if_false]
          exact near_spec a b h hb
        · have h4 : beg ⟨#[46, 46, 47]⟩ b = false := Bool.eq_false_iff.mpr h3
          simp only [h4, Bool.not_false, Bool.false_eq_true, if_false]
          refine Ev_succ ?_
          have c : 5 + b.size ≤ 9223372036854775807 := by omega
          simp only [spec_Resolve.j0, if_true, if_pos c]
          exact Ev_call (clean_spec _ (by rw [size_app]; have : (⟨#[47, 108, 105, 98, 47]⟩ : ByteArray).size = 5 := rfl; omega)) (Ev.now _)
  · simp only [if_neg h]
    exact Ev.now _
theorem last_impl (a : ByteArray) (h : a.size ≤ 40) : strings_LastIndexByte.f a 47 = some (Lib.lastIndexByte a 47) := by
  unfold strings_LastIndexByte.f
  exact if_pos (Nat.lt_of_le_of_lt h (by decide))
theorem Ev_some_of {α : Type} {g : Option α} {a : α} (h : g = some a) : Ev (fun _ => g) a := h ▸ Ev.now a
theorem near_tail (a b : ByteArray) (i : Nat) (h40 : a.size ≤ 40) (hb : b.size ≤ 1048576) (hi : i < a.size) (z : Int) (hz : z = ((i + 1 : Nat) : Int)) : Ev (fun k => (if 0 ≤ z then (if z ≤ (a.size : Int) then (if (a.extract 0 (z : Int).toNat).size + b.size ≤ 9223372036854775807 then ((impl_Clean.f k ((a.extract 0 (z : Int).toNat) ++ b)).bind fun u => (some u)) else (none)) else (none)) else (none))) (cleanTo (a.extract 0 (i + 1) ++ b)) := by
  subst hz
  have c2 : 0 ≤ ((i + 1 : Nat) : Int) := by omega
  have c3 : ((i + 1 : Nat) : Int) ≤ (a.size : Int) := by omega
  have hcs := cut_size a b (i + 1) h40 hb
  have c4 : (a.extract 0 (i + 1)).size + b.size ≤ 9223372036854775807 := by omega
  simp only [if_pos c2, if_pos c3, Int.toNat_natCast, if_pos c4]
  exact Ev_call (clean_impl _ hcs.2) (Ev.now _)
theorem near_impl (a b : ByteArray) (h : isP a = true) (hb : b.size ≤ 1048576) : Ev (fun k => (strings_LastIndexByte.f a 47).bind fun t => (if 0 ≤ (wrap64 (t + 1)) then (if (wrap64 (t + 1)) ≤ (a.size : Int) then (if (a.extract 0 ((wrap64 (t + 1)) : Int).toNat).size + b.size ≤ 9223372036854775807 then ((impl_Clean.f k ((a.extract 0 ((wrap64 (t + 1)) : Int).toNat) ++ b)).bind fun u => (some u)) else (none)) else (none)) else (none))) (nearTo a b) := by
  obtain ⟨i, hi, he, _, _⟩ := last_slash h
  have h40 := (isP_size h).2
  have q : (Lib.lastIndexByte a 47 + 1).toNat = i + 1 := by rw [he]; omega
  have hw : wrap64 ((i : Int) + 1) = ((i + 1 : Nat) : Int) := by rw [w64 (by omega) (by omega)]; omega
  have e := near_tail a b i h40 hb hi _ hw
  unfold nearTo
  rw [q]
  exact Ev_call (g := fun _ => strings_LastIndexByte.f a 47) (Ev_some_of ((last_impl a h40).trans (congrArg some he))) e
theorem resolve_impl (a b : ByteArray) (ha : a.size ≤ 1048576) (hb : b.size ≤ 1048576) : Ev (fun k => impl_Resolve.f k a b) (resolveTo a b) := by
  simp only [impl_Resolve.f]
  refine Ev_call (path_impl a (by omega)) ?_
  unfold resolveTo
  by_cases h : isP a = true
  · simp only [if_pos h, beg_impl, impl_isNear.f, Option.bind_some]
    by_cases h1 : beg ⟨#[47]⟩ b = true
    · simp only [if_pos h1]
      exact Ev_call (clean_impl b (by omega)) (Ev.now _)
    · simp only [if_neg h1]
      by_cases h2 : beg ⟨#[46, 47]⟩ b = true
      · simp only [if_pos h2, Option.bind_some, if_true]
        exact near_impl a b h hb
      · simp only [if_neg h2, Option.bind_some]
        by_cases h3 : beg ⟨#[46, 46, 47]⟩ b = true
        · simp only [if_pos h3]
          exact near_impl a b h hb
        · have c : 5 + b.size ≤ 9223372036854775807 := by omega
          simp only [if_neg h3, if_pos c]
          exact Ev_call (clean_impl _ (by rw [size_app]; have : (⟨#[47, 108, 105, 98, 47]⟩ : ByteArray).size = 5 := rfl; omega)) (Ev.now _)
  · simp only [if_neg h]
    exact Ev.now _
theorem and255 (x : Int) : 0 ≤ Go.bits .and .i64 x 255 ∧ Go.bits .and .i64 x 255 ≤ 255 := by
  have h : (BitVec.ofInt IntKind.i64.bits x &&& BitVec.ofInt IntKind.i64.bits 255).toNat ≤ 255 := by
    rw [BitVec.toNat_and]
    exact Nat.le_trans Nat.and_le_right (by decide)
  simp only [Go.bits]
  rw [wraps_i64 _ (by omega) (by omega)]
  omega
theorem byte_some (b : List Int) (hb : b.length ≤ 140737488355328) (i h : Int) (h0 : 0 ≤ i) (h1 : i ≤ b.length) : ∃ x i' h', spec_l1Byte.f b i h = some (x, i', h') ∧ 0 ≤ x ∧ x ≤ 255 ∧ 0 ≤ i' ∧ i' ≤ b.length := by
  by_cases c : i < (b.length : Int)
  · have e : wrap64 (i + 1) = i + 1 := w64 (by omega) (by omega)
    exact ⟨_, i + 1, _, by simp only [spec_l1Byte.f, if_pos c, if_pos h0, e]; rfl, (and255 _).1, (and255 _).2, by omega, by omega⟩
  · exact ⟨_, i, _, by simp only [spec_l1Byte.f, if_neg c]; rfl, (and255 _).1, (and255 _).2, h0, h1⟩
theorem below_some (b : List Int) (hb : b.length ≤ 140737488355328) (i h : Int) (h0 : 0 ≤ i) (h1 : i ≤ b.length) (n : Int) : ∃ x i' h', spec_l1Below.f b i h n = some (x, i', h') ∧ 0 ≤ x ∧ (0 < n → x < n) ∧ (n ≤ 0 → x = 0) ∧ 0 ≤ i' ∧ i' ≤ b.length := by
  by_cases c : n ≤ 0
  · exact ⟨0, i, h, by simp only [spec_l1Below.f, if_pos c], by omega, by omega, fun _ => rfl, h0, h1⟩
  · obtain ⟨x, i1, q1, e1, a1, b1, c1, d1⟩ := byte_some b hb i h h0 h1
    have hz : ¬ n = 0 := by omega
    by_cases c2 : n ≤ 256
    · refine ⟨Int.tmod x n, i1, q1, ?_, ?_, ?_, ?_, c1, d1⟩
      · simp only [spec_l1Below.f, if_neg c, if_pos c2, e1, Option.bind_some, if_neg hz]
      · rw [tmod_nn a1]; exact Int.emod_nonneg _ hz
      · intro _; rw [tmod_nn a1]; exact Int.emod_lt_of_pos _ (by omega)
      · intro h; exact absurd h c
    · obtain ⟨y, i2, q2, e2, a2, b2, c3, d2⟩ := byte_some b hb i1 q1 c1 d1
      obtain ⟨z, i3, q3, e3, a3, b3, c4, d3⟩ := byte_some b hb i2 q2 c3 d2
      obtain ⟨v, i4, q4, e4, a4, b4, c5, d4⟩ := byte_some b hb i3 q3 c4 d3
      have hw : wrap64 ((wrap64 ((wrap64 ((wrap64 (x * 16777216)) + (wrap64 (y * 65536)))) + (wrap64 (z * 256)))) + v) = x * 16777216 + y * 65536 + z * 256 + v := by
        rw [w64 (x := x * 16777216) (by omega) (by omega), w64 (x := y * 65536) (by omega) (by omega), w64 (x := z * 256) (by omega) (by omega), w64 (x := x * 16777216 + y * 65536) (by omega) (by omega), w64 (x := x * 16777216 + y * 65536 + z * 256) (by omega) (by omega), w64 (by omega) (by omega)]
      have hp : 0 ≤ x * 16777216 + y * 65536 + z * 256 + v := by omega
      refine ⟨Int.tmod (x * 16777216 + y * 65536 + z * 256 + v) n, i4, q4, ?_, ?_, ?_, ?_, c5, d4⟩
      · simp only [spec_l1Below.f, if_neg c, if_neg c2, e1, e2, e3, e4, Option.bind_some, if_neg hz, hw]
      · rw [tmod_nn hp]; exact Int.emod_nonneg _ hz
      · intro _; rw [tmod_nn hp]; exact Int.emod_lt_of_pos _ (by omega)
      · intro h; exact absurd h c
theorem once_some (b : List Int) (hb : b.length ≤ 140737488355328) (i h : Int) (h0 : 0 ≤ i) (h1 : i ≤ b.length) (n : Int) : ∃ x i' h', spec_l1Once.f b i h n = some (x, i', h') ∧ 0 ≤ i' ∧ i' ≤ b.length := by
  obtain ⟨x, i1, q1, e1, a1, b1, c1, d1, f1⟩ := below_some b hb i h h0 h1 n
  exact ⟨x == 0, i1, q1, by simp only [spec_l1Once.f, e1, Option.bind_some], d1, f1⟩
theorem pick_some (b : List Int) (hb : b.length ≤ 140737488355328) (i h : Int) (h0 : 0 ≤ i) (h1 : i ≤ b.length) (l : List ByteArray) (hl : 0 < l.length) : ∃ s i' h', spec_l1Pick.f b i h l = some (s, i', h') ∧ s ∈ l ∧ 0 ≤ i' ∧ i' ≤ b.length := by
  obtain ⟨x, i1, q1, e1, a1, b1, c1, d1, f1⟩ := below_some b hb i h h0 h1 l.length
  have hx : x < (l.length : Int) := b1 (by omega)
  refine ⟨rdOf ByteArray.empty l x, i1, q1, by simp only [spec_l1Pick.f, e1, Option.bind_some, if_pos a1, if_pos hx], ?_, d1, f1⟩
  rw [rdOf, getD_at l _ _ (by omega)]; exact List.getElem_mem _
theorem new_loop (l : List Int) (hl : l.length ≤ 140737488355328) (d : Nat) : ∀ (x3 x4 : Int), 0 ≤ x4 → x4 + d = l.length → ∃ h, Ev (fun k => spec_l1New.l0 k l x3 x4) (l, 0, h) := by
  induction d with
  | zero =>
    intro x3 x4 h0 h1
    refine ⟨x3, Ev_succ ?_⟩
    have c : ¬ x4 < (l.length : Int) := by omega
    simp only [spec_l1New.l0, if_neg c]; exact Ev.now _
  | succ d ih =>
    intro x3 x4 h0 h1
    by_cases c2 : x4 < 4000
    · obtain ⟨h, e⟩ := ih (Go.bits .and .i64 (wrap64 ((wrap64 ((wrap64 (x3 * 131)) + (wrap64 (rd l x4)))) + 7)) 1073741823) (x4 + 1) (by omega) (by omega)
      refine ⟨h, Ev_succ ?_⟩
      have c : x4 < (l.length : Int) := by omega
      have hw : wrap64 (x4 + 1) = x4 + 1 := w64 (by omega) (by omega)
      simp only [spec_l1New.l0, if_pos c, if_pos c2, if_pos h0, hw]; exact e
    · refine ⟨x3, Ev_succ ?_⟩
      have c : x4 < (l.length : Int) := by omega
      simp only [spec_l1New.l0, if_pos c, if_neg c2]; exact Ev.now _
theorem new_ev (l : List Int) (hl : l.length ≤ 140737488355328) : ∃ h, Ev (fun k => spec_l1New.f k l) (l, 0, h) := by
  simp only [spec_l1New.f]
  exact new_loop l hl l.length _ 0 (by omega) (by omega)
theorem l2some_some (b : List Int) (hb : b.length ≤ 140737488355328) (i h : Int) (h0 : 0 ≤ i) (h1 : i ≤ b.length) : ∃ s i' h', spec_l2Some.f b i h = some (s, i', h') ∧ s.size ≤ 41 ∧ 0 ≤ i' ∧ i' ≤ b.length := by
  obtain ⟨s1, i1, q1, e1, m1, a1, b1⟩ := pick_some b hb i h h0 h1 ([(⟨#[47, 97]⟩ : ByteArray), (⟨#[47, 98]⟩ : ByteArray), (⟨#[47, 99]⟩ : ByteArray), (⟨#[47, 100]⟩ : ByteArray), (⟨#[47, 108, 105, 98, 47, 120]⟩ : ByteArray), (⟨#[47, 97, 47, 46, 46, 47, 98]⟩ : ByteArray), (⟨#[47, 46, 47, 99]⟩ : ByteArray), (⟨#[47, 47, 97, 47]⟩ : ByteArray), (⟨#[47, 108, 105, 98, 47, 46, 47, 120]⟩ : ByteArray), (⟨#[47, 97, 47, 98]⟩ : ByteArray)] : List ByteArray) (by decide)
  have z1 : s1.size ≤ 41 := (show ∀ s ∈ ([(⟨#[47, 97]⟩ : ByteArray), (⟨#[47, 98]⟩ : ByteArray), (⟨#[47, 99]⟩ : ByteArray), (⟨#[47, 100]⟩ : ByteArray), (⟨#[47, 108, 105, 98, 47, 120]⟩ : ByteArray), (⟨#[47, 97, 47, 46, 46, 47, 98]⟩ : ByteArray), (⟨#[47, 46, 47, 99]⟩ : ByteArray), (⟨#[47, 47, 97, 47]⟩ : ByteArray), (⟨#[47, 108, 105, 98, 47, 46, 47, 120]⟩ : ByteArray), (⟨#[47, 97, 47, 98]⟩ : ByteArray)] : List ByteArray), s.size ≤ 41 by decide) _ m1
  obtain ⟨o2, i2, q2, e2, a2, b2⟩ := once_some b hb i1 q1 a1 b1 8
  cases o2 with
  | false =>
    refine ⟨s1, i2, q2, ?_, z1, a2, b2⟩
    unfold spec_l2Some.f
    rw [e1, Option.bind_some, e2, Option.bind_some]
    rfl
  | true =>
    obtain ⟨s3, i3, q3, e3, m3, a3, b3⟩ := pick_some b hb i2 q2 a2 b2 ([(⟨#[]⟩ : ByteArray), (⟨#[97]⟩ : ByteArray), (⟨#[47, 65]⟩ : ByteArray), (⟨#[47]⟩ : ByteArray), (⟨#[47, 46, 46]⟩ : ByteArray), (⟨#[47, 97, 32, 98]⟩ : ByteArray), (⟨#[47, 97, 97, 97, 97, 97, 97, 97, 97, 97, 97, 97, 97, 97, 97, 97, 97, 97, 97, 97, 97, 97, 97, 97, 97, 97, 97, 97, 97, 97, 97, 97, 97, 97, 97, 97, 97, 97, 97, 97]⟩ : ByteArray), (⟨#[47, 97, 97, 97, 97, 97, 97, 97, 97, 97, 97, 97, 97, 97, 97, 97, 97, 97, 97, 97, 97, 97, 97, 97, 97, 97, 97, 97, 97, 97, 97, 97, 97, 97, 97, 97, 97, 97, 97, 97, 97]⟩ : ByteArray)] : List ByteArray) (by decide)
    have z3 : s3.size ≤ 41 := (show ∀ s ∈ ([(⟨#[]⟩ : ByteArray), (⟨#[97]⟩ : ByteArray), (⟨#[47, 65]⟩ : ByteArray), (⟨#[47]⟩ : ByteArray), (⟨#[47, 46, 46]⟩ : ByteArray), (⟨#[47, 97, 32, 98]⟩ : ByteArray), (⟨#[47, 97, 97, 97, 97, 97, 97, 97, 97, 97, 97, 97, 97, 97, 97, 97, 97, 97, 97, 97, 97, 97, 97, 97, 97, 97, 97, 97, 97, 97, 97, 97, 97, 97, 97, 97, 97, 97, 97, 97]⟩ : ByteArray), (⟨#[47, 97, 97, 97, 97, 97, 97, 97, 97, 97, 97, 97, 97, 97, 97, 97, 97, 97, 97, 97, 97, 97, 97, 97, 97, 97, 97, 97, 97, 97, 97, 97, 97, 97, 97, 97, 97, 97, 97, 97, 97]⟩ : ByteArray)] : List ByteArray), s.size ≤ 41 by decide) _ m3
    refine ⟨s3, i3, q3, ?_, z3, a3, b3⟩
    unfold spec_l2Some.f
    rw [e1, Option.bind_some, e2, Option.bind_some]
    rw [if_pos rfl, e3]
    rfl
theorem draw_resolve (l : List Int) (hl : l.length ≤ 140737488355328) : ∃ p : ByteArray × ByteArray, Ev (fun k => spec_DrawResolve.f k l) p ∧ p.1.size ≤ 41 ∧ p.2.size ≤ 41 := by
  obtain ⟨h, e0⟩ := new_ev l hl
  obtain ⟨s1, i1, q1, e1, z1, a1, b1⟩ := l2some_some l hl 0 h (by omega) (by omega)
  obtain ⟨s2, i2, q2, e2, m2, a2, b2⟩ := pick_some l hl i1 q1 a1 b1 ([(⟨#[46, 47, 97]⟩ : ByteArray), (⟨#[46, 46, 47, 97]⟩ : ByteArray), (⟨#[47, 98]⟩ : ByteArray), (⟨#[120]⟩ : ByteArray), (⟨#[46, 47, 46, 46, 47, 99]⟩ : ByteArray), (⟨#[120, 47, 121]⟩ : ByteArray), (⟨#[]⟩ : ByteArray), (⟨#[46, 47]⟩ : ByteArray), (⟨#[65]⟩ : ByteArray), (⟨#[46, 97]⟩ : ByteArray), (⟨#[46, 47, 46, 46, 47, 47, 98]⟩ : ByteArray), (⟨#[47, 46, 46, 47, 100]⟩ : ByteArray)] : List ByteArray) (by decide)
  have z2 : s2.size ≤ 41 := (show ∀ s ∈ ([(⟨#[46, 47, 97]⟩ : ByteArray), (⟨#[46, 46, 47, 97]⟩ : ByteArray), (⟨#[47, 98]⟩ : ByteArray), (⟨#[120]⟩ : ByteArray), (⟨#[46, 47, 46, 46, 47, 99]⟩ : ByteArray), (⟨#[120, 47, 121]⟩ : ByteArray), (⟨#[]⟩ : ByteArray), (⟨#[46, 47]⟩ : ByteArray), (⟨#[65]⟩ : ByteArray), (⟨#[46, 97]⟩ : ByteArray), (⟨#[46, 47, 46, 46, 47, 47, 98]⟩ : ByteArray), (⟨#[47, 46, 46, 47, 100]⟩ : ByteArray)] : List ByteArray), s.size ≤ 41 by decide) _ m2
  refine ⟨(s1, s2), ?_, z1, z2⟩
  unfold spec_DrawResolve.f
  refine Ev_call e0 (Ev_call (Ev_some_of e1) (Ev_call (Ev_some_of e2) (Ev.now _)))
theorem cleanTo_twice (f : ByteArray) : (cleanTo f = ⟨#[]⟩ ∧ isP f = false) ∨ (cleanTo (cleanTo f) = cleanTo f ∧ isP f = true ∧ (cleanTo f).size ≤ 40 ∧ 1 ≤ (cleanTo f).size) := by
  by_cases h : isP f = true
  · right
    have e : cleanTo f = shown (cleaned f) := by unfold cleanTo; rw [if_pos h]
    have hc := clean_fix h
    have hs := isP_size hc.1
    refine ⟨?_, h, ?_, ?_⟩
    · rw [e]; unfold cleanTo; rw [if_pos hc.1, hc.2]
    · rw [e]; exact hs.2
    · rw [e]; exact hs.1
  · left
    exact ⟨by unfold cleanTo; rw [if_neg h], by simpa using h⟩
theorem cleanTo_ok (f : ByteArray) : cleanTo f = ⟨#[]⟩ ∨ (cleanTo (cleanTo f) = cleanTo f ∧ (cleanTo f).size ≤ 40) := by
  rcases cleanTo_twice f with h | h
  · exact Or.inl h.1
  · exact Or.inr ⟨h.1, h.2.2.1⟩
theorem resolveTo_ok (a b : ByteArray) : resolveTo a b = ⟨#[]⟩ ∨ (cleanTo (resolveTo a b) = resolveTo a b ∧ (resolveTo a b).size ≤ 40) := by
  unfold resolveTo
  split
  · split
    · exact cleanTo_ok _
    · split
      · exact cleanTo_ok _
      · split
        · exact cleanTo_ok _
        · exact cleanTo_ok _
  · exact Or.inl rfl
theorem toList_empty : (⟨#[]⟩ : ByteArray).toList = [] := toList_data _
theorem toList_nil {s : ByteArray} : s.toList = ([] : List UInt8) ↔ s = ⟨#[]⟩ := ⟨fun h => toList_inj.1 (h.trans toList_empty.symm), fun h => h ▸ toList_empty⟩
theorem xy (b : ByteArray) : resolveTo ⟨#[47, 120]⟩ b = resolveTo ⟨#[47, 121]⟩ b := by
  have h1 : isP ⟨#[47, 120]⟩ = true := by decide
  have h2 : isP ⟨#[47, 121]⟩ = true := by decide
  have e : nearTo ⟨#[47, 120]⟩ b = nearTo ⟨#[47, 121]⟩ b := by
    have q : (⟨#[47, 120]⟩ : ByteArray).extract 0 (Lib.lastIndexByte ⟨#[47, 120]⟩ 47 + 1).toNat = (⟨#[47, 121]⟩ : ByteArray).extract 0 (Lib.lastIndexByte ⟨#[47, 121]⟩ 47 + 1).toNat := by decide +kernel
    unfold nearTo
    rw [q]
  unfold resolveTo
  rw [if_pos h1, if_pos h2, e]
theorem beg_one {s : ByteArray} (h0 : 0 < s.size) (h : bt s 0 = 47) : beg ⟨#[47]⟩ s = true := by
  have e1 : (⟨#[47]⟩ : ByteArray).size = 1 := rfl
  unfold beg
  rw [e1, if_pos (by omega), beq_iff_eq, toList_inj]
  apply data_inj
  obtain ⟨c, r, hr⟩ : ∃ c r, s.data.toList = c :: r := by
    cases e : s.data.toList with
    | nil => have := data_length s; rw [e] at this; simp at this; omega
    | cons c r => exact ⟨c, r, rfl⟩
  have hb := btAt s 0 h0
  rw [show ((0 : Nat) : Int) = 0 from rfl, h] at hb
  have hc : c = 47 := by
    have e2 : s.data.toList[0]'(by rw [Array.length_toList]; exact h0) = c := by simp [hr]
    rw [e2] at hb
    apply UInt8.toNat_inj.1
    have e3 : (47 : UInt8).toNat = 47 := rfl
    rw [e3]; omega
  simp only [ByteArray.data_extract, Array.toList_extract, List.extract_eq_take_drop, List.drop_zero, Nat.sub_zero, hr, hc]
  rfl
theorem paths_end (s c r : ByteArray) (hs : s.size ≤ 41) (h1 : c = ⟨#[]⟩ → r = ⟨#[]⟩) (h2 : c ≠ ⟨#[]⟩ → 0 < s.size → bt s 0 = 47 → r = cleanTo s) : Ev (fun k => laws_FnPaths.j0 k s c r false) true := by
  refine Ev_succ ?_
  simp only [laws_FnPaths.j0, Bool.false_eq_true, if_false]
  by_cases hc : c.toList = []
  · simp only [if_pos hc]
    have e := h1 (toList_nil.1 hc)
    exact Ev_some (by rw [beq_iff_eq]; exact toList_nil.2 e)
  · simp only [if_neg hc]
    have hx := resolve_impl ⟨#[47, 120]⟩ s (by decide) (by omega)
    have hy := resolve_impl ⟨#[47, 121]⟩ s (by decide) (by omega)
    rw [← xy s] at hy
    refine Ev_call hx (Ev_call hy ?_)
    simp only [if_true]
    by_cases hz : s.toList = []
    · simp only [if_pos hz]; exact Ev.now _
    · simp only [if_neg hz]
      have h0 : 0 < s.size := by
        rcases Nat.eq_zero_or_pos s.size with e | e
        · exfalso; apply hz; rw [toList_data]; exact List.eq_nil_of_length_eq_zero (by rw [data_length]; exact e)
        · exact e
      have h0' : 0 < (s.size : Int) := by omega
      simp only [if_pos h0']
      by_cases h47 : bt s 0 = 47
      · simp only [if_pos h47]
        refine Ev_call (clean_impl s (by omega)) ?_
        have e := h2 (fun e => hc (toList_nil.2 e)) h0 h47
        exact Ev_some (by rw [beq_iff_eq, e])
      · simp only [if_neg h47]; exact Ev.now _
theorem FnPaths : laws_FnPaths.Say := by
  intro l hlw
  apply Ev.rounds
  simp only [laws_FnPaths.f, laws_big.f, Option.bind_some]
  by_cases h : (l.length : Int) > 1048576
  · simp only [decide_eq_true h, if_true]; exact Ev.now _
  · simp only [decide_eq_false h, Bool.false_eq_true, if_false]
    obtain ⟨⟨f, s⟩, e, hf, hs⟩ := draw_resolve l (by omega)
    have hf' : f.size ≤ 41 := hf
    have hs' : s.size ≤ 41 := hs
    clear hf hs
    refine Ev_call e ?_
    refine Ev_call (clean_impl f (by omega)) (Ev_call (resolve_impl f s (by omega) (by omega)) (Ev_call (resolve_spec f s (by omega) (by omega)) ?_))
    simp only [if_true]
    have last : ∀ c, c = cleanTo f → Ev (fun k => if (resolveTo f s).toList = ([] : List UInt8) then laws_FnPaths.j0 k s c (resolveTo f s) false else ((impl_Clean.f k (resolveTo f s)).bind fun t => laws_FnPaths.j0 k s c (resolveTo f s) (t.toList != (resolveTo f s).toList))) true := by
      intro c hc
      have fin : Ev (fun k => laws_FnPaths.j0 k s c (resolveTo f s) false) true := by
        refine paths_end s c _ hs' ?_ ?_
        · intro h0
          rcases cleanTo_twice f with q | q
          · unfold resolveTo; rw [q.2]; rfl
          · rw [hc] at h0; have := q.2.2.2; rw [h0] at this; exact absurd this (by decide)
        · intro h0 h1 h2
          rcases cleanTo_twice f with q | q
          · exact absurd (hc.trans q.1) h0
          · unfold resolveTo; rw [if_pos q.2.1, if_pos (beg_one h1 h2)]
      by_cases hr : (resolveTo f s).toList = []
      · simp only [if_pos hr]; exact fin
      · simp only [if_neg hr]
        rcases resolveTo_ok f s with q | q
        · exact absurd (toList_nil.2 q) hr
        · have e2 := clean_impl (resolveTo f s) (by omega)
          rw [q.1] at e2
          refine Ev_call e2 ?_
          simp only [bne_self_eq_false]
          exact fin
    by_cases hc : (cleanTo f).toList = []
    · simp only [if_pos hc]
      exact last _ rfl
    · simp only [if_neg hc]
      rcases cleanTo_twice f with q | q
      · exact absurd (toList_nil.2 q.1) hc
      · have e2 := clean_impl (cleanTo f) (by omega)
        rw [q.1] at e2
        refine Ev_call e2 ?_
        simp only [if_true]
        exact last _ rfl


end Go.Proofs.YtpomlknkfedekaaDoor.Pure

import Derived.Test.YtkmcnjpgamaljaaGreatDoorPFnFilesx21
import Derived.Test.YtkmcnjpgamaljaaGreatDoorSegL
import Derived.Test.YtkmcnjpgamaljaaGreatDoorVarL
import Derived.Test.YtkmcnjpgamaljaaGreatDoorRiseL
import Derived.Test.YtkmcnjpgamaljaaGreatDoorKit
import Derived.Lib.SlBy
/- The pure statement of the law FnFiles, over its printed function. -/
namespace Go.Proofs.YtkmcnjpgamaljaaGreatDoor.PFnFiles
open Go.RowKit Go.Proofs.YtkmcnjpgamaljaaGreatDoor.PFnFiles Go.Proofs.YtkmcnjpgamaljaaGreatDoorW.PrintWords Go.Proofs.YtkmcnjpgamaljaaGreatDoorW.PrintLast Go.Proofs.YtkmcnjpgamaljaaGreatDoorW.PrintMore

def laws_FnFiles.Say : Prop := ∀ (l0 : (List Int)), (l0.length ≤ maxLen ∧ ∀ x_ ∈ l0, (Lit.int .u8 x_).wf = true) → ∃ k, laws_FnFiles.f k l0 = some true

end Go.Proofs.YtkmcnjpgamaljaaGreatDoor.PFnFiles
/- FnFiles: what is shown is read back, and no other text is; what is put is found, what is dropped is not, the others stay; what has changed is just what is told; for every code. -/
namespace Go.Proofs.YtkmcnjpgamaljaaGreatDoor.Pure
open Go.RowKit Go.Proofs.YtkmcnjpgamaljaaGreatDoor.PFnFiles Go.Proofs.YtkmcnjpgamaljaaGreatDoorW.PrintWords Go.Proofs.YtkmcnjpgamaljaaGreatDoorW.PrintLast Go.Proofs.YtkmcnjpgamaljaaGreatDoorW.PrintMore Go.Proofs.YtkmcnjpgamaljaaGreatDoor.Kit
set_option linter.unusedSimpArgs false
set_option linter.unusedVariables false

theorem path_spec_loop (s : ByteArray) (hs : s.size ≤ 4000000) (d : Nat) : ∀ (i : Int), 0 ≤ i → i + d = s.size → Ev (fun k => spec_l2Path.l0 k s i) (okF s i d) := by
 induction d with
 | zero =>
  intro i h0 h1
  refine Ev_succ ?_
  simp (disch := omega) only [spec_l2Path.l0, if_neg]
  exact Ev.now _
 | succ d ih =>
  intro i h0 h1
  refine Ev_succ ?_
  have hw : wrap64 (i + 1) = i + 1 := w64 (by omega) (by omega)
  have h2 : i < (s.size : Int) := by omega
  by_cases ho : okb (bt s i) = true
  ·have e := ih (i + 1) (by omega) (by omega)
   rw [okF, ho, Bool.true_and]
   have ho' := of_decide_eq_true ho
   refine Ev.congr (fun k => ?_) e
   simp only [spec_l2Path.l0, if_pos h2, if_pos h0, hw]
   repeat' split
   all_goals first | rfl | (exfalso; omega)
  ·rw [okF, Bool.eq_false_iff.mpr ho, Bool.false_and]
   have ho' : ¬ ((97 ≤ bt s i ∧ bt s i ≤ 122) ∨ (48 ≤ bt s i ∧ bt s i ≤ 57) ∨ bt s i = 46 ∨ bt s i = 95 ∨ bt s i = 45 ∨ bt s i = 47) := fun h => ho (decide_eq_true h)
   refine Ev.congr (fun k => ?_) (Ev.now false)
   simp only [spec_l2Path.l0, if_pos h2, if_pos h0, hw]
   repeat' split
   all_goals first | rfl | (exfalso; omega)
theorem path_spec (s : ByteArray) (hs : s.size ≤ 4000000) : Ev (fun k => spec_l2Path.f k s) (isP s) := by
 unfold isP
 by_cases h : 1 ≤ s.size ∧ s.size ≤ 40
 ·have c1 : (s.size : Int) ≥ 1 := by omega
  have c2 : decide ((s.size : Int) ≤ 40) = true := decide_eq_true (by omega)
  have c3 : 0 < (s.size : Int) := by omega
  simp only [spec_l2Path.f, spec_l1In.f, if_pos c1, c2, Option.bind_some, if_true, if_pos c3, h.1, h.2, decide_true, Bool.true_and]
  refine Ev_succ ?_
  by_cases hb : bt s 0 = 47
  ·have e1 : (bt s 0 != 47) = false := by rw [hb]; rfl
   have e2 : (bt s 0 == 47) = true := by rw [hb]; rfl
   simp only [spec_l2Path.j0, e1, e2, Bool.true_and, Bool.false_eq_true, if_false]
   exact path_spec_loop s hs s.size 0 (by omega) (by omega)
  ·have e1 : (bt s 0 != 47) = true := bne_iff_ne.mpr hb
   have e2 : (bt s 0 == 47) = false := beq_eq_false_iff_ne.mpr hb
   simp only [spec_l2Path.j0, e1, e2, Bool.false_and, if_true]
   exact Ev.now _
 ·have e : (decide (1 ≤ s.size) && decide (s.size ≤ 40)) = false := by
   rw [← Bool.decide_and]; exact decide_eq_false h
  rw [e, Bool.false_and, Bool.false_and]
  by_cases c1 : (s.size : Int) ≥ 1
  ·have c2 : decide ((s.size : Int) ≤ 40) = false := decide_eq_false (by omega)
   simp only [spec_l2Path.f, spec_l1In.f, if_pos c1, c2, Option.bind_some, Bool.false_eq_true, if_false]
   refine Ev_succ ?_
   simp only [spec_l2Path.j0, if_true]
   exact Ev.now _
  ·simp only [spec_l2Path.f, spec_l1In.f, if_neg c1, Option.bind_some, Bool.false_eq_true, if_false]
   refine Ev_succ ?_
   simp only [spec_l2Path.j0, if_true]
   exact Ev.now _
theorem path_impl_loop (s : ByteArray) (hs : s.size ≤ 4000000) (d : Nat) : ∀ (i : Int), 0 ≤ i → i + d = s.size → Ev (fun k => impl_isPath.l0 k s s.size i) (okF s i d && (decide (1 ≤ s.size) && decide (s.size ≤ 40) && (bt s 0 == 47))) := by
 induction d with
 | zero =>
  intro i h0 h1
  refine Ev_succ ?_
  rw [okF, Bool.true_and]
  by_cases h : 1 ≤ s.size ∧ s.size ≤ 40
  ·have c1 : (s.size : Int) ≥ 1 := by omega
   have c2 : decide ((s.size : Int) ≤ 40) = true := decide_eq_true (by omega)
   have c3 : 0 < (s.size : Int) := by omega
   have c4 : ¬ i < (s.size : Int) := by omega
   simp only [impl_isPath.l0, if_neg c4, impl_in.f, if_pos c1, c2, Option.bind_some, if_true, if_pos c3, h.1, h.2, decide_true, Bool.true_and]
   exact Ev.now _
  ·have e : (decide (1 ≤ s.size) && decide (s.size ≤ 40)) = false := by
    rw [← Bool.decide_and]; exact decide_eq_false h
   have c4 : ¬ i < (s.size : Int) := by omega
   rw [e, Bool.false_and]
   by_cases c1 : (s.size : Int) ≥ 1
   ·have c2 : decide ((s.size : Int) ≤ 40) = false := decide_eq_false (by omega)
    simp only [impl_isPath.l0, if_neg c4, impl_in.f, if_pos c1, c2, Option.bind_some, Bool.false_eq_true, if_false]
    exact Ev.now _
   ·simp only [impl_isPath.l0, if_neg c4, impl_in.f, if_neg c1, Option.bind_some, Bool.false_eq_true, if_false]
    exact Ev.now _
 | succ d ih =>
  intro i h0 h1
  refine Ev_succ ?_
  have hw : wrap64 (i + 1) = i + 1 := w64 (by omega) (by omega)
  have h2 : i < (s.size : Int) := by omega
  by_cases ho : okb (bt s i) = true
  ·have e := ih (i + 1) (by omega) (by omega)
   rw [okF, ho, Bool.true_and]
   have ho' := of_decide_eq_true ho
   refine Ev.congr (fun k => ?_) e
   simp only [impl_isPath.l0, if_pos h2, if_pos h0, hw]
   repeat' split
   all_goals first | rfl | (exfalso; omega)
  ·rw [okF, Bool.eq_false_iff.mpr ho, Bool.false_and, Bool.false_and]
   have ho' : ¬ ((97 ≤ bt s i ∧ bt s i ≤ 122) ∨ (48 ≤ bt s i ∧ bt s i ≤ 57) ∨ bt s i = 46 ∨ bt s i = 95 ∨ bt s i = 45 ∨ bt s i = 47) := fun h => ho (decide_eq_true h)
   refine Ev.congr (fun k => ?_) (Ev.now false)
   simp only [impl_isPath.l0, if_pos h2, if_pos h0, hw]
   repeat' split
   all_goals first | rfl | (exfalso; omega)
theorem path_impl (s : ByteArray) (hs : s.size ≤ 4000000) : Ev (fun k => impl_isPath.f k s) (isP s) := by
 have e := path_impl_loop s hs s.size 0 (by omega) (by omega)
 rw [Bool.and_comm] at e
 exact e
theorem isP_size {s : ByteArray} (h : isP s = true) : 1 ≤ s.size ∧ s.size ≤ 40 := by
 unfold isP at h
 simp only [Bool.and_eq_true, decide_eq_true_eq] at h
 exact h.1.1
theorem clean_show (st : List ByteArray) (hl : st.length ≤ 50) (hz : ∀ x ∈ st, x.size ≤ 40) (d : Nat) : ∀ (j : Nat), j + d = st.length →
  Ev (fun k => spec_Clean.l1 k st (PB (Lib.joinTail [47] ((st.take j).map (·.data.toList)))) (j : Int)) (PB (Lib.joinTail [47] (st.map (·.data.toList)))) := by
 induction d with
 | zero =>
  intro j hj
  refine Ev_succ ?_
  have c : ¬ (j : Int) < (st.length : Int) := by omega
  simp only [spec_Clean.l1, if_neg c]
  rw [List.take_of_length_le (by omega)]
  exact Ev.now _
 | succ d ih =>
  intro j hj
  have e := ih (j + 1) (by omega)
  refine Ev_succ ?_
  have hjl : j < st.length := by omega
  have c : (j : Int) < (st.length : Int) := by omega
  have c0 : 0 ≤ (j : Int) := by omega
  have hw : wrap64 ((j : Int) + 1) = ((j + 1 : Nat) : Int) := by rw [w64 (by omega) (by omega)]; omega
  have hr : rdOf ByteArray.empty st (j : Int) = st[j] := by simp only [rdOf, Int.toNat_natCast, List.getD, List.getElem?_eq_getElem hjl, Option.getD_some]
  have hb : (Lib.joinTail [47] ((st.take j).map (·.data.toList))).length ≤ 50 * 41 := by
   have := joinTail_le ((st.take j).map (·.data.toList)) 40 (fun x hx => by obtain ⟨y, hy, rfl⟩ := List.mem_map.1 hx; exact hz y (List.mem_of_mem_take hy))
   simp only [List.length_map, List.length_take] at this
   omega
  have hy : st[j].size ≤ 40 := hz _ (List.getElem_mem hjl)
  have hone : (⟨#[47]⟩ : ByteArray) = PB [47] := rfl
  have e1 : (PB (Lib.joinTail [47] ((st.take j).map (·.data.toList))) ++ (⟨#[47]⟩ : ByteArray)) ++ st[j] = PB (Lib.joinTail [47] ((st.take (j + 1)).map (·.data.toList))) := by
   rw [hone, app_PB]
   conv => lhs; rw [← PB_data st[j]]
   rw [app_PB, List.take_succ_eq_append_getElem hjl, List.map_append, List.map_singleton, joinTail_snoc]
  have hs1 : (PB (Lib.joinTail [47] ((st.take j).map (·.data.toList)))).size = (Lib.joinTail [47] ((st.take j).map (·.data.toList))).length := rfl
  have hs2 : (PB (Lib.joinTail [47] ((st.take j).map (·.data.toList))) ++ (⟨#[47]⟩ : ByteArray)).size = (Lib.joinTail [47] ((st.take j).map (·.data.toList))).length + 1 := by rw [size_app, hs1]; rfl
  have d1 : (PB (Lib.joinTail [47] ((st.take j).map (·.data.toList)))).size + 1 ≤ 9223372036854775807 := by rw [hs1]; omega
  have d2 : (PB (Lib.joinTail [47] ((st.take j).map (·.data.toList))) ++ (⟨#[47]⟩ : ByteArray)).size + st[j].size ≤ 9223372036854775807 := by rw [hs2]; omega
  simp only [spec_Clean.l1, if_pos c, if_pos d1, if_pos c0, hr, if_pos d2, hw, e1]
  exact e
theorem cut_here (s : ByteArray) (st : List ByteArray) (fr i : Nat) (h1 : fr ≤ i) (h2 : i ≤ s.size) (hn : ∀ j, fr ≤ j → j < i → bt s (j : Int) ≠ 47) (hc : i < s.size → bt s (i : Int) = 47) :
  ((sp (s.data.toList.drop fr)).map PB).foldl stp st = ((sp (s.data.toList.drop (i + 1))).map PB).foldl stp (stp st (s.extract fr i)) := by
 have hl : s.data.toList.length = s.size := by rw [Array.length_toList]; rfl
 have he : s.extract fr i = PB ((s.data.toList.drop fr).take (i - fr)) := by
  apply data_inj
  rw [data_PB, ByteArray.data_extract, Array.toList_extract, List.extract_eq_take_drop]
 have hno : ∀ x ∈ (s.data.toList.drop fr).take (i - fr), x ≠ 47 := by
  intro x hx e
  obtain ⟨n, hnl, e1⟩ := List.getElem_of_mem hx
  have hb : n < i - fr ∧ fr + n < s.size := by simp at hnl; omega
  rw [List.getElem_take, List.getElem_drop] at e1
  refine hn (fr + n) (by omega) (by omega) ?_
  rw [btAt s (fr + n) hb.2]
  have e2 : s.data.toList[fr + n]'(by omega) = 47 := e1.trans e
  rw [e2]; rfl
 by_cases hi : i < s.size
 ·have e47 : s.data.toList[i]'(by omega) = 47 := by
   have := hc hi
   rw [btAt s i hi] at this
   apply UInt8.toNat_inj.1
   have e3 : ((s.data.toList[i]'(by omega)).toNat : Int) = 47 := this
   have e4 : (47 : UInt8).toNat = 47 := rfl
   omega
  have hd : s.data.toList.drop fr = (s.data.toList.drop fr).take (i - fr) ++ 47 :: s.data.toList.drop (i + 1) := by
   conv => lhs; rw [← List.take_append_drop (i - fr) (s.data.toList.drop fr)]
   rw [List.drop_drop, show fr + (i - fr) = i by omega, List.drop_eq_getElem_cons (by omega : i < s.data.toList.length), e47]
  rw [hd, sp_app _ _ hno, List.map_cons, List.foldl_cons, ← he]
 ·have h0 : s.data.toList.drop (i + 1) = [] := List.drop_eq_nil_of_le (by omega)
  have hd : s.data.toList.drop fr = (s.data.toList.drop fr).take (i - fr) := by
   rw [List.take_of_length_le]; rw [List.length_drop]; omega
  rw [h0, hd, sp_no _ hno]
  have hz := stp_nil (stp st (s.extract fr i))
  simp only [sp, List.map_cons, List.map_nil, List.foldl_cons, List.foldl_nil, ← he, hz]
theorem clean_spec_loop (s : ByteArray) (hs : s.size ≤ 40) (d : Nat) : ∀ (i fr : Nat) (st : List ByteArray), i + d = s.size + 1 → fr ≤ i → (i = s.size + 1 → fr = i) →
  (∀ j, fr ≤ j → j < i → j < s.size → bt s (j : Int) ≠ 47) → st.length ≤ fr → (∀ x ∈ st, x.size ≤ 40) →
  Ev (fun k => spec_Clean.l0 k s st (fr : Int) (i : Int)) (shown (((sp (s.data.toList.drop fr)).map PB).foldl stp st)) := by
 induction d with
 | zero =>
  intro i fr st hi hf hfi hn hl hz
  obtain rfl := hfi (by omega)
  have h0 : s.data.toList.drop fr = [] := List.drop_eq_nil_of_le (by rw [data_length]; omega)
  have hz0 : stp st (PB []) = st := by unfold stp; rw [if_pos (toList_PB [])]
  rw [h0]
  simp only [sp, List.map_cons, List.map_nil, List.foldl_cons, List.foldl_nil, hz0]
  refine Ev_succ ?_
  have c : ¬ (fr : Int) ≤ (s.size : Int) := by omega
  simp only [spec_Clean.l0, if_neg c]
  by_cases hst : st = []
  ·subst hst
   simp only [shown, List.length_nil, Int.natCast_zero, if_true]
   exact Ev.now _
  ·have c2 : ¬ (st.length : Int) = 0 := by
    have := List.length_pos_iff.2 hst; omega
   simp only [if_neg c2, shown, if_neg hst]
   exact clean_show st (by omega) hz st.length 0 (by omega)
 | succ d ih =>
  intro i fr st hi hf hfi hn hl hz
  have ci : (i : Int) ≤ (s.size : Int) := by omega
  have hw : wrap64 ((i : Int) + 1) = ((i + 1 : Nat) : Int) := by rw [w64 (by omega) (by omega)]; omega
  have c0 : 0 ≤ (i : Int) := by omega
  by_cases hgo : i < s.size ∧ bt s (i : Int) ≠ 47
  ·have e := ih (i + 1) fr st (by omega) (by omega) (by omega) (fun j h1 h2 h3 => by
    by_cases hj : j = i
    ·subst hj; exact hgo.2
    ·exact hn j h1 (by omega) h3) hl hz
   have c1 : (i : Int) < (s.size : Int) := by omega
   have c2 : (bt s (i : Int) != 47) = true := bne_iff_ne.mpr hgo.2
   refine Ev_succ ?_
   simp only [spec_Clean.l0, if_pos ci, if_pos c1, if_pos c0, c2]
   refine Ev_succ ?_
   simp only [spec_Clean.j1, if_true, hw]
   exact e
  ·have hcut := cut_here s st fr i hf (by omega) (fun j h1 h2 => hn j h1 h2 (by omega)) (fun h => by
    by_cases hb : bt s (i : Int) = 47
    ·exact hb
    ·exact absurd ⟨h, hb⟩ hgo)
   have hps : (s.extract fr i).size ≤ 40 := by rw [ByteArray.size_extract]; omega
   have hlen := stp_len st (s.extract fr i)
   have e := ih (i + 1) (i + 1) (stp st (s.extract fr i)) (by omega) (by omega) (fun _ => rfl) (fun j h1 h2 h3 => by omega) (by omega) (stp_size st _ 40 hz hps)
   rw [hcut]
   have two : ∀ b : Bool, (b = true ↔ (s.extract fr i).toList = [] ∨ (s.extract fr i).toList = [46]) → Ev (fun k => spec_Clean.j2 k s st ((i + 1 : Nat) : Int) (i : Int) (s.extract fr i) b) (shown (((sp (s.data.toList.drop (i + 1))).map PB).foldl stp (stp st (s.extract fr i)))) := by
    intro b hb
    refine Ev_succ ?_
    by_cases hbt : b = true
    ·have hs0 : stp st (s.extract fr i) = st := by
      unfold stp
      rcases hb.1 hbt with h | h
      ·rw [if_pos h]
      ·by_cases h' : (s.extract fr i).toList = []
       ·rw [if_pos h']
       ·rw [if_neg h', if_pos h]
     rw [hs0] at e ⊢
     simp only [spec_Clean.j2, hbt, if_true, hw]
     exact e
    ·have hno : ¬ ((s.extract fr i).toList = [] ∨ (s.extract fr i).toList = [46]) := fun h => hbt (hb.2 h)
     have hn1 : ¬ (s.extract fr i).toList = [] := fun h => hno (.inl h)
     have hn2 : ¬ (s.extract fr i).toList = [46] := fun h => hno (.inr h)
     by_cases hdd : (s.extract fr i).toList = [46, 46]
     ·have hs0 : stp st (s.extract fr i) = st.take (st.length - 1) := by unfold stp; rw [if_neg hn1, if_neg hn2, if_pos hdd]
      rw [hs0] at e ⊢
      by_cases hst : st.length = 0
      ·have h00 : st.take (st.length - 1) = st := by rw [List.take_of_length_le]; omega
       rw [h00] at e ⊢
       have c3 : ¬ (st.length : Int) > 0 := by omega
       simp only [spec_Clean.j2, hbt, if_false, Bool.false_eq_true, if_pos hdd, if_neg c3, hw]
       exact e
      ·have c3 : (st.length : Int) > 0 := by omega
       have c4 : wrap64 ((st.length : Int) - 1) = ((st.length - 1 : Nat) : Int) := by rw [w64 (by omega) (by omega)]; omega
       have c5 : 0 ≤ ((st.length - 1 : Nat) : Int) := by omega
       have c6 : ((st.length - 1 : Nat) : Int) ≤ (st.length : Int) := by omega
       simp only [spec_Clean.j2, hbt, if_false, Bool.false_eq_true, if_pos hdd, if_pos c3, c4, if_pos c5, if_pos c6, Int.toNat_natCast, hw]
       exact e
     ·have hs0 : stp st (s.extract fr i) = st ++ [s.extract fr i] := by unfold stp; rw [if_neg hn1, if_neg hn2, if_neg hdd]
      rw [hs0] at e ⊢
      have c7 : st.length < 8796093022208 := by omega
      simp only [spec_Clean.j2, hbt, if_false, Bool.false_eq_true, if_neg hdd, if_pos c7, hw]
      exact e
   have one : Ev (fun k => spec_Clean.j1 k s st (fr : Int) (i : Int) false) (shown (((sp (s.data.toList.drop (i + 1))).map PB).foldl stp (stp st (s.extract fr i)))) := by
    refine Ev_succ ?_
    have c8 : 0 ≤ (fr : Int) := by omega
    have c9 : (fr : Int) ≤ (i : Int) := by omega
    simp only [spec_Clean.j1, Bool.false_eq_true, if_false, if_pos c8, if_pos c9, if_pos ci, Int.toNat_natCast, hw]
    by_cases hp : (s.extract fr i).toList = []
    ·simp only [if_pos hp]
     exact two true ⟨fun _ => .inl hp, fun _ => rfl⟩
    ·simp only [if_neg hp]
     exact two _ ⟨fun h => .inr (beq_iff_eq.1 h), fun h => beq_iff_eq.2 (h.resolve_left hp)⟩
   refine Ev_succ ?_
   by_cases hi2 : i < s.size
   ·have c1 : (i : Int) < (s.size : Int) := by omega
    have c2 : (bt s (i : Int) != 47) = false := by
     by_cases hb : bt s (i : Int) = 47
     ·rw [hb]; rfl
     ·exact absurd ⟨hi2, hb⟩ hgo
    simp only [spec_Clean.l0, if_pos ci, if_pos c1, if_pos c0, c2]
    exact one
   ·have c1 : ¬ (i : Int) < (s.size : Int) := by omega
    simp only [spec_Clean.l0, if_pos ci, if_neg c1]
    exact one
def cleanTo (s : ByteArray) : ByteArray := if isP s = true then shown (cleaned s) else ⟨#[]⟩
theorem clean_spec (s : ByteArray) (hs : s.size ≤ 4000000) : Ev (fun k => spec_Clean.f k s) (cleanTo s) := by
 simp only [spec_Clean.f]
 refine Ev_call (path_spec s hs) ?_
 unfold cleanTo
 by_cases h : isP s = true
 ·simp only [if_pos h]
  exact clean_spec_loop s (isP_size h).2 (s.size + 1) 0 0 [] (by omega) (by omega) (by omega) (fun j h1 h2 h3 => by omega) (by simp) (by simp)
 ·simp only [if_neg h]
  exact Ev.now _
theorem clean_impl_loop (L : List ByteArray) (hL : L.length ≤ 41) (hz : ∀ x ∈ L, x.size ≤ 40) (d : Nat) : ∀ (i : Nat) (st : List ByteArray), i + d = L.length → st.length ≤ i → (∀ x ∈ st, x.size ≤ 40) →
  Ev (fun k => impl_Clean.l0 k st L (L.length : Int) (i : Int)) (shown ((L.drop i).foldl stp st)) := by
 induction d with
 | zero =>
  intro i st hi hl hzs
  have h0 : L.drop i = [] := List.drop_eq_nil_of_le (by omega)
  rw [h0, List.foldl_nil]
  refine Ev_succ ?_
  have c : ¬ (i : Int) < (L.length : Int) := by omega
  have hj : (Lib.join (st.map (·.data.toList)) [47]).length ≤ 2100 := by
   cases st with
   | nil => simp [Lib.join_nil]
   | cons x r =>
    rw [List.map_cons, Lib.join_cons, List.length_append]
    have h1 := joinTail_le (r.map (·.data.toList)) 40 (fun y hy => by obtain ⟨z, hz2, rfl⟩ := List.mem_map.1 hy; exact hzs z (.tail _ hz2))
    have h2 : x.data.toList.length ≤ 40 := hzs x (.head _)
    simp only [List.length_map, List.length_cons] at h1 hl
    omega
  have hjc : st.length ≤ 140737488355328 ∧ (Lib.join (st.map (·.data.toList)) (⟨#[47]⟩ : ByteArray).data.toList).length ≤ 140737488355328 := ⟨by omega, by
   have e : (⟨#[47]⟩ : ByteArray).data.toList = [47] := rfl
   rw [e]; omega⟩
  have hjz : 1 + (⟨(Lib.join (st.map (·.data.toList)) (⟨#[47]⟩ : ByteArray).data.toList).toArray⟩ : ByteArray).size ≤ 9223372036854775807 := by
   have e : (⟨(Lib.join (st.map (·.data.toList)) (⟨#[47]⟩ : ByteArray).data.toList).toArray⟩ : ByteArray).size = (Lib.join (st.map (·.data.toList)) [47]).length := rfl
   rw [e]; omega
  simp only [impl_Clean.l0, if_neg c, strings_Join.f, if_pos hjc, Option.bind_some, if_pos hjz]
  rw [← join_shown st]
  exact Ev.now _
 | succ d ih =>
  intro i st hi hl hzs
  have hil : i < L.length := by omega
  have hr : rdOf ByteArray.empty L (i : Int) = L[i] := by simp only [rdOf, Int.toNat_natCast, List.getD, List.getElem?_eq_getElem hil, Option.getD_some]
  have hxs : L[i].size ≤ 40 := hz _ (List.getElem_mem hil)
  have hlen := stp_len st L[i]
  have e := ih (i + 1) (stp st L[i]) (by omega) (by omega) (stp_size st _ 40 hzs hxs)
  have hw : wrap64 ((i : Int) + 1) = ((i + 1 : Nat) : Int) := by rw [w64 (by omega) (by omega)]; omega
  have c0 : 0 ≤ (i : Int) := by omega
  have c1 : (i : Int) < (L.length : Int) := by omega
  rw [List.drop_eq_getElem_cons hil, List.foldl_cons]
  generalize L[i] = x at hr hxs hlen e ⊢
  have two : ∀ b : Bool, (b = true ↔ x.toList = [] ∨ x.toList = [46]) → Ev (fun k => impl_Clean.j1 k st x L (L.length : Int) (i : Int) x b) (shown ((L.drop (i + 1)).foldl stp (stp st x))) := by
   intro b hb
   refine Ev_succ ?_
   by_cases hbt : b = true
   ·have hs0 : stp st x = st := by
     unfold stp
     rcases hb.1 hbt with h | h
     ·rw [if_pos h]
     ·by_cases h' : x.toList = []
      ·rw [if_pos h']
      ·rw [if_neg h', if_pos h]
    rw [hs0] at e ⊢
    simp only [impl_Clean.j1, hbt, if_true, hw]
    exact e
   ·have hno : ¬ (x.toList = [] ∨ x.toList = [46]) := fun h => hbt (hb.2 h)
    have hn1 : ¬ x.toList = [] := fun h => hno (.inl h)
    have hn2 : ¬ x.toList = [46] := fun h => hno (.inr h)
    by_cases hdd : x.toList = [46, 46]
    ·have hs0 : stp st x = st.take (st.length - 1) := by unfold stp; rw [if_neg hn1, if_neg hn2, if_pos hdd]
     rw [hs0] at e ⊢
     have c4 : mx 0 (wrap64 ((st.length : Int) - 1)) = ((st.length - 1 : Nat) : Int) := by
      rw [w64 (by omega) (by omega)]
      unfold mx
      split <;> omega
     have c5 : 0 ≤ ((st.length - 1 : Nat) : Int) := by omega
     have c6 : ((st.length - 1 : Nat) : Int) ≤ (st.length : Int) := by omega
     simp only [impl_Clean.j1, hbt, if_false, Bool.false_eq_true, if_pos hdd, c4, if_pos c5, if_pos c6, Int.toNat_natCast, hw]
     exact e
    ·have hs0 : stp st x = st ++ [x] := by unfold stp; rw [if_neg hn1, if_neg hn2, if_neg hdd]
     rw [hs0] at e ⊢
     have c7 : st.length < 8796093022208 := by omega
     simp only [impl_Clean.j1, hbt, if_false, Bool.false_eq_true, if_neg hdd, if_pos c7, hw]
     exact e
  refine Ev_succ ?_
  simp only [impl_Clean.l0, if_pos c1, if_pos c0, hr]
  by_cases hp : x.toList = []
  ·have hpb : (x.toList == ([] : List UInt8)) = true := beq_iff_eq.2 hp
   simp only [if_pos hp, hpb]
   exact two true ⟨fun _ => .inl hp, fun _ => rfl⟩
  ·simp only [if_neg hp]
   exact two _ ⟨fun h => .inr (beq_iff_eq.1 h), fun h => beq_iff_eq.2 (h.resolve_left hp)⟩
theorem clean_impl (s : ByteArray) (hs : s.size ≤ 4000000) : Ev (fun k => impl_Clean.f k s) (cleanTo s) := by
 simp only [impl_Clean.f]
 refine Ev_call (path_impl s hs) ?_
 unfold cleanTo
 by_cases h : isP s = true
 ·have h40 := (isP_size h).2
  have c : s.size < 4294967281 ∧ 1 ≤ (⟨#[47]⟩ : ByteArray).size := ⟨by omega, Nat.le_refl _⟩
  simp only [if_pos h, strings_Split.f, if_pos c, Option.bind_some, splitB_sp]
  have hl1 := sp_len s.data.toList
  have hl2 := sp_size s.data.toList
  rw [data_length] at hl1 hl2
  exact clean_impl_loop ((sp s.data.toList).map PB) (by rw [List.length_map]; omega) (fun x hx => by
   obtain ⟨p, hp, rfl⟩ := List.mem_map.1 hx
   have := hl2 p hp
   rw [size_PB]; omega) _ 0 [] (Nat.zero_add _) (by simp) (by simp)
 ·simp only [if_neg h]
  exact Ev.now _
def okAt (L : List S33) (i : Nat) : Bool :=
 !((L.getD i z33).f0.toList == [47]) && ((cleanTo (L.getD i z33).f0).toList == (L.getD i z33).f0.toList) && !((L.getD i z33).f0.toList == []) &&
  (decide (i = 0) || Op.bytesLess (L.getD (i - 1) z33).f0.toList (L.getD i z33).f0.toList) && decide ((L.getD i z33).f1.size ≤ 1500)
def okFrom (L : List S33) (i : Nat) : Nat → Bool
 | 0 => true
 | d + 1 => okAt L i && okFrom L (i + 1) d
def filesOk (L : List S33) : Bool := decide (L.length ≤ 8) && okFrom L 0 L.length
theorem files_loop (L : List S33) (hl : L.length ≤ 1048576) (hs : ∀ x ∈ L, x.f0.size ≤ 2097152 ∧ x.f1.size ≤ 2097152) (d : Nat) : ∀ i : Nat, i + d = L.length →
  Ev (fun k => spec_FilesOk.l0 k L i) (okFrom L i d) ∧ Ev (fun k => impl_FilesOk.l0 k L L L.length i) (okFrom L i d && decide ((L.length : Int) ≤ 8)) := by
 induction d with
 | zero =>
  intro i hi
  refine ⟨Ev_succ ?_, Ev_succ ?_⟩
  ·simp (disch := omega) only [spec_FilesOk.l0, if_neg]; exact Ev.now _
  ·simp (disch := omega) only [impl_FilesOk.l0, if_neg]; exact Ev_some (by simp [okFrom])
 | succ d ih =>
  intro i hi
  have e0 : L.getD i z33 = rd_T33 L (i : Int) := rfl
  have hx := hs (rd_T33 L (i : Int)) (by rw [← e0, getD_at L _ i (by omega)]; exact List.getElem_mem _)
  obtain ⟨ihs, ihi⟩ := ih (i + 1) (by omega)
  have es := clean_spec (rd_T33 L (i : Int)).f0 (by omega)
  have ei := clean_impl (rd_T33 L (i : Int)).f0 (by omega)
  by_cases c0 : (rd_T33 L (i : Int)).f0.toList = [47]
  ·have hv : okAt L i = false := by unfold okAt; rw [e0]; simp [c0]
   simp only [okFrom, hv, Bool.false_and]
   refine ⟨Ev_succ ?_, Ev_succ ?_⟩
   ·simp (disch := omega) only [spec_FilesOk.l0, if_pos, c0, if_true]; exact Ev.now _
   ·simp (disch := omega) only [impl_FilesOk.l0, if_pos]
    refine Ev_call ei ?_
    simp only [c0, if_true, ite_self]; exact Ev.now _
  by_cases c1 : (cleanTo (rd_T33 L (i : Int)).f0).toList = (rd_T33 L (i : Int)).f0.toList
  case neg =>
   have hv : okAt L i = false := by unfold okAt; rw [e0]; simp [c1]
   simp only [okFrom, hv, Bool.false_and]
   refine ⟨Ev_succ ?_, Ev_succ ?_⟩
   ·simp (disch := omega) only [spec_FilesOk.l0, if_pos, c0, if_false]
    refine Ev_call es ?_
    simp only [c1, if_false]; exact Ev.now _
   ·simp (disch := omega) only [impl_FilesOk.l0, if_pos]
    refine Ev_call ei ?_
    simp only [c1, if_false]; exact Ev.now _
  by_cases c2 : (rd_T33 L (i : Int)).f0.toList = []
  ·have hv : okAt L i = false := by unfold okAt; rw [e0]; simp [c2]
   simp only [okFrom, hv, Bool.false_and]
   refine ⟨Ev_succ ?_, Ev_succ ?_⟩
   ·simp (disch := omega) only [spec_FilesOk.l0, if_pos, c0, if_false]
    refine Ev_call es ?_
    exact Ev.congr (fun k => by simp only [if_pos c1, if_pos c2]) (Ev.now _)
   ·simp (disch := omega) only [impl_FilesOk.l0, if_pos]
    refine Ev_call ei ?_
    exact Ev.congr (fun k => by simp only [if_pos c1, if_neg c0, if_pos c2]) (Ev.now _)
  by_cases ci : (i : Int) > 0
  ·have e3 : ((i : Int) - 1).toNat = i - 1 := by omega
   have hw : wrap64 ((i : Int) - 1) = (i : Int) - 1 := w64 (by omega) (by omega)
   have e1 : L.getD (i - 1) z33 = rd_T33 L (wrap64 ((i : Int) - 1)) := by rw [hw, rd_T33, e3]
   have d1 : 0 ≤ wrap64 ((i : Int) - 1) := by rw [hw]; omega
   have d2 : wrap64 ((i : Int) - 1) < (L.length : Int) := by rw [hw]; omega
   by_cases cl : Op.bytesLess ((rd_T33 L (wrap64 ((i : Int) - 1))).f0.toList) ((rd_T33 L (i : Int)).f0.toList) = true
   ·by_cases c3 : ((rd_T33 L (i : Int)).f1.size : Int) > 1500
    ·have hv : okAt L i = false := by
      have h3 : ¬ (rd_T33 L (i : Int)).f1.size ≤ 1500 := by omega
      unfold okAt; rw [e0, decide_eq_false h3]; simp
     simp only [okFrom, hv, Bool.false_and]
     refine ⟨Ev_succ ?_, Ev_succ ?_⟩
     ·simp (disch := omega) only [spec_FilesOk.l0, if_pos, c0, if_false]
      refine Ev_call es ?_
      exact Ev.congr (fun k => by simp only [if_pos c1, if_neg c2, if_pos ci, if_pos d1, if_pos d2, if_pos cl, if_pos c3]) (Ev.now _)
     ·simp (disch := omega) only [impl_FilesOk.l0, if_pos]
      refine Ev_call ei ?_
      exact Ev.congr (fun k => by simp only [if_pos c1, if_neg c0, if_neg c2, if_pos c3]) (Ev.now _)
    ·have hv : okAt L i = true := by
      have h3 : (rd_T33 L (i : Int)).f1.size ≤ 1500 := by omega
      unfold okAt; rw [e0, e1, decide_eq_true h3, cl]; simp [c0, c1, c2]
     have hn : wrap64 ((i : Int) + 1) = ((i + 1 : Nat) : Int) := by rw [w64 (by omega) (by omega)]; omega
     simp only [okFrom, hv, Bool.true_and]
     refine ⟨Ev_succ ?_, Ev_succ ?_⟩
     ·simp (disch := omega) only [spec_FilesOk.l0, if_pos, c0, if_false]
      refine Ev_call es ?_
      simp only [if_pos c1, if_neg c2, if_pos ci, if_pos d1, if_pos d2, if_pos cl, if_neg c3, hn]; exact ihs
     ·simp (disch := omega) only [impl_FilesOk.l0, if_pos]
      refine Ev_call ei ?_
      simp only [if_pos c1, if_neg c0, if_neg c2, if_neg c3, if_pos ci, if_pos d1, if_pos d2, if_pos cl, hn]; exact ihi
   ·have hv : okAt L i = false := by
     have h0 : ¬ i = 0 := by omega
     unfold okAt; rw [e0, e1, decide_eq_false h0, Bool.eq_false_iff.2 cl]; simp
    simp only [okFrom, hv, Bool.false_and]
    refine ⟨Ev_succ ?_, Ev_succ ?_⟩
    ·simp (disch := omega) only [spec_FilesOk.l0, if_pos, c0, if_false]
     refine Ev_call es ?_
     exact Ev.congr (fun k => by simp only [if_pos c1, if_neg c2, if_pos ci, if_pos d1, if_pos d2, if_neg cl]) (Ev.now _)
    ·simp (disch := omega) only [impl_FilesOk.l0, if_pos]
     refine Ev_call ei ?_
     simp only [if_pos c1, if_neg c0, if_neg c2]
     by_cases c3 : ((rd_T33 L (i : Int)).f1.size : Int) > 1500
     ·exact Ev.congr (fun k => by simp only [if_pos c3]) (Ev.now _)
     ·exact Ev.congr (fun k => by simp only [if_neg c3, if_pos ci, if_pos d1, if_pos d2, if_neg cl]) (Ev.now _)
  ·have h0 : i = 0 := by omega
   have hn : wrap64 ((i : Int) + 1) = ((i + 1 : Nat) : Int) := by rw [w64 (by omega) (by omega)]; omega
   by_cases c3 : ((rd_T33 L (i : Int)).f1.size : Int) > 1500
   ·have hv : okAt L i = false := by
     have h3 : ¬ (rd_T33 L (i : Int)).f1.size ≤ 1500 := by omega
     unfold okAt; rw [e0, decide_eq_false h3]; simp
    simp only [okFrom, hv, Bool.false_and]
    refine ⟨Ev_succ ?_, Ev_succ ?_⟩
    ·simp (disch := omega) only [spec_FilesOk.l0, if_pos, c0, if_false]
     refine Ev_call es ?_
     exact Ev.congr (fun k => by simp only [if_pos c1, if_neg c2, if_neg ci, if_pos c3]) (Ev.now _)
    ·simp (disch := omega) only [impl_FilesOk.l0, if_pos]
     refine Ev_call ei ?_
     exact Ev.congr (fun k => by simp only [if_pos c1, if_neg c0, if_neg c2, if_pos c3]) (Ev.now _)
   ·have hv : okAt L i = true := by
     have h3 : (rd_T33 L (i : Int)).f1.size ≤ 1500 := by omega
     unfold okAt; rw [e0, decide_eq_true h3, decide_eq_true h0]; simp [c0, c1, c2]
    simp only [okFrom, hv, Bool.true_and]
    refine ⟨Ev_succ ?_, Ev_succ ?_⟩
    ·simp (disch := omega) only [spec_FilesOk.l0, if_pos, c0, if_false]
     refine Ev_call es ?_
     simp only [if_pos c1, if_neg c2, if_neg ci, if_neg c3, hn]; exact ihs
    ·simp (disch := omega) only [impl_FilesOk.l0, if_pos]
     refine Ev_call ei ?_
     simp only [if_pos c1, if_neg c0, if_neg c2, if_neg c3, if_neg ci, hn]; exact ihi
theorem files_spec (L : List S33) (hl : L.length ≤ 1048576) (hs : ∀ x ∈ L, x.f0.size ≤ 2097152 ∧ x.f1.size ≤ 2097152) : Ev (fun k => spec_FilesOk.f k L) (filesOk L) := by
 unfold filesOk
 by_cases h : L.length ≤ 8
 ·rw [decide_eq_true h, Bool.true_and]
  simp (disch := omega) only [spec_FilesOk.f, if_neg]
  exact (files_loop L hl hs L.length 0 (by omega)).1
 ·rw [decide_eq_false h, Bool.false_and]
  simp (disch := omega) only [spec_FilesOk.f, if_pos]; exact Ev.now _
theorem files_impl (L : List S33) (hl : L.length ≤ 1048576) (hs : ∀ x ∈ L, x.f0.size ≤ 2097152 ∧ x.f1.size ≤ 2097152) : Ev (fun k => impl_FilesOk.f k L) (filesOk L) := by
 have e := (files_loop L hl hs L.length 0 (by omega)).2
 have q : (okFrom L 0 L.length && decide ((L.length : Int) ≤ 8)) = filesOk L := by
  unfold filesOk
  rw [Bool.and_comm]
  congr 1
  by_cases h : L.length ≤ 8
  ·rw [decide_eq_true h, decide_eq_true (by omega)]
  ·rw [decide_eq_false h, decide_eq_false (by omega)]
 rw [q] at e
 simp only [impl_FilesOk.f]
 exact e
theorem okFrom_iff (L : List S33) (d : Nat) : ∀ i, okFrom L i d = true ↔ ∀ j, i ≤ j → j < i + d → okAt L j = true := by
 induction d with
 | zero => intro i; exact ⟨fun _ j h1 h2 => absurd h2 (by omega), fun _ => rfl⟩
 | succ d ih =>
  intro i
  simp only [okFrom, Bool.and_eq_true, ih (i + 1)]
  constructor
  ·rintro ⟨h, h2⟩ j h3 h4
   rcases Nat.eq_or_lt_of_le h3 with e | e
   ·subst e; exact h
   ·exact h2 j e (by omega)
  ·intro h
   exact ⟨h i (Nat.le_refl _) (by omega), fun j h1 h2 => h j (by omega) (by omega)⟩
theorem filesOk_iff (L : List S33) : filesOk L = true ↔ L.length ≤ 8 ∧ ∀ j, j < L.length → okAt L j = true := by
 unfold filesOk
 rw [Bool.and_eq_true, decide_eq_true_eq, okFrom_iff]
 exact ⟨fun ⟨a, b⟩ => ⟨a, fun j h => b j (by omega) (by omega)⟩, fun ⟨a, b⟩ => ⟨a, fun j _ h => b j (by omega)⟩⟩
theorem svar_loop (d : Nat) : ∀ (x : Int) (acc : List Int), x.toNat ≤ d → 0 ≤ x → (acc.length : Int) + x / 4 < 140737488355328 →
  Ev (fun k => spec_Var.l0 k x acc) (strOfNums (acc ++ varL x.toNat)) := by
 induction d with
 | zero =>
  intro x acc hd h0 hl
  refine Ev_succ ?_
  rw [varL_small (by omega)]
  have e : x % 256 = (x.toNat : Int) := by omega
  simp (disch := omega) only [spec_Var.l0, if_pos, if_neg, e]; exact Ev.now _
 | succ d ih =>
  intro x acc hd h0 hl
  by_cases h : 128 ≤ x
  ·have e1 := ih (x / 128) (acc ++ [(128 + x % 128) % 256]) (by omega) (by omega) (by simp; omega)
   refine Ev_succ ?_
   simp (disch := omega) only [spec_Var.l0, if_pos, w64, tdiv_nn, tmod_nn]
   rw [varL_big (by omega)]
   have e2 : ((128 + x.toNat % 128 : Nat) : Int) = (128 + x % 128) % 256 := by omega
   have e3 : x.toNat / 128 = (x / 128).toNat := by omega
   rw [e2, e3, show acc ++ (128 + x % 128) % 256 :: varL (x / 128).toNat = acc ++ [(128 + x % 128) % 256] ++ varL (x / 128).toNat by simp]
   exact e1
  ·refine Ev_succ ?_
   rw [varL_small (by omega)]
   have e : x % 256 = (x.toNat : Int) := by omega
   simp (disch := omega) only [spec_Var.l0, if_pos, if_neg, e]; exact Ev.now _
theorem svar (x : Int) (h0 : 0 ≤ x) (h1 : x ≤ 562949953421311) : Ev (fun k => spec_Var.f k x) (strOfNums (varL x.toNat)) := by
 have e := svar_loop x.toNat x [] (Nat.le_refl _) h0 (by simp; omega)
 simp (disch := omega) only [spec_Var.f, spec_l1In.f, if_pos, Option.bind_some, decide_eq_true h1]
 exact e
theorem ivar_loop (d : Nat) : ∀ (x : Int) (acc : List Int), x.toNat ≤ d → 0 ≤ x → x < 9223372036854775808 → (acc.length : Int) + x / 4 < 140737488355328 →
  Ev (fun k => impl_Var.l0 k x acc) (strOfNums (acc ++ varL x.toNat)) := by
 induction d with
 | zero =>
  intro x acc hd h0 h9 hl
  refine Ev_succ ?_
  rw [varL_small (by omega)]
  have e : x % 256 = (x.toNat : Int) := by omega
  simp (disch := omega) only [impl_Var.l0, if_pos, if_neg, e]; exact Ev.now _
 | succ d ih =>
  intro x acc hd h0 h9 hl
  by_cases h : 128 ≤ x
  ·have e0 : Go.bits .or .i64 (x % 128) 128 = 128 + x % 128 := by
    rw [i64_or_high (y := x % 128) (x := 128) 7 (by omega) (by omega) (by omega) (by omega) (by omega) (by omega)]; omega
   have e1 := ih (x / 128) (acc ++ [(128 + x % 128) % 256]) (by omega) (by omega) (by omega) (by simp; omega)
   refine Ev_succ ?_
   simp (disch := omega) only [impl_Var.l0, if_pos, i64_and127, e0]
   rw [varL_big (by omega)]
   have e2 : ((128 + x.toNat % 128 : Nat) : Int) = (128 + x % 128) % 256 := by omega
   have e3 : x.toNat / 128 = (x / 128).toNat := by omega
   rw [e2, e3, show acc ++ (128 + x % 128) % 256 :: varL (x / 128).toNat = acc ++ [(128 + x % 128) % 256] ++ varL (x / 128).toNat by simp]
   exact e1
  ·refine Ev_succ ?_
   rw [varL_small (by omega)]
   have e : x % 256 = (x.toNat : Int) := by omega
   simp (disch := omega) only [impl_Var.l0, if_pos, if_neg, e]; exact Ev.now _
theorem ivar (x : Int) (h0 : 0 ≤ x) (h1 : x ≤ 562949953421311) : Ev (fun k => impl_Var.f k x) (strOfNums (varL x.toNat)) := by
 have e := ivar_loop x.toNat x [] (Nat.le_refl _) h0 (by omega) (by simp; omega)
 simp (disch := omega) only [impl_Var.f, impl_in.f, if_pos, Option.bind_some, decide_eq_true h1]
 exact e
theorem str_size (l : List Int) : (strOfNums l).size = l.length := by
 show (strOfNums l).data.size = _
 rw [← Array.length_toList]; simp [strOfNums]
theorem var_size (n : Nat) (h : n ≤ 2097152) : (strOfNums (varL n)).size ≤ 4 := by
 rw [str_size]; exact varL_len n 3 (by omega)
theorem pow7 {j : Nat} (h : j ≤ 7) : 128 ^ j ≤ 562949953421312 := by
 have := Nat.pow_le_pow_right (n := 128) (by decide) h
 have e : 128 ^ 7 = 562949953421312 := by decide
 omega
theorem inner (s : ByteArray) (kk : Nat) (hk : kk ≤ s.size) (h7 : kk ≤ 7) (r : Int × Int) (h : Ev (fun k => spec_ReadVar.l1 k s kk (valL ((bytesOf s).take kk)) (-1)) r) (j : Nat) :
  ∀ i : Nat, i ≤ kk → j = i → Ev (fun k => spec_ReadVar.l1 k s kk (valL (((bytesOf s).take kk).drop i)) ((i : Int) - 1)) r := by
 induction j with
 | zero =>
  intro i _ hi
  subst hi
  exact h
 | succ j ih =>
  intro i hi he
  subst he
  have hb := bt_range s j
  have hl : (bytesOf s).length = s.size := B_len s
  have hlt : j < ((bytesOf s).take kk).length := by rw [List.length_take]; omega
  have hd : ((bytesOf s).take kk).drop j = bt s j :: ((bytesOf s).take kk).drop (j + 1) := by
   rw [List.drop_eq_getElem_cons hlt, List.getElem_take, bt_B]
   congr 1
   rw [getD_at _ _ _ (by rw [hl]; simp; omega)]
   rfl
  have hv := valL_lt (((bytesOf s).take kk).drop (j + 1))
  have hn := valL_nn (((bytesOf s).take kk).drop (j + 1))
  have hp := pow7 (j := (((bytesOf s).take kk).drop (j + 1)).length) (by simp; omega)
  have e := ih j (by omega) rfl
  rw [hd] at e
  simp only [valL] at e
  refine Ev_succ ?_
  have e1 : ((j + 1 : Nat) : Int) - 1 = j := by omega
  rw [e1]
  have e2 : valL (((bytesOf s).take kk).drop (j + 1)) * 128 + bt s j % 128 = bt s j % 128 + 128 * valL (((bytesOf s).take kk).drop (j + 1)) := by omega
  simp (disch := omega) only [spec_ReadVar.l1, if_pos, w64, tmod_nn, e2]
  exact e
theorem chk (s : ByteArray) (kk : Nat) (n : Nat) : (strOfNums (varL n)).toList = (s.extract 0 kk).toList ↔ varL n = (bytesOf s).take kk := by
 rw [toList_B, B_str _ (varL_range n), B_ext, List.drop_zero]
theorem spec_hit (s : ByteArray) (hz : s.size ≤ 1048576) (kk : Nat) (h1 : 1 ≤ kk) (h7 : kk ≤ 7) (hs : kk ≤ s.size) (h : varL (valL ((bytesOf s).take kk)).toNat = (bytesOf s).take kk) :
  Ev (fun k => spec_ReadVar.l0 k s kk) (valL ((bytesOf s).take kk), (kk : Int)) := by
 have hv := valL_lt ((bytesOf s).take kk)
 have hn := valL_nn ((bytesOf s).take kk)
 have hp := pow7 (j := ((bytesOf s).take kk).length) (by simp; omega)
 have hin := inner s kk hs h7 (valL ((bytesOf s).take kk), (kk : Int)) (by
  refine Ev_succ ?_
  simp (disch := omega) only [spec_ReadVar.l1, if_neg]
  refine Ev_call (svar _ hn (by omega)) ?_
  simp (disch := omega) only [if_pos, Int.toNat_natCast]
  simp only [if_pos ((chk s kk _).2 h)]
  exact Ev.now _) kk kk (Nat.le_refl _) rfl
 rw [List.drop_of_length_le (by simp; omega)] at hin
 refine Ev_succ ?_
 simp (disch := omega) only [spec_ReadVar.l0, if_pos, decide_eq_true (show (kk : Int) ≤ (s.size : Int) by omega)]
 refine Ev_succ ?_
 simp (disch := omega) only [spec_ReadVar.j1, if_true, w64]
 exact hin
theorem spec_miss (s : ByteArray) (hz : s.size ≤ 1048576) (kk : Nat) (h1 : 1 ≤ kk) (h7 : kk ≤ 7) (hs : kk ≤ s.size) (h : varL (valL ((bytesOf s).take kk)).toNat ≠ (bytesOf s).take kk) (r : Int × Int)
  (hr : Ev (fun k => spec_ReadVar.l0 k s ((kk + 1 : Nat) : Int)) r) : Ev (fun k => spec_ReadVar.l0 k s kk) r := by
 have hv := valL_lt ((bytesOf s).take kk)
 have hn := valL_nn ((bytesOf s).take kk)
 have hp := pow7 (j := ((bytesOf s).take kk).length) (by simp; omega)
 have hin := inner s kk hs h7 r (by
  refine Ev_succ ?_
  simp (disch := omega) only [spec_ReadVar.l1, if_neg]
  refine Ev_call (svar _ hn (by omega)) ?_
  simp (disch := omega) only [if_pos, Int.toNat_natCast, w64]
  simp only [if_neg (fun e => h ((chk s kk _).1 e))]
  exact hr) kk kk (Nat.le_refl _) rfl
 rw [List.drop_of_length_le (by simp; omega)] at hin
 refine Ev_succ ?_
 simp (disch := omega) only [spec_ReadVar.l0, if_pos, decide_eq_true (show (kk : Int) ≤ (s.size : Int) by omega)]
 refine Ev_succ ?_
 simp (disch := omega) only [spec_ReadVar.j1, if_true, w64]
 exact hin
theorem spec_end (s : ByteArray) (kk : Nat) (h : 7 < kk ∨ s.size < kk) : Ev (fun k => spec_ReadVar.l0 k s kk) (0, 0) := by
 refine Ev_succ ?_
 by_cases h7 : kk ≤ 7
 ·simp (disch := omega) only [spec_ReadVar.l0, if_pos, decide_eq_false (show ¬ (kk : Int) ≤ (s.size : Int) by omega)]
  refine Ev_succ ?_
  simp only [spec_ReadVar.j1, Bool.false_eq_true, if_false]; exact Ev.now _
 ·simp (disch := omega) only [spec_ReadVar.l0, if_neg]
  refine Ev_succ ?_
  simp only [spec_ReadVar.j1, Bool.false_eq_true, if_false]; exact Ev.now _
theorem spec_rest (s : ByteArray) (hz : s.size ≤ 1048576) (j : Nat) (hj : (bytesOf s).getD j 0 < 128) (d : Nat) : ∀ kk : Nat, j + 2 ≤ kk → kk + d = 9 + j → Ev (fun k => spec_ReadVar.l0 k s kk) (0, 0) := by
 induction d with
 | zero => intro kk h1 hd; exact spec_end s kk (by omega)
 | succ d ih =>
  intro kk h1 hd
  by_cases h7 : kk ≤ 7 ∧ kk ≤ s.size
  ·obtain ⟨h7, hs⟩ := h7
   have hl : (bytesOf s).length = s.size := B_len s
   refine spec_miss s hz kk (by omega) h7 hs (varL_not_mid _ j (by rw [List.length_take]; omega) ?_ _) _ (ih (kk + 1) (by omega) (by omega))
   rw [List.getD_eq_getElem?_getD, List.getElem?_take_of_lt (by omega), ← List.getD_eq_getElem?_getD]
   exact hj
  ·exact spec_end s kk (by omega)
theorem shl7 (v : Int) (j : Nat) (hj : j ≤ 6) (h0 : 0 ≤ v) (h1 : v < 128) : shl .i64 v (7 * (j : Int)) = v * ((128 ^ j : Nat) : Int) := by
 unfold shl
 have e : min (7 * (j : Int)).toNat IntKind.i64.bits = 7 * j := by simp only [IntKind.bits]; omega
 have e2 : (2 : Int) ^ (7 * j) = ((128 ^ j : Nat) : Int) := by rw [Int.pow_mul, Int.natCast_pow]; rfl
 rw [e, e2]
 have hp := pow7 (j := j) (by omega)
 have hp6 := pow7 (j := j + 1) (by omega)
 have hs6 : 128 ^ (j + 1) = 128 ^ j * 128 := Nat.pow_succ _ _
 have hq : v * ((128 ^ j : Nat) : Int) ≤ 128 * ((128 ^ j : Nat) : Int) := Int.mul_le_mul_of_nonneg_right (by omega) (Int.natCast_nonneg _)
 have hq0 : 0 ≤ v * ((128 ^ j : Nat) : Int) := Int.mul_nonneg h0 (Int.natCast_nonneg _)
 exact wraps_i64 _ hq0 (by omega)
theorem both (s : ByteArray) (hz : s.size ≤ 1048576) (d : Nat) : ∀ j : Nat, j + d = 8 → j ≤ s.size → (∀ y ∈ (bytesOf s).take j, 128 ≤ y ∧ y < 256) →
  ∃ r, Ev (fun k => spec_ReadVar.l0 k s ((j + 1 : Nat) : Int)) r ∧ Ev (fun k => impl_ReadVar.l0 k s (valL ((bytesOf s).take j)) j) r := by
 have hl : (bytesOf s).length = s.size := B_len s
 induction d with
 | zero =>
  intro j hj hs hp
  refine ⟨(0, 0), spec_end s _ (by omega), Ev_succ ?_⟩
  simp (disch := omega) only [impl_ReadVar.l0, if_neg]
  refine Ev_succ ?_
  simp only [impl_ReadVar.j1, Bool.false_eq_true, if_false]; exact Ev.now _
 | succ d ih =>
  intro j hj hs hp
  by_cases hjs : j < 7 ∧ j < s.size
  ·obtain ⟨hj7, hjs⟩ := hjs
   have hb := bt_range s j
   have hbt : bt s j = (bytesOf s).getD j 0 := by rw [bt_B]; rfl
   have htk : (bytesOf s).take (j + 1) = (bytesOf s).take j ++ [bt s j] := by
    rw [List.take_succ_eq_append_getElem (by omega), hbt, getD_at _ _ _ (by omega)]
   have hlen : ((bytesOf s).take j).length = j := by rw [List.length_take]; omega
   have hv := valL_lt ((bytesOf s).take j)
   have hn := valL_nn ((bytesOf s).take j)
   rw [hlen] at hv
   have hpw := pow7 (j := j) (by omega)
   have hpos : 0 < 128 ^ j := Nat.pow_pos (by decide)
   have hval : valL ((bytesOf s).take (j + 1)) = valL ((bytesOf s).take j) + bt s j % 128 * ((128 ^ j : Nat) : Int) := by rw [htk, valL_snoc, hlen]
   have hq : bt s j % 128 * ((128 ^ j : Nat) : Int) ≤ 127 * ((128 ^ j : Nat) : Int) := Int.mul_le_mul_of_nonneg_right (by omega) (by omega)
   have hq0 : 0 ≤ bt s j % 128 * ((128 ^ j : Nat) : Int) := Int.mul_nonneg (by omega) (by omega)
   have hp6 := pow7 (j := j + 1) (by omega)
   have hs6 : 128 ^ (j + 1) = 128 ^ j * 128 := Nat.pow_succ _ _
   have eor : Go.bits .or .i64 (valL ((bytesOf s).take j)) (shl .i64 (Go.bits .and .i64 (bt s j) 127) (7 * (j : Int))) = valL ((bytesOf s).take (j + 1)) := by
    rw [Kit.i64_and127 (x := bt s j) (by omega) (by omega), shl7 _ j (by omega) (by omega) (by omega), hval]
    have e27 : (2 : Int) ^ (7 * j) = ((128 ^ j : Nat) : Int) := by rw [Int.pow_mul, Int.natCast_pow]; rfl
    refine i64_or_high (7 * j) hq0 ?_ (by omega) hn (by rw [e27]; exact hv) (by omega)
    rw [e27]; exact Int.mul_emod_left _ _
   by_cases hbig : 127 < bt s j
   ·obtain ⟨r, e1, e2⟩ := ih (j + 1) (by omega) (by omega) (by
     rw [htk]
     intro y hy
     rcases List.mem_append.1 hy with hy | hy
     ·exact hp y hy
     ·obtain rfl := List.mem_singleton.1 hy; omega)
    refine ⟨r, spec_miss s hz (j + 1) (by omega) (by omega) (by omega) (by rw [htk]; exact varL_not_big _ _ (by omega) _) r e1, Ev_succ ?_⟩
    simp (disch := omega) only [impl_ReadVar.l0, if_pos, decide_eq_true (show (j : Int) < (s.size : Int) by omega)]
    refine Ev_succ ?_
    simp (disch := omega) only [impl_ReadVar.j1, if_true, if_pos, w64, eor]
    exact e2
   ·by_cases hzr : bt s j = 0 ∧ 0 < j
    ·obtain ⟨hzr, hj0⟩ := hzr
     refine ⟨(0, 0), spec_miss s hz (j + 1) (by omega) (by omega) (by omega) (by
      rw [htk, hzr]
      exact varL_not_zero _ (fun e => by rw [e] at hlen; simp at hlen; omega) _) _ (spec_rest s hz j (by omega) 7 (j + 1 + 1) (by omega) (by omega)), Ev_succ ?_⟩
     simp (disch := omega) only [impl_ReadVar.l0, if_pos, decide_eq_true (show (j : Int) < (s.size : Int) by omega)]
     refine Ev_succ ?_
     simp (disch := omega) only [impl_ReadVar.j1, if_true, if_pos, if_neg, w64]
     exact Ev.now _
    ·have hcan : varL (valL ((bytesOf s).take (j + 1))).toNat = (bytesOf s).take (j + 1) := by
      rw [htk]
      exact (varL_valL (bt s j) (by omega) (by omega) _ hp (fun hne => by
       have : j ≠ 0 := fun e => by subst e; simp at hne
       omega)).1
     refine ⟨_, spec_hit s hz (j + 1) (by omega) (by omega) (by omega) hcan, Ev_succ ?_⟩
     simp (disch := omega) only [impl_ReadVar.l0, if_pos, decide_eq_true (show (j : Int) < (s.size : Int) by omega)]
     refine Ev_succ ?_
     by_cases h00 : bt s j = 0
     ·simp (disch := omega) only [impl_ReadVar.j1, if_true, if_pos, if_neg, w64, eor]
      exact Ev_some (by simp)
     ·simp (disch := omega) only [impl_ReadVar.j1, if_true, if_pos, if_neg, w64, eor]
      exact Ev_some (by simp)
  ·refine ⟨(0, 0), spec_end s _ (by omega), Ev_succ ?_⟩
   by_cases h7 : j < 7
   ·simp (disch := omega) only [impl_ReadVar.l0, if_pos, decide_eq_false (show ¬ (j : Int) < (s.size : Int) by omega)]
    refine Ev_succ ?_
    simp only [impl_ReadVar.j1, Bool.false_eq_true, if_false]; exact Ev.now _
   ·simp (disch := omega) only [impl_ReadVar.l0, if_neg]
    refine Ev_succ ?_
    simp only [impl_ReadVar.j1, Bool.false_eq_true, if_false]; exact Ev.now _
theorem bt_rng (s : ByteArray) (i : Int) : 0 ≤ bt s i ∧ bt s i < 256 := by
 rw [bt_B]
 rcases Nat.lt_or_ge i.toNat (bytesOf s).length with h | h
 ·rw [getD_at _ _ _ h]; exact B_range s _ (List.getElem_mem _)
 ·rw [List.getD_eq_getElem?_getD, List.getElem?_eq_none h]; exact ⟨Int.le_refl 0, by decide⟩
/-! the numbers of variable length -/
theorem valL_varL (n : Nat) : valL (varL n) = n := by
 induction n using Nat.strongRecOn with
 | _ n ih =>
  by_cases h : n < 128
  ·rw [varL_small h]; simp only [valL]; omega
  ·rw [varL_big h]; simp only [valL]; rw [ih (n / 128) (by omega)]; omega
def rvL (l : List Int) : Nat → Nat → Int × Int
 | 0, _ => (0, 0)
 | d + 1, j => if j < l.length then (if 127 < l.getD j 0 then rvL l d (j + 1) else if l.getD j 0 = 0 ∧ 0 < j then (0, 0) else (valL (l.take (j + 1)), ((j + 1 : Nat) : Int))) else (0, 0)
theorem rv_impl (s : ByteArray) (hz : s.size ≤ 1048576) (d : Nat) : ∀ j : Nat, j + d = 7 → j ≤ s.size → (∀ y ∈ (bytesOf s).take j, 128 ≤ y ∧ y < 256) →
  Ev (fun k => impl_ReadVar.l0 k s (valL ((bytesOf s).take j)) j) (rvL (bytesOf s) d j) := by
 have hl : (bytesOf s).length = s.size := B_len s
 induction d with
 | zero =>
  intro j hj hs hp
  refine Ev_succ ?_
  simp (disch := omega) only [impl_ReadVar.l0, if_neg]
  refine Ev_succ ?_
  simp only [impl_ReadVar.j1, Bool.false_eq_true, if_false]; exact Ev.now _
 | succ d ih =>
  intro j hj hs hp
  by_cases hjs : j < s.size
  ·have hb := bt_rng s j
   have hbt : bt s j = (bytesOf s).getD j 0 := by rw [bt_B]; rfl
   have htk : (bytesOf s).take (j + 1) = (bytesOf s).take j ++ [bt s j] := by
    rw [List.take_succ_eq_append_getElem (by omega), hbt, getD_at _ _ _ (by omega)]
   have hlen : ((bytesOf s).take j).length = j := by rw [List.length_take]; omega
   have hv := valL_lt ((bytesOf s).take j)
   have hn := valL_nn ((bytesOf s).take j)
   rw [hlen] at hv
   have hpw := pow7 (j := j) (by omega)
   have hpos : 0 < 128 ^ j := Nat.pow_pos (by decide)
   have hval : valL ((bytesOf s).take (j + 1)) = valL ((bytesOf s).take j) + bt s j % 128 * ((128 ^ j : Nat) : Int) := by rw [htk, valL_snoc, hlen]
   have hq : bt s j % 128 * ((128 ^ j : Nat) : Int) ≤ 127 * ((128 ^ j : Nat) : Int) := Int.mul_le_mul_of_nonneg_right (by omega) (by omega)
   have hq0 : 0 ≤ bt s j % 128 * ((128 ^ j : Nat) : Int) := Int.mul_nonneg (by omega) (by omega)
   have hp6 := pow7 (j := j + 1) (by omega)
   have hs6 : 128 ^ (j + 1) = 128 ^ j * 128 := Nat.pow_succ _ _
   have eor : Go.bits .or .i64 (valL ((bytesOf s).take j)) (shl .i64 (Go.bits .and .i64 (bt s j) 127) (7 * (j : Int))) = valL ((bytesOf s).take (j + 1)) := by
    rw [Kit.i64_and127 (x := bt s j) (by omega) (by omega), shl7 _ j (by omega) (by omega) (by omega), hval]
    have e27 : (2 : Int) ^ (7 * j) = ((128 ^ j : Nat) : Int) := by rw [Int.pow_mul, Int.natCast_pow]; rfl
    refine i64_or_high (7 * j) hq0 ?_ (by omega) hn (by rw [e27]; exact hv) (by omega)
    rw [e27]; exact Int.mul_emod_left _ _
   rw [rvL, if_pos (by omega), ← hbt]
   by_cases hbig : 127 < bt s j
   ·rw [if_pos hbig]
    have e2 := ih (j + 1) (by omega) (by omega) (by
     rw [htk]
     intro y hy
     rcases List.mem_append.1 hy with hy | hy
     ·exact hp y hy
     ·obtain rfl := List.mem_singleton.1 hy; omega)
    refine Ev_succ ?_
    simp (disch := omega) only [impl_ReadVar.l0, if_pos, decide_eq_true (show (j : Int) < (s.size : Int) by omega)]
    refine Ev_succ ?_
    simp (disch := omega) only [impl_ReadVar.j1, if_true, if_pos, w64, eor]
    exact e2
   ·rw [if_neg hbig]
    refine Ev_succ ?_
    simp (disch := omega) only [impl_ReadVar.l0, if_pos, decide_eq_true (show (j : Int) < (s.size : Int) by omega)]
    refine Ev_succ ?_
    by_cases hzr : bt s j = 0 ∧ 0 < j
    ·rw [if_pos hzr]
     obtain ⟨hzr, hj0⟩ := hzr
     simp (disch := omega) only [impl_ReadVar.j1, if_true, if_pos, if_neg, w64]
     exact Ev.now _
    ·rw [if_neg hzr]
     by_cases h00 : bt s j = 0
     ·simp (disch := omega) only [impl_ReadVar.j1, if_true, if_pos, if_neg, w64, eor]
      exact Ev_some (by simp)
     ·simp (disch := omega) only [impl_ReadVar.j1, if_true, if_pos, if_neg, w64, eor]
      exact Ev_some (by simp)
  ·rw [rvL, if_neg (by omega)]
   refine Ev_succ ?_
   simp (disch := omega) only [impl_ReadVar.l0, if_pos, decide_eq_false (show ¬ (j : Int) < (s.size : Int) by omega)]
   refine Ev_succ ?_
   simp only [impl_ReadVar.j1, Bool.false_eq_true, if_false]; exact Ev.now _
def readV (s : ByteArray) : Int × Int := rvL (bytesOf s) 7 0
theorem readV_impl (s : ByteArray) (hz : s.size ≤ 1048576) : Ev (fun k => impl_ReadVar.f k s) (readV s) := by
 have e := rv_impl s hz 7 0 rfl (by omega) (by simp)
 simp only [impl_ReadVar.f]
 exact e
theorem rvL_var (l : List Int) (p : List Int) (x : Int) (t : List Int) (hl : l = p ++ x :: t) (hp : ∀ y ∈ p, 128 ≤ y) (h1 : x < 128) (hx : p ≠ [] → x ≠ 0) (d : Nat) : ∀ j : Nat, p.length < j + d → j ≤ p.length → rvL l d j = (valL (p ++ [x]), ((p.length + 1 : Nat) : Int)) := by
 have hlen : l.length = p.length + 1 + t.length := by rw [hl]; exact len_mid p t x
 induction d with
 | zero => intro j h0 h2; omega
 | succ d ih =>
  intro j h0 h2
  rw [rvL, if_pos (by omega)]
  by_cases h : j < p.length
  ·have e : l.getD j 0 = p[j] := by rw [hl, List.getD_eq_getElem?_getD, List.getElem?_append_left h, List.getElem?_eq_getElem h]; rfl
   have := hp p[j] (List.getElem_mem h)
   rw [e, if_pos (by omega)]
   exact ih (j + 1) (by omega) (by omega)
  ·obtain rfl : j = p.length := by omega
   have e : l.getD p.length 0 = x := by
    have := getD_mid p t x 0
    rw [Int.toNat_natCast] at this
    rw [hl]; exact this
   have ht : l.take (p.length + 1) = p ++ [x] := by
    rw [hl, show p ++ x :: t = (p ++ [x]) ++ t by simp]
    exact List.take_left' (by simp)
   rw [e, if_neg (by omega), if_neg, ht]
   rintro ⟨a, b⟩
   exact hx (fun e2 => by rw [e2] at b; simp at b) a
theorem rvL_canon (l : List Int) (h0 : ∀ y ∈ l, 0 ≤ y ∧ y < 256) (d : Nat) : ∀ j : Nat, j + d = 7 → (∀ y ∈ l.take j, 128 ≤ y ∧ y < 256) → (rvL l d j).2 = 0 ∨ ∃ m : Nat, (rvL l d j).2 = m ∧ m ≤ l.length ∧ 0 ≤ (rvL l d j).1 ∧ (rvL l d j).1 ≤ 562949953421311 ∧ varL (rvL l d j).1.toNat = l.take m := by
 induction d with
 | zero => intro j _ _; exact Or.inl rfl
 | succ d ih =>
  intro j hj hp
  rw [rvL]
  by_cases hjl : j < l.length
  ·rw [if_pos hjl]
   have e : l.getD j 0 = l[j] := getD_at l 0 j hjl
   have hb := h0 l[j] (List.getElem_mem hjl)
   have htk : l.take (j + 1) = l.take j ++ [l[j]] := List.take_succ_eq_append_getElem hjl
   rw [e]
   by_cases hbig : 127 < l[j]
   ·rw [if_pos hbig]
    refine ih (j + 1) (by omega) ?_
    rw [htk]
    intro y hy
    rcases List.mem_append.1 hy with hy | hy
    ·exact hp y hy
    ·obtain rfl := List.mem_singleton.1 hy; omega
   ·rw [if_neg hbig]
    by_cases hz : l[j] = 0 ∧ 0 < j
    ·rw [if_pos hz]; exact Or.inl rfl
    ·rw [if_neg hz]
     refine Or.inr ⟨j + 1, rfl, by omega, valL_nn _, ?_, ?_⟩
     ·have := valL_lt (l.take (j + 1))
      have hlen : (l.take (j + 1)).length = j + 1 := by rw [List.length_take]; omega
      rw [hlen] at this
      have hp7 := pow7 (j := j + 1) (by omega)
      simp only
      omega
     ·rw [htk]
      have hlen : (l.take j).length = j := by rw [List.length_take]; omega
      exact (varL_valL l[j] (by omega) (by omega) _ hp (fun hne h00 => hz ⟨h00, by
       rcases Nat.eq_zero_or_pos j with q | q
       ·subst q; simp at hne
       ·exact q⟩)).1
  ·rw [if_neg hjl]; exact Or.inl rfl
/-! hexadecimal -/
def pieceB (s : ByteArray) : ByteArray := strOfNums (varL s.size) ++ s
def addF (a : ByteArray) (x : S33) : ByteArray := a ++ (pieceB x.f0 ++ pieceB x.f1)
def showTo (L : List S33) : ByteArray := if filesOk L = true then L.foldl addF (⟨#[102]⟩ ++ strOfNums (varL L.length)) else ⟨#[]⟩
theorem piece_size (s : ByteArray) (h : s.size ≤ 2097152) : (pieceB s).size ≤ 2097156 := by
 unfold pieceB; rw [size_app]; have := var_size s.size h; omega
theorem piece_spec (s : ByteArray) (h : s.size ≤ 2097152) : Ev (fun k => spec_l12Piece.f k s) (pieceB s) := by
 simp only [spec_l12Piece.f]
 refine Ev_call (svar s.size (by omega) (by omega)) ?_
 rw [Int.toNat_natCast]
 have := var_size s.size h
 have c : (strOfNums (varL s.size)).size + s.size ≤ 9223372036854775807 := by omega
 simp only [if_pos c]; exact Ev.now _
theorem piece_impl (s : ByteArray) (h : s.size ≤ 2097152) : Ev (fun k => impl_piece.f k s) (pieceB s) := by
 simp only [impl_piece.f]
 refine Ev_call (ivar s.size (by omega) (by omega)) ?_
 rw [Int.toNat_natCast]
 have := var_size s.size h
 have c : (strOfNums (varL s.size)).size + s.size ≤ 9223372036854775807 := by omega
 simp only [if_pos c]; exact Ev.now _
theorem show_loop (L : List S33) (hl : L.length ≤ 8) (hs : ∀ x ∈ L, x.f0.size ≤ 2097152 ∧ x.f1.size ≤ 2097152) (d : Nat) : ∀ (i : Nat) (acc : ByteArray), i + d = L.length → acc.size ≤ 100 + i * 8000000 →
  Ev (fun k => spec_ShowFiles.l0 k L acc i) ((L.drop i).foldl addF acc) ∧ Ev (fun k => impl_ShowFiles.l0 k acc L L.length i) ((L.drop i).foldl addF acc) := by
 induction d with
 | zero =>
  intro i acc hi _
  have hd : L.drop i = [] := List.drop_eq_nil_of_le (by omega)
  rw [hd]
  refine ⟨Ev_succ ?_, Ev_succ ?_⟩
  ·simp (disch := omega) only [spec_ShowFiles.l0, if_neg]; exact Ev.now _
  ·simp (disch := omega) only [impl_ShowFiles.l0, if_neg]; exact Ev.now _
 | succ d ih =>
  intro i acc hi ha
  have e0 : rd_T33 L (i : Int) = L[i]'(by omega) := by
   show L.getD i _ = _; exact getD_at L _ i (by omega)
  have hx := hs (L[i]'(by omega)) (List.getElem_mem _)
  rw [List.drop_eq_getElem_cons (by omega), List.foldl_cons]
  generalize hq : L[i]'(by omega) = x at hx e0 ⊢
  have z0 := piece_size x.f0 hx.1
  have z1 := piece_size x.f1 hx.2
  have hadd : addF acc x = (acc ++ pieceB x.f0) ++ pieceB x.f1 := by unfold addF; rw [ByteArray.append_assoc]
  have hsz : (addF acc x).size = acc.size + ((pieceB x.f0).size + (pieceB x.f1).size) := by unfold addF; rw [size_app, size_app]
  obtain ⟨i1, i2⟩ := ih (i + 1) (addF acc x) (by omega) (by omega)
  have hn : wrap64 ((i : Int) + 1) = ((i + 1 : Nat) : Int) := by rw [w64 (by omega) (by omega)]; omega
  have c0 : (i : Int) < (L.length : Int) := by omega
  have c1 : 0 ≤ (i : Int) := by omega
  refine ⟨Ev_succ ?_, Ev_succ ?_⟩
  ·simp only [spec_ShowFiles.l0, if_pos c0, if_pos c1, e0]
   refine Ev_call (piece_spec x.f0 hx.1) ?_
   have c2 : acc.size + (pieceB x.f0).size ≤ 9223372036854775807 := by omega
   simp only [if_pos c2]
   refine Ev_call (piece_spec x.f1 hx.2) ?_
   have c3 : (acc ++ pieceB x.f0).size + (pieceB x.f1).size ≤ 9223372036854775807 := by rw [size_app]; omega
   simp only [if_pos c3, hn]
   rw [← hadd]; exact i1
  ·simp only [impl_ShowFiles.l0, if_pos c0, if_pos c1, e0]
   refine Ev_call (piece_impl x.f0 hx.1) (Ev_call (piece_impl x.f1 hx.2) ?_)
   have c2 : (pieceB x.f0).size + (pieceB x.f1).size ≤ 9223372036854775807 := by omega
   have c3 : acc.size + (pieceB x.f0 ++ pieceB x.f1).size ≤ 9223372036854775807 := by rw [size_app]; omega
   simp only [if_pos c2, if_pos c3, hn]
   exact i2
theorem show_start (n : Nat) (h : n ≤ 8) : ((⟨#[102]⟩ : ByteArray) ++ strOfNums (varL n)).size ≤ 100 ∧ 1 + (strOfNums (varL n)).size ≤ 9223372036854775807 := by
 have := var_size n (by omega)
 have e : (⟨#[102]⟩ : ByteArray).size = 1 := rfl
 rw [size_app, e]; omega
theorem show_spec (L : List S33) (hl : L.length ≤ 1048576) (hs : ∀ x ∈ L, x.f0.size ≤ 2097152 ∧ x.f1.size ≤ 2097152) : Ev (fun k => spec_ShowFiles.f k L) (showTo L) := by
 simp only [spec_ShowFiles.f]
 refine Ev_call (files_spec L hl hs) ?_
 unfold showTo
 by_cases h : filesOk L = true
 ·simp only [if_pos h]
  have h8 := ((filesOk_iff L).1 h).1
  refine Ev_call (svar L.length (by omega) (by omega)) ?_
  rw [Int.toNat_natCast]
  have q := show_start L.length h8
  simp only [if_pos q.2]
  have e := (show_loop L h8 hs L.length 0 _ (by omega) (by omega : ((⟨#[102]⟩ : ByteArray) ++ strOfNums (varL L.length)).size ≤ 100 + 0 * 8000000)).1
  exact e
 ·simp only [if_neg h]; exact Ev.now _
theorem show_impl (L : List S33) (hl : L.length ≤ 1048576) (hs : ∀ x ∈ L, x.f0.size ≤ 2097152 ∧ x.f1.size ≤ 2097152) : Ev (fun k => impl_ShowFiles.f k L) (showTo L) := by
 simp only [impl_ShowFiles.f]
 refine Ev_call (files_impl L hl hs) ?_
 unfold showTo
 by_cases h : filesOk L = true
 ·simp only [if_pos h]
  have h8 := ((filesOk_iff L).1 h).1
  refine Ev_call (ivar L.length (by omega) (by omega)) ?_
  rw [Int.toNat_natCast]
  have q := show_start L.length h8
  simp only [if_pos q.2]
  have e := (show_loop L h8 hs L.length 0 _ (by omega) (by omega : ((⟨#[102]⟩ : ByteArray) ++ strOfNums (varL L.length)).size ≤ 100 + 0 * 8000000)).2
  exact e
 ·simp only [if_neg h]; exact Ev.now _
theorem Ev_uniq {α : Type} {g : Nat → Option α} {a b : α} (h1 : Ev g a) (h2 : Ev g b) : a = b := by
 obtain ⟨k1, e1⟩ := h1
 obtain ⟨k2, e2⟩ := h2
 have q1 := e1 (k1 + k2) (by omega)
 have q2 := e2 (k1 + k2) (by omega)
 rw [q1] at q2
 exact Option.some.inj q2
theorem readV_spec (s : ByteArray) (hz : s.size ≤ 1048576) : Ev (fun k => spec_ReadVar.f k s) (readV s) := by
 obtain ⟨r, e1, e2⟩ := both s hz 8 0 (by omega) (by omega) (by simp)
 have e3 : Ev (fun k => impl_ReadVar.f k s) r := e2
 rw [Ev_uniq (readV_impl s hz) e3]
 exact e1
theorem readV_canon (s : ByteArray) : (readV s).2 = 0 ∨ ∃ m n : Nat, readV s = ((n : Int), (m : Int)) ∧ 1 ≤ m ∧ m ≤ s.size ∧ n ≤ 562949953421311 ∧ varL n = (bytesOf s).take m := by
 rcases rvL_canon (bytesOf s) (B_range s) 7 0 rfl (by simp) with h | ⟨m, h1, h2, h3, h4, h5⟩
 ·exact .inl h
 ·by_cases hm : m = 0
  ·exact .inl (by show (rvL (bytesOf s) 7 0).2 = 0; rw [h1, hm]; rfl)
  ·refine .inr ⟨m, (rvL (bytesOf s) 7 0).1.toNat, ?_, by omega, by rw [← B_len]; exact h2, by omega, h5⟩
   show rvL (bytesOf s) 7 0 = _
   rw [← h1]
   exact Prod.ext (by show _ = ((rvL (bytesOf s) 7 0).1.toNat : Int); omega) rfl
def takeP (s : ByteArray) (p : Nat) : Option (ByteArray × Nat) :=
 if (readV (s.extract p s.size)).2 = 0 then none
 else if (readV (s.extract p s.size)).1 > (s.size : Int) - (p + (readV (s.extract p s.size)).2) then none
 else some (s.extract (p + (readV (s.extract p s.size)).2.toNat) (p + (readV (s.extract p s.size)).2.toNat + (readV (s.extract p s.size)).1.toNat), p + (readV (s.extract p s.size)).2.toNat + (readV (s.extract p s.size)).1.toNat)
theorem size_ext (s : ByteArray) (i j : Nat) (hj : j ≤ s.size) : (s.extract i j).size = j - i := by rw [ByteArray.size_extract]; omega
theorem ext_ext (s : ByteArray) (p i : Nat) (hp : p ≤ s.size) : (s.extract p s.size).extract i (s.extract p s.size).size = s.extract (p + i) s.size := by
 apply data_inj
 rw [size_ext s p s.size (Nat.le_refl _)]
 simp only [ByteArray.data_extract, Array.toList_extract, List.extract_eq_take_drop]
 rw [List.drop_take, List.take_take, List.drop_drop]
 congr 1
 omega
theorem ext_ext2 (s : ByteArray) (p i j : Nat) (hj : p + j ≤ s.size) : (s.extract p s.size).extract i j = s.extract (p + i) (p + j) := by
 apply data_inj
 simp only [ByteArray.data_extract, Array.toList_extract, List.extract_eq_take_drop]
 rw [List.drop_take, List.take_take, List.drop_drop]
 congr 1
 omega
theorem app_ext (s : ByteArray) (i j k : Nat) (h1 : i ≤ j) (h2 : j ≤ k) : s.extract i j ++ s.extract j k = s.extract i k := by
 apply data_inj
 rw [data_app]
 simp only [ByteArray.data_extract, Array.toList_extract, List.extract_eq_take_drop]
 rw [show k - i = (j - i) + (k - j) by omega, List.take_add, List.drop_drop, show i + (j - i) = j by omega]
theorem takeP_ok (s : ByteArray) (p : Nat) (hp : p ≤ s.size) (t : ByteArray) (e : Nat) (h : takeP s p = some (t, e)) : p ≤ e ∧ e ≤ s.size ∧ pieceB t = s.extract p e := by
 unfold takeP at h
 rcases readV_canon (s.extract p s.size) with h0 | ⟨m, n, h1, h2, h3, h4, h5⟩
 ·rw [if_pos h0] at h; cases h
 ·rw [h1] at h
  rw [size_ext s p s.size (Nat.le_refl _)] at h3
  by_cases c1 : (m : Int) = 0
  ·omega
  ·simp only [if_neg c1] at h
   by_cases c2 : (n : Int) > (s.size : Int) - (p + m)
   ·rw [if_pos c2] at h; cases h
   ·rw [if_neg c2] at h
    simp only [Option.some.injEq, Prod.mk.injEq, Int.toNat_natCast] at h
    obtain ⟨rfl, rfl⟩ := h
    refine ⟨by omega, by omega, ?_⟩
    unfold pieceB
    have hsz : (s.extract (p + m) (p + m + n)).size = n := by rw [size_ext _ _ _ (by omega)]; omega
    rw [hsz, h5]
    have hv : strOfNums ((bytesOf (s.extract p s.size)).take m) = s.extract p (p + m) := by
     have := B_ext (s.extract p s.size) 0 m
     rw [List.drop_zero] at this
     rw [← this, str_B, ext_ext2 s p 0 m (by omega)]; rfl
    rw [hv, app_ext s p (p + m) (p + m + n) (by omega) (by omega)]
def parseP (s : ByteArray) : Nat → Nat → List S33 → Option (List S33 × Nat)
 | 0, p, out => some (out, p)
 | d + 1, p, out => match takeP s p with | none => none | some (t1, e1) => (match takeP s e1 with | none => none | some (t2, e2) => parseP s d e2 (out ++ [⟨t1, t2⟩]))
theorem parseP_ok (s : ByteArray) (d : Nat) : ∀ (p : Nat) (out L : List S33) (e : Nat) (a : ByteArray), p ≤ s.size → parseP s d p out = some (L, e) → a = s.extract 0 p → (∀ x ∈ out, x.f0.size ≤ s.size ∧ x.f1.size ≤ s.size) →
  e ≤ s.size ∧ p ≤ e ∧ (∃ N, L = out ++ N ∧ N.length = d ∧ N.foldl addF a = s.extract 0 e) ∧ (∀ x ∈ L, x.f0.size ≤ s.size ∧ x.f1.size ≤ s.size) := by
 induction d with
 | zero =>
  intro p out L e a hp h ha hs
  simp only [parseP, Option.some.injEq, Prod.mk.injEq] at h
  obtain ⟨rfl, rfl⟩ := h
  exact ⟨hp, Nat.le_refl _, ⟨[], by simp, rfl, ha⟩, hs⟩
 | succ d ih =>
  intro p out L e a hp h ha hs
  rw [parseP] at h
  cases h1 : takeP s p with
  | none => rw [h1] at h; cases h
  | some q =>
   obtain ⟨t1, e1⟩ := q
   rw [h1] at h
   simp only at h
   cases h2 : takeP s e1 with
   | none => rw [h2] at h; cases h
   | some q =>
    obtain ⟨t2, e2⟩ := q
    rw [h2] at h
    simp only at h
    obtain ⟨a1, a2, a3⟩ := takeP_ok s p hp t1 e1 h1
    obtain ⟨b1, b2, b3⟩ := takeP_ok s e1 a2 t2 e2 h2
    have z1 : t1.size ≤ s.size := by
     have := congrArg ByteArray.size a3
     unfold pieceB at this
     rw [size_app, size_ext _ _ _ a2] at this; omega
    have z2 : t2.size ≤ s.size := by
     have := congrArg ByteArray.size b3
     unfold pieceB at this
     rw [size_app, size_ext _ _ _ b2] at this; omega
    obtain ⟨c1, c2, ⟨N, n1, n2, n3⟩, c4⟩ := ih e2 (out ++ [⟨t1, t2⟩]) L e (addF a ⟨t1, t2⟩) b2 h (by
     unfold addF
     simp only
     rw [a3, b3, ha, app_ext s p e1 e2 a1 b1, app_ext s 0 p e2 (Nat.zero_le _) (by omega)]) (by
     intro x hx
     rcases List.mem_append.1 hx with hx | hx
     ·exact hs x hx
     ·rw [List.mem_singleton] at hx; rw [hx]; exact ⟨z1, z2⟩)
    exact ⟨c1, by omega, ⟨⟨t1, t2⟩ :: N, by rw [n1]; simp, by simp [n2], by rw [List.foldl_cons]; exact n3⟩, c4⟩
/-! The reference -/
theorem vars_spec (s : ByteArray) (hz : s.size ≤ 1048576) (p : Nat) (hp : p ≤ s.size) : Ev (fun k => spec_l12Vars.f k s (p : Int) 1) (if (readV (s.extract p s.size)).2 = 0 then ([], -1) else ([(readV (s.extract p s.size)).1], (p : Int) + (readV (s.extract p s.size)).2)) := by
 have hsz := size_ext s p s.size (Nat.le_refl _)
 have e := readV_spec (s.extract p s.size) (by omega)
 have hc := readV_canon (s.extract p s.size)
 generalize readV (s.extract p s.size) = r at e hc ⊢
 have c0 : ¬ (p : Int) < 0 := by omega
 have c1 : decide ((p : Int) > (s.size : Int)) = false := decide_eq_false (by omega)
 have c2 : (0 : Int) ≤ (p : Int) := by omega
 have c3 : (p : Int) ≤ (s.size : Int) := by omega
 have c4 : (0 : Int) < 1 := by decide
 have c5 : ([] : List Int).length < 17592186044416 := by decide
 simp only [spec_l12Vars.f]
 refine Ev_succ ?_
 simp only [spec_l12Vars.l0, if_pos c4, if_neg c0, c1]
 refine Ev_succ ?_
 simp only [spec_l12Vars.j1, Bool.false_eq_true, if_false, if_pos c2, if_pos c3, Int.toNat_natCast]
 refine Ev_call e ?_
 by_cases h : r.2 = 0
 ·rw [if_pos h]
  simp only [if_pos h]
  exact Ev.now _
 ·rw [if_neg h]
  simp only [if_neg h, if_pos c5]
  refine Ev_succ ?_
  have hw : wrap64 ((p : Int) + r.2) = (p : Int) + r.2 := by
   rcases hc with hc | ⟨m, n, h1, h2, h3, h4, h5⟩
   ·exact absurd hc h
   ·rw [h1]; exact w64 (by simp only; omega) (by simp only; omega)
  have c6 : ¬ wrap64 (0 + 1) < 1 := by rw [w64 (by omega) (by omega)]; omega
  simp only [spec_l12Vars.l0, if_neg c6, hw, List.nil_append]
  exact Ev.now _
theorem vars_bad (s : ByteArray) : Ev (fun k => spec_l12Vars.f k s (-1) 1) ([], -1) := by
 simp only [spec_l12Vars.f]
 refine Ev_succ ?_
 have c4 : (0 : Int) < 1 := by decide
 have c0 : (-1 : Int) < 0 := by decide
 simp only [spec_l12Vars.l0, if_pos c4, if_pos c0]
 refine Ev_succ ?_
 simp only [spec_l12Vars.j1, if_true]
 exact Ev.now _
theorem take_spec (s : ByteArray) (hz : s.size ≤ 1048576) (p : Nat) (hp : p ≤ s.size) : Ev (fun k => spec_l12Take.f k s (p : Int)) (match takeP s p with | some (t, e) => (t, (e : Int)) | none => (⟨#[]⟩, -1)) := by
 have e := vars_spec s hz p hp
 have hc := readV_canon (s.extract p s.size)
 rw [size_ext s p s.size (Nat.le_refl _)] at hc
 unfold takeP
 generalize readV (s.extract p s.size) = r at e hc ⊢
 simp only [spec_l12Take.f]
 by_cases h : r.2 = 0
 ·rw [if_pos h] at e
  rw [if_pos h]
  refine Ev_call e ?_
  have c : (-1 : Int) < 0 := by decide
  simp only [if_pos c]
  exact Ev.now _
 ·rw [if_neg h] at e
  rw [if_neg h]
  rcases hc with hc | ⟨m, n, h1, h2, h3, h4, h5⟩
  ·exact absurd hc h
  ·subst h1
   refine Ev_call e ?_
   have c : ¬ ((p : Int) + (m : Int)) < 0 := by omega
   have c1 : (0 : Int) < (([(n : Int)] : List Int).length : Int) := by simp
   have hrd : rd [(n : Int)] 0 = (n : Int) := rfl
   have hw : wrap64 ((s.size : Int) - ((p : Int) + (m : Int))) = (s.size : Int) - ((p : Int) + (m : Int)) := w64 (by omega) (by omega)
   simp only [if_neg c, if_pos c1, hrd, hw]
   by_cases c2 : (n : Int) > (s.size : Int) - ((p : Int) + (m : Int))
   ·simp only [if_pos c2]
    exact Ev.now _
   ·have hw2 : wrap64 (((p : Int) + (m : Int)) + (n : Int)) = (p : Int) + (m : Int) + (n : Int) := w64 (by omega) (by omega)
    have c3 : (0 : Int) ≤ (p : Int) + (m : Int) := by omega
    have c4 : (p : Int) + (m : Int) ≤ (p : Int) + (m : Int) + (n : Int) := by omega
    have c5 : (p : Int) + (m : Int) + (n : Int) ≤ (s.size : Int) := by omega
    simp only [if_neg c2, hw2, if_pos c3, if_pos c4, if_pos c5, Int.toNat_natCast]
    refine Ev_some ?_
    rw [show ((p : Int) + (m : Int)).toNat = p + m by omega, show ((p : Int) + (m : Int) + (n : Int)).toNat = p + m + n by omega]
    simp only [Prod.mk.injEq, true_and]
    omega
theorem take_bad (s : ByteArray) : Ev (fun k => spec_l12Take.f k s (-1)) (⟨#[]⟩, -1) := by
 simp only [spec_l12Take.f]
 refine Ev_call (vars_bad s) ?_
 have c : (-1 : Int) < 0 := by decide
 simp only [if_pos c]
 exact Ev.now _
def specEnd (s : ByteArray) (o : Option (List S33 × Nat)) : List S33 × Bool := match o with | none => ([], false) | some (L, _) => if (showTo L).toList = s.toList then (L, true) else ([], false)
theorem read_spec (s : ByteArray) (hz : s.size ≤ 1048576) (q n : Nat) (hn : n ≤ 8) (d : Nat) : ∀ (i p : Nat) (out : List S33), i + d = n → out.length = i → p ≤ s.size → (∀ x ∈ out, x.f0.size ≤ s.size ∧ x.f1.size ≤ s.size) →
  Ev (fun k => spec_ReadFiles.l0 k s out [(n : Int)] (p : Int) (i : Int)) (specEnd s (parseP s d p out)) := by
 have c1 : (0 : Int) < (([(n : Int)] : List Int).length : Int) := by simp
 have hrd : rd [(n : Int)] 0 = (n : Int) := rfl
 induction d with
 | zero =>
  intro i p out hi ho hp hs
  have c2 : ¬ (i : Int) < (n : Int) := by omega
  refine Ev_succ ?_
  simp only [spec_ReadFiles.l0, if_pos c1, hrd, if_neg c2]
  refine Ev_call (show_spec out (by omega) (fun x hx => by have := hs x hx; omega)) ?_
  unfold specEnd
  simp only [parseP]
  split <;> exact Ev.now _
 | succ d ih =>
  intro i p out hi ho hp hs
  have c2 : (i : Int) < (n : Int) := by omega
  have t1 := take_spec s hz p hp
  refine Ev_succ ?_
  simp only [spec_ReadFiles.l0, if_pos c1, hrd, if_pos c2]
  rw [parseP]
  cases h1 : takeP s p with
  | none =>
   rw [h1] at t1
   refine Ev_call t1 (Ev_call (take_bad s) ?_)
   have c : (-1 : Int) < 0 := by decide
   simp only [if_pos c]
   exact Ev.now _
  | some x =>
   obtain ⟨a, e1⟩ := x
   rw [h1] at t1
   obtain ⟨g1, g2, g3⟩ := takeP_ok s p hp a e1 h1
   have t2 := take_spec s hz e1 g2
   refine Ev_call t1 ?_
   simp only
   cases h2 : takeP s e1 with
   | none =>
    rw [h2] at t2
    refine Ev_call t2 ?_
    have c : (-1 : Int) < 0 := by decide
    simp only [if_pos c]
    exact Ev.now _
   | some x =>
    obtain ⟨b, e2⟩ := x
    rw [h2] at t2
    obtain ⟨g4, g5, g6⟩ := takeP_ok s e1 g2 b e2 h2
    have z1 : a.size ≤ s.size := by
     have := congrArg ByteArray.size g3
     unfold pieceB at this
     rw [size_app, size_ext _ _ _ g2] at this; omega
    have z2 : b.size ≤ s.size := by
     have := congrArg ByteArray.size g6
     unfold pieceB at this
     rw [size_app, size_ext _ _ _ g5] at this; omega
    refine Ev_call t2 ?_
    have c : ¬ (e2 : Int) < 0 := by omega
    have c3 : out.length < 4398046511104 := by omega
    have hw : wrap64 ((i : Int) + 1) = ((i + 1 : Nat) : Int) := by rw [w64 (by omega) (by omega)]; omega
    simp only [if_neg c, if_pos c3, hw]
    exact ih (i + 1) e2 (out ++ [⟨a, b⟩]) (by omega) (by simp [ho]) g5 (by
     intro x hx
     rcases List.mem_append.1 hx with hx | hx
     ·exact hs x hx
     ·rw [List.mem_singleton] at hx; rw [hx]; exact ⟨z1, z2⟩)

/-! The program -/
theorem num_bad (R : ByteArray) (hz : R.size ≤ 1048576) (most : Int) : Ev (fun k => impl_reader_number.f k R true most) (0, R, true) := by
 simp only [impl_reader_number.f]
 refine Ev_call (readV_impl R hz) ?_
 simp only [if_true]
 exact Ev.now _
theorem piece_bad (R : ByteArray) (hz : R.size ≤ 1048576) : Ev (fun k => impl_reader_piece.f k R true) (⟨#[]⟩, R, true) := by
 simp only [impl_reader_piece.f]
 refine Ev_call (num_bad R hz _) ?_
 simp only [if_true]
 exact Ev.now _
theorem num_good (s : ByteArray) (hz : s.size ≤ 1048576) (p : Nat) (hp : p ≤ s.size) (most : Int) : Ev (fun k => impl_reader_number.f k (s.extract p s.size) false most)
  (if (readV (s.extract p s.size)).2 = 0 ∨ (readV (s.extract p s.size)).1 > most then (0, s.extract p s.size, true) else ((readV (s.extract p s.size)).1, s.extract (p + (readV (s.extract p s.size)).2.toNat) s.size, false)) := by
 have hsz := size_ext s p s.size (Nat.le_refl _)
 have e := readV_impl (s.extract p s.size) (by omega)
 have hc := readV_canon (s.extract p s.size)
 simp only [impl_reader_number.f]
 refine Ev_call e ?_
 generalize readV (s.extract p s.size) = r at hc ⊢
 simp only [Bool.false_eq_true, if_false]
 by_cases h : r.2 = 0
 ·simp only [if_pos h]
  rw [if_pos (.inl h)]
  exact Ev.now _
 ·simp only [if_neg h]
  by_cases h2 : r.1 > most
  ·simp only [if_pos h2]
   rw [if_pos (.inr h2)]
   exact Ev.now _
  ·simp only [if_neg h2]
   have hno : ¬ (r.2 = 0 ∨ r.1 > most) := fun q => q.elim h h2
   rw [if_neg hno]
   rcases hc with hc | ⟨m, n, q1, q2, q3, q4, q5⟩
   ·exact absurd hc h
   ·have g1 : (0 : Int) ≤ r.2 := by rw [q1]; simp
    have g2 : r.2 ≤ ((s.extract p s.size).size : Int) := by rw [q1]; simp only; omega
    simp only [if_pos g1, if_pos g2]
    rw [ext_ext s p _ hp]
    exact Ev.now _
theorem piece_good (s : ByteArray) (hz : s.size ≤ 1048576) (p : Nat) (hp : p ≤ s.size) : ∃ t X b, Ev (fun k => impl_reader_piece.f k (s.extract p s.size) false) (t, X, b) ∧ X.size ≤ s.size ∧ (match takeP s p with | some (t', e) => t = t' ∧ X = s.extract e s.size ∧ b = false | none => b = true) := by
 have hsz := size_ext s p s.size (Nat.le_refl _)
 have e := num_good s hz p hp ((s.extract p s.size).size : Int)
 have hc := readV_canon (s.extract p s.size)
 unfold takeP
 rw [hsz] at e hc
 simp only [impl_reader_piece.f, hsz]
 generalize readV (s.extract p s.size) = r at e hc ⊢
 by_cases h : r.2 = 0
 ·rw [if_pos (.inl h)] at e
  rw [if_pos h]
  refine ⟨⟨#[]⟩, s.extract p s.size, true, Ev_call e ?_, by omega, rfl⟩
  simp only [if_true]
  exact Ev.now _
 ·rw [if_neg h]
  rcases hc with hc | ⟨m, n, q1, q2, q3, q4, q5⟩
  ·exact absurd hc h
  ·subst q1
   by_cases h2 : (n : Int) > ((s.size - p : Nat) : Int)
   ·rw [if_pos (.inr h2)] at e
    have h3 : (n : Int) > (s.size : Int) - ((p : Int) + (m : Int)) := by omega
    simp only [if_pos h3]
    refine ⟨⟨#[]⟩, s.extract p s.size, true, Ev_call e ?_, by omega, rfl⟩
    simp only [if_true]
    exact Ev.now _
   ·have hno : ¬ ((m : Int) = 0 ∨ (n : Int) > ((s.size - p : Nat) : Int)) := fun q => q.elim h h2
    rw [if_neg hno] at e
    simp only [Int.toNat_natCast] at e ⊢
    have hsz2 := size_ext s (p + m) s.size (Nat.le_refl _)
    by_cases h3 : (n : Int) > (s.size : Int) - ((p : Int) + (m : Int))
    ·simp only [if_pos h3]
     refine ⟨⟨#[]⟩, s.extract (p + m) s.size, true, Ev_call e ?_, by omega, rfl⟩
     have h4 : (n : Int) > ((s.extract (p + m) s.size).size : Int) := by omega
     simp only [Bool.false_eq_true, if_false, if_pos h4]
     exact Ev.now _
    ·simp only [if_neg h3]
     have h4 : ¬ (n : Int) > ((s.extract (p + m) s.size).size : Int) := by omega
     have h5 : (0 : Int) ≤ (n : Int) := by omega
     have h6 : (n : Int) ≤ ((s.extract (p + m) s.size).size : Int) := by omega
     have hsz3 := size_ext s (p + m + n) s.size (Nat.le_refl _)
     refine ⟨s.extract (p + m) (p + m + n), s.extract (p + m + n) s.size, false, Ev_call e ?_, by omega, rfl, rfl, rfl⟩
     simp only [Bool.false_eq_true, if_false, if_neg h4, if_pos h5, if_pos h6, Int.toNat_natCast]
     rw [ext_ext s (p + m) n (by omega), ext_ext2 s (p + m) 0 n (by omega), Nat.add_zero]
     exact Ev.now _
theorem loop_bad (X : ByteArray) (hz : X.size ≤ 1048576) (n : Nat) (hn : n ≤ 8) (d : Nat) : ∀ (i : Nat) (out : List S33), i + d = n → out.length = i → ∃ L, Ev (fun k => impl_ReadFiles.l0 k X true (i : Int) (n : Int) out) (X, true, L) := by
 induction d with
 | zero =>
  intro i out hi ho
  have c : ¬ (i : Int) < (n : Int) := by omega
  refine ⟨out, Ev_succ ?_⟩
  simp only [impl_ReadFiles.l0, if_neg c]
  exact Ev.now _
 | succ d ih =>
  intro i out hi ho
  obtain ⟨L, e⟩ := ih (i + 1) (out ++ [⟨⟨#[]⟩, ⟨#[]⟩⟩]) (by omega) (by simp [ho])
  have c : (i : Int) < (n : Int) := by omega
  have c3 : out.length < 4398046511104 := by omega
  have hw : wrap64 ((i : Int) + 1) = ((i + 1 : Nat) : Int) := by rw [w64 (by omega) (by omega)]; omega
  refine ⟨L, Ev_succ ?_⟩
  simp only [impl_ReadFiles.l0, if_pos c]
  refine Ev_call (piece_bad X hz) (Ev_call (piece_bad X hz) ?_)
  simp only [if_pos c3, hw]
  exact e
theorem loop_good (s : ByteArray) (hz : s.size ≤ 1048576) (n : Nat) (hn : n ≤ 8) (d : Nat) : ∀ (i p : Nat) (out : List S33), i + d = n → out.length = i → p ≤ s.size →
  ∃ X b L, Ev (fun k => impl_ReadFiles.l0 k (s.extract p s.size) false (i : Int) (n : Int) out) (X, b, L) ∧ (match parseP s d p out with | some (L', e) => X = s.extract e s.size ∧ b = false ∧ L = L' | none => b = true) := by
 induction d with
 | zero =>
  intro i p out hi ho hp
  have c : ¬ (i : Int) < (n : Int) := by omega
  refine ⟨s.extract p s.size, false, out, Ev_succ ?_, rfl, rfl, rfl⟩
  simp only [impl_ReadFiles.l0, if_neg c]
  exact Ev.now _
 | succ d ih =>
  intro i p out hi ho hp
  have c : (i : Int) < (n : Int) := by omega
  have c3 : out.length < 4398046511104 := by omega
  have hw : wrap64 ((i : Int) + 1) = ((i + 1 : Nat) : Int) := by rw [w64 (by omega) (by omega)]; omega
  obtain ⟨t1, X1, b1, e1, z1, m1⟩ := piece_good s hz p hp
  rw [parseP]
  cases h1 : takeP s p with
  | none =>
   rw [h1] at m1
   have hb1 : b1 = true := m1
   subst hb1
   obtain ⟨L, e3⟩ := loop_bad X1 (by omega) n hn d (i + 1) (out ++ [⟨t1, ⟨#[]⟩⟩]) (by omega) (by simp [ho])
   refine ⟨X1, true, L, Ev_succ ?_, rfl⟩
   simp only [impl_ReadFiles.l0, if_pos c]
   refine Ev_call e1 (Ev_call (piece_bad X1 (by omega)) ?_)
   simp only [if_pos c3, hw]
   exact e3
  | some x =>
   obtain ⟨t1', p1⟩ := x
   rw [h1] at m1
   obtain ⟨rfl, rfl, rfl⟩ := m1
   obtain ⟨g1, g2, g3⟩ := takeP_ok s p hp t1 p1 h1
   obtain ⟨t2, X2, b2, e2, z2, m2⟩ := piece_good s hz p1 g2
   simp only
   cases h2 : takeP s p1 with
   | none =>
    rw [h2] at m2
    have hb2 : b2 = true := m2
    subst hb2
    obtain ⟨L, e3⟩ := loop_bad X2 (by omega) n hn d (i + 1) (out ++ [⟨t1, t2⟩]) (by omega) (by simp [ho])
    refine ⟨X2, true, L, Ev_succ ?_, rfl⟩
    simp only [impl_ReadFiles.l0, if_pos c]
    refine Ev_call e1 (Ev_call e2 ?_)
    simp only [if_pos c3, hw]
    exact e3
   | some y =>
    obtain ⟨t2', p2⟩ := y
    rw [h2] at m2
    obtain ⟨rfl, rfl, rfl⟩ := m2
    obtain ⟨g4, g5, g6⟩ := takeP_ok s p1 g2 t2 p2 h2
    obtain ⟨X, b, L, e3, m3⟩ := ih (i + 1) p2 (out ++ [⟨t1, t2⟩]) (by omega) (by simp [ho]) g5
    refine ⟨X, b, L, Ev_succ ?_, m3⟩
    simp only [impl_ReadFiles.l0, if_pos c]
    refine Ev_call e1 (Ev_call e2 ?_)
    simp only [if_pos c3, hw]
    exact e3
/-! Both -/
theorem foldl_front (L : List S33) : ∀ a : ByteArray, ∃ r, (L.foldl addF a).data.toList = a.data.toList ++ r := by
 induction L with
 | nil => intro a; exact ⟨[], by simp⟩
 | cons x L ih =>
  intro a
  obtain ⟨r, h⟩ := ih (addF a x)
  exact ⟨(pieceB x.f0 ++ pieceB x.f1).data.toList ++ r, by rw [List.foldl_cons, h]; unfold addF; rw [data_app, List.append_assoc]⟩
def readTo (s : ByteArray) : List S33 × Bool :=
 if s.size = 0 ∨ bt s 0 ≠ 102 ∨ (readV (s.extract 1 s.size)).2 = 0 ∨ (readV (s.extract 1 s.size)).1 > 8 then ([], false) else
  match parseP s (readV (s.extract 1 s.size)).1.toNat (1 + (readV (s.extract 1 s.size)).2.toNat) [] with
  | none => ([], false)
  | some (L, e) => if e = s.size ∧ filesOk L = true then (L, true) else ([], false)
theorem fin_bad (k0 : List S33) (X : ByteArray) : Ev (fun k => (impl_reader_done.f X true).bind fun d => (if d.1 = true then ((impl_FilesOk.f k k0).bind fun ok => (if ok = true then some (k0, true) else some ([], false))) else some ([], false))) ([], false) := by
 simp only [impl_reader_done.f, if_true, Option.bind_some, Bool.false_eq_true, if_false]
 exact Ev.now _
theorem read_impl (s : ByteArray) (hz : s.size ≤ 1048576) : Ev (fun k => impl_ReadFiles.f k s) (readTo s) := by
 simp only [impl_ReadFiles.f]
 unfold readTo
 have hbad : ∀ X : ByteArray, X.size ≤ s.size → Ev (fun k => (impl_reader_number.f k X true 8).bind fun n => ((impl_ReadFiles.l0 k n.2.1 n.2.2 0 n.1 []).bind fun x => ((impl_reader_done.f x.1 x.2.1).bind fun d => (if d.1 = true then ((impl_FilesOk.f k x.2.2).bind fun ok => (if ok = true then some (x.2.2, true) else some ([], false))) else some ([], false))))) ([], false) := by
  intro X hX
  obtain ⟨L, e⟩ := loop_bad X (by omega) 0 (by omega) 0 0 [] rfl rfl
  refine Ev_call (num_bad X (by omega) 8) (Ev_call (a := (X, true, L)) e ?_)
  exact fin_bad L X
 by_cases h0 : s.size = 0
 ·rw [if_pos (.inl h0)]
  have c : (s.size : Int) = 0 := by omega
  simp only [impl_reader_head.f, if_pos c, Option.bind_some]
  exact hbad s (Nat.le_refl _)
 have c : ¬ (s.size : Int) = 0 := by omega
 have c1 : (0 : Int) < (s.size : Int) := by omega
 have c2 : (1 : Int) ≤ (s.size : Int) := by omega
 by_cases h1 : bt s 0 = 102
 ·have hx : s.extract 1 s.size = s.extract 1 s.size := rfl
  simp only [impl_reader_head.f, if_neg c, if_pos c1, if_pos h1, if_pos c2, Option.bind_some]
  have e := num_good s hz 1 (by omega) 8
  have hc := readV_canon (s.extract 1 s.size)
  have hsz := size_ext s 1 s.size (Nat.le_refl _)
  rw [hsz] at hc
  by_cases h2 : (readV (s.extract 1 s.size)).2 = 0 ∨ (readV (s.extract 1 s.size)).1 > 8
  ·rw [if_pos (.inr (.inr h2))]
   rw [if_pos h2] at e
   obtain ⟨L, e2⟩ := loop_bad (s.extract 1 s.size) (by omega) 0 (by omega) 0 0 [] rfl rfl
   refine Ev_call e (Ev_call (a := (s.extract 1 s.size, true, L)) e2 ?_)
   exact fin_bad L _
  ·have hno : ¬ (s.size = 0 ∨ bt s 0 ≠ 102 ∨ (readV (s.extract 1 s.size)).2 = 0 ∨ (readV (s.extract 1 s.size)).1 > 8) := fun q => q.elim h0 (fun q => q.elim (fun q => q h1) h2)
   rw [if_neg hno]
   rw [if_neg h2] at e
   rcases hc with hc | ⟨m, n, q1, q2, q3, q4, q5⟩
   ·exact absurd (.inl hc) h2
   ·rw [q1] at e h2 ⊢
    simp only [Int.toNat_natCast] at e h2 ⊢
    have hn8 : n ≤ 8 := by
     rcases Nat.lt_or_ge 8 n with q | q
     ·exact absurd (.inr (by omega)) h2
     ·exact q
    obtain ⟨X, b, L, e2, m2⟩ := loop_good s hz n hn8 n 0 (1 + m) [] (by omega) rfl (by omega)
    refine Ev_call e (Ev_call (a := (X, b, L)) e2 ?_)
    cases hp : parseP s n (1 + m) [] with
    | none =>
     rw [hp] at m2
     have hb : b = true := m2
     subst hb
     exact fin_bad L X
    | some y =>
     obtain ⟨L', e'⟩ := y
     rw [hp] at m2
     have m2' : X = s.extract e' s.size ∧ b = false ∧ L = L' := m2
     obtain ⟨rfl, rfl, rfl⟩ := m2'
     obtain ⟨g1, g2, ⟨N, g3, g4, _⟩, g5⟩ := parseP_ok s n (1 + m) [] L e' (s.extract 0 (1 + m)) (by omega) hp rfl (by simp)
     have hsz2 := size_ext s e' s.size (Nat.le_refl _)
     have hLl : L.length = n := by rw [g3, List.nil_append]; exact g4
     simp only [impl_reader_done.f, Bool.false_eq_true, if_false, Option.bind_some]
     by_cases he : e' = s.size
     ·have hemp : ((s.extract e' s.size).toList == ([] : List UInt8)) = true := by
       rw [beq_iff_eq, toList_data]
       apply List.length_eq_zero_iff.1
       have := B_len (s.extract e' s.size)
       rw [show (s.extract e' s.size).data.toList.length = (bytesOf (s.extract e' s.size)).length by simp [bytesOf]]
       omega
      simp only [hemp, if_true]
      refine Ev_call (files_impl L (by omega) (fun x hx => by have := g5 x hx; omega)) ?_
      by_cases hf : filesOk L = true
      ·have hR : (if e' = s.size ∧ filesOk L = true then (L, true) else (([] : List S33), false)) = (L, true) := if_pos ⟨he, hf⟩
       rw [hR]
       simp only [if_pos hf]
       exact Ev.now _
      ·have hR : (if e' = s.size ∧ filesOk L = true then (L, true) else (([] : List S33), false)) = ([], false) := if_neg (fun q => hf q.2)
       rw [hR]
       simp only [if_neg hf]
       exact Ev.now _
     ·have hemp : ((s.extract e' s.size).toList == ([] : List UInt8)) = false := by
       rw [beq_eq_false_iff_ne, toList_data]
       intro q
       have := B_len (s.extract e' s.size)
       unfold bytesOf at this
       rw [q] at this
       simp at this
       omega
      rw [if_neg (fun q => he q.1)]
      simp only [hemp, Bool.false_eq_true, if_false]
      exact Ev.now _
 ·rw [if_pos (.inr (.inl h1))]
  simp only [impl_reader_head.f, if_neg c, if_pos c1, if_neg h1, Option.bind_some]
  exact hbad s (Nat.le_refl _)
theorem read_spec_f (s : ByteArray) (hz : s.size ≤ 1048576) : Ev (fun k => spec_ReadFiles.f k s) (readTo s) := by
 simp only [spec_ReadFiles.f, Option.bind_some]
 unfold readTo
 by_cases h0 : s.size = 0
 ·rw [if_pos (.inl h0)]
  have hv : Ev (fun k => spec_l12Vars.f k s 1 1) ([], -1) := by
   simp only [spec_l12Vars.f]
   refine Ev_succ ?_
   have c4 : (0 : Int) < 1 := by decide
   have c0 : ¬ (1 : Int) < 0 := by decide
   have c1 : decide ((1 : Int) > (s.size : Int)) = true := decide_eq_true (by omega)
   simp only [spec_l12Vars.l0, if_pos c4, if_neg c0, c1]
   refine Ev_succ ?_
   simp only [spec_l12Vars.j1, if_true]
   exact Ev.now _
  refine Ev_call hv ?_
  have c : (-1 : Int) < 0 := by decide
  simp only [if_pos c]
  refine Ev_succ ?_
  simp only [spec_ReadFiles.j0, if_true]
  exact Ev.now _
 ·have e := vars_spec s hz 1 (by omega)
  have hc := readV_canon (s.extract 1 s.size)
  have hsz := size_ext s 1 s.size (Nat.le_refl _)
  rw [hsz] at hc
  by_cases h2 : (readV (s.extract 1 s.size)).2 = 0
  ·rw [if_pos (.inr (.inr (.inl h2)))]
   rw [if_pos h2] at e
   refine Ev_call e ?_
   have c : (-1 : Int) < 0 := by decide
   simp only [if_pos c]
   refine Ev_succ ?_
   simp only [spec_ReadFiles.j0, if_true]
   exact Ev.now _
  ·rw [if_neg h2] at e
   rcases hc with hc | ⟨m, n, q1, q2, q3, q4, q5⟩
   ·exact absurd hc h2
   ·have hD : ((1 : Nat) : Int) = 1 := rfl
    rw [q1] at e ⊢
    simp only [Int.toNat_natCast] at e ⊢
    refine Ev_call e ?_
    have c : ¬ ((1 : Nat) : Int) + (m : Int) < 0 := by omega
    have c1 : (0 : Int) < (([(n : Int)] : List Int).length : Int) := by simp
    have hrd : rd [(n : Int)] 0 = (n : Int) := rfl
    simp only [if_neg c, if_pos c1, hrd]
    refine Ev_succ ?_
    by_cases h8 : (n : Int) > 8
    ·rw [if_pos (.inr (.inr (.inr h8)))]
     simp only [spec_ReadFiles.j0, decide_eq_true h8, if_true]
     exact Ev.now _
    ·simp only [spec_ReadFiles.j0, decide_eq_false h8, Bool.false_eq_true, if_false]
     have e2 := read_spec s hz (1 + m) n (by omega) n 0 (1 + m) [] (by omega) rfl (by omega) (by simp)
     rw [show ((1 + m : Nat) : Int) = ((1 : Nat) : Int) + (m : Int) by omega] at e2
     have hres : specEnd s (parseP s n (1 + m) []) = if s.size = 0 ∨ bt s 0 ≠ 102 ∨ (m : Int) = 0 ∨ (n : Int) > 8 then ([], false) else (match parseP s n (1 + m) [] with | none => ([], false) | some (L, e) => if e = s.size ∧ filesOk L = true then (L, true) else ([], false)) := by
      have hm0 : ¬ (m : Int) = 0 := by omega
      have h8' : ¬ (n : Int) > 8 := h8
      cases hp : parseP s n (1 + m) [] with
      | none => unfold specEnd; simp only [ite_self]
      | some y =>
       obtain ⟨L, e'⟩ := y
       obtain ⟨g1, g2, ⟨N, g3, g4, _⟩, g5⟩ := parseP_ok s n (1 + m) [] L e' (s.extract 0 (1 + m)) (by omega) hp rfl (by simp)
       have hLl : L.length = n := by rw [g3, List.nil_append]; exact g4
       unfold specEnd
       simp only
       by_cases hf : filesOk L = true
       ·have hshow : showTo L = L.foldl addF (⟨#[102]⟩ ++ strOfNums (varL n)) := by unfold showTo; rw [if_pos hf, hLl]
        by_cases h1 : bt s 0 = 102
        ·have hpre : (⟨#[102]⟩ : ByteArray) ++ strOfNums (varL n) = s.extract 0 (1 + m) := by
          have hv : strOfNums (varL n) = s.extract 1 (1 + m) := by
           rw [q5]
           have := B_ext (s.extract 1 s.size) 0 m
           rw [List.drop_zero] at this
           rw [← this, str_B, ext_ext2 s 1 0 m (by omega)]
          have hf1 : (⟨#[102]⟩ : ByteArray) = s.extract 0 1 := by
           apply B_inj.1
           rw [B_ext, List.drop_zero]
           have hb0 : (bytesOf s).getD 0 0 = 102 := by rw [bt_B] at h1; exact h1
           cases hq : bytesOf s with
           | nil => have := B_len s; rw [hq] at this; simp at this; omega
           | cons x r =>
            rw [hq] at hb0
            have hx : x = 102 := hb0
            rw [hx]; rfl
          rw [hv, hf1, app_ext s 0 1 (1 + m) (by omega) (by omega)]
         obtain ⟨_, _, ⟨N2, w1, w2, w3⟩, _⟩ := parseP_ok s n (1 + m) [] L e' _ (by omega) hp hpre (by simp)
         rw [List.nil_append] at w1
         rw [← w1] at w3
         have hno : ¬ (s.size = 0 ∨ bt s 0 ≠ 102 ∨ (m : Int) = 0 ∨ (n : Int) > 8) := fun q => q.elim h0 (fun q => q.elim (fun q => q h1) (fun q => q.elim hm0 h8'))
         rw [hshow, w3]
         rw [if_neg hno (c := s.size = 0 ∨ bt s 0 ≠ 102 ∨ (m : Int) = 0 ∨ (n : Int) > 8)]
         by_cases he : e' = s.size
         ·have hall : (s.extract 0 e').toList = s.toList := by
           rw [toList_inj, he]
           apply data_inj
           simp only [ByteArray.data_extract, Array.toList_extract, List.extract_eq_take_drop, List.drop_zero]
           apply List.take_of_length_le
           rw [Array.length_toList]; exact Nat.le_refl _
          rw [if_pos hall, if_pos ⟨he, hf⟩]
         ·have hall : ¬ (s.extract 0 e').toList = s.toList := by
           rw [toList_inj]
           intro q
           have := congrArg ByteArray.size q
           rw [size_ext s 0 e' g1] at this
           omega
          rw [if_neg hall, if_neg (fun q => he q.1)]
        ·have hne : ¬ (showTo L).toList = s.toList := by
          rw [hshow, toList_inj]
          intro q
          obtain ⟨r, hr⟩ := foldl_front L (⟨#[102]⟩ ++ strOfNums (varL n))
          rw [q, data_app] at hr
          apply h1
          rw [bt_B]
          unfold bytesOf
          rw [hr]; rfl
         rw [if_neg hne, if_pos (.inr (.inl h1))]
       ·have hshow : showTo L = ⟨#[]⟩ := by unfold showTo; rw [if_neg hf]
        have hne : ¬ (showTo L).toList = s.toList := by
         rw [hshow, toList_inj]
         rintro rfl
         exact h0 rfl
        rw [if_neg hne]
        split
        ·rfl
        ·rw [if_neg (fun q => hf q.2)]
     rw [← hres]
     exact e2
theorem Ev_some_of {α : Type} {g : Option α} {a : α} (h : g = some a) : Ev (fun _ => g) a := h ▸ Ev.now a
def pIs (p : ByteArray) : S33 → S33 → Bool := fun _ y => y.f0.toList == p.toList
def idxF (L : List S33) (p : ByteArray) : Int := Lib.idxBy (pIs p) L z33
def textAt (L : List S33) (j : Int) : ByteArray × Bool := if j < 0 then (⟨#[]⟩, false) else ((L.getD j.toNat z33).f1, true)
def findTo (L : List S33) (p : ByteArray) : ByteArray × Bool := if filesOk L = true then textAt L (idxF L p) else (⟨#[]⟩, false)
theorem idx_lt (eq : S33 → S33 → Bool) (z : S33) (L : List S33) : ∀ i : Nat, Lib.idxByFrom eq z L i = -1 ∨ ((i : Int) ≤ Lib.idxByFrom eq z L i ∧ Lib.idxByFrom eq z L i < i + L.length) := by
 induction L with
 | nil => intro i; exact Or.inl rfl
 | cons x r ih =>
  intro i
  rw [Lib.idxByFrom]
  split
  ·right; simp only [List.length_cons]; omega
  ·rcases ih (i + 1) with h | h
   ·exact Or.inl h
   ·right; simp only [List.length_cons]; omega
theorem idxF_range (L : List S33) (p : ByteArray) : idxF L p = -1 ∨ (0 ≤ idxF L p ∧ idxF L p < L.length) := by
 have := idx_lt (pIs p) z33 L 0
 unfold idxF Lib.idxBy
 omega
theorem fileAt_eq (L : List S33) (hl : L.length ≤ 1048576) (p : ByteArray) : impl_fileAt.f L p = some (idxF L p) := by
 unfold impl_fileAt.f
 rw [if_pos (by omega)]
 rfl
theorem find_loop (L : List S33) (hl : L.length ≤ 1048576) (p : ByteArray) (d : Nat) : ∀ i : Nat, i + d = L.length →
  Ev (fun k => spec_Find.l0 k L p i) (textAt L (Lib.idxByFrom (pIs p) z33 (L.drop i) i)) := by
 induction d with
 | zero =>
  intro i hi
  have hd : L.drop i = [] := List.drop_eq_nil_of_le (by omega)
  rw [hd]
  refine Ev_succ ?_
  simp (disch := omega) only [spec_Find.l0, if_neg]; exact Ev.now _
 | succ d ih =>
  intro i hi
  have e0 : rd_T33 L (i : Int) = L[i]'(by omega) := by
   show L.getD i _ = _; exact getD_at L _ i (by omega)
  have hn : wrap64 ((i : Int) + 1) = ((i + 1 : Nat) : Int) := by rw [w64 (by omega) (by omega)]; omega
  have c0 : (i : Int) < (L.length : Int) := by omega
  have c1 : 0 ≤ (i : Int) := by omega
  rw [List.drop_eq_getElem_cons (by omega), Lib.idxByFrom]
  refine Ev_succ ?_
  simp only [spec_Find.l0, if_pos c0, if_pos c1, hn, e0]
  by_cases h : (L[i]'(by omega)).f0.toList = p.toList
  ·have hp : pIs p z33 (L[i]'(by omega)) = true := by unfold pIs; rw [beq_iff_eq]; exact h
   rw [hp, if_pos rfl]
   simp only [if_pos h]
   have c2 : ¬ (i : Int) < 0 := by omega
   unfold textAt
   rw [if_neg c2, Int.toNat_natCast, getD_at L _ i (by omega)]
   exact Ev.now _
  ·have hp : pIs p z33 (L[i]'(by omega)) = false := by unfold pIs; exact beq_eq_false_iff_ne.2 h
   rw [hp, if_neg (by simp)]
   simp only [if_neg h]
   exact ih (i + 1) (by omega)
theorem find_spec (L : List S33) (hl : L.length ≤ 1048576) (hs : ∀ x ∈ L, x.f0.size ≤ 2097152 ∧ x.f1.size ≤ 2097152) (p : ByteArray) : Ev (fun k => spec_Find.f k L p) (findTo L p) := by
 simp only [spec_Find.f]
 refine Ev_call (files_spec L hl hs) ?_
 unfold findTo
 by_cases h : filesOk L = true
 ·simp only [if_pos h]
  exact find_loop L hl p L.length 0 (by omega)
 ·simp only [if_neg h]; exact Ev.now _
theorem find_impl (L : List S33) (hl : L.length ≤ 1048576) (hs : ∀ x ∈ L, x.f0.size ≤ 2097152 ∧ x.f1.size ≤ 2097152) (p : ByteArray) : Ev (fun k => impl_Find.f k L p) (findTo L p) := by
 simp only [impl_Find.f]
 refine Ev_call (g := fun _ => impl_fileAt.f L p) (Ev_some_of (fileAt_eq L hl p)) ?_
 unfold findTo textAt
 have hr := idxF_range L p
 by_cases c : idxF L p < 0
 ·simp only [if_pos c, ite_self]; exact Ev.now _
 ·simp only [if_neg c]
  refine Ev_call (files_impl L hl hs) ?_
  by_cases h : filesOk L = true
  ·have c1 : 0 ≤ idxF L p := by omega
   have c2 : idxF L p < (L.length : Int) := by omega
   simp only [if_pos h, if_pos c1, if_pos c2]
   exact Ev.now _
  ·simp only [if_neg h]; exact Ev.now _
abbrev SFl := S33
theorem blt_iff (a b : List UInt8) : Op.bytesLess a b = true ↔ a < b := by rw [bytesLess_eq, decide_eq_true_eq]
theorem ok_rise (L : List SFl) (h : filesOk L = true) : ∀ d i : Nat, i + d + 1 < L.length → (L.getD i z33).f0.toList < (L.getD (i + d + 1) z33).f0.toList := by
 obtain ⟨_, hok⟩ := (filesOk_iff L).1 h
 have step : ∀ j, j + 1 < L.length → (L.getD j z33).f0.toList < (L.getD (j + 1) z33).f0.toList := by
  intro j hj
  have := hok (j + 1) hj
  unfold okAt at this
  simp only [Bool.and_eq_true, Bool.or_eq_true, decide_eq_true_eq, Nat.add_sub_cancel] at this
  rcases this.1.2 with h0 | h1
  ·omega
  ·exact (blt_iff _ _).1 h1
 intro d
 induction d with
 | zero => intro i hi; exact step i hi
 | succ d ih => intro i hi; exact List.lt_trans (ih i (by omega)) (step (i + d + 1) (by omega))
theorem ok_apart (L : List SFl) (h : filesOk L = true) (i j : Nat) (hi : i < L.length) (hj : j < L.length) (he : L[i].f0.toList = L[j].f0.toList) : i = j := by
 have key : ∀ a b : Nat, (hab : a < b) → (hb : b < L.length) → (L[a]'(by omega)).f0.toList = L[b].f0.toList → False := by
  intro a b hab hb e
  have := ok_rise L h (b - a - 1) a (by omega)
  rw [show a + (b - a - 1) + 1 = b by omega, getD_at L _ a (by omega), getD_at L _ b hb, e] at this
  exact List.lt_irrefl _ this
 rcases Nat.lt_trichotomy i j with h1 | h1 | h1
 ·exact (key i j h1 hj he).elim
 ·exact h1
 ·exact (key j i h1 hi he.symm).elim
def notP (p : ByteArray) (x : SFl) : Bool := !(x.f0.toList == p.toList)
theorem idx_parts (p : ByteArray) (z : SFl) : ∀ (L : List SFl) (i : Nat), (Lib.idxByFrom (pIs p) z L i = -1 ∧ L.filter (notP p) = L) ∨ ∃ A x B, L = A ++ x :: B ∧ Lib.idxByFrom (pIs p) z L i = ((i + A.length : Nat) : Int) ∧ x.f0.toList = p.toList ∧ A.filter (notP p) = A := by
 intro L
 induction L with
 | nil => intro i; exact .inl ⟨rfl, rfl⟩
 | cons x r ih =>
  intro i
  rw [Lib.idxByFrom]
  by_cases h : x.f0.toList = p.toList
  ·have hp : pIs p z x = true := by unfold pIs; rw [beq_iff_eq]; exact h
   rw [hp, if_pos rfl]
   exact .inr ⟨[], x, r, rfl, by simp, h, rfl⟩
  ·have hp : pIs p z x = false := by unfold pIs; exact beq_eq_false_iff_ne.2 h
   have hq : notP p x = true := by unfold notP; rw [beq_eq_false_iff_ne.2 h]; rfl
   rw [hp, if_neg (by simp)]
   rcases ih (i + 1) with ⟨e, f⟩ | ⟨A, y, B, rfl, e, hy, f⟩
   ·exact .inl ⟨e, by rw [List.filter_cons_of_pos hq, f]⟩
   ·exact .inr ⟨x :: A, y, B, rfl, by rw [e, List.length_cons]; congr 1; omega, hy, by rw [List.filter_cons_of_pos hq, f]⟩
theorem idxF_parts (L : List SFl) (p : ByteArray) : (idxF L p = -1 ∧ L.filter (notP p) = L) ∨ ∃ A x B, L = A ++ x :: B ∧ idxF L p = (A.length : Int) ∧ x.f0.toList = p.toList ∧ A.filter (notP p) = A := by
 rcases idx_parts p z33 L 0 with h | ⟨A, x, B, a, b, c⟩
 ·exact .inl h
 ·exact .inr ⟨A, x, B, a, by unfold idxF Lib.idxBy; rw [b, Nat.zero_add], c⟩
theorem ok_filter (A B : List SFl) (x : SFl) (p : ByteArray) (h : filesOk (A ++ x :: B) = true) (hx : x.f0.toList = p.toList) (hA : A.filter (notP p) = A) : (A ++ x :: B).filter (notP p) = A ++ B := by
 have hxf : ¬ notP p x = true := by unfold notP; rw [beq_iff_eq.2 hx]; simp
 rw [List.filter_append, List.filter_cons_of_neg hxf, hA]
 congr 1
 apply List.filter_eq_self.2
 intro y hy
 unfold notP
 rw [Bool.not_eq_true', beq_eq_false_iff_ne]
 intro e
 obtain ⟨j, hj, rfl⟩ := List.mem_iff_getElem.1 hy
 have h1 : (A ++ x :: B)[A.length]'(by simp) = x := by simp
 have h2 : (A ++ x :: B)[A.length + 1 + j]'(by simp; omega) = B[j] := by
  rw [List.getElem_append_right (by omega)]
  simp only [show A.length + 1 + j - A.length = j + 1 by omega, List.getElem_cons_succ]
 have := ok_apart _ h A.length (A.length + 1 + j) (by simp) (by simp; omega) (by rw [h1, h2, e, hx])
 omega
theorem drop_T (L : List SFl) (i : Nat) (h : i < L.length) : L.drop i = rd_T33 L (i : Int) :: L.drop (i + 1) := by
 rw [List.drop_eq_getElem_cons h]; congr 1; exact (getD_at L _ i h).symm
def dropTo (L : List SFl) (p : ByteArray) : List SFl × Bool := if filesOk L = true then (L.filter (notP p), decide (((L.filter (notP p)).length : Int) < (L.length : Int))) else ([], false)
theorem clone_eq (L : List SFl) (hl : L.length ≤ 1048576) : impl_File_36.f L = some L := by
 unfold impl_File_36.f; rw [if_pos (by omega)]
theorem drop_impl (L : List SFl) (hl : L.length ≤ 1048576) (hs : ∀ x ∈ L, x.f0.size ≤ 2097152 ∧ x.f1.size ≤ 2097152) (p : ByteArray) : Ev (fun k => impl_DropFile.f k L p) (dropTo L p) := by
 simp only [impl_DropFile.f]
 refine Ev_call (files_impl L hl hs) ?_
 unfold dropTo
 by_cases h : filesOk L = true
 ·simp only [if_pos h, fileAt_eq L hl p, Option.bind_some, clone_eq L hl]
  rcases idxF_parts L p with ⟨e, f⟩ | ⟨A, x, B, rfl, e, hx, hA⟩
  ·rw [f, e]
   simp only [show ((-1 : Int) < 0) from by omega, if_true, show ¬ ((L.length : Int) < (L.length : Int)) from by omega, decide_false]
   exact Ev.now _
  ·have hll : (A ++ x :: B).length = A.length + 1 + B.length := by simp; omega
   have hd : impl_File_39.f (A ++ x :: B) (A.length : Int) (wrap64 ((A.length : Int) + 1)) = some (A ++ B) := by
    unfold impl_File_39.f
    rw [if_pos ⟨by omega, by omega, w64 (by omega) (by omega), by omega⟩, Int.toNat_natCast]
    simp [List.drop_append]
   rw [ok_filter A B x p h hx hA, e]
   have c : ¬ ((A.length : Int) < 0) := by omega
   have c2 : (((A ++ B).length : Int) < ((A ++ x :: B).length : Int)) := by rw [hll, List.length_append]; omega
   simp only [if_neg c, hd, Option.bind_some, decide_eq_true c2]
   exact Ev.now _
 ·simp only [if_neg h]; exact Ev.now _
def lessP (x : SFl) (y : SFl) : Bool := Op.bytesLess y.f0.toList x.f0.toList
def putL (x : SFl) : List SFl → List SFl
 | [] => [x]
 | y :: r => if lessP x y = true then y :: putL x r else x :: (y :: r).filter (notP x.f0)
theorem putL_len (x : SFl) : ∀ L, (putL x L).length ≤ L.length + 1
 | [] => Nat.le_refl _
 | y :: r => by
  rw [putL]
  split
  ·have := putL_len x r; simp only [List.length_cons]; omega
  ·have := List.length_filter_le (notP x.f0) (y :: r); simp only [List.length_cons] at this ⊢; omega
theorem putL_mem (x z : SFl) : ∀ L, z ∈ putL x L → z = x ∨ z ∈ L
 | [], h => by simpa [putL] using h
 | y :: r, h => by
  rw [putL] at h
  split at h
  ·rcases List.mem_cons.1 h with e | h
   ·exact .inr (e ▸ .head _)
   ·rcases putL_mem x z r h with e | h
    ·exact .inl e
    ·exact .inr (.tail _ h)
  ·rcases List.mem_cons.1 h with e | h
   ·exact .inl e
   ·exact .inr (List.mem_filter.1 h).1
def putEnd (L o : List SFl) : List SFl × Bool := if filesOk o = true then (o, true) else (L, false)
def putTo (L : List SFl) (x : SFl) : List SFl × Bool := if filesOk L = true then putEnd L (putL x L) else ([], false)
theorem put_end (L o : List SFl) (hl : L.length ≤ 1048576) (hlo : o.length ≤ 1048576) (hs : ∀ z ∈ o, z.f0.size ≤ 2097152 ∧ z.f1.size ≤ 2097152) : Ev (fun k => impl_PutFile.j1 k L o) (putEnd L o) := by
 refine Ev_succ ?_
 simp only [impl_PutFile.j1]
 refine Ev_call (files_impl o hlo hs) ?_
 unfold putEnd
 by_cases h : filesOk o = true
 ·simp only [if_pos h]; exact Ev.now _
 ·simp only [if_neg h, clone_eq L hl, Option.bind_some]; exact Ev.now _
theorem ins_eq (L : List SFl) (hl : L.length ≤ 1048576) (i : Nat) (hi : i ≤ L.length) (x : SFl) : impl_File_38.f L (i : Int) [(⟨x.f0, x.f1⟩ : SFl)] = some (L.take i ++ ([x] ++ L.drop i)) := by
 unfold impl_File_38.f
 rw [if_pos ⟨by omega, by omega, rfl, hl⟩, Int.toNat_natCast]
theorem put_impl_loop (L : List SFl) (hl : L.length ≤ 8) (x : SFl) (hx : x.f0.size ≤ 2097152 ∧ x.f1.size ≤ 2097152) (hs : ∀ x ∈ L, x.f0.size ≤ 2097152 ∧ x.f1.size ≤ 2097152) (d : Nat) : ∀ i : Nat, i + d = L.length → (L.drop i).filter (notP x.f0) = L.drop i →
  Ev (fun k => impl_PutFile.l0 k L L i x.f0 x.f1) (putEnd L (L.take i ++ putL x (L.drop i))) := by
 have hso : ∀ i, ∀ z ∈ L.take i ++ ([x] ++ L.drop i), z.f0.size ≤ 2097152 ∧ z.f1.size ≤ 2097152 := fun i z hz => by
  rcases List.mem_append.1 hz with hz | hz
  ·exact hs z (List.mem_of_mem_take hz)
  ·rcases List.mem_append.1 hz with hz | hz
   ·rw [List.mem_singleton.1 hz]; exact hx
   ·exact hs z (List.mem_of_mem_drop hz)
 have hlen : ∀ i, i ≤ L.length → (L.take i ++ ([x] ++ L.drop i)).length ≤ 1048576 := fun i hi => by
  simp only [List.length_append, List.length_take, List.length_drop, List.length_cons, List.length_nil]; omega
 induction d with
 | zero =>
  intro i hi hf
  have hd : L.drop i = [] := List.drop_eq_nil_of_le (by omega)
  rw [hd, putL]
  refine Ev_succ ?_
  simp (disch := omega) only [impl_PutFile.l0, if_neg, ins_eq L (by omega) i (by omega) x, Option.bind_some]
  have e := put_end L (L.take i ++ ([x] ++ L.drop i)) (by omega) (hlen i (by omega)) (hso i)
  rw [hd, List.append_nil] at e
  rw [hd, List.append_nil]
  exact e
 | succ d ih =>
  intro i hi hf
  have hn : wrap64 ((i : Int) + 1) = ((i + 1 : Nat) : Int) := by rw [w64 (by omega) (by omega)]; omega
  have c0 : (i : Int) < (L.length : Int) := by omega
  have c1 : 0 ≤ (i : Int) := by omega
  have hd := drop_T L i (by omega)
  rw [hd, List.filter_cons] at hf
  have hq : notP x.f0 (rd_T33 L (i : Int)) = true := by
   split at hf
   ·next h => exact h
   ·have h1 := congrArg List.length hf
    have h2 := List.length_filter_le (notP x.f0) (L.drop (i + 1))
    rw [List.length_cons] at h1
    omega
  rw [if_pos hq] at hf
  have hf2 := (List.cons.inj hf).2
  refine Ev_succ ?_
  simp only [impl_PutFile.l0, if_pos c0, if_pos c1, hn]
  by_cases hb : Op.bytesLess (rd_T33 L (i : Int)).f0.toList x.f0.toList = true
  ·have hlp : lessP x (rd_T33 L (i : Int)) = true := hb
   rw [hd, putL, if_pos hlp]
   simp only [if_pos hb]
   have e := ih (i + 1) (by omega) hf2
   have e2 : L.take (i + 1) ++ putL x (L.drop (i + 1)) = L.take i ++ rd_T33 L (i : Int) :: putL x (L.drop (i + 1)) := by
    have : rd_T33 L (i : Int) = L[i]'(by omega) := getD_at L _ i (by omega)
    rw [List.take_succ_eq_append_getElem (by omega), List.append_assoc, ← this]; rfl
   rw [e2] at e
   exact e
  ·have hlp : ¬ lessP x (rd_T33 L (i : Int)) = true := hb
   simp only [if_neg hb, ins_eq L (by omega) i (by omega) x, Option.bind_some]
   have e := put_end L (L.take i ++ ([x] ++ L.drop i)) (by omega) (hlen i (by omega)) (hso i)
   have e2 : putL x (L.drop i) = [x] ++ L.drop i := by
    rw [hd, putL, if_neg hlp, List.filter_cons_of_pos hq, hf2]; rfl
   rw [e2]
   exact e
theorem putL_less (x : SFl) (R : List SFl) : ∀ A : List SFl, (∀ y ∈ A, lessP x y = true) → putL x (A ++ R) = A ++ putL x R
 | [], _ => rfl
 | y :: r, h => by rw [List.cons_append, putL, if_pos (h y (.head _)), putL_less x R r (fun z hz => h z (.tail _ hz))]; rfl
theorem ok_less (A B : List SFl) (y x : SFl) (h : filesOk (A ++ y :: B) = true) (hy : y.f0.toList = x.f0.toList) : ∀ z ∈ A, lessP x z = true := by
 intro z hz
 obtain ⟨j, hj, rfl⟩ := List.mem_iff_getElem.1 hz
 have := ok_rise _ h (A.length - j - 1) j (by simp; omega)
 rw [show j + (A.length - j - 1) + 1 = A.length by omega, getD_at _ _ j (by simp; omega), getD_at _ _ A.length (by simp), List.getElem_append_left hj] at this
 have e : (A ++ y :: B)[A.length]'(by simp) = y := by simp
 rw [e, hy] at this
 exact (blt_iff _ _).2 this
theorem put_impl (L : List SFl) (hl : L.length ≤ 1048576) (hs : ∀ x ∈ L, x.f0.size ≤ 2097152 ∧ x.f1.size ≤ 2097152) (x : SFl) (hx : x.f0.size ≤ 2097152 ∧ x.f1.size ≤ 2097152) : Ev (fun k => impl_PutFile.f k L x.f0 x.f1) (putTo L x) := by
 simp only [impl_PutFile.f]
 refine Ev_call (files_impl L hl hs) ?_
 unfold putTo
 by_cases h : filesOk L = true
 ·have h8 := ((filesOk_iff L).1 h).1
  simp only [if_pos h, fileAt_eq L hl x.f0, Option.bind_some, clone_eq L hl]
  rcases idxF_parts L x.f0 with ⟨e, f⟩ | ⟨A, y, B, rfl, e, hy, hA⟩
  ·rw [e]
   simp only [show ¬ ((-1 : Int) ≥ 0) from by omega, if_false]
   have e := put_impl_loop L h8 x hx hs L.length 0 (by omega) (by rw [List.drop_zero]; exact f)
   rw [List.take_zero, List.drop_zero, List.nil_append] at e
   exact e
  ·have hll : (A ++ y :: B).length = A.length + 1 + B.length := by simp; omega
   rw [e]
   have c1 : (A.length : Int) ≥ 0 := by omega
   have c2 : (A.length : Int) < ((A ++ y :: B).length : Int) := by omega
   simp only [if_pos c1, if_pos c2]
   have hset : (A ++ y :: B).set ((A.length : Int)).toNat (⟨x.f0, x.f1⟩ : SFl) = A ++ x :: B := set_mid A B y _
   rw [hset]
   have hB : B.filter (notP x.f0) = B := by
    have := ok_filter A B y x.f0 h hy hA
    rw [List.filter_append, hA, List.filter_cons_of_neg (by unfold notP; rw [beq_iff_eq.2 hy]; simp)] at this
    exact List.append_cancel_left this
   have e2 : putL x (A ++ y :: B) = A ++ x :: B := by
    rw [putL_less x _ A (ok_less A B y x h hy), putL, if_neg, List.filter_cons_of_neg (by unfold notP; rw [beq_iff_eq.2 hy]; simp), hB]
    unfold lessP
    rw [hy]
    intro c
    exact List.lt_irrefl _ ((blt_iff _ _).1 c)
   rw [e2]
   refine put_end _ _ hl (by rw [hll] at hl; simp; omega) (fun z hz => ?_)
   rcases List.mem_append.1 hz with hz | hz
   ·exact hs z (List.mem_append_left _ hz)
   ·rcases List.mem_cons.1 hz with e | hz
    ·rw [e]; exact hx
    ·exact hs z (List.mem_append_right _ (.tail _ hz))
 ·simp only [if_neg h]; exact Ev.now _
theorem rising_some (o : List ByteArray) (h : o.length ≤ 140737488355328) : impl_rising.f o = some (o.foldl putB []) := by
 unfold impl_rising.f YtkmcnjpgamaljaaGreatDoor.RisingL.rising.f
 rw [if_pos h]
 unfold YtkmcnjpgamaljaaGreatDoor.RisingL.rising.srt
 rw [rise_puts]
theorem inF_iff (b : List SFl) (x : SFl) : impl_Changed.inF b x = true ↔ ∃ y ∈ b, x.f0.toList = y.f0.toList ∧ x.f1.toList = y.f1.toList := by
 unfold impl_Changed.inF
 rw [List.any_eq_true]
 simp only [Bool.and_eq_true, beq_iff_eq]
theorem ok_uniq (L : List SFl) (h : filesOk L = true) (y z : SFl) (hy : y ∈ L) (hz : z ∈ L) (e : y.f0.toList = z.f0.toList) : y = z := by
 obtain ⟨i, hi, rfl⟩ := List.mem_iff_getElem.1 hy
 obtain ⟨j, hj, rfl⟩ := List.mem_iff_getElem.1 hz
 have := ok_apart L h i j hi hj e
 subst this; rfl
theorem filter_all (p : ByteArray) : ∀ L : List SFl, L.filter (notP p) = L → ∀ y ∈ L, y.f0.toList ≠ p.toList := by
 intro L h y hy e
 rw [← h] at hy
 have := (List.mem_filter.1 hy).2
 unfold notP at this
 rw [beq_iff_eq.2 e] at this
 cases this
theorem find_has (b : List SFl) (h : filesOk b = true) (x : SFl) : ((findTo b x.f0).2 = true ∧ (findTo b x.f0).1.toList = x.f1.toList) ↔ impl_Changed.inF b x = true := by
 rw [inF_iff]
 unfold findTo textAt
 rw [if_pos h]
 rcases idxF_parts b x.f0 with ⟨e, f⟩ | ⟨A, y, B, rfl, e, hy, hA⟩
 ·rw [e, if_pos (by omega)]
  constructor
  ·rintro ⟨h1, _⟩; cases h1
  ·rintro ⟨y, hy, e1, _⟩; exact absurd e1.symm (filter_all x.f0 b f y hy)
 ·rw [e, if_neg (by omega), getD_mid]
  constructor
  ·rintro ⟨_, h2⟩; exact ⟨y, by simp, hy.symm, h2.symm⟩
  ·rintro ⟨z, hz, e1, e2⟩
   have := ok_uniq _ h z y hz (by simp) (e1.symm.trans hy.symm)
   subst this
   exact ⟨rfl, e2.symm⟩
theorem find_is (a : List SFl) (h : filesOk a = true) (p : ByteArray) : (findTo a p).2 = true ↔ ∃ y ∈ a, y.f0.toList = p.toList := by
 unfold findTo textAt
 rw [if_pos h]
 rcases idxF_parts a p with ⟨e, f⟩ | ⟨A, y, B, rfl, e, hy, hA⟩
 ·rw [e, if_pos (by omega)]
  constructor
  ·intro h1; cases h1
  ·rintro ⟨y, hy, e1⟩; exact absurd e1 (filter_all p a f y hy)
 ·rw [e, if_neg (by omega)]
  exact ⟨fun _ => ⟨y, by simp, hy⟩, fun _ => rfl⟩
theorem dif_cons (b : List SFl) (x : SFl) (r : List SFl) : impl_Changed.dif (x :: r) b = if impl_Changed.inF b x = true then impl_Changed.dif r b else x.f0 :: impl_Changed.dif r b := by
 unfold impl_Changed.dif; rw [List.filter_cons]
 cases impl_Changed.inF b x <;> rfl
theorem dif_len (a b : List SFl) : (impl_Changed.dif a b).length ≤ a.length := by unfold impl_Changed.dif; rw [List.length_map]; exact List.length_filter_le _ _
def chTo (a b : List SFl) : List ByteArray := if filesOk a = true then (if filesOk b = true then (impl_Changed.dif a b ++ impl_Changed.dif b a).foldl putB [] else []) else []
theorem ch_impl (a b : List SFl) (ha : a.length ≤ 1048576) (hsa : ∀ x ∈ a, x.f0.size ≤ 2097152 ∧ x.f1.size ≤ 2097152) (hb : b.length ≤ 1048576) (hsb : ∀ x ∈ b, x.f0.size ≤ 2097152 ∧ x.f1.size ≤ 2097152) : Ev (fun k => impl_Changed.f k a b) (chTo a b) := by
 simp only [impl_Changed.f]
 refine Ev_call (files_impl a ha hsa) ?_
 unfold chTo
 by_cases h : filesOk a = true
 ·simp only [if_pos h]
  refine Ev_call (files_impl b hb hsb) ?_
  by_cases h2 : filesOk b = true
  ·have := dif_len a b; have := dif_len b a
   simp only [if_pos h2, if_pos (And.intro ha hb), rising_some (impl_Changed.dif a b ++ impl_Changed.dif b a) (by rw [List.length_append]; omega)]
   exact Ev.now _
  ·simp only [if_neg h2]; exact Ev.now _
 ·simp only [if_neg h]; exact Ev.now _
theorem and255 (x : Int) : 0 ≤ Go.bits .and .i64 x 255 ∧ Go.bits .and .i64 x 255 ≤ 255 := by
 have h : (BitVec.ofInt IntKind.i64.bits x &&& BitVec.ofInt IntKind.i64.bits 255).toNat ≤ 255 := by
  rw [BitVec.toNat_and]
  exact Nat.le_trans Nat.and_le_right (by decide)
 simp only [Go.bits]
 rw [wraps_i64 _ (by omega) (by omega)]
 omega
theorem byte_some (b : List Int) (hb : b.length ≤ 140737488355328) (i h : Int) (h0 : 0 ≤ i) (h1 : i ≤ b.length) : ∃ x i' h', spec_l1Byte.f b i h = some (x, i', h') ∧ 0 ≤ x ∧ x ≤ 255 ∧ 0 ≤ i' ∧ i' ≤ b.length := by
 by_cases c : i < (b.length : Int)
 ·have e : wrap64 (i + 1) = i + 1 := w64 (by omega) (by omega)
  exact ⟨_, i + 1, _, by simp only [spec_l1Byte.f, if_pos c, if_pos h0, e]; rfl, (and255 _).1, (and255 _).2, by omega, by omega⟩
 ·exact ⟨_, i, _, by simp only [spec_l1Byte.f, if_neg c]; rfl, (and255 _).1, (and255 _).2, h0, h1⟩
theorem below_some (b : List Int) (hb : b.length ≤ 140737488355328) (i h : Int) (h0 : 0 ≤ i) (h1 : i ≤ b.length) (n : Int) : ∃ x i' h', spec_l1Below.f b i h n = some (x, i', h') ∧ 0 ≤ x ∧ (0 < n → x < n) ∧ (n ≤ 0 → x = 0) ∧ 0 ≤ i' ∧ i' ≤ b.length := by
 by_cases c : n ≤ 0
 ·exact ⟨0, i, h, by simp only [spec_l1Below.f, if_pos c], by omega, by omega, fun _ => rfl, h0, h1⟩
 ·obtain ⟨x, i1, q1, e1, a1, b1, c1, d1⟩ := byte_some b hb i h h0 h1
  have hz : ¬ n = 0 := by omega
  by_cases c2 : n ≤ 256
  ·refine ⟨Int.tmod x n, i1, q1, ?_, ?_, ?_, ?_, c1, d1⟩
   ·simp only [spec_l1Below.f, if_neg c, if_pos c2, e1, Option.bind_some, if_neg hz]
   ·rw [tmod_nn a1]; exact Int.emod_nonneg _ hz
   ·intro _; rw [tmod_nn a1]; exact Int.emod_lt_of_pos _ (by omega)
   ·intro h; exact absurd h c
  ·obtain ⟨y, i2, q2, e2, a2, b2, c3, d2⟩ := byte_some b hb i1 q1 c1 d1
   obtain ⟨z, i3, q3, e3, a3, b3, c4, d3⟩ := byte_some b hb i2 q2 c3 d2
   obtain ⟨v, i4, q4, e4, a4, b4, c5, d4⟩ := byte_some b hb i3 q3 c4 d3
   have hw : wrap64 ((wrap64 ((wrap64 ((wrap64 (x * 16777216)) + (wrap64 (y * 65536)))) + (wrap64 (z * 256)))) + v) = x * 16777216 + y * 65536 + z * 256 + v := by
    rw [w64 (x := x * 16777216) (by omega) (by omega), w64 (x := y * 65536) (by omega) (by omega), w64 (x := z * 256) (by omega) (by omega), w64 (x := x * 16777216 + y * 65536) (by omega) (by omega), w64 (x := x * 16777216 + y * 65536 + z * 256) (by omega) (by omega), w64 (by omega) (by omega)]
   have hp : 0 ≤ x * 16777216 + y * 65536 + z * 256 + v := by omega
   refine ⟨Int.tmod (x * 16777216 + y * 65536 + z * 256 + v) n, i4, q4, ?_, ?_, ?_, ?_, c5, d4⟩
   ·simp only [spec_l1Below.f, if_neg c, if_neg c2, e1, e2, e3, e4, Option.bind_some, if_neg hz, hw]
   ·rw [tmod_nn hp]; exact Int.emod_nonneg _ hz
   ·intro _; rw [tmod_nn hp]; exact Int.emod_lt_of_pos _ (by omega)
   ·intro h; exact absurd h c
theorem once_some (b : List Int) (hb : b.length ≤ 140737488355328) (i h : Int) (h0 : 0 ≤ i) (h1 : i ≤ b.length) (n : Int) : ∃ x i' h', spec_l1Once.f b i h n = some (x, i', h') ∧ 0 ≤ i' ∧ i' ≤ b.length := by
 obtain ⟨x, i1, q1, e1, a1, b1, c1, d1, f1⟩ := below_some b hb i h h0 h1 n
 exact ⟨x == 0, i1, q1, by simp only [spec_l1Once.f, e1, Option.bind_some], d1, f1⟩
theorem pick_some (b : List Int) (hb : b.length ≤ 140737488355328) (i h : Int) (h0 : 0 ≤ i) (h1 : i ≤ b.length) (l : List ByteArray) (hl : 0 < l.length) : ∃ s i' h', spec_l1Pick.f b i h l = some (s, i', h') ∧ s ∈ l ∧ 0 ≤ i' ∧ i' ≤ b.length := by
 obtain ⟨x, i1, q1, e1, a1, b1, c1, d1, f1⟩ := below_some b hb i h h0 h1 l.length
 have hx : x < (l.length : Int) := b1 (by omega)
 refine ⟨rdOf ByteArray.empty l x, i1, q1, by simp only [spec_l1Pick.f, e1, Option.bind_some, if_pos a1, if_pos hx], ?_, d1, f1⟩
 rw [rdOf, getD_at l _ _ (by omega)]; exact List.getElem_mem _
theorem new_loop (l : List Int) (hl : l.length ≤ 140737488355328) (d : Nat) : ∀ (x3 x4 : Int), 0 ≤ x4 → x4 + d = l.length → ∃ h, Ev (fun k => spec_l1New.l0 k l x3 x4) (l, 0, h) := by
 induction d with
 | zero =>
  intro x3 x4 h0 h1
  refine ⟨x3, Ev_succ ?_⟩
  have c : ¬ x4 < (l.length : Int) := by omega
  simp only [spec_l1New.l0, if_neg c]; exact Ev.now _
 | succ d ih =>
  intro x3 x4 h0 h1
  by_cases c2 : x4 < 4000
  ·obtain ⟨h, e⟩ := ih (Go.bits .and .i64 (wrap64 ((wrap64 ((wrap64 (x3 * 131)) + (wrap64 (rd l x4)))) + 7)) 1073741823) (x4 + 1) (by omega) (by omega)
   refine ⟨h, Ev_succ ?_⟩
   have c : x4 < (l.length : Int) := by omega
   have hw : wrap64 (x4 + 1) = x4 + 1 := w64 (by omega) (by omega)
   simp only [spec_l1New.l0, if_pos c, if_pos c2, if_pos h0, hw]; exact e
  ·refine ⟨x3, Ev_succ ?_⟩
   have c : x4 < (l.length : Int) := by omega
   simp only [spec_l1New.l0, if_pos c, if_neg c2]; exact Ev.now _
theorem new_ev (l : List Int) (hl : l.length ≤ 140737488355328) : ∃ h, Ev (fun k => spec_l1New.f k l) (l, 0, h) := by
 simp only [spec_l1New.f]
 exact new_loop l hl l.length _ 0 (by omega) (by omega)
theorem l2some_some (b : List Int) (hb : b.length ≤ 140737488355328) (i h : Int) (h0 : 0 ≤ i) (h1 : i ≤ b.length) : ∃ s i' h', spec_l2Some.f b i h = some (s, i', h') ∧ s.size ≤ 41 ∧ 0 ≤ i' ∧ i' ≤ b.length := by
 obtain ⟨s1, i1, q1, e1, m1, a1, b1⟩ := pick_some b hb i h h0 h1 ([(⟨#[47, 97]⟩ : ByteArray), (⟨#[47, 98]⟩ : ByteArray), (⟨#[47, 99]⟩ : ByteArray), (⟨#[47, 100]⟩ : ByteArray), (⟨#[47, 108, 105, 98, 47, 120]⟩ : ByteArray), (⟨#[47, 97, 47, 46, 46, 47, 98]⟩ : ByteArray), (⟨#[47, 46, 47, 99]⟩ : ByteArray), (⟨#[47, 47, 97, 47]⟩ : ByteArray), (⟨#[47, 108, 105, 98, 47, 46, 47, 120]⟩ : ByteArray), (⟨#[47, 97, 47, 98]⟩ : ByteArray)] : List ByteArray) (by decide)
 have z1 : s1.size ≤ 41 := (show ∀ s ∈ ([(⟨#[47, 97]⟩ : ByteArray), (⟨#[47, 98]⟩ : ByteArray), (⟨#[47, 99]⟩ : ByteArray), (⟨#[47, 100]⟩ : ByteArray), (⟨#[47, 108, 105, 98, 47, 120]⟩ : ByteArray), (⟨#[47, 97, 47, 46, 46, 47, 98]⟩ : ByteArray), (⟨#[47, 46, 47, 99]⟩ : ByteArray), (⟨#[47, 47, 97, 47]⟩ : ByteArray), (⟨#[47, 108, 105, 98, 47, 46, 47, 120]⟩ : ByteArray), (⟨#[47, 97, 47, 98]⟩ : ByteArray)] : List ByteArray), s.size ≤ 41 by decide) _ m1
 obtain ⟨o2, i2, q2, e2, a2, b2⟩ := once_some b hb i1 q1 a1 b1 8
 cases o2 with
 | false =>
  refine ⟨s1, i2, q2, ?_, z1, a2, b2⟩
  unfold spec_l2Some.f
  rw [e1, Option.bind_some, e2, Option.bind_some]
  rfl
 | true =>
  obtain ⟨s3, i3, q3, e3, m3, a3, b3⟩ := pick_some b hb i2 q2 a2 b2 ([(⟨#[]⟩ : ByteArray), (⟨#[97]⟩ : ByteArray), (⟨#[47, 65]⟩ : ByteArray), (⟨#[47]⟩ : ByteArray), (⟨#[47, 46, 46]⟩ : ByteArray), (⟨#[47, 97, 32, 98]⟩ : ByteArray), (⟨#[47, 97, 97, 97, 97, 97, 97, 97, 97, 97, 97, 97, 97, 97, 97, 97, 97, 97, 97, 97, 97, 97, 97, 97, 97, 97, 97, 97, 97, 97, 97, 97, 97, 97, 97, 97, 97, 97, 97, 97]⟩ : ByteArray), (⟨#[47, 97, 97, 97, 97, 97, 97, 97, 97, 97, 97, 97, 97, 97, 97, 97, 97, 97, 97, 97, 97, 97, 97, 97, 97, 97, 97, 97, 97, 97, 97, 97, 97, 97, 97, 97, 97, 97, 97, 97, 97]⟩ : ByteArray)] : List ByteArray) (by decide)
  have z3 : s3.size ≤ 41 := (show ∀ s ∈ ([(⟨#[]⟩ : ByteArray), (⟨#[97]⟩ : ByteArray), (⟨#[47, 65]⟩ : ByteArray), (⟨#[47]⟩ : ByteArray), (⟨#[47, 46, 46]⟩ : ByteArray), (⟨#[47, 97, 32, 98]⟩ : ByteArray), (⟨#[47, 97, 97, 97, 97, 97, 97, 97, 97, 97, 97, 97, 97, 97, 97, 97, 97, 97, 97, 97, 97, 97, 97, 97, 97, 97, 97, 97, 97, 97, 97, 97, 97, 97, 97, 97, 97, 97, 97, 97]⟩ : ByteArray), (⟨#[47, 97, 97, 97, 97, 97, 97, 97, 97, 97, 97, 97, 97, 97, 97, 97, 97, 97, 97, 97, 97, 97, 97, 97, 97, 97, 97, 97, 97, 97, 97, 97, 97, 97, 97, 97, 97, 97, 97, 97, 97]⟩ : ByteArray)] : List ByteArray), s.size ≤ 41 by decide) _ m3
  refine ⟨s3, i3, q3, ?_, z3, a3, b3⟩
  unfold spec_l2Some.f
  rw [e1, Option.bind_some, e2, Option.bind_some]
  rw [if_pos rfl, e3]
  rfl
theorem text_loop (b : List Int) (hb : b.length ≤ 140737488355328) (x6 : Int) (d : Nat) : ∀ (acc : List Int) (n x h : Int), n = d → acc.length + d ≤ 1000000 → 0 ≤ x → x ≤ b.length →
  ∃ s i' h', Ev (fun k => spec_l1Text.l0 k acc x6 n b x h) (s, i', h') ∧ s.size = acc.length + d ∧ 0 ≤ i' ∧ i' ≤ b.length := by
 induction d with
 | zero =>
  intro acc n x h hn _ h0 h1
  refine ⟨strOfNums acc, x, h, Ev_succ ?_, ?_, h0, h1⟩
  ·have c : ¬ n > 0 := by omega
   simp only [spec_l1Text.l0, if_neg c]; exact Ev.now _
  ·show (strOfNums acc).data.size = _
   rw [← Array.length_toList]; simp [strOfNums]
 | succ d ih =>
  intro acc n x h hn hl h0 h1
  obtain ⟨y, i1, q1, e1, a1, b1, c1, d1⟩ := byte_some b hb x h h0 h1
  have c : n > 0 := by omega
  have cl : acc.length < 140737488355328 := by omega
  have hw : wrap64 (n - 1) = n - 1 := w64 (by omega) (by omega)
  have go : ∀ v : Int, ∃ s i' h', Ev (fun k => spec_l1Text.l0 k (acc ++ [v]) x6 (n - 1) b i1 q1) (s, i', h') ∧ s.size = acc.length + (d + 1) ∧ 0 ≤ i' ∧ i' ≤ b.length := by
   intro v
   obtain ⟨s, i2, h2, e, z, r⟩ := ih (acc ++ [v]) (n - 1) i1 q1 (by omega) (by simp; omega) c1 d1
   exact ⟨s, i2, h2, e, by rw [z]; simp; omega, r⟩
  by_cases k1 : x6 = 1
  ·by_cases k2 : x6 = 2
   ·omega
   ·obtain ⟨s, i2, h2, e, r⟩ := go ((Int.tmod y 2) % 256)
    refine ⟨s, i2, h2, Ev_succ ?_, r⟩
    simp only [spec_l1Text.l0, if_pos c, hw]
    refine Ev_call (Ev_some_of e1) ?_
    simp only [if_pos k1, if_neg k2, if_pos cl]; exact e
  ·by_cases k2 : x6 = 2
   ·obtain ⟨s, i2, h2, e, r⟩ := go ((wrap64 (97 + (Int.tmod y 4))) % 256)
    refine ⟨s, i2, h2, Ev_succ ?_, r⟩
    simp only [spec_l1Text.l0, if_pos c, hw]
    refine Ev_call (Ev_some_of e1) ?_
    simp only [if_neg k1, if_pos k2, if_pos cl]; exact e
   ·obtain ⟨s, i2, h2, e, r⟩ := go (y % 256)
    refine ⟨s, i2, h2, Ev_succ ?_, r⟩
    simp only [spec_l1Text.l0, if_pos c, hw]
    refine Ev_call (Ev_some_of e1) ?_
    simp only [if_neg k1, if_neg k2, if_pos cl]; exact e
theorem text_ev (b : List Int) (hb : b.length ≤ 140737488355328) (x h : Int) (h0 : 0 ≤ x) (h1 : x ≤ b.length) (m : Int) (m0 : 0 ≤ m) (m1 : m ≤ 1000) : ∃ s i' h', Ev (fun k => spec_l1Text.f k b x h m) (s, i', h') ∧ (s.size : Int) ≤ m ∧ 0 ≤ i' ∧ i' ≤ b.length := by
 obtain ⟨y, i1, q1, e1, a1, b1, c1, d1, f1⟩ := below_some b hb x h h0 h1 4
 have hw : wrap64 (m + 1) = m + 1 := w64 (by omega) (by omega)
 obtain ⟨z, i2, q2, e2, a2, b2, c2, d2, f2⟩ := below_some b hb i1 q1 d1 f1 (m + 1)
 have hz := b2 (by omega)
 obtain ⟨s, i3, h3, e, k, r1, r2⟩ := text_loop b hb y z.toNat [] z i2 q2 (by omega) (by simp; omega) d2 f2
 refine ⟨s, i3, h3, ?_, by rw [k]; simp; omega, r1, r2⟩
 simp only [spec_l1Text.f, hw]
 exact Ev_call (Ev_some_of e1) (Ev_call (Ev_some_of e2) e)
theorem ext_any (s : ByteArray) (i j : Nat) : (s.extract i j).size ≤ s.size := by rw [ByteArray.size_extract]; omega
theorem spoil_ev (b : List Int) (hb : b.length ≤ 140737488355328) (x h : Int) (h0 : 0 ≤ x) (h1 : x ≤ b.length) (s : ByteArray) (hs : s.size ≤ 1000000) : ∃ r i' h', Ev (fun k => spec_l1Spoil.f k b x h s) (r, i', h') ∧ r.size ≤ 3 * s.size + 10 ∧ 0 ≤ i' ∧ i' ≤ b.length := by
 by_cases c0 : (s.size : Int) = 0
 ·obtain ⟨r, i1, q1, e1, z1, a1, b1⟩ := text_ev b hb x h h0 h1 3 (by omega) (by omega)
  refine ⟨r, i1, q1, ?_, by omega, a1, b1⟩
  simp only [spec_l1Spoil.f, if_pos c0]
  exact Ev_call e1 (Ev.now _)
 ·obtain ⟨y, i1, q1, e1, a1, b1, c1, d1, f1⟩ := below_some b hb x h h0 h1 s.size
  have hy := b1 (by omega)
  obtain ⟨z, i2, q2, e2, a2, b2, c2, d2, f2⟩ := below_some b hb i1 q1 d1 f1 4
  have hz := b2 (by omega)
  have g1 : y ≤ (s.size : Int) := by omega
  have hw : wrap64 (y + 1) = y + 1 := w64 (by omega) (by omega)
  have g2 : 0 ≤ y + 1 := by omega
  have g3 : y + 1 ≤ (s.size : Int) := by omega
  have x1 := ext_any s 0 y.toNat
  have x2 := ext_any s (y + 1).toNat s.size
  have x3 := ext_any s y.toNat s.size
  by_cases z0 : z = 0
  ·have g4 : (s.extract 0 y.toNat).size + (s.extract (y + 1).toNat s.size).size ≤ 9223372036854775807 := by omega
   refine ⟨s.extract 0 y.toNat ++ s.extract (y + 1).toNat s.size, i2, q2, ?_, by rw [size_app]; omega, d2, f2⟩
   simp only [spec_l1Spoil.f, if_neg c0]
   refine Ev_call (Ev_some_of e1) (Ev_call (Ev_some_of e2) ?_)
   simp only [if_pos z0, if_pos a1, if_pos g1, hw, if_pos g2, if_pos g3, if_pos g4]; exact Ev.now _
  by_cases z1 : z = 1
  ·obtain ⟨v, i3, q3, e3, a3, b3, c3, d3⟩ := byte_some b hb i2 q2 d2 f2
   have s1 : (strOfNums [v % 256]).size = 1 := rfl
   have g4 : (s.extract 0 y.toNat).size + (strOfNums [v % 256]).size ≤ 9223372036854775807 := by omega
   have g5 : (s.extract 0 y.toNat ++ strOfNums [v % 256]).size + (s.extract y.toNat s.size).size ≤ 9223372036854775807 := by rw [size_app]; omega
   refine ⟨(s.extract 0 y.toNat ++ strOfNums [v % 256]) ++ s.extract y.toNat s.size, i3, q3, ?_, by rw [size_app, size_app]; omega, c3, d3⟩
   simp only [spec_l1Spoil.f, if_neg c0]
   refine Ev_call (Ev_some_of e1) (Ev_call (Ev_some_of e2) ?_)
   simp only [if_neg z0, if_pos z1, if_pos a1, if_pos g1]
   refine Ev_call (Ev_some_of e3) ?_
   simp only [Option.bind_some, if_pos g4, if_pos g5]; exact Ev.now _
  by_cases z2 : z = 2
  ·refine ⟨s.extract 0 y.toNat, i2, q2, ?_, by omega, d2, f2⟩
   simp only [spec_l1Spoil.f, if_neg c0]
   refine Ev_call (Ev_some_of e1) (Ev_call (Ev_some_of e2) ?_)
   simp only [if_neg z0, if_neg z1, if_pos z2, if_pos a1, if_pos g1]; exact Ev.now _
  ·obtain ⟨v, i3, q3, e3, a3, b3, c3, d3, f3⟩ := below_some b hb i2 q2 d2 f2 255
   have s1 : (strOfNums [(Go.bits .xor .i64 (wrap64 (bt s y)) (wrap64 (1 + v))) % 256]).size = 1 := rfl
   have g4 : (s.extract 0 y.toNat).size + (strOfNums [(Go.bits .xor .i64 (wrap64 (bt s y)) (wrap64 (1 + v))) % 256]).size ≤ 9223372036854775807 := by omega
   have g5 : (s.extract 0 y.toNat ++ strOfNums [(Go.bits .xor .i64 (wrap64 (bt s y)) (wrap64 (1 + v))) % 256]).size + (s.extract (y + 1).toNat s.size).size ≤ 9223372036854775807 := by rw [size_app]; omega
   refine ⟨(s.extract 0 y.toNat ++ strOfNums [(Go.bits .xor .i64 (wrap64 (bt s y)) (wrap64 (1 + v))) % 256]) ++ s.extract (y + 1).toNat s.size, i3, q3, ?_, by rw [size_app, size_app]; omega, d3, f3⟩
   simp only [spec_l1Spoil.f, if_neg c0]
   refine Ev_call (Ev_some_of e1) (Ev_call (Ev_some_of e2) ?_)
   simp only [if_neg z0, if_neg z1, if_neg z2, if_pos a1, if_pos g1, if_pos hy]
   refine Ev_call (Ev_some_of e3) ?_
   simp only [Option.bind_some, if_pos g4, hw, if_pos g2, if_pos g3, if_pos g5]; exact Ev.now _
theorem dec_loop (j : Nat) : ∀ (u : Nat) (L : List UInt8) (b : Bool), u < 10 ^ j → u ≤ 9223372036854775808 → (b = false → u ≤ 9223372036854775807) → L.length + j ≤ 40 →
  Ev (fun k => spec_Dec.l0 k (sgn b u) ⟨L.toArray⟩ b) ⟨((if b then [45] else []) ++ digs u ++ L).toArray⟩ := by
 induction j with
 | zero =>
  intro u L b h0 _ _ hl
  obtain rfl : u = 0 := by simp at h0; exact h0
  refine Ev_succ ?_
  have hz : sgn b 0 = 0 := by cases b <;> rfl
  have hs : (⟨L.toArray⟩ : ByteArray).size = L.length := rfl
  simp only [spec_Dec.l0, hz, if_true, digs, List.append_nil]
  cases b with
  | false => simp; exact Ev.now _
  | true =>
   simp only [if_true, hs]
   rw [if_pos (by omega), str_cons]
   exact Ev.now _
 | succ j ih =>
  intro u L b h0 h1 h2 hl
  by_cases hu : u = 0
  ·subst hu
   refine Ev_succ ?_
   have hz : sgn b 0 = 0 := by cases b <;> rfl
   have hs : (⟨L.toArray⟩ : ByteArray).size = L.length := rfl
   simp only [spec_Dec.l0, hz, if_true, digs, List.append_nil]
   cases b with
   | false => simp; exact Ev.now _
   | true =>
    simp only [if_true, hs]
    rw [if_pos (by omega), str_cons]
    exact Ev.now _
  have hp := Nat.pow_succ (n := 10) (m := j)
  have i := ih (u / 10) (UInt8.ofNat (48 + u % 10) :: L) b (by omega) (by omega) (by omega) (by simp; omega)
  have hd : digs u = digs (u / 10) ++ [UInt8.ofNat (48 + u % 10)] := digs_step hu
  have he : (if b then [45] else []) ++ digs u ++ L = (if b then [45] else []) ++ digs (u / 10) ++ (UInt8.ofNat (48 + u % 10) :: L) := by rw [hd]; simp
  rw [he]
  refine Ev_succ ?_
  have hn : sgn b u ≠ 0 := by cases b <;> simp only [sgn] <;> simp <;> omega
  have hq : wrap64 (Int.tdiv (sgn b u) 10) = sgn b (u / 10) := by
   cases b with
   | false => simp only [sgn]; rw [tdiv_nn (by simp), w64 (by simp; omega) (by simp; omega)]; simp
   | true => simp only [sgn, if_true]; rw [Int.neg_tdiv, tdiv_nn (by simp), w64 (by omega) (by omega)]; simp
  have hs : (⟨L.toArray⟩ : ByteArray).size = L.length := rfl
  have h8 : ((48 + ((u : Int) % 10)) % 256).toNat = 48 + u % 10 := by omega
  have hone : (strOfNums [(48 + ((u : Int) % 10)) % 256]) = ⟨#[UInt8.ofNat (48 + u % 10)]⟩ := str_digit h8
  have hsz : (⟨#[UInt8.ofNat (48 + u % 10)]⟩ : ByteArray).size = 1 := rfl
  by_cases ht : Int.tmod (sgn b u) 10 < 0
  ·have hm : wrap64 (48 + wrap64 (-(Int.tmod (sgn b u) 10))) = 48 + (u : Int) % 10 := by
    cases b with
    | false => simp only [sgn] at ht; rw [tmod_nn (by simp)] at ht; simp at ht; omega
    | true => simp only [sgn, if_true]; rw [Int.neg_tmod, tmod_nn (by simp), Int.neg_neg, w64 (x := (u : Int) % 10) (by omega) (by omega), w64 (by omega) (by omega)]
   simp only [spec_Dec.l0, if_neg hn, if_pos ht, Option.bind_some, hm, hq, hone, hsz, hs]
   rw [str_cons]
   have hc : 1 + L.length ≤ 9223372036854775807 := by omega
   simp only [hc, if_true]
   exact i
  ·have hm : wrap64 (48 + (Int.tmod (sgn b u) 10)) = 48 + (u : Int) % 10 := by
    cases b with
    | false => simp only [sgn]; rw [tmod_nn (by simp), w64 (by simp; omega) (by simp; omega)]; simp
    | true =>
     simp only [sgn, if_true] at ht ⊢
     rw [Int.neg_tmod, tmod_nn (by simp)] at ht ⊢
     rw [w64 (by omega) (by omega)]; omega
   simp only [spec_Dec.l0, if_neg hn, if_neg ht, Option.bind_some, hm, hq, hone, hsz, hs]
   rw [str_cons]
   have hc : 1 + L.length ≤ 9223372036854775807 := by omega
   simp only [hc, if_true]
   exact i
theorem dec_ev (a : Int) (h0 : -9223372036854775808 ≤ a) (h1 : a < 9223372036854775808) : Ev (fun k => spec_Dec.f k a) ⟨(Lib.itoa a).toArray⟩ := by
 by_cases hz : a = 0
 ·subst hz
  simp only [spec_Dec.f, if_true]
  have e : Lib.itoa 0 = [48] := by simp [Lib.itoa, Lib.decDigits]
  rw [e]
  exact Ev.now _
 have i := dec_loop 20 a.natAbs [] (decide (a < 0)) (by omega) (by omega) (by intro h; simp at h; omega) (by simp)
 have hs : sgn (decide (a < 0)) a.natAbs = a := by
  by_cases hn : a < 0
  ·simp [sgn, hn]; omega
  ·simp [sgn, hn]; omega
 rw [hs, List.append_nil, itoa_digs hz] at i
 simp only [spec_Dec.f, if_neg hz]
 exact i
def Dr (b : List Int) (B : Nat) (o : Nat → Option (ByteArray × Int × Int)) : Prop := ∃ s i h, Ev o (s, i, h) ∧ s.size ≤ B ∧ 0 ≤ i ∧ i ≤ b.length
theorem Dr.now {b : List Int} {B : Nat} {s : ByteArray} {i h : Int} (h0 : 0 ≤ i) (h1 : i ≤ b.length) (hs : s.size ≤ B) : Dr b B (fun _ => some (s, i, h)) := ⟨s, i, h, Ev.now _, hs, h0, h1⟩
theorem Dr.succ {b : List Int} {B : Nat} {f : Nat → Option (ByteArray × Int × Int)} (h : Dr b B (fun k => f (k + 1))) : Dr b B f := by
 obtain ⟨s, i, q, e, r⟩ := h; exact ⟨s, i, q, Ev_succ e, r⟩
theorem Dr.ite {b : List Int} {B : Nat} {c : Prop} {d : Decidable c} {x y : Nat → Option (ByteArray × Int × Int)} (hx : c → Dr b B x) (hy : ¬ c → Dr b B y) : Dr b B (fun k => @_root_.ite _ c d (x k) (y k)) := by
 by_cases h : c
 ·simp only [if_pos h]; exact hx h
 ·simp only [if_neg h]; exact hy h
theorem Dr.pos {b : List Int} {B : Nat} {c : Prop} {d : Decidable c} {x : Nat → Option (ByteArray × Int × Int)} (h : c) (hx : Dr b B x) : Dr b B (fun k => @_root_.ite _ c d (x k) none) := by
 simp only [if_pos h]; exact hx
theorem Dr.bind {b : List Int} {B B0 : Nat} {o : Nat → Option (ByteArray × Int × Int)} {F : Nat → ByteArray × Int × Int → Option (ByteArray × Int × Int)} (h : Dr b B0 o)
  (k : ∀ (s : ByteArray) (i q : Int), s.size ≤ B0 → 0 ≤ i → i ≤ b.length → Dr b B (fun n => F n (s, i, q))) : Dr b B (fun n => (o n).bind (F n)) := by
 obtain ⟨s, i, q, e, z, a, c⟩ := h
 obtain ⟨s', i', q', e', r⟩ := k s i q z a c
 exact ⟨s', i', q', Ev_call e e', r⟩
theorem Dr.pick {b : List Int} {B : Nat} {x q : Int} {l : List ByteArray} {F : Nat → ByteArray × Int × Int → Option (ByteArray × Int × Int)} (hb : b.length ≤ 140737488355328) (h0 : 0 ≤ x) (h1 : x ≤ b.length) (m : Nat) (hl : 0 < l.length) (hm : ∀ s ∈ l, s.size ≤ m)
  (k : ∀ (s : ByteArray) (i q : Int), s.size ≤ m → 0 ≤ i → i ≤ b.length → Dr b B (fun n => F n (s, i, q))) : Dr b B (fun n => (spec_l1Pick.f b x q l).bind (F n)) := by
 obtain ⟨s, i, q', e, z, a, c⟩ := pick_some b hb x q h0 h1 l hl
 obtain ⟨s', i', q', e', r⟩ := k s i q' (hm s z) a c
 exact ⟨s', i', q', Ev_call (Ev_some_of e) e', r⟩
theorem Dr.below {b : List Int} {B : Nat} {x q n : Int} {F : Nat → Int × Int × Int → Option (ByteArray × Int × Int)} (hb : b.length ≤ 140737488355328) (h0 : 0 ≤ x) (h1 : x ≤ b.length)
  (k : ∀ v i q : Int, 0 ≤ v → (0 < n → v < n) → 0 ≤ i → i ≤ b.length → Dr b B (fun m => F m (v, i, q))) : Dr b B (fun m => (spec_l1Below.f b x q n).bind (F m)) := by
 obtain ⟨v, i, q', e, z, z2, _, a, c⟩ := below_some b hb x q h0 h1 n
 obtain ⟨s', i', q', e', r⟩ := k v i q' z z2 a c
 exact ⟨s', i', q', Ev_call (Ev_some_of e) e', r⟩
theorem Dr.once {b : List Int} {B : Nat} {x q n : Int} {F : Nat → Bool × Int × Int → Option (ByteArray × Int × Int)} (hb : b.length ≤ 140737488355328) (h0 : 0 ≤ x) (h1 : x ≤ b.length)
  (k : ∀ (v : Bool) (i q : Int), 0 ≤ i → i ≤ b.length → Dr b B (fun m => F m (v, i, q))) : Dr b B (fun m => (spec_l1Once.f b x q n).bind (F m)) := by
 obtain ⟨v, i, q', e, a, c⟩ := once_some b hb x q h0 h1 n
 obtain ⟨s', i', q', e', r⟩ := k v i q' a c
 exact ⟨s', i', q', Ev_call (Ev_some_of e) e', r⟩
theorem dec_small (n : Int) (h0 : 0 ≤ n) (h1 : n ≤ 100) : ∃ t, Ev (fun k => spec_Dec.f k n) t ∧ t.size ≤ 3 := by
 refine ⟨_, dec_ev n (by omega) (by omega), ?_⟩
 obtain ⟨m, rfl⟩ : ∃ m : Fin 101, n = (m.val : Int) := ⟨⟨n.toNat, by omega⟩, by simp; omega⟩
 revert m
 decide +kernel
theorem Dr.dec {b : List Int} {B : Nat} {n : Int} {F : Nat → ByteArray → Option (ByteArray × Int × Int)} (h0 : 0 ≤ n) (h1 : n ≤ 100)
  (k : ∀ t : ByteArray, t.size ≤ 3 → Dr b B (fun m => F m t)) : Dr b B (fun m => (spec_Dec.f m n).bind (F m)) := by
 obtain ⟨t, e, z⟩ := dec_small n h0 h1
 obtain ⟨s', i', q', e', r⟩ := k t z
 exact ⟨s', i', q', Ev_call e e', r⟩
theorem lsz (l : List UInt8) : (⟨l.toArray⟩ : ByteArray).size = l.length := by simp [ByteArray.size]
theorem rd_le {m : Nat} {l : List ByteArray} (h : ∀ s ∈ l, s.size ≤ m) (i : Int) : (rdOf ByteArray.empty l i).size ≤ m := by
 unfold rdOf
 by_cases hi : i.toNat < l.length
 ·rw [getD_at l _ _ hi]; exact h _ (List.getElem_mem _)
 ·rw [List.getD_eq_getElem?_getD, List.getElem?_eq_none (by omega)]; exact Nat.zero_le _
theorem expr_j2 (b : List Int) (hb : b.length ≤ 140737488355328) (E : Nat) (hE : 30 ≤ E) (sc : Bool) (s : ByteArray) (hs : s.size ≤ 1) (x q : Int) (h0 : 0 ≤ x) (h1 : x ≤ b.length) : Dr b E (fun k => spec_l4Expr.j2 k sc s b x q) := by
 refine Dr.succ ?_
 simp only [spec_l4Expr.j2]
 repeat' (first
  | refine Dr.pos (by ((try simp only [ByteArray.size_append, lsz, List.length_cons, List.length_nil]); omega)) ?_
  | refine Dr.ite (fun h_ => ?_) (fun h_ => ?_)
  | refine Dr.pick hb (by assumption) (by assumption) 20 (by decide) (by decide) (fun s_ i_ q_ z_ a_ b_ => ?_)
  | refine Dr.once hb (by assumption) (by assumption) (fun v_ i_ q_ a_ b_ => ?_)
  | refine Dr.now (by assumption) (by assumption) (by ((try simp only [ByteArray.size_append, lsz, List.length_cons, List.length_nil]); omega)))
theorem expr_j1 (b : List Int) (hb : b.length ≤ 140737488355328) (d E : Nat) (hd : d ≤ 2) (hE : 30 ≤ E) (hE2 : E ≤ 1000) (ih : ∀ d' : Nat, d = d' + 1 → ∀ (x q : Int) (sc : Bool), 0 ≤ x → x ≤ b.length → Dr b E (fun k => spec_l4Expr.f k b x q (d' : Int) sc))
  (sc : Bool) (s : ByteArray) (hs : s.size ≤ 1) (v : Int) (f : Bool) (x q : Int) (h0 : 0 ≤ x) (h1 : x ≤ b.length) : Dr b (3 * E) (fun k => spec_l4Expr.j1 k d sc s v f b x q) := by
 refine Dr.succ ?_
 simp only [spec_l4Expr.j1]
 have hj := expr_j2 b hb (3 * E) (by omega) sc s hs
 refine Dr.ite (fun hf => Dr.ite (fun hp => ?_) (fun hp => hj x q h0 h1)) (fun hf => Dr.ite (fun h7 => Dr.ite (fun hp => ?_) (fun hp => hj x q h0 h1)) (fun h7 => hj x q h0 h1))
 ·obtain ⟨d', rfl⟩ : ∃ d' : Nat, d = d' + 1 := ⟨d - 1, by omega⟩
  have hw : wrap64 (((d' + 1 : Nat) : Int) - 1) = (d' : Int) := by rw [w64 (by omega) (by omega)]; omega
  simp only [hw]
  have hi := ih d' rfl
  refine Dr.bind (hi x q sc h0 h1) (fun s1 i1 q1 z1 a1 b1 => ?_)
  refine Dr.pos (by ((try simp only [ByteArray.size_append, lsz, List.length_cons, List.length_nil]); omega)) ?_
  refine Dr.pick hb a1 b1 1 (by decide) (by decide) (fun s2 i2 q2 z2 a2 b2 => ?_)
  refine Dr.pos (by ((try simp only [ByteArray.size_append, lsz, List.length_cons, List.length_nil]); omega)) ?_
  refine Dr.pos (by ((try simp only [ByteArray.size_append, lsz, List.length_cons, List.length_nil]); omega)) ?_
  refine Dr.bind (hi i2 q2 sc a2 b2) (fun s3 i3 q3 z3 a3 b3 => ?_)
  refine Dr.pos (by ((try simp only [ByteArray.size_append, lsz, List.length_cons, List.length_nil]); omega)) ?_
  exact Dr.now a3 b3 (by ((try simp only [ByteArray.size_append, lsz, List.length_cons, List.length_nil]); omega))
 ·obtain ⟨d', rfl⟩ : ∃ d' : Nat, d = d' + 1 := ⟨d - 1, by omega⟩
  have hw : wrap64 (((d' + 1 : Nat) : Int) - 1) = (d' : Int) := by rw [w64 (by omega) (by omega)]; omega
  simp only [hw]
  refine Dr.bind (ih d' rfl x q sc h0 h1) (fun s1 i1 q1 z1 a1 b1 => ?_)
  refine Dr.pos (by ((try simp only [ByteArray.size_append, lsz, List.length_cons, List.length_nil]); omega)) ?_
  refine Dr.pos (by ((try simp only [ByteArray.size_append, lsz, List.length_cons, List.length_nil]); omega)) ?_
  exact Dr.now a1 b1 (by ((try simp only [ByteArray.size_append, lsz, List.length_cons, List.length_nil]); omega))
theorem expr_j0 (b : List Int) (hb : b.length ≤ 140737488355328) (d E : Nat) (hd : d ≤ 2) (hE : 30 ≤ E) (hE2 : E ≤ 1000) (ih : ∀ d' : Nat, d = d' + 1 → ∀ (x q : Int) (sc : Bool), 0 ≤ x → x ≤ b.length → Dr b E (fun k => spec_l4Expr.f k b x q (d' : Int) sc))
  (sc : Bool) (s : ByteArray) (hs : s.size ≤ 1) (v : Int) (f : Bool) (x q : Int) (h0 : 0 ≤ x) (h1 : x ≤ b.length) : Dr b (3 * E) (fun k => spec_l4Expr.j0 k d sc s v f b x q) := by
 refine Dr.succ ?_
 simp only [spec_l4Expr.j0]
 have hj := expr_j1 b hb d E hd hE hE2 ih sc s hs v
 refine Dr.ite (fun hf => ?_) (fun hf => ?_)
 ·refine Dr.below hb h0 h1 (fun v_ i_ q_ z_ y_ a_ b_ => ?_)
  refine Dr.dec z_ (by have := y_ (by omega); simp only; omega) (fun t_ z_ => ?_)
  exact Dr.now a_ b_ (by omega)
 ·repeat' (first
   | exact hj _ x q h0 h1
   | refine Dr.pos (by ((try simp only [ByteArray.size_append, lsz, List.length_cons, List.length_nil]); omega)) ?_
   | refine Dr.ite (fun h_ => ?_) (fun h_ => ?_)
   | refine Dr.now (by assumption) (by assumption) (by ((try simp only [ByteArray.size_append, lsz, List.length_cons, List.length_nil]); omega)))
theorem expr_step (b : List Int) (hb : b.length ≤ 140737488355328) (d E : Nat) (hd : d ≤ 2) (hE : 30 ≤ E) (hE2 : E ≤ 1000) (ih : ∀ d' : Nat, d = d' + 1 → ∀ (x q : Int) (sc : Bool), 0 ≤ x → x ≤ b.length → Dr b E (fun k => spec_l4Expr.f k b x q (d' : Int) sc))
  (x q : Int) (sc : Bool) (h0 : 0 ≤ x) (h1 : x ≤ b.length) : Dr b (3 * E) (fun k => spec_l4Expr.f k b x q d sc) := by
 refine Dr.succ ?_
 simp only [spec_l4Expr.f]
 refine Dr.pick hb h0 h1 1 (by decide) (by decide) (fun s1 i1 q1 z1 a1 b1 => ?_)
 refine Dr.below hb a1 b1 (fun v i2 q2 y1 y2 a2 b2 => ?_)
 exact Dr.ite (fun h => expr_j0 b hb d E hd hE hE2 ih sc s1 z1 v _ i2 q2 a2 b2) (fun h => expr_j0 b hb d E hd hE hE2 ih sc s1 z1 v _ i2 q2 a2 b2)
theorem expr_dr (b : List Int) (hb : b.length ≤ 140737488355328) (x q : Int) (sc : Bool) (h0 : 0 ≤ x) (h1 : x ≤ b.length) : Dr b 810 (fun k => spec_l4Expr.f k b x q 2 sc) :=
 expr_step b hb 2 270 (by omega) (by omega) (by omega) (fun d2 e2 x q sc h0 h1 => by
  obtain rfl : d2 = 1 := by omega
  exact expr_step b hb 1 90 (by omega) (by omega) (by omega) (fun d1 e1 x q sc h0 h1 => by
   obtain rfl : d1 = 0 := by omega
   exact expr_step b hb 0 30 (by omega) (by omega) (by omega) (fun d0 e0 => by omega) x q sc h0 h1) x q sc h0 h1) x q sc h0 h1
set_option maxRecDepth 20000 in
theorem line_j3 (b : List Int) (hb : b.length ≤ 140737488355328) (sc : Bool) (n e s : ByteArray) (hn : n.size ≤ 1) (he : e.size ≤ 810) (hs : s.size ≤ 3) (v : Int) (f : Bool) (x q : Int) (h0 : 0 ≤ x) (h1 : x ≤ b.length) : Dr b 900 (fun k => spec_l4Line.j3 k sc n e s v f b x q) := by
 refine Dr.succ ?_
 simp only [spec_l4Line.j3, Option.bind_some]
 repeat' (first
  | refine Dr.pos (by ((try simp only [ByteArray.size_append, lsz, List.length_cons, List.length_nil]); omega)) ?_
  | refine Dr.ite (fun h_ => ?_) (fun h_ => ?_)
  | refine Dr.pick hb (by assumption) (by assumption) 850 (by simp) (by simp only [List.mem_cons, List.not_mem_nil, or_false, forall_eq_or_imp, forall_eq, ByteArray.size_append, lsz, List.length_cons, List.length_nil]; omega) (fun s_ i_ q_ z_ a_ b_ => ?_)
  | refine Dr.once hb (by assumption) (by assumption) (fun v_ i_ q_ a_ b_ => ?_)
  | refine Dr.now (by assumption) (by assumption) (by ((try simp only [ByteArray.size_append, lsz, List.length_cons, List.length_nil]); omega)))
set_option maxRecDepth 20000 in
theorem line_j2 (b : List Int) (hb : b.length ≤ 140737488355328) (sc : Bool) (n e s : ByteArray) (hn : n.size ≤ 1) (he : e.size ≤ 810) (hs : s.size ≤ 3) (v : Int) (f : Bool) (x q : Int) (h0 : 0 ≤ x) (h1 : x ≤ b.length) : Dr b 900 (fun k => spec_l4Line.j2 k sc n e s v f b x q) := by
 refine Dr.succ ?_
 simp only [spec_l4Line.j2, Option.bind_some]
 repeat' (first
  | exact line_j3 b hb sc n e s hn he hs _ _ _ _ (by assumption) (by assumption)
  | refine Dr.pos (by ((try simp only [ByteArray.size_append, lsz, List.length_cons, List.length_nil]); omega)) ?_
  | refine Dr.ite (fun h_ => ?_) (fun h_ => ?_)
  | refine Dr.pick hb (by assumption) (by assumption) 20 (by decide) (by decide) (fun s_ i_ q_ z_ a_ b_ => ?_)
  | refine Dr.once hb (by assumption) (by assumption) (fun v_ i_ q_ a_ b_ => ?_)
  | refine Dr.now (by assumption) (by assumption) (by ((try simp only [ByteArray.size_append, lsz, List.length_cons, List.length_nil]); omega)))
theorem line_dr (b : List Int) (hb : b.length ≤ 140737488355328) (x q : Int) (sc : Bool) (h0 : 0 ≤ x) (h1 : x ≤ b.length) : Dr b 900 (fun k => spec_l4Line.f k b x q sc) := by
 simp only [spec_l4Line.f]
 refine Dr.pick hb h0 h1 1 (by decide) (by decide) (fun s1 i1 q1 z1 a1 b1 => ?_)
 refine Dr.bind (expr_dr b hb i1 q1 sc a1 b1) (fun s2 i2 q2 z2 a2 b2 => ?_)
 refine Dr.pick hb a2 b2 3 (by decide) (by decide) (fun s3 i3 q3 z3 a3 b3 => ?_)
 refine Dr.below hb a3 b3 (fun v i4 q4 y1 y2 a4 b4 => ?_)
 have j1 : ∀ v : Int, Dr b 900 (fun k => spec_l4Line.j1 k sc s1 s2 s3 v b i4 q4) := fun v => by
  refine Dr.succ ?_
  simp only [spec_l4Line.j1]
  exact Dr.ite (fun _ => line_j2 b hb sc s1 s2 s3 z1 z2 z3 _ _ _ _ a4 b4) (fun _ => Dr.ite (fun _ => line_j2 b hb sc s1 s2 s3 z1 z2 z3 _ _ _ _ a4 b4) (fun _ => line_j2 b hb sc s1 s2 s3 z1 z2 z3 _ _ _ _ a4 b4))
 have j0 : ∀ f : Bool, Dr b 900 (fun k => spec_l4Line.j0 k sc s1 s2 s3 v f b i4 q4) := fun f => by
  refine Dr.succ ?_
  simp only [spec_l4Line.j0]
  exact Dr.ite (fun _ => j1 _) (fun _ => j1 _)
 exact Dr.ite (fun _ => j0 _) (fun _ => j0 _)
theorem four_le : ∀ s ∈ ([(⟨#[97]⟩ : ByteArray), (⟨#[98]⟩ : ByteArray), (⟨#[99]⟩ : ByteArray), (⟨#[100]⟩ : ByteArray)] : List ByteArray), s.size ≤ 1 := by decide
set_option maxRecDepth 20000 in
theorem seven_dr (b : List Int) (hb : b.length ≤ 140737488355328) (x q : Int) (h0 : 0 ≤ x) (h1 : x ≤ b.length) (m n : Int) (hm : 0 ≤ m) (hm4 : m < 4) (hn : 1 ≤ n) (hn4 : n ≤ 4) : Dr b 950 (fun k => spec_l7Line.f k b x q m n) := by
 have hr := rd_le four_le
 simp only [spec_l7Line.f, Option.bind_some]
 refine Dr.below hb h0 h1 (fun v i1 q1 y1 y2 a1 b1 => ?_)
 have y3 := y2 (by omega)
 simp only
 generalize ho : rdOf ByteArray.empty ([(⟨#[97]⟩ : ByteArray), (⟨#[98]⟩ : ByteArray), (⟨#[99]⟩ : ByteArray), (⟨#[100]⟩ : ByteArray)] : List ByteArray) v = o
 generalize hme : rdOf ByteArray.empty ([(⟨#[97]⟩ : ByteArray), (⟨#[98]⟩ : ByteArray), (⟨#[99]⟩ : ByteArray), (⟨#[100]⟩ : ByteArray)] : List ByteArray) m = me
 have zo : o.size ≤ 1 := ho ▸ hr v
 have zm : me.size ≤ 1 := hme ▸ hr m
 clear ho hme
 refine Dr.pos y1 (Dr.pos (by simp only [List.length_cons, List.length_nil]; omega) (Dr.pos hm (Dr.pos (by simp only [List.length_cons, List.length_nil]; omega) ?_)))
 refine Dr.once hb a1 b1 (fun u i2 q2 a2 b2 => ?_)
 refine Dr.ite (fun _ => ?_) (fun _ => ?_)
 ·refine Dr.bind (line_dr b hb i2 q2 false a2 b2) (fun s3 i3 q3 z3 a3 b3 => ?_)
  refine Dr.pos (by ((try simp only [ByteArray.size_append, lsz, List.length_cons, List.length_nil]); omega)) ?_
  exact Dr.now a3 b3 (by ((try simp only [ByteArray.size_append, lsz, List.length_cons, List.length_nil]); omega))
 ·repeat' (first
   | refine Dr.pos (by ((try simp only [ByteArray.size_append, lsz, List.length_cons, List.length_nil]); omega)) ?_
   | refine Dr.ite (fun h_ => ?_) (fun h_ => ?_)
   | refine Dr.below hb (by assumption) (by assumption) (fun v_ i_ q_ y_ x_ a_ b_ => ?_)
   | refine Dr.pick hb (by assumption) (by assumption) 60 (by simp) (by simp only [List.mem_cons, List.not_mem_nil, or_false, forall_eq_or_imp, forall_eq, ByteArray.size_append, lsz, List.length_cons, List.length_nil]; omega) (fun s_ i_ q_ z_ a_ b_ => ?_)
   | refine Dr.once hb (by assumption) (by assumption) (fun v_ i_ q_ a_ b_ => ?_)
   | refine Dr.now (by assumption) (by assumption) (by ((try simp only [ByteArray.size_append, lsz, List.length_cons, List.length_nil]); omega)))
def Ex {α : Type} (o : Nat → Option α) (R : α → Prop) : Prop := ∃ r, Ev o r ∧ R r
theorem Ex.now {α : Type} {R : α → Prop} {r : α} (h : R r) : Ex (fun _ => some r) R := ⟨r, Ev.now _, h⟩
theorem Ex.succ {α : Type} {R : α → Prop} {f : Nat → Option α} (h : Ex (fun k => f (k + 1)) R) : Ex f R := by obtain ⟨r, e, q⟩ := h; exact ⟨r, Ev_succ e, q⟩
theorem Ex.ite {α : Type} {R : α → Prop} {c : Prop} {d : Decidable c} {x y : Nat → Option α} (hx : c → Ex x R) (hy : ¬ c → Ex y R) : Ex (fun k => @_root_.ite _ c d (x k) (y k)) R := by
 by_cases h : c
 ·simp only [if_pos h]; exact hx h
 ·simp only [if_neg h]; exact hy h
theorem Ex.pos {α : Type} {R : α → Prop} {c : Prop} {d : Decidable c} {x : Nat → Option α} (h : c) (hx : Ex x R) : Ex (fun k => @_root_.ite _ c d (x k) none) R := by
 simp only [if_pos h]; exact hx
theorem Ex.bind {α β : Type} {R : α → Prop} {R0 : β → Prop} {o : Nat → Option β} {F : Nat → β → Option α} (h : Ex o R0) (k : ∀ r, R0 r → Ex (fun n => F n r) R) : Ex (fun n => (o n).bind (F n)) R := by
 obtain ⟨r, e, q⟩ := h
 obtain ⟨r', e', q'⟩ := k r q
 exact ⟨r', Ev_call e e', q'⟩
theorem Ex.line {α : Type} {R : α → Prop} {b : List Int} {B : Nat} {o : Nat → Option (ByteArray × Int × Int)} {F : Nat → ByteArray × Int × Int → Option α} (h : Dr b B o)
  (k : ∀ (s : ByteArray) (i q : Int), s.size ≤ B → 0 ≤ i → i ≤ b.length → Ex (fun n => F n (s, i, q)) R) : Ex (fun n => (o n).bind (F n)) R := by
 obtain ⟨s, i, q, e, z, a, c⟩ := h
 obtain ⟨r', e', q'⟩ := k s i q z a c
 exact ⟨r', Ev_call e e', q'⟩
theorem Ex.below {α : Type} {R : α → Prop} {b : List Int} {x q n : Int} {F : Nat → Int × Int × Int → Option α} (hb : b.length ≤ 140737488355328) (h0 : 0 ≤ x) (h1 : x ≤ b.length)
  (k : ∀ v i q : Int, 0 ≤ v → (0 < n → v < n) → 0 ≤ i → i ≤ b.length → Ex (fun m => F m (v, i, q)) R) : Ex (fun m => (spec_l1Below.f b x q n).bind (F m)) R := by
 obtain ⟨v, i, q', e, z, z2, _, a, c⟩ := below_some b hb x q h0 h1 n
 obtain ⟨r', e', q''⟩ := k v i q' z z2 a c
 exact ⟨r', Ev_call (Ev_some_of e) e', q''⟩
theorem Ex.once {α : Type} {R : α → Prop} {b : List Int} {x q n : Int} {F : Nat → Bool × Int × Int → Option α} (hb : b.length ≤ 140737488355328) (h0 : 0 ≤ x) (h1 : x ≤ b.length)
  (k : ∀ (v : Bool) (i q : Int), 0 ≤ i → i ≤ b.length → Ex (fun m => F m (v, i, q)) R) : Ex (fun m => (spec_l1Once.f b x q n).bind (F m)) R := by
 obtain ⟨v, i, q', e, a, c⟩ := once_some b hb x q h0 h1 n
 obtain ⟨r', e', q''⟩ := k v i q' a c
 exact ⟨r', Ev_call (Ev_some_of e) e', q''⟩
theorem Ex.dec {α : Type} {R : α → Prop} {n : Int} {F : Nat → ByteArray → Option α} (h0 : 0 ≤ n) (h1 : n ≤ 100) (k : ∀ t : ByteArray, t.size ≤ 3 → Ex (fun m => F m t) R) : Ex (fun m => (spec_Dec.f m n).bind (F m)) R := by
 obtain ⟨t, e, z⟩ := dec_small n h0 h1
 obtain ⟨r', e', q'⟩ := k t z
 exact ⟨r', Ev_call e e', q'⟩
theorem mem_push {α : Type} {Q : α → Prop} {l : List α} {z : α} (h : ∀ y ∈ l, Q y) (hz : Q z) : ∀ y ∈ l ++ [z], Q y := by
 intro y hy
 rcases List.mem_append.1 hy with hy | hy
 ·exact h y hy
 ·obtain rfl := List.mem_singleton.1 hy; exact hz
def FewF (b : List Int) (r : List SFl × Int × Int) : Prop := r.1.length ≤ 4 ∧ (∀ y ∈ r.1, y.f0.size ≤ 2 ∧ y.f1.size ≤ 10000) ∧ 0 ≤ r.2.1 ∧ r.2.1 ≤ b.length
set_option maxRecDepth 20000 in
theorem files_l1 (b : List Int) (hb : b.length ≤ 140737488355328) (P : List ByteArray) (n i : Nat) (hn : n ≤ 4) (hi : i < n) (out : List SFl) (ho : out.length = i) (hy : ∀ y ∈ out, y.f0.size ≤ 2 ∧ y.f1.size ≤ 10000)
  (ih : ∀ (o : List SFl) (x q : Int), o.length = i + 1 → (∀ y ∈ o, y.f0.size ≤ 2 ∧ y.f1.size ≤ 10000) → 0 ≤ x → x ≤ b.length → Ex (fun k => spec_l7Files.l0 k 2 P n o ((i + 1 : Nat) : Int) b x q) (FewF b))
  (me : ByteArray) (hm : me.size ≤ 1) (c : Nat) : ∀ (top : ByteArray) (x q : Int), top.size + 950 * c ≤ 5000 → 0 ≤ x → x ≤ b.length → Ex (fun k => spec_l7Files.l1 k 2 P n out i me top c b x q) (FewF b) := by
 induction c with
 | succ c ihc =>
  intro top x q hz h0 h1
  refine Ex.succ ?_
  have c1 : ((c + 1 : Nat) : Int) > 0 := by omega
  have hw : wrap64 (((c + 1 : Nat) : Int) - 1) = (c : Int) := by rw [w64 (by omega) (by omega)]; omega
  simp only [spec_l7Files.l1, if_pos c1, hw]
  refine Ex.line (seven_dr b hb x q h0 h1 i n (by omega) (by omega) (by omega) (by omega)) (fun s i1 q1 z1 a1 b1 => ?_)
  refine Ex.pos (by simp only; omega) ?_
  exact ihc _ _ _ (by rw [ByteArray.size_append]; simp only; omega) a1 b1
 | zero =>
  intro top x q hz h0 h1
  refine Ex.succ ?_
  have c1 : ¬ ((0 : Nat) : Int) > 0 := by omega
  have hw : wrap64 ((i : Int) + 1) = ((i + 1 : Nat) : Int) := by rw [w64 (by omega) (by omega)]; omega
  have hv : wrap64 (10 * (i : Int)) = 10 * (i : Int) := w64 (by omega) (by omega)
  simp only [spec_l7Files.l1, if_neg c1, hw, hv]
  repeat' (first
   | (with_reducible refine Ex.pos ?h_ ?_; (case h_ => ((try simp only [ByteArray.size_append, lsz, List.length_cons, List.length_nil]); omega)))
   | with_reducible refine Ex.ite (fun h_ => ?_) (fun h_ => ?_)
   | (with_reducible refine Ex.dec ?h0_ ?h1_ (fun t_ z_ => ?_); (case h0_ => omega); (case h1_ => omega))
   | with_reducible refine Ex.once hb h0 h1 (fun v_ i_ q_ a_ b_ => ?_)
   | (with_reducible refine ih _ _ _ ?h0_ (mem_push hy ?h1_) ?h2_ ?h3_; (case h0_ => simp only [List.length_append, List.length_cons, List.length_nil, ho]); (case h1_ => exact ⟨by ((try simp only [ByteArray.size_append, lsz, List.length_cons, List.length_nil]); omega), by ((try simp only [ByteArray.size_append, lsz, List.length_cons, List.length_nil]); omega)⟩); (case h2_ => assumption); (case h3_ => assumption)))
theorem files_l0 (b : List Int) (hb : b.length ≤ 140737488355328) (P : List ByteArray) (hP : P.length = 4) (hz : ∀ s ∈ P, s.size ≤ 1) (n : Nat) (hn : n ≤ 4) (d : Nat) : ∀ (i : Nat) (out : List SFl) (x q : Int), i + d = n → out.length = i → (∀ y ∈ out, y.f0.size ≤ 2 ∧ y.f1.size ≤ 10000) → 0 ≤ x → x ≤ b.length →
  Ex (fun k => spec_l7Files.l0 k 2 P n out i b x q) (FewF b) := by
 induction d with
 | zero =>
  intro i out x q hi ho hy h0 h1
  refine Ex.succ ?_
  simp only [spec_l7Files.l0, if_neg (show ¬ (i : Int) < (n : Int) by omega)]
  exact Ex.now ⟨by simp only; omega, hy, h0, h1⟩
 | succ d ihd =>
  intro i out x q hi ho hy h0 h1
  refine Ex.succ ?_
  have hw : wrap64 ((2 : Int) + 1) = 3 := by rw [w64 (by omega) (by omega)]; rfl
  simp only [spec_l7Files.l0, if_pos (show (i : Int) < (n : Int) by omega), if_pos (show 0 ≤ (i : Int) by omega), if_pos (show (i : Int) < (P.length : Int) by omega), hw]
  refine Ex.below hb h0 h1 (fun v i1 q1 y1 y2 a1 b1 => ?_)
  have y3 := y2 (by omega)
  obtain ⟨c, rfl⟩ : ∃ c : Nat, v = (c : Int) := ⟨v.toNat, by omega⟩
  exact files_l1 b hb P n i hn (by omega) out ho hy (fun o x q e1 e2 e3 e4 => ihd (i + 1) o x q (by omega) e1 e2 e3 e4) _ (rd_le hz i) c _ _ _ (by simp only [lsz, List.length_nil]; omega) a1 b1
theorem files_ex (b : List Int) (hb : b.length ≤ 140737488355328) (x q : Int) (h0 : 0 ≤ x) (h1 : x ≤ b.length) : Ex (fun k => spec_l7Files.f k b x q 2) (FewF b) := by
 simp only [spec_l7Files.f]
 refine Ex.below hb h0 h1 (fun v i1 q1 y1 y2 a1 b1 => ?_)
 have y3 := y2 (by omega)
 have hw : wrap64 (1 + v) = ((1 + v.toNat : Nat) : Int) := by rw [w64 (by omega) (by omega)]; omega
 simp only [hw]
 exact files_l0 b hb _ rfl four_le (1 + v.toNat) (by omega) (1 + v.toNat) 0 [] i1 q1 (by omega) rfl (fun y hy => by cases hy) a1 b1
theorem cleanTo_size (s : ByteArray) : (cleanTo s).size ≤ 40 := by
 unfold cleanTo
 split
 ·next h => exact (isP_size (clean_fix h).1).2
 ·decide
theorem ok_loop (b : List Int) (hb : b.length ≤ 140737488355328) (P : List ByteArray) (hP : P.length ≤ 10) (hz : ∀ s ∈ P, s.size ≤ 41) (d : Nat) : ∀ (i : Nat) (o : List SFl) (x q : Int), i + d = P.length → o.length ≤ i → (∀ y ∈ o, y.f0.size ≤ 41 ∧ y.f1.size ≤ 41) → 0 ≤ x → x ≤ b.length →
  Ex (fun k => spec_DrawFilesOk.l0 k o P i b x q) (fun r => r.length ≤ 11 ∧ ∀ y ∈ r, y.f0.size ≤ 41 ∧ y.f1.size ≤ 41) := by
 induction d with
 | zero =>
  intro i o x q hi ho hy h0 h1
  refine Ex.succ ?_
  simp only [spec_DrawFilesOk.l0, if_neg (show ¬ (i : Int) < (P.length : Int) by omega)]
  refine Ex.once hb h0 h1 (fun v i1 q1 a1 b1 => ?_)
  refine Ex.ite (fun _ => ?_) (fun _ => Ex.now ⟨by omega, hy⟩)
  obtain ⟨s, i2, q2, e, z, a2, b2⟩ := l2some_some b hb i1 q1 a1 b1
  refine Ex.bind (R0 := fun r => r.1.size ≤ 41) ⟨_, Ev_some_of e, z⟩ (fun r hr => ?_)
  refine Ex.pos (by omega) (Ex.now ⟨by rw [List.length_append]; simp only [List.length_cons, List.length_nil]; omega, mem_push hy ⟨hr, by simp only [lsz, List.length_nil]; omega⟩⟩)
 | succ d ih =>
  intro i o x q hi ho hy h0 h1
  refine Ex.succ ?_
  have hw : wrap64 ((i : Int) + 1) = ((i + 1 : Nat) : Int) := by rw [w64 (by omega) (by omega)]; omega
  simp only [spec_DrawFilesOk.l0, if_pos (show (i : Int) < (P.length : Int) by omega), if_pos (show 0 ≤ (i : Int) by omega), hw]
  refine Ex.once hb h0 h1 (fun v i1 q1 a1 b1 => ?_)
  refine Ex.ite (fun _ => ih (i + 1) o i1 q1 (by omega) (by omega) hy a1 b1) (fun _ => ?_)
  obtain ⟨s, i2, q2, e, z, a2, b2⟩ := text_ev b hb i1 q1 a1 b1 5 (by omega) (by omega)
  refine Ex.bind (R0 := fun r => r.1.size ≤ 41 ∧ 0 ≤ r.2.1 ∧ r.2.1 ≤ (b.length : Int)) ⟨_, e, ⟨by simp only; omega, a2, b2⟩⟩ (fun r hr => ?_)
  exact Ex.pos (by omega) (ih (i + 1) _ _ _ (by omega) (by rw [List.length_append]; simp only [List.length_cons, List.length_nil]; omega) (mem_push hy ⟨rd_le hz i, hr.1⟩) hr.2.1 hr.2.2)
def FewS (r : List SFl) : Prop := r.length ≤ 11 ∧ ∀ y ∈ r, y.f0.size ≤ 41 ∧ y.f1.size ≤ 41
theorem draw_ok (l : List Int) (hl : l.length ≤ 140737488355328) : Ex (fun k => spec_DrawFilesOk.f k l) FewS := by
 simp only [spec_DrawFilesOk.f]
 obtain ⟨h, e⟩ := new_ev l hl
 refine Ex.bind (R0 := fun r => r.1 = l ∧ r.2.1 = 0) ⟨_, e, rfl, rfl⟩ (fun r hr => ?_)
 obtain ⟨b, x, q⟩ := r
 obtain ⟨hb_, hx_⟩ := hr
 simp only at hb_ hx_
 subst hb_ hx_
 try dsimp only
 exact ok_loop b hl _ (by decide) (by decide) 5 0 [] 0 q rfl (Nat.le_refl _) (fun y hy => by cases hy) (Int.le_refl _) (by omega)
theorem draw_show (l : List Int) (hl : l.length ≤ 140737488355328) : Ex (fun k => spec_DrawShowFiles.f k l) FewS := by
 simp only [spec_DrawShowFiles.f]
 exact Ex.bind (draw_ok l hl) (fun r hr => Ex.now hr)
theorem show_few (L : List SFl) (hl : L.length ≤ 8) (hs : ∀ x ∈ L, x.f0.size ≤ 10000 ∧ x.f1.size ≤ 10000) : (showTo L).size ≤ 170000 := by
 unfold showTo
 split
 ·have hg : ∀ (M : List SFl) (a : ByteArray), (∀ x ∈ M, x.f0.size ≤ 10000 ∧ x.f1.size ≤ 10000) → (M.foldl addF a).size ≤ a.size + M.length * 20014 := by
   intro M
   induction M with
   | nil => intro a _; simp
   | cons x M ih =>
    intro a h
    have hx := h x (List.mem_cons_self ..)
    have h2 := ih (addF a x) (fun y hy => h y (List.mem_cons_of_mem _ hy))
    have e1 : (pieceB x.f0).size ≤ x.f0.size + 7 := by
     unfold pieceB; rw [ByteArray.size_append]; have := var_size x.f0.size (by omega); omega
    have e2 : (pieceB x.f1).size ≤ x.f1.size + 7 := by
     unfold pieceB; rw [ByteArray.size_append]; have := var_size x.f1.size (by omega); omega
    have e3 : (addF a x).size = a.size + ((pieceB x.f0).size + (pieceB x.f1).size) := by unfold addF; rw [ByteArray.size_append, ByteArray.size_append]
    rw [List.foldl_cons, List.length_cons]
    omega
  have h1 := hg L ((⟨#[102]⟩ : ByteArray) ++ strOfNums (varL L.length)) hs
  have h2 := (show_start L.length hl).1
  omega
 ·simp only [lsz, List.length_nil]; omega
theorem draw_read (l : List Int) (hl : l.length ≤ 1048576) : Ex (fun k => spec_DrawReadFiles.f k l) (fun t => t.size ≤ 600000) := by
 simp only [spec_DrawReadFiles.f]
 obtain ⟨h, e⟩ := new_ev l (by omega)
 refine Ex.bind (R0 := fun r => r.1 = l ∧ r.2.1 = 0) ⟨_, e, rfl, rfl⟩ (fun r hr => ?_)
 obtain ⟨b, x, q⟩ := r
 obtain ⟨hb_, hx_⟩ := hr
 simp only at hb_ hx_
 subst hb_ hx_
 try dsimp only
 refine Ex.bind (files_ex b (by omega) 0 q (Int.le_refl _) (by omega)) (fun r hr => ?_)
 obtain ⟨o, i, q1⟩ := r
 try dsimp only
 obtain ⟨z1, z2, a1, b1⟩ := hr
 simp only at z1 z2 a1 b1
 have es := show_spec o (by omega) (fun y hy => by have := z2 y hy; omega)
 have hz := show_few o (by omega) (fun y hy => by have := z2 y hy; omega)
 refine Ex.bind (R0 := fun t => t.size ≤ 170000) ⟨_, es, hz⟩ (fun t ht => ?_)
 refine Ex.once (by omega) a1 b1 (fun v i2 q2 a2 b2 => ?_)
 refine Ex.ite (fun _ => ?_) (fun _ => Ex.now (by omega))
 obtain ⟨s, i3, q3, e3, z3, a3, b3⟩ := spoil_ev b (by omega) i2 q2 a2 b2 t (by omega)
 exact Ex.bind (R0 := fun r => r.1.size ≤ 600000) ⟨_, e3, by simp only; omega⟩ (fun r hr => Ex.now hr)
theorem draw_put (l : List Int) (hl : l.length ≤ 1048576) : Ex (fun k => spec_DrawPutFile.f k l) (fun r => FewS r.1 ∧ r.2.1.size ≤ 41 ∧ r.2.2.size ≤ 41) := by
 simp only [spec_DrawPutFile.f]
 obtain ⟨h, e⟩ := new_ev l (by omega)
 refine Ex.bind (R0 := fun r => r.1 = l ∧ r.2.1 = 0) ⟨_, e, rfl, rfl⟩ (fun r hr => ?_)
 obtain ⟨b, x, q⟩ := r
 obtain ⟨hb_, hx_⟩ := hr
 simp only at hb_ hx_
 subst hb_ hx_
 try dsimp only
 obtain ⟨s1, i1, q1, e1, z1, a1, b1⟩ := l2some_some b (by omega) 0 q (Int.le_refl _) (by omega)
 refine Ex.bind (R0 := fun r => r.1.size ≤ 41 ∧ 0 ≤ r.2.1 ∧ r.2.1 ≤ (b.length : Int)) ⟨_, Ev_some_of e1, z1, a1, b1⟩ (fun r hr => ?_)
 obtain ⟨s, i2, q2⟩ := r
 obtain ⟨z2, a2, b2⟩ := hr
 simp only at z2 a2 b2
 obtain ⟨t1, i3, q3, e3, z3, a3, b3⟩ := text_ev b (by omega) i2 q2 a2 b2 4 (by omega) (by omega)
 refine Ex.bind (R0 := fun r => r.1.size ≤ 41 ∧ 0 ≤ r.2.1 ∧ r.2.1 ≤ (b.length : Int)) ⟨_, e3, ⟨by simp only; omega, a3, b3⟩⟩ (fun r hr => ?_)
 obtain ⟨t, i4, q4⟩ := r
 obtain ⟨z4, a4, b4⟩ := hr
 simp only at z4 a4 b4
 refine Ex.once (by omega) a4 b4 (fun v i5 q5 a5 b5 => ?_)
 have hw : wrap64 ((b.length : Int) / 2) = ((b.length / 2 : Nat) : Int) := by rw [w64 (by omega) (by omega)]; omega
 simp only [hw]
 have hdr := draw_ok (b.drop ((b.length / 2 : Nat) : Int).toNat) (by rw [List.length_drop]; omega)
 refine Ex.ite (fun _ => ?_) (fun _ => ?_)
 ·refine Ex.bind (R0 := fun p => p.size ≤ 41) ⟨_, clean_spec s (by omega), ?_⟩ (fun p hp => ?_)
  ·have := cleanTo_size s; omega
  ·exact Ex.pos (by omega) (Ex.pos (by omega) (Ex.bind hdr (fun r hr => Ex.now ⟨hr, hp, z4⟩)))
 ·exact Ex.pos (by omega) (Ex.pos (by omega) (Ex.bind hdr (fun r hr => Ex.now ⟨hr, z2, z4⟩)))
theorem bA (a b c : ByteArray) : (a ++ b) ++ c = a ++ (b ++ c) := by apply data_inj; simp only [data_app, List.append_assoc]
theorem ext_mid (a t r : ByteArray) : (a ++ (t ++ r)).extract a.size (a.size + t.size) = t := by
 apply B_inj.1
 rw [B_ext, B_app, B_app, List.drop_take, ← B_len a, List.drop_left, ← B_len t]
 rw [show (bytesOf a).length + (bytesOf t).length - (bytesOf a).length = (bytesOf t).length by omega]
 exact List.take_left
theorem ext_end (a r : ByteArray) : (a ++ r).extract a.size (a ++ r).size = r := by
 apply B_inj.1
 rw [B_ext, ← B_len (a ++ r), List.take_length, B_app, ← B_len a, List.drop_left]
theorem readV_var (n : Nat) (hn : n ≤ 562949953421311) (R : ByteArray) : readV (strOfNums (varL n) ++ R) = ((n : Int), (((varL n).length : Nat) : Int)) := by
 obtain ⟨p, x, h1, h2, h3, h4, h5, h6⟩ := varL_form n
 have hlen := varL_len n 6 (by omega)
 have hv := valL_varL n
 rw [h1] at hlen hv
 rw [List.length_append, List.length_cons, List.length_nil] at hlen
 have hB : bytesOf (strOfNums (varL n) ++ R) = p ++ x :: bytesOf R := by
  rw [B_app, B_str _ (varL_range n), h1, List.append_assoc, List.singleton_append]
 unfold readV
 rw [rvL_var (bytesOf (strOfNums (varL n) ++ R)) p x (bytesOf R) hB (fun y hy => (h4 y hy).1) h3 h5 7 0 (by omega) (Nat.zero_le _), hv, h1, List.length_append, List.length_cons, List.length_nil]
theorem takeP_piece (a t R : ByteArray) (ht : t.size ≤ 2097152) : takeP (a ++ (pieceB t ++ R)) a.size = some (t, (a ++ pieceB t).size) := by
 have hE : (a ++ (pieceB t ++ R)).extract a.size (a ++ (pieceB t ++ R)).size = strOfNums (varL t.size) ++ (t ++ R) := by
  rw [ext_end]; unfold pieceB; rw [bA]
 have hl : (strOfNums (varL t.size)).size = (varL t.size).length := str_size _
 have hp := var_size t.size ht
 have hpos : 1 ≤ (varL t.size).length := by
  obtain ⟨p, x, h1, _⟩ := varL_form t.size
  rw [h1, List.length_append, List.length_cons]; omega
 have hs1 : (a ++ (pieceB t ++ R)).size = a.size + ((varL t.size).length + t.size + R.size) := by
  rw [ByteArray.size_append, ByteArray.size_append]; unfold pieceB; rw [ByteArray.size_append, hl]
 have hx := ext_mid (a ++ strOfNums (varL t.size)) t R
 have hq : (a ++ strOfNums (varL t.size)) ++ (t ++ R) = a ++ (pieceB t ++ R) := by unfold pieceB; simp only [bA]
 rw [hq, ByteArray.size_append, hl] at hx
 unfold takeP
 rw [hE, readV_var t.size (by omega)]
 simp only [Int.toNat_natCast]
 rw [if_neg (by omega), if_neg (by rw [hs1]; omega), hx]
 congr 2
 rw [ByteArray.size_append]; unfold pieceB; rw [ByteArray.size_append, hl]; omega
theorem parseP_show (L : List SFl) : ∀ (a : ByteArray) (out : List SFl), (∀ x ∈ L, x.f0.size ≤ 2097152 ∧ x.f1.size ≤ 2097152) → parseP (L.foldl addF a) L.length a.size out = some (out ++ L, (L.foldl addF a).size) := by
 induction L with
 | nil => intro a out _; simp [parseP]
 | cons x L ih =>
  intro a out hs
  have hx := hs x (List.mem_cons_self ..)
  obtain ⟨r, hr⟩ := foldl_front L (addF a x)
  have hS : L.foldl addF (addF a x) = addF a x ++ ⟨r.toArray⟩ := by
   apply data_inj; rw [hr]; simp only [data_app]
  have e1 : takeP (L.foldl addF (addF a x)) a.size = some (x.f0, (a ++ pieceB x.f0).size) := by
   rw [hS]; unfold addF; rw [bA, bA]; exact takeP_piece a x.f0 _ hx.1
  have e2 : takeP (L.foldl addF (addF a x)) (a ++ pieceB x.f0).size = some (x.f1, (addF a x).size) := by
   rw [hS]; unfold addF; rw [← bA a, bA (a ++ pieceB x.f0)]; exact takeP_piece (a ++ pieceB x.f0) x.f1 _ hx.2
  rw [List.foldl_cons, List.length_cons]
  simp only [parseP, e1, e2]
  have hq := ih (addF a x) (out ++ [(⟨x.f0, x.f1⟩ : SFl)]) (fun y hy => hs y (List.mem_cons_of_mem _ hy))
  rw [hq, List.append_assoc, List.singleton_append]
theorem read_shown (L : List SFl) (hs : ∀ x ∈ L, x.f0.size ≤ 2097152 ∧ x.f1.size ≤ 2097152) : readTo (showTo L) = if filesOk L = true then (L, true) else ([], false) := by
 by_cases hf : filesOk L = true
 ·rw [if_pos hf]
  have h8 := ((filesOk_iff L).1 hf).1
  have hshow : showTo L = L.foldl addF (⟨#[102]⟩ ++ strOfNums (varL L.length)) := by unfold showTo; rw [if_pos hf]
  obtain ⟨r, hr⟩ := foldl_front L (⟨#[102]⟩ ++ strOfNums (varL L.length))
  have hS : showTo L = (⟨#[102]⟩ : ByteArray) ++ (strOfNums (varL L.length) ++ ⟨r.toArray⟩) := by
   rw [hshow, ← bA]; apply data_inj; rw [hr]; simp only [data_app]
  have hb0 : bt (showTo L) 0 = 102 := by
   rw [bt_B]; unfold bytesOf; rw [hS, data_app]; rfl
  have hz : ¬ (showTo L).size = 0 := by rw [hS, ByteArray.size_append]; simp only [lsz, List.length_cons, List.length_nil]; omega
  have hE : (showTo L).extract 1 (showTo L).size = strOfNums (varL L.length) ++ ⟨r.toArray⟩ := by
   rw [hS]; exact ext_end (⟨#[102]⟩ : ByteArray) _
  have hR := readV_var L.length (by omega) ⟨r.toArray⟩
  have hpos : 1 ≤ (varL L.length).length := by
   obtain ⟨p, x, h1, _⟩ := varL_form L.length
   rw [h1, List.length_append, List.length_cons]; omega
  have hp := parseP_show L (⟨#[102]⟩ ++ strOfNums (varL L.length)) [] hs
  rw [← hshow, ByteArray.size_append, str_size, List.nil_append] at hp
  unfold readTo
  rw [hE, hR]
  simp only [Int.toNat_natCast]
  rw [if_neg (by intro q; rcases q with q | q | q | q <;> first | exact hz q | exact q hb0 | omega)]
  have h1 : (⟨#[102]⟩ : ByteArray).size = 1 := rfl
  rw [h1] at hp
  rw [hp]
  simp only [hf, and_self, if_true]
 ·rw [if_neg hf]
  have hshow : showTo L = ⟨#[]⟩ := by unfold showTo; rw [if_neg hf]
  rw [hshow]; unfold readTo; rw [if_pos (.inl rfl)]
theorem read_back (s : ByteArray) (h : (readTo s).2 = true) : showTo (readTo s).1 = s ∧ (readTo s).1.length ≤ 8 ∧ ∀ x ∈ (readTo s).1, x.f0.size ≤ s.size ∧ x.f1.size ≤ s.size := by
 unfold readTo at h ⊢
 by_cases c : s.size = 0 ∨ bt s 0 ≠ 102 ∨ (readV (s.extract 1 s.size)).2 = 0 ∨ (readV (s.extract 1 s.size)).1 > 8
 ·rw [if_pos c] at h; cases h
 ·rw [if_neg c] at h ⊢
  have h0 : ¬ s.size = 0 := fun q => c (.inl q)
  have h1 : bt s 0 = 102 := Decidable.byContradiction fun q => c (.inr (.inl q))
  have h2 : ¬ (readV (s.extract 1 s.size)).2 = 0 := fun q => c (.inr (.inr (.inl q)))
  have hsz := size_ext s 1 s.size (Nat.le_refl _)
  have hc := readV_canon (s.extract 1 s.size)
  rw [hsz] at hc
  rcases hc with hc | ⟨m, n, q1, q2, q3, q4, q5⟩
  ·exact absurd hc h2
  ·rw [q1] at h ⊢
   simp only [Int.toNat_natCast] at h ⊢
   cases hp : parseP s n (1 + m) [] with
   | none => rw [hp] at h; cases h
   | some y =>
    obtain ⟨L, e'⟩ := y
    rw [hp] at h
    simp only at h ⊢
    by_cases he : e' = s.size ∧ filesOk L = true
    ·rw [if_pos he]
     have hv : strOfNums (varL n) = s.extract 1 (1 + m) := by
      rw [q5]
      have := B_ext (s.extract 1 s.size) 0 m
      rw [List.drop_zero] at this
      rw [← this, str_B, ext_ext2 s 1 0 m (by omega)]
     have hf1 : (⟨#[102]⟩ : ByteArray) = s.extract 0 1 := by
      apply B_inj.1
      rw [B_ext, List.drop_zero]
      have hb0 : (bytesOf s).getD 0 0 = 102 := by rw [bt_B] at h1; exact h1
      cases hq : bytesOf s with
      | nil => have := B_len s; rw [hq] at this; simp at this; omega
      | cons x r =>
       rw [hq] at hb0
       have hx : x = 102 := hb0
       rw [hx]; rfl
     have hpre : (⟨#[102]⟩ : ByteArray) ++ strOfNums (varL n) = s.extract 0 (1 + m) := by
      rw [hv, hf1, app_ext s 0 1 (1 + m) (by omega) (by omega)]
     obtain ⟨_, _, ⟨N, w1, w2, w3⟩, w4⟩ := parseP_ok s n (1 + m) [] L e' _ (by omega) hp hpre (by simp)
     rw [List.nil_append] at w1
     rw [← w1] at w2 w3
     refine ⟨?_, ((filesOk_iff L).1 he.2).1, w4⟩
     unfold showTo
     rw [if_pos he.2]
     simp only
     rw [w2, w3, he.1]
     apply data_inj
     simp only [ByteArray.data_extract, Array.toList_extract, List.extract_eq_take_drop, List.drop_zero]
     apply List.take_of_length_le
     rw [Array.length_toList]; exact Nat.le_refl _
    ·rw [if_neg he] at h; cases h
theorem same_loop (l : List SFl) (hl : l.length ≤ 1048576) (d : Nat) : ∀ i : Nat, i + d = l.length → Ev (fun k => laws_sameFiles.l0 k l l i) true := by
 induction d with
 | zero =>
  intro i hi
  refine Ev_succ ?_
  simp only [laws_sameFiles.l0, if_neg (show ¬ (i : Int) < (l.length : Int) by omega)]; exact Ev.now _
 | succ d ih =>
  intro i hi
  refine Ev_succ ?_
  have hn : wrap64 ((i : Int) + 1) = ((i + 1 : Nat) : Int) := by rw [w64 (by omega) (by omega)]; omega
  simp only [laws_sameFiles.l0, if_pos (show (i : Int) < (l.length : Int) by omega), if_pos (show 0 ≤ (i : Int) by omega), hn, beq_self_eq_true, Bool.not_true, Bool.or_self, Bool.false_eq_true, if_false]
  exact ih (i + 1) (by omega)
theorem same_ev (l : List SFl) (hl : l.length ≤ 1048576) : Ev (fun k => laws_sameFiles.f k l l) true := by
 simp only [laws_sameFiles.f, if_true]
 exact same_loop l hl l.length 0 (by omega)
theorem filter_app (p : ByteArray) (A B : List SFl) (hA : A.filter (notP p) = A) (hB : B.filter (notP p) = B) (x : SFl) (hx : x.f0.toList = p.toList) : (A ++ x :: B).filter (notP p) = A ++ B := by
 rw [List.filter_append, hA, List.filter_cons, if_neg (by unfold notP; rw [beq_iff_eq.2 hx]; decide), hB]
theorem putL_parts (a : List SFl) (x : SFl) (ha : filesOk a = true) : (∃ A B, a = A ++ B ∧ putL x a = A ++ x :: B ∧ A.filter (notP x.f0) = A ∧ B.filter (notP x.f0) = B) ∨
  (∃ A y B, a = A ++ y :: B ∧ y.f0.toList = x.f0.toList ∧ putL x a = A ++ x :: B ∧ A.filter (notP x.f0) = A ∧ B.filter (notP x.f0) = B) := by
 rcases idxF_parts a x.f0 with ⟨hi_, f⟩ | ⟨A, y, B, rfl, _, hy, hA⟩
 ·left
  clear ha hi_
  induction a with
  | nil => exact ⟨[], [], rfl, rfl, rfl, rfl⟩
  | cons y r ih =>
   have hn : notP x.f0 y = true := (List.mem_filter.1 (f.symm ▸ List.mem_cons_self .. : y ∈ (y :: r).filter (notP x.f0))).2
   have hr : r.filter (notP x.f0) = r := by rw [List.filter_cons, if_pos hn] at f; exact (List.cons.inj f).2
   by_cases hl : lessP x y = true
   ·obtain ⟨A, B, e1, e2, e3, e4⟩ := ih hr
    refine ⟨y :: A, B, by rw [e1, List.cons_append], ?_, by rw [List.filter_cons, if_pos hn, e3], e4⟩
    simp only [putL, if_pos hl, List.cons_append]
    rw [← e2]
   ·refine ⟨[], y :: r, rfl, ?_, rfl, f⟩
    simp only [putL, if_neg hl, List.nil_append]
    rw [f]
 ·right
  have hB : B.filter (notP x.f0) = B := by
   have := ok_filter A B y x.f0 ha hy hA
   rw [List.filter_append, hA, List.filter_cons, if_neg (by unfold notP; rw [beq_iff_eq.2 hy]; decide)] at this
   exact List.append_cancel_left this
  refine ⟨A, y, B, rfl, hy, ?_, hA, hB⟩
  rw [putL_less x _ A (ok_less A B y x ha hy)]
  have hl : ¬ lessP x y = true := by
   unfold lessP; rw [hy]; intro q; exact List.lt_irrefl _ ((blt_iff _ _).1 q)
  simp only [putL, if_neg hl]
  rw [List.filter_cons, if_neg (by unfold notP; rw [beq_iff_eq.2 hy]; decide), hB]
theorem dif_app (L M b : List SFl) : impl_Changed.dif (L ++ M) b = impl_Changed.dif L b ++ impl_Changed.dif M b := by
 unfold impl_Changed.dif; rw [List.filter_append, List.map_append]
theorem dif_none (L b : List SFl) (h : ∀ y ∈ L, y ∈ b) : impl_Changed.dif L b = [] := by
 unfold impl_Changed.dif
 rw [List.map_eq_nil_iff, List.filter_eq_nil_iff]
 intro y hy
 have : impl_Changed.inF b y = true := (inF_iff b y).2 ⟨y, h y hy, rfl, rfl⟩
 rw [this]; decide
theorem put_two (p : ByteArray) : [p, p].foldl putB [] = [p] := by
 show putB (putB [] p) p = [p]
 have : putB [] p = [p] := rfl
 rw [this]; unfold putB inB
 simp
theorem put_tells (a : List SFl) (x : SFl) (ha : filesOk a = true) (hb : filesOk (putL x a) = true) :
  (findTo (putL x a) x.f0).2 = true ∧ (findTo (putL x a) x.f0).1.toList = x.f1.toList ∧ (dropTo (putL x a) x.f0).2 = true ∧ (dropTo (putL x a) x.f0).1.length + 1 = (putL x a).length ∧
  (if (findTo a x.f0).2 = true then (if (findTo a x.f0).1.toList = x.f1.toList then chTo a (putL x a) = [] else chTo a (putL x a) = [x.f0]) else chTo a (putL x a) = [x.f0] ∧ (dropTo (putL x a) x.f0).1 = a) := by
 have hmem : x ∈ putL x a := by rcases putL_parts a x ha with ⟨A, B, _, e, _⟩ | ⟨A, y, B, _, _, e, _⟩ <;> rw [e] <;> simp
 have hfind := (find_has _ hb x).2 ((inF_iff _ x).2 ⟨x, hmem, rfl, rfl⟩)
 refine ⟨hfind.1, hfind.2, ?_⟩
 have hdrop : ∀ A B, putL x a = A ++ x :: B → A.filter (notP x.f0) = A → B.filter (notP x.f0) = B → (dropTo (putL x a) x.f0).1 = A ++ B ∧ (dropTo (putL x a) x.f0).2 = true ∧ (dropTo (putL x a) x.f0).1.length + 1 = (putL x a).length := by
  intro A B e hA hB
  unfold dropTo
  rw [if_pos hb, e, filter_app x.f0 A B hA hB x rfl]
  refine ⟨rfl, ?_, ?_⟩
  ·simp only [decide_eq_true_eq, List.length_append, List.length_cons]; omega
  ·simp only [List.length_append, List.length_cons]; omega
 have hch : chTo a (putL x a) = (impl_Changed.dif a (putL x a) ++ impl_Changed.dif (putL x a) a).foldl putB [] := by unfold chTo; rw [if_pos ha, if_pos hb]
 rw [hch]
 rcases putL_parts a x ha with ⟨A, B, e1, e2, hA, hB⟩ | ⟨A, y, B, e1, hy, e2, hA, hB⟩
 ·obtain ⟨d1, d2, d3⟩ := hdrop A B e2 hA hB
  refine ⟨d2, d3, ?_⟩
  have hno : ∀ y ∈ a, y.f0.toList ≠ x.f0.toList := by
   intro y hy
   rw [e1] at hy
   rcases List.mem_append.1 hy with hy | hy
   ·exact filter_all x.f0 A hA y hy
   ·exact filter_all x.f0 B hB y hy
  have hw : ¬ (findTo a x.f0).2 = true := by
   rw [find_is a ha]; rintro ⟨y, hy, q⟩; exact hno y hy q
  rw [if_neg hw, d1]
  refine ⟨?_, e1.symm⟩
  have hx : ¬ impl_Changed.inF a x = true := by
   rw [inF_iff]; rintro ⟨y, hy, q, _⟩; exact hno y hy q.symm
  rw [dif_none a _ (by rw [e2]; intro z hz; rw [e1] at hz; rcases List.mem_append.1 hz with hz | hz <;> simp [hz])]
  rw [e2, dif_app, dif_cons, if_neg hx, dif_none A a (by rw [e1]; intro z hz; simp [hz]), dif_none B a (by rw [e1]; intro z hz; simp [hz])]
  rfl
 ·obtain ⟨d1, d2, d3⟩ := hdrop A B e2 hA hB
  refine ⟨d2, d3, ?_⟩
  have hp : y.f0 = x.f0 := toList_inj.1 hy
  have hya : y ∈ a := by rw [e1]; simp
  have hold := (find_has a ha y).2 ((inF_iff a y).2 ⟨y, hya, rfl, rfl⟩)
  rw [hp] at hold
  rw [if_pos hold.1]
  by_cases ht : y.f1.toList = x.f1.toList
  ·rw [if_pos (hold.2.trans ht)]
   have hxy : y = x := by
    obtain ⟨y0, y1⟩ := y; obtain ⟨x0, x1⟩ := x
    simp only at hp ht
    rw [hp, toList_inj.1 ht]
   subst hxy
   rw [e2, ← e1, dif_none a a (fun z hz => hz)]
   rfl
  ·rw [if_neg (fun q => ht (hold.2.symm.trans q))]
   have hxa : ¬ impl_Changed.inF a x = true := by
    rw [inF_iff]; rintro ⟨z, hz, q1, q2⟩
    have := ok_uniq a ha z y hz hya (q1.symm.trans hy.symm)
    subst this; exact ht q2.symm
   have hyb : ¬ impl_Changed.inF (putL x a) y = true := by
    rw [inF_iff]; rintro ⟨z, hz, q1, q2⟩
    have := ok_uniq _ hb z x hz hmem (q1.symm.trans hy)
    subst this; exact ht q2
   have m1 : impl_Changed.dif a (putL x a) = [y.f0] := by
    have h1 : ∀ b, impl_Changed.dif a b = impl_Changed.dif (A ++ y :: B) b := fun b => by rw [← e1]
    rw [h1, dif_app, dif_cons, if_neg hyb, dif_none A _ (by rw [e2]; intro z hz; simp [hz]), dif_none B _ (by rw [e2]; intro z hz; simp [hz])]
    rfl
   have m2 : impl_Changed.dif (putL x a) a = [x.f0] := by
    rw [e2, dif_app, dif_cons, if_neg hxa, dif_none A a (by rw [e1]; intro z hz; simp [hz]), dif_none B a (by rw [e1]; intro z hz; simp [hz])]
    rfl
   rw [m1, m2, hp]
   exact put_two _
theorem files_put (l : List Int) (hl : l.length ≤ 1048576) : Ev (fun k => laws_FnFiles.j1 k l false) true := by
 refine Ev_succ ?_
 simp only [laws_FnFiles.j1, Bool.false_eq_true, if_false]
 obtain ⟨⟨a, p, tx⟩, ed, ⟨hal, has⟩, hp, htx⟩ := draw_put l hl
 simp only at hal has hp htx
 have hs : ∀ x ∈ a, x.f0.size ≤ 2097152 ∧ x.f1.size ≤ 2097152 := fun x hx => by have := has x hx; omega
 have hx : (⟨p, tx⟩ : SFl).f0.size ≤ 2097152 ∧ (⟨p, tx⟩ : SFl).f1.size ≤ 2097152 := ⟨by simp only; omega, by simp only; omega⟩
 refine Ev_call ed (Ev_call (put_impl a (by omega) hs ⟨p, tx⟩ hx) (Ev_call (files_spec a (by omega) hs) ?_))
 by_cases hf : filesOk a = true
 ·simp only [if_pos hf]
  have hput : putTo a ⟨p, tx⟩ = putEnd a (putL ⟨p, tx⟩ a) := by unfold putTo; rw [if_pos hf]
  rw [hput]
  unfold putEnd
  by_cases hb : filesOk (putL ⟨p, tx⟩ a) = true
  ·simp only [if_pos hb, if_true]
   obtain ⟨h1, h2, h3, h4, h5⟩ := put_tells a ⟨p, tx⟩ hf hb
   have hbl := putL_len ⟨p, tx⟩ a
   have hbs : ∀ z ∈ putL ⟨p, tx⟩ a, z.f0.size ≤ 2097152 ∧ z.f1.size ≤ 2097152 := fun z hz => by
    rcases putL_mem ⟨p, tx⟩ z a hz with rfl | hz
    ·exact hx
    ·exact hs z hz
   simp only at h1 h2 h3 h4 h5
   generalize putL ⟨p, tx⟩ a = b at hb h1 h2 h3 h4 h5 hbl hbs
   refine Ev_call (find_impl b (by omega) hbs p) (Ev_call (find_spec a (by omega) hs p) (Ev_call (drop_impl b (by omega) hbs p) (Ev_call (ch_impl a b (by omega) hs (by omega) hbs) (Ev_call (find_spec a (by omega) hs p) ?_))))
   have q1 : (([p] : List ByteArray).length : Int) = 1 := rfl
   have q2 : (0 : Int) < (([p] : List ByteArray).length : Int) := by rw [q1]; decide
   have q3 : (rdOf ByteArray.empty [p] 0).toList = p.toList := rfl
   have hw : wrap64 ((b.length : Int) - 1) = ((dropTo b p).1.length : Int) := by rw [w64 (by omega) (by omega)]; omega
   simp only [if_pos h1, if_pos h2, if_pos h3, hw, if_true]
   by_cases hwas : (findTo a p).2 = true
   ·rw [if_pos hwas] at h5
    simp only [if_pos hwas]
    by_cases ht : (findTo a p).1.toList = tx.toList
    ·rw [if_pos ht] at h5
     simp only [if_pos ht, h5]
     exact Ev.now _
    ·rw [if_neg ht] at h5
     simp only [if_neg ht, h5, if_pos q1, if_pos q2, if_pos q3]
     exact Ev.now _
   ·rw [if_neg hwas] at h5
    obtain ⟨h5, h6⟩ := h5
    simp only [if_neg hwas, h5, h6, if_pos q1, if_pos q2, if_pos q3]
    exact Ev_call (same_ev a (by omega)) (Ev.now _)
  ·simp only [if_neg hb, Bool.false_eq_true, if_false]
   exact Ev_call (same_ev a (by omega)) (Ev.now _)
 ·have hput : putTo a ⟨p, tx⟩ = ([], false) := by unfold putTo; rw [if_neg hf]
  rw [hput]
  simp only [if_neg hf]
  exact Ev.now _
theorem show_size (L : List SFl) (hs : ∀ x ∈ L, x.f0.size ≤ 10000 ∧ x.f1.size ≤ 10000) : (showTo L).size ≤ 170000 := by
 by_cases hf : filesOk L = true
 ·exact show_few L ((filesOk_iff L).1 hf).1 hs
 ·unfold showTo; rw [if_neg hf]; simp only [lsz, List.length_nil]; omega
theorem FnFiles : laws_FnFiles.Say := by
 intro l hlw
 apply Ev.rounds
 simp only [laws_FnFiles.f, laws_big.f, Option.bind_some]
 by_cases h : (l.length : Int) > 1048576
 ·simp only [decide_eq_true h, if_true]; exact Ev.now _
 ·simp only [decide_eq_false h, Bool.false_eq_true, if_false]
  have hj1 : Ev (fun k => laws_FnFiles.j1 k l false) true := files_put l (by omega)
  have hj0 : Ev (fun k => laws_FnFiles.j0 k l false) true := by
   refine Ev_succ ?_
   simp only [laws_FnFiles.j0, Bool.false_eq_true, if_false]
   obtain ⟨t, et, zt⟩ := draw_read l (by omega)
   refine Ev_call et (Ev_call (read_impl t (by omega)) (Ev_call (read_spec_f t (by omega)) ?_))
   simp only [bne_self_eq_false, Bool.false_eq_true, if_false]
   by_cases hb : (readTo t).2 = true
   ·obtain ⟨e, e8, es⟩ := read_back t hb
    simp only [if_pos hb]
    refine Ev_call (show_impl (readTo t).1 (by omega) (fun x hx => by have := es x hx; omega)) ?_
    rw [e]
    simp only [bne_self_eq_false]
    exact hj1
   ·simp only [if_neg hb]; exact hj1
  obtain ⟨L, eL, hL, hz⟩ := draw_show l (by omega)
  have hs : ∀ x ∈ L, x.f0.size ≤ 2097152 ∧ x.f1.size ≤ 2097152 := fun x hx => by have := hz x hx; omega
  have hsz := show_size L (fun x hx => by have := hz x hx; omega)
  refine Ev_call eL (Ev_call (show_impl L (by omega) hs) (Ev_call (read_impl (showTo L) (by omega)) (Ev_call (files_spec L (by omega) hs) ?_)))
  rw [read_shown L hs]
  by_cases hf : filesOk L = true
  ·simp only [if_pos hf, hf, bne_self_eq_false, Bool.false_eq_true, if_false, if_true]
   refine Ev_call (same_ev L (by omega)) ?_
   simp only [Bool.not_true]
   exact hj0
  ·have hf2 := Bool.eq_false_iff.mpr hf
   simp only [if_neg hf, hf2, bne_self_eq_false, Bool.false_eq_true, if_false]
   exact hj0


end Go.Proofs.YtkmcnjpgamaljaaGreatDoor.Pure

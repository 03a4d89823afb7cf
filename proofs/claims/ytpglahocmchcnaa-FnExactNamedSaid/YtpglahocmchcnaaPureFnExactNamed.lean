import Derived.Test.YtpglahocmchcnaaSayFnExactNamed
import Derived.Test.YtpglahocmchcnaaKit
/- FnExactNamed: the program's Named and the reference's find the same first place of a name, for every code and name. -/
namespace Go.Proofs.Ytpglahocmchcnaa.Pure
open Go.RowKit Go.Proofs.Ytpglahocmchcnaa.PFnExactNamed Go.Proofs.YtpglahocmchcnaaW.PrintWords Go.Proofs.YtpglahocmchcnaaW.PrintLast Go.Proofs.YtpglahocmchcnaaW.PrintMore Go.Proofs.Ytpglahocmchcnaa.Kit
set_option linter.unusedSimpArgs false
set_option linter.unusedVariables false

theorem szInsS_some (l : List S99) (hl : l.length ≤ 9223372036854775807) (left : Int) (h0 : 0 ≤ left) (h1 : left ≤ 1048576) :
    ∃ t, laws_szInsS.f l left = some t ∧ t ≤ left ∧ -1 ≤ t ∧ (0 ≤ t → (l.length : Int) ≤ left) := by
  by_cases c0 : left - l.length < 0
  · exact ⟨-1, by simp (disch := omega) only [laws_szInsS.f, w64, if_pos], by omega, by omega, fun h => absurd h (by omega)⟩
  · exact ⟨left - l.length, by simp (disch := omega) only [laws_szInsS.f, w64, if_neg], by omega, by omega, fun _ => by omega⟩
theorem szStringS_loop (l : List ByteArray) (hs : ∀ x ∈ l, x.size ≤ 9223372036854775807) (hl : l.length ≤ 1048576) (d : Nat) : ∀ (i : Nat) (left : Int), i + d = l.length → 0 ≤ left → left ≤ 1048576 →
    ∃ t, Ev (fun k => laws_szStringS.l0 k l left i) t ∧ t ≤ left ∧ -1 ≤ t ∧ (0 ≤ t → ∀ j, i ≤ j → j < l.length → ((l.getD j ByteArray.empty).size : Int) ≤ left) := by
  induction d with
  | zero =>
    intro i left hi h0 h1
    refine ⟨left, Ev_succ ?_, by omega, by omega, fun _ j hj hj2 => absurd hj2 (by omega)⟩
    simp (disch := omega) only [laws_szStringS.l0, if_neg]; exact Ev.now _
  | succ d ih =>
    intro i left hi h0 h1
    have hx := hs (l.getD i ByteArray.empty) (by rw [getD_at l _ i (by omega)]; exact List.getElem_mem _)
    by_cases hn : left - (l.getD i ByteArray.empty).size < 0
    · refine ⟨-1, Ev_succ ?_, by omega, by omega, fun h => absurd h (by omega)⟩
      simp (disch := omega) only [laws_szStringS.l0, if_pos, rdOf, Int.toNat_natCast, w64]; exact Ev.now _
    · obtain ⟨t2, e2, h2, h3, hf2⟩ := ih (i + 1) (left - (l.getD i ByteArray.empty).size) (by omega) (by omega) (by omega)
      refine ⟨t2, Ev_succ ?_, by omega, h3, fun h j hj hj2 => ?_⟩
      · simp (disch := omega) only [laws_szStringS.l0, if_pos, if_neg, rdOf, Int.toNat_natCast, w64]; exact e2
      · rcases Nat.eq_or_lt_of_le hj with hj | hj
        · subst hj; omega
        · have := hf2 h j hj hj2
          omega
theorem szStringS_ev (l : List ByteArray) (hl : l.length ≤ 9223372036854775807) (hs : ∀ x ∈ l, x.size ≤ 9223372036854775807) (left : Int) (h0 : 0 ≤ left) (h1 : left ≤ 1048576) :
    ∃ t, Ev (fun k => laws_szStringS.f k l left) t ∧ t ≤ left ∧ -1 ≤ t ∧ (0 ≤ t → (l.length : Int) ≤ left ∧ ∀ x ∈ l, (x.size : Int) ≤ left) := by
  by_cases c0 : left - l.length < 0
  · refine ⟨-1, ?_, by omega, by omega, fun h => absurd h (by omega)⟩
    simp (disch := omega) only [laws_szStringS.f, w64, if_pos]; exact Ev.now _
  · obtain ⟨t, e, h2, h3, hf⟩ := szStringS_loop l hs (by omega) l.length 0 (left - l.length) (by omega) (by omega) (by omega)
    refine ⟨t, ?_, by omega, h3, fun h => ⟨by omega, fun x hx => ?_⟩⟩
    · simp (disch := omega) only [laws_szStringS.f, w64, if_neg]; exact e
    · obtain ⟨j, hj, rfl⟩ := List.mem_iff_getElem.1 hx
      have := hf h j (by omega) hj
      rw [getD_at l _ j hj] at this
      omega
theorem szIntS_some (l : List Int) (hl : l.length ≤ 9223372036854775807) (left : Int) (h0 : 0 ≤ left) (h1 : left ≤ 1048576) :
    ∃ t, laws_szIntS.f l left = some t ∧ t ≤ left ∧ -1 ≤ t ∧ (0 ≤ t → (l.length : Int) ≤ left) := by
  by_cases c0 : left - l.length < 0
  · exact ⟨-1, by simp (disch := omega) only [laws_szIntS.f, w64, if_pos], by omega, by omega, fun h => absurd h (by omega)⟩
  · exact ⟨left - l.length, by simp (disch := omega) only [laws_szIntS.f, w64, if_neg], by omega, by omega, fun _ => by omega⟩
def cvIns (x : S99) : S97 := ⟨x.f0, x.f1⟩
theorem toInsS_loop (l : List S99) (hl : l.length ≤ 1048576) (d : Nat) : ∀ i : Nat, i + d = l.length → Ev (fun k => laws_toInsS.l0 k l ((l.take i).map cvIns ++ List.replicate d z97) i) (l.map cvIns) := by
  induction d with
  | zero =>
    intro i hi
    refine Ev_succ ?_
    simp (disch := omega) only [laws_toInsS.l0, if_neg]
    exact Ev_some (fill_done l cvIns z97 i (by omega))
  | succ d ih =>
    intro i hi
    have e := set_step l cvIns z97 z99 i d hi
    have e2 := ih (i + 1) (by omega)
    rw [← e] at e2
    refine Ev_succ ?_
    simp (disch := (first | omega | (simp only [List.length_append, List.length_map, List.length_take, List.length_replicate]; omega))) only [laws_toInsS.l0, if_pos, rd_T99, laws_toIns.f, Option.bind_some, Int.toNat_natCast, w64]
    exact e2
theorem toInsS_ev (l : List S99) (hl : l.length ≤ 1048576) : Ev (fun k => laws_toInsS.f k l) (l.map cvIns) := by
  have e := toInsS_loop l hl l.length 0 (by omega)
  simp only [List.take_zero, List.map_nil, List.nil_append] at e
  simp (disch := (first | omega | (simp only [Int.toNat_natCast]; omega))) only [laws_toInsS.f, if_pos, Int.toNat_natCast]
  exact e
theorem toStringS_loop (l : List ByteArray) (hl : l.length ≤ 1048576) (d : Nat) : ∀ i : Nat, i + d = l.length → Ev (fun k => laws_toStringS.l0 k l ((l.take i).map (fun x => x) ++ List.replicate d (⟨#[]⟩ : ByteArray)) i) (l.map (fun x => x)) := by
  induction d with
  | zero =>
    intro i hi
    refine Ev_succ ?_
    simp (disch := omega) only [laws_toStringS.l0, if_neg]
    exact Ev_some (fill_done l (fun x => x) (⟨#[]⟩ : ByteArray) i (by omega))
  | succ d ih =>
    intro i hi
    have e := set_step l (fun x => x) (⟨#[]⟩ : ByteArray) ByteArray.empty i d hi
    have e2 := ih (i + 1) (by omega)
    rw [← e] at e2
    refine Ev_succ ?_
    simp (disch := (first | omega | (simp only [List.length_append, List.length_map, List.length_take, List.length_replicate]; omega))) only [laws_toStringS.l0, if_pos, rdOf, Int.toNat_natCast, w64]
    exact e2
theorem toStringS_ev (l : List ByteArray) (hl : l.length ≤ 1048576) : Ev (fun k => laws_toStringS.f k l) (l) := by
  have e := toStringS_loop l hl l.length 0 (by omega)
  simp only [List.take_zero, List.map_nil, List.nil_append] at e
  simp (disch := (first | omega | (simp only [Int.toNat_natCast]; omega))) only [laws_toStringS.f, if_pos, Int.toNat_natCast]
  simp only [List.map_id'] at e
  exact e
theorem toIntS_loop (l : List Int) (hl : l.length ≤ 1048576) (d : Nat) : ∀ i : Nat, i + d = l.length → Ev (fun k => laws_toIntS.l0 k l ((l.take i).map (fun x => x) ++ List.replicate d (0 : Int)) i) (l.map (fun x => x)) := by
  induction d with
  | zero =>
    intro i hi
    refine Ev_succ ?_
    simp (disch := omega) only [laws_toIntS.l0, if_neg]
    exact Ev_some (fill_done l (fun x => x) (0 : Int) i (by omega))
  | succ d ih =>
    intro i hi
    have e := set_step l (fun x => x) (0 : Int) 0 i d hi
    have e2 := ih (i + 1) (by omega)
    rw [← e] at e2
    refine Ev_succ ?_
    simp (disch := (first | omega | (simp only [List.length_append, List.length_map, List.length_take, List.length_replicate]; omega))) only [laws_toIntS.l0, if_pos, rd, Int.toNat_natCast, w64]
    exact e2
theorem toIntS_ev (l : List Int) (hl : l.length ≤ 1048576) : Ev (fun k => laws_toIntS.f k l) (l) := by
  have e := toIntS_loop l hl l.length 0 (by omega)
  simp only [List.take_zero, List.map_nil, List.nil_append] at e
  simp (disch := (first | omega | (simp only [Int.toNat_natCast]; omega))) only [laws_toIntS.f, if_pos, Int.toNat_natCast]
  simp only [List.map_id'] at e
  exact e
theorem eqInsS_loop (l : List S97) (hl : l.length ≤ 1048576) (d : Nat) : ∀ i : Nat, i + d = l.length → Ev (fun k => laws_eqInsS.l0 k l l i) true := by
  induction d with
  | zero =>
    intro i hi
    refine Ev_succ ?_
    simp (disch := omega) only [laws_eqInsS.l0, if_neg]; exact Ev.now _
  | succ d ih =>
    intro i hi
    have e := ih (i + 1) (by omega)
    refine Ev_succ ?_
    simp (disch := omega) only [laws_eqInsS.l0, if_pos, if_true, laws_eqIns.f, Option.bind_some, w64]
    exact e
theorem eqInsS_ev (l : List S97) (hl : l.length ≤ 1048576) : Ev (fun k => laws_eqInsS.f k l l) true := by
  have e := eqInsS_loop l hl l.length 0 (by omega)
  simp only [laws_eqInsS.f, if_true]
  exact e
theorem eqStringS_loop (l : List ByteArray) (hl : l.length ≤ 1048576) (d : Nat) : ∀ i : Nat, i + d = l.length → Ev (fun k => laws_eqStringS.l0 k l l i) true := by
  induction d with
  | zero =>
    intro i hi
    refine Ev_succ ?_
    simp (disch := omega) only [laws_eqStringS.l0, if_neg]; exact Ev.now _
  | succ d ih =>
    intro i hi
    have e := ih (i + 1) (by omega)
    refine Ev_succ ?_
    simp (disch := omega) only [laws_eqStringS.l0, if_pos, if_true, w64]
    exact e
theorem eqStringS_ev (l : List ByteArray) (hl : l.length ≤ 1048576) : Ev (fun k => laws_eqStringS.f k l l) true := by
  have e := eqStringS_loop l hl l.length 0 (by omega)
  simp only [laws_eqStringS.f, if_true]
  exact e
theorem eqIntS_loop (l : List Int) (hl : l.length ≤ 1048576) (d : Nat) : ∀ i : Nat, i + d = l.length → Ev (fun k => laws_eqIntS.l0 k l l i) true := by
  induction d with
  | zero =>
    intro i hi
    refine Ev_succ ?_
    simp (disch := omega) only [laws_eqIntS.l0, if_neg]; exact Ev.now _
  | succ d ih =>
    intro i hi
    have e := ih (i + 1) (by omega)
    refine Ev_succ ?_
    simp (disch := omega) only [laws_eqIntS.l0, if_pos, if_true, w64]
    exact e
theorem eqIntS_ev (l : List Int) (hl : l.length ≤ 1048576) : Ev (fun k => laws_eqIntS.f k l l) true := by
  have e := eqIntS_loop l hl l.length 0 (by omega)
  simp only [laws_eqIntS.f, if_true]
  exact e
theorem at_both (l : List ByteArray) (s : ByteArray) (hl : l.length ≤ 1048576) (d : Nat) : ∀ i : Nat, i + d = l.length →
    ∃ r, Ev (fun k => spec_l18At.l0 k l s i) r ∧ Ev (fun k => slices_Index_string_string.l0 k l s l.length i) r := by
  induction d with
  | zero =>
    intro i hi
    refine ⟨-1, Ev_succ ?_, Ev_succ ?_⟩
    · simp (disch := omega) only [spec_l18At.l0, if_neg]; exact Ev.now _
    · simp (disch := omega) only [slices_Index_string_string.l0, if_neg]; exact Ev.now _
  | succ d ih =>
    intro i hi
    by_cases c : (l.getD i ByteArray.empty).toList = s.toList
    · refine ⟨i, Ev_succ ?_, Ev_succ ?_⟩
      · simp (disch := omega) only [spec_l18At.l0, if_pos, rdOf, Int.toNat_natCast, c, if_true]; exact Ev.now _
      · simp (disch := omega) only [slices_Index_string_string.l0, if_pos, rdOf, Int.toNat_natCast, c, if_true]; exact Ev.now _
    · obtain ⟨r, e1, e2⟩ := ih (i + 1) (by omega)
      refine ⟨r, Ev_succ ?_, Ev_succ ?_⟩
      · simp (disch := omega) only [spec_l18At.l0, if_pos, rdOf, Int.toNat_natCast, c, if_false, w64]; exact e1
      · simp (disch := omega) only [slices_Index_string_string.l0, if_pos, rdOf, Int.toNat_natCast, (show ¬ s.toList = (l.getD i ByteArray.empty).toList from fun e => c (Eq.symm e)), if_false, w64]; exact e2
theorem FnExactNamed : laws_FnExactNamed.Say := by
  intro li ls le s hi hs he _
  simp only [maxLen] at hi hs he
  apply Ev.rounds
  simp only [laws_FnExactNamed.f]
  by_cases hz : (s.size : Int) > 1048576
  · simp only [if_pos hz]; exact Ev.now _
  simp only [if_neg hz, laws_szCode.f]
  obtain ⟨t1, e1, h1, h1', f1⟩ := szInsS_some li hi.1 1048576 (by omega) (by omega)
  simp only [e1, Option.bind_some]
  by_cases n1 : t1 < 0
  · simp only [if_pos n1, Option.bind_some, if_pos (show (-1 : Int) < 0 by omega)]; exact Ev.now _
  simp only [if_neg n1]
  obtain ⟨t2, e2, h2, h2', f2⟩ := szStringS_ev ls hs.1 hs.2 t1 (by omega) (by omega)
  by_cases n2 : t2 < 0
  · refine Ev_call (a := -1) (Ev_call e2 ?_) ?_
    · simp only [if_pos n2]; exact Ev.now _
    · simp only [if_pos (show (-1 : Int) < 0 by omega)]; exact Ev.now _
  obtain ⟨t3, e3, h3, h3', f3⟩ := szIntS_some le he.1 t2 (by omega) (by omega)
  by_cases n3 : t3 < 0
  · refine Ev_call (a := -1) (Ev_call e2 ?_) ?_
    · simp only [if_neg n2, e3, Option.bind_some, if_pos n3]; exact Ev.now _
    · simp only [if_pos (show (-1 : Int) < 0 by omega)]; exact Ev.now _
  refine Ev_call (a := t3) (Ev_call e2 ?_) ?_
  · simp only [if_neg n2, e3, Option.bind_some, if_neg n3]; exact Ev.now _
  simp only [if_neg n3]
  have q1 := f1 (by omega); have q2 := (f2 (by omega)).1; have q3 := f3 (by omega)
  have ec : Ev (fun k => laws_toCode.f k li ls le) (li.map cvIns, ls, le) := by
    simp only [laws_toCode.f]
    exact Ev_call (toInsS_ev li (by omega)) (Ev_call (toStringS_ev ls (by omega)) (Ev_call (toIntS_ev le (by omega)) (Ev.now _)))
  obtain ⟨r, a1, a2⟩ := at_both ls s (by omega) ls.length 0 (by omega)
  refine Ev_call ec (Ev_call (a := r) ?_ (Ev_call ec (Ev_call (a := r) ?_ ?_)))
  · simp only [spec_Named.f, spec_l18At.f]; exact Ev_call a1 (Ev.now _)
  · simp only [impl_Named.f, slices_Index_string_string.f]; exact Ev_call a2 (Ev.now _)
  · simp only [if_true]
    refine Ev_call ec (Ev_call (a := true) ?_ ?_)
    · simp only [laws_eqCode.f]
      refine Ev_call (eqInsS_ev _ (by simp; omega)) ?_
      simp only [if_true]
      refine Ev_call (eqStringS_ev _ (by omega)) ?_
      simp only [if_true]
      refine Ev_call (eqIntS_ev _ (by omega)) ?_
      simp only [if_true]; exact Ev.now _
    · simp only [if_true]; exact Ev.now _


end Go.Proofs.Ytpglahocmchcnaa.Pure

import Derived.Test.YtpomlknkfedekaaSayFnExactHeights
import Derived.Test.YtpomlknkfedekaaKit
/- FnExactHeights: the program's Heights and the reference's count the same heights in step; what they hand back owns its memory (the marks hold). -/
namespace Go.Proofs.Ytpomlknkfedekaa.Pure
open Go.RowKit Go.Proofs.Ytpomlknkfedekaa.PFnExactHeights Go.Proofs.YtpomlknkfedekaaW.PrintWords Go.Proofs.YtpomlknkfedekaaW.PrintLast Go.Proofs.YtpomlknkfedekaaW.PrintMore Go.Proofs.Ytpomlknkfedekaa.Kit
set_option linter.unusedSimpArgs false
set_option linter.unusedVariables false

theorem szInsS_some (l : List S80) (hl : l.length ≤ 9223372036854775807) (left : Int) (h0 : 0 ≤ left) (h1 : left ≤ 1048576) :
    ∃ t, laws_szInsS.f l left = some t ∧ t ≤ left ∧ -1 ≤ t ∧ (0 ≤ t → (l.length : Int) ≤ left) := by
  by_cases c0 : left - l.length < 0
  · exact ⟨-1, by simp (disch := omega) only [laws_szInsS.f, w64, if_pos], by omega, by omega, fun h => absurd h (by omega)⟩
  · exact ⟨left - l.length, by simp (disch := omega) only [laws_szInsS.f, w64, if_neg], by omega, by omega, fun _ => by omega⟩
theorem szStringS_loop (l : List ByteArray) (hs : ∀ x ∈ l, x.size ≤ 9223372036854775807) (hl : l.length ≤ 1048576) (d : Nat) : ∀ (i : Nat) (left : Int), i + d = l.length → 0 ≤ left → left ≤ 1048576 →
    ∃ t, Ev (fun k => laws_szStringS.l0 k l left i) t ∧ t ≤ left ∧ -1 ≤ t ∧ (0 ≤ t → ∀ j, i ≤ j → j < l.length → ((l.getD j ByteArray.empty).size : Int) ≤ left) := by
  induction d with
  | zero =>
    intro i left hi h0 h1
    refine ⟨left, Ev_succ ?_, by omega, by omega, fun _ j hj hj2 => absurd hj2 (by omega)⟩
    simp (disch := omega) only [laws_szStringS.l0, if_neg]; exact Ev.now _
  | succ d ih =>
    intro i left hi h0 h1
    have hx := hs (l.getD i ByteArray.empty) (by rw [getD_at l _ i (by omega)]; exact List.getElem_mem _)
    by_cases hn : left - (l.getD i ByteArray.empty).size < 0
    · refine ⟨-1, Ev_succ ?_, by omega, by omega, fun h => absurd h (by omega)⟩
      simp (disch := omega) only [laws_szStringS.l0, if_pos, rdOf, Int.toNat_natCast, w64]; exact Ev.now _
    · obtain ⟨t2, e2, h2, h3, hf2⟩ := ih (i + 1) (left - (l.getD i ByteArray.empty).size) (by omega) (by omega) (by omega)
      refine ⟨t2, Ev_succ ?_, by omega, h3, fun h j hj hj2 => ?_⟩
      · simp (disch := omega) only [laws_szStringS.l0, if_pos, if_neg, rdOf, Int.toNat_natCast, w64]; exact e2
      · rcases Nat.eq_or_lt_of_le hj with hj | hj
        · subst hj; omega
        · have := hf2 h j hj hj2
          omega
theorem szStringS_ev (l : List ByteArray) (hl : l.length ≤ 9223372036854775807) (hs : ∀ x ∈ l, x.size ≤ 9223372036854775807) (left : Int) (h0 : 0 ≤ left) (h1 : left ≤ 1048576) :
    ∃ t, Ev (fun k => laws_szStringS.f k l left) t ∧ t ≤ left ∧ -1 ≤ t ∧ (0 ≤ t → (l.length : Int) ≤ left ∧ ∀ x ∈ l, (x.size : Int) ≤ left) := by
  by_cases c0 : left - l.length < 0
  · refine ⟨-1, ?_, by omega, by omega, fun h => absurd h (by omega)⟩
    simp (disch := omega) only [laws_szStringS.f, w64, if_pos]; exact Ev.now _
  · obtain ⟨t, e, h2, h3, hf⟩ := szStringS_loop l hs (by omega) l.length 0 (left - l.length) (by omega) (by omega) (by omega)
    refine ⟨t, ?_, by omega, h3, fun h => ⟨by omega, fun x hx => ?_⟩⟩
    · simp (disch := omega) only [laws_szStringS.f, w64, if_neg]; exact e
    · obtain ⟨j, hj, rfl⟩ := List.mem_iff_getElem.1 hx
      have := hf h j (by omega) hj
      rw [getD_at l _ j hj] at this
      omega
theorem szIntS_some (l : List Int) (hl : l.length ≤ 9223372036854775807) (left : Int) (h0 : 0 ≤ left) (h1 : left ≤ 1048576) :
    ∃ t, laws_szIntS.f l left = some t ∧ t ≤ left ∧ -1 ≤ t ∧ (0 ≤ t → (l.length : Int) ≤ left) := by
  by_cases c0 : left - l.length < 0
  · exact ⟨-1, by simp (disch := omega) only [laws_szIntS.f, w64, if_pos], by omega, by omega, fun h => absurd h (by omega)⟩
  · exact ⟨left - l.length, by simp (disch := omega) only [laws_szIntS.f, w64, if_neg], by omega, by omega, fun _ => by omega⟩
def cvIns (x : S80) : S59 := ⟨x.f0, x.f1⟩
theorem toInsS_loop (l : List S80) (hl : l.length ≤ 1048576) (d : Nat) : ∀ i : Nat, i + d = l.length → Ev (fun k => laws_toInsS.l0 k l ((l.take i).map cvIns ++ List.replicate d z59) i) (l.map cvIns) := by
  induction d with
  | zero =>
    intro i hi
    refine Ev_succ ?_
    simp (disch := omega) only [laws_toInsS.l0, if_neg]
    exact Ev_some (fill_done l cvIns z59 i (by omega))
  | succ d ih =>
    intro i hi
    have e := set_step l cvIns z59 z80 i d hi
    have e2 := ih (i + 1) (by omega)
    rw [← e] at e2
    refine Ev_succ ?_
    simp (disch := (first | omega | (simp only [List.length_append, List.length_map, List.length_take, List.length_replicate]; omega))) only [laws_toInsS.l0, if_pos, rd_T80, laws_toIns.f, Option.bind_some, Int.toNat_natCast, w64]
    exact e2
theorem toInsS_ev (l : List S80) (hl : l.length ≤ 1048576) : Ev (fun k => laws_toInsS.f k l) (l.map cvIns) := by
  have e := toInsS_loop l hl l.length 0 (by omega)
  simp only [List.take_zero, List.map_nil, List.nil_append] at e
  simp (disch := (first | omega | (simp only [Int.toNat_natCast]; omega))) only [laws_toInsS.f, if_pos, Int.toNat_natCast]
  exact e
theorem toStringS_loop (l : List ByteArray) (hl : l.length ≤ 1048576) (d : Nat) : ∀ i : Nat, i + d = l.length → Ev (fun k => laws_toStringS.l0 k l ((l.take i).map (fun x => x) ++ List.replicate d (⟨#[]⟩ : ByteArray)) i) (l.map (fun x => x)) := by
  induction d with
  | zero =>
    intro i hi
    refine Ev_succ ?_
    simp (disch := omega) only [laws_toStringS.l0, if_neg]
    exact Ev_some (fill_done l (fun x => x) (⟨#[]⟩ : ByteArray) i (by omega))
  | succ d ih =>
    intro i hi
    have e := set_step l (fun x => x) (⟨#[]⟩ : ByteArray) ByteArray.empty i d hi
    have e2 := ih (i + 1) (by omega)
    rw [← e] at e2
    refine Ev_succ ?_
    simp (disch := (first | omega | (simp only [List.length_append, List.length_map, List.length_take, List.length_replicate]; omega))) only [laws_toStringS.l0, if_pos, rdOf, Int.toNat_natCast, w64]
    exact e2
theorem toStringS_ev (l : List ByteArray) (hl : l.length ≤ 1048576) : Ev (fun k => laws_toStringS.f k l) (l) := by
  have e := toStringS_loop l hl l.length 0 (by omega)
  simp only [List.take_zero, List.map_nil, List.nil_append] at e
  simp (disch := (first | omega | (simp only [Int.toNat_natCast]; omega))) only [laws_toStringS.f, if_pos, Int.toNat_natCast]
  simp only [List.map_id'] at e
  exact e
theorem toIntS_loop (l : List Int) (hl : l.length ≤ 1048576) (d : Nat) : ∀ i : Nat, i + d = l.length → Ev (fun k => laws_toIntS.l0 k l ((l.take i).map (fun x => x) ++ List.replicate d (0 : Int)) i) (l.map (fun x => x)) := by
  induction d with
  | zero =>
    intro i hi
    refine Ev_succ ?_
    simp (disch := omega) only [laws_toIntS.l0, if_neg]
    exact Ev_some (fill_done l (fun x => x) (0 : Int) i (by omega))
  | succ d ih =>
    intro i hi
    have e := set_step l (fun x => x) (0 : Int) 0 i d hi
    have e2 := ih (i + 1) (by omega)
    rw [← e] at e2
    refine Ev_succ ?_
    simp (disch := (first | omega | (simp only [List.length_append, List.length_map, List.length_take, List.length_replicate]; omega))) only [laws_toIntS.l0, if_pos, rd, Int.toNat_natCast, w64]
    exact e2
theorem toIntS_ev (l : List Int) (hl : l.length ≤ 1048576) : Ev (fun k => laws_toIntS.f k l) (l) := by
  have e := toIntS_loop l hl l.length 0 (by omega)
  simp only [List.take_zero, List.map_nil, List.nil_append] at e
  simp (disch := (first | omega | (simp only [Int.toNat_natCast]; omega))) only [laws_toIntS.f, if_pos, Int.toNat_natCast]
  simp only [List.map_id'] at e
  exact e
theorem eqInsS_loop (l : List S59) (hl : l.length ≤ 1048576) (d : Nat) : ∀ i : Nat, i + d = l.length → Ev (fun k => laws_eqInsS.l0 k l l i) true := by
  induction d with
  | zero =>
    intro i hi
    refine Ev_succ ?_
    simp (disch := omega) only [laws_eqInsS.l0, if_neg]; exact Ev.now _
  | succ d ih =>
    intro i hi
    have e := ih (i + 1) (by omega)
    refine Ev_succ ?_
    simp (disch := omega) only [laws_eqInsS.l0, if_pos, if_true, laws_eqIns.f, Option.bind_some, w64]
    exact e
theorem eqInsS_ev (l : List S59) (hl : l.length ≤ 1048576) : Ev (fun k => laws_eqInsS.f k l l) true := by
  have e := eqInsS_loop l hl l.length 0 (by omega)
  simp only [laws_eqInsS.f, if_true]
  exact e
theorem eqStringS_loop (l : List ByteArray) (hl : l.length ≤ 1048576) (d : Nat) : ∀ i : Nat, i + d = l.length → Ev (fun k => laws_eqStringS.l0 k l l i) true := by
  induction d with
  | zero =>
    intro i hi
    refine Ev_succ ?_
    simp (disch := omega) only [laws_eqStringS.l0, if_neg]; exact Ev.now _
  | succ d ih =>
    intro i hi
    have e := ih (i + 1) (by omega)
    refine Ev_succ ?_
    simp (disch := omega) only [laws_eqStringS.l0, if_pos, if_true, w64]
    exact e
theorem eqStringS_ev (l : List ByteArray) (hl : l.length ≤ 1048576) : Ev (fun k => laws_eqStringS.f k l l) true := by
  have e := eqStringS_loop l hl l.length 0 (by omega)
  simp only [laws_eqStringS.f, if_true]
  exact e
theorem eqIntS_loop (l : List Int) (hl : l.length ≤ 1048576) (d : Nat) : ∀ i : Nat, i + d = l.length → Ev (fun k => laws_eqIntS.l0 k l l i) true := by
  induction d with
  | zero =>
    intro i hi
    refine Ev_succ ?_
    simp (disch := omega) only [laws_eqIntS.l0, if_neg]; exact Ev.now _
  | succ d ih =>
    intro i hi
    have e := ih (i + 1) (by omega)
    refine Ev_succ ?_
    simp (disch := omega) only [laws_eqIntS.l0, if_pos, if_true, w64]
    exact e
theorem eqIntS_ev (l : List Int) (hl : l.length ≤ 1048576) : Ev (fun k => laws_eqIntS.f k l l) true := by
  have e := eqIntS_loop l hl l.length 0 (by omega)
  simp only [laws_eqIntS.f, if_true]
  exact e
theorem markText_loop (d : Nat) : ∀ (x : Int) (acc : ByteArray), 0 ≤ x → x.toNat ≤ d → x < 9223372036854775808 → acc.size + d ≤ 9223372036854775000 → ∃ t, Ev (fun k => laws_markText.l0 k x acc) t := by
  induction d with
  | zero =>
    intro x acc h0 hd h1 hs
    refine ⟨⟨#[109]⟩ ++ acc, Ev_succ ?_⟩
    simp (disch := omega) only [laws_markText.l0, if_neg, if_pos]; exact Ev.now _
  | succ d ih =>
    intro x acc h0 hd h1 hs
    by_cases hx : x > 0
    · have e1 : (strOfNums [(48 + x % 10) % 256]).size = 1 := by rw [strOfNums_size]; rfl
      obtain ⟨t, e⟩ := ih (x / 10) (strOfNums [(48 + x % 10) % 256] ++ acc) (by omega) (by omega) (by omega) (by rw [size_app]; omega)
      refine ⟨t, Ev_succ ?_⟩
      simp (disch := omega) only [laws_markText.l0, if_pos, w64, tmod_nn, tdiv_nn, Option.bind_some]; exact e
    · refine ⟨⟨#[109]⟩ ++ acc, Ev_succ ?_⟩
      simp (disch := omega) only [laws_markText.l0, if_neg, if_pos]; exact Ev.now _
theorem markText_any (x : Int) (h0 : 0 ≤ x) (h1 : x ≤ 1000000000000) : ∃ t, Ev (fun k => laws_markText.f k x) t := by
  by_cases hx : x ≤ 0
  · exact ⟨_, by simp only [laws_markText.f, if_pos hx]; exact Ev.now _⟩
  · obtain ⟨t, e⟩ := markText_loop x.toNat x ⟨#[]⟩ h0 (Nat.le_refl _) (by omega) (by show 0 + x.toNat ≤ _; omega)
    exact ⟨t, by simp only [laws_markText.f, if_neg hx]; exact e⟩
open Classical in
noncomputable def mt (x : Int) : ByteArray := if h : ∃ t, Ev (fun k => laws_markText.f k x) t then Classical.choose h else ⟨#[]⟩
theorem mt_ev (x : Int) (h0 : 0 ≤ x) (h1 : x ≤ 1000000000000) : Ev (fun k => laws_markText.f k x) (mt x) := by
  have h := markText_any x h0 h1
  unfold mt
  rw [dif_pos h]
  exact Classical.choose_spec h
def mkIntS : Nat → Int → List Int
  | 0, _ => []
  | n + 1, x => x :: mkIntS n (x + 1)
theorem markIntS_loop : ∀ (R P : List Int) (x : Int), 1 ≤ x → x + 1 * R.length ≤ 1000000000000 → (P.length : Int) + R.length ≤ 1048576 → Ev (fun k => laws_markIntS.l0 k (P ++ R) x P.length) (x + 1 * R.length, P ++ mkIntS R.length x) := by
  intro R
  induction R with
  | nil =>
    intro P x h1 h2 h3
    refine Ev_succ ?_
    simp (disch := (simp only [List.append_nil]; omega)) only [laws_markIntS.l0, if_neg]
    exact Ev_some (by simp [mkIntS])
  | cons a R ih =>
    intro P x h1 h2 h3
    simp only [List.length_cons] at h2 h3
    have e := ih (P ++ [x]) (x + 1) (by omega) (by omega) (by simp only [List.length_append, List.length_cons, List.length_nil]; omega)
    have e1 : (P ++ [x]) ++ R = P ++ x :: R := by simp
    have e2 : ((P ++ [x]).length : Int) = (P.length : Int) + 1 := by simp
    rw [e1, e2] at e
    refine Ev_succ ?_
    simp (disch := (first | omega | (simp only [len_mid]; omega))) only [laws_markIntS.l0, if_pos, Option.bind_some, w64, set_mid]
    have e3 : (P ++ [x]) ++ mkIntS R.length (x + 1) = P ++ mkIntS (R.length + 1) x := by simp [mkIntS]
    have e4 : x + 1 + 1 * (R.length : Int) = x + 1 * ((a :: R).length : Int) := by simp only [List.length_cons]; omega
    rw [e3, e4] at e
    exact e
theorem markIntS_ev (l : List Int) (x : Int) (h1 : 1 ≤ x) (h2 : x + 1 * l.length ≤ 1000000000000) (h3 : l.length ≤ 1048576) : Ev (fun k => laws_markIntS.f k l x) (x + 1 * l.length, mkIntS l.length x) := by
  have e := markIntS_loop l [] x h1 h2 (by simp; omega)
  simp only [List.nil_append] at e
  simp only [laws_markIntS.f]
  exact e
theorem mkIntS_len : ∀ (n : Nat) (x : Int), (mkIntS n x).length = n
  | 0, _ => rfl
  | n + 1, x => by simp only [mkIntS, List.length_cons, mkIntS_len n]
theorem heldIntS_loop : ∀ (n : Nat) (P : List Int) (x : Int), 1 ≤ x → x + 1 * n ≤ 1000000000000 → (P.length : Int) + n ≤ 1048576 → Ev (fun k => laws_heldIntS.l0 k (P ++ mkIntS n x) x P.length) (x + 1 * n) := by
  intro n
  induction n with
  | zero =>
    intro P x h1 h2 h3
    refine Ev_succ ?_
    simp (disch := (simp only [mkIntS, List.append_nil]; omega)) only [laws_heldIntS.l0, if_neg]
    exact Ev_some (by simp)
  | succ n ih =>
    intro P x h1 h2 h3
    have hl := mkIntS_len n (x + 1)
    have e := ih (P ++ [x]) (x + 1) (by omega) (by omega) (by simp only [List.length_append, List.length_cons, List.length_nil]; omega)
    have e1 : (P ++ [x]) ++ mkIntS n (x + 1) = P ++ x :: mkIntS n (x + 1) := by simp
    have e2 : ((P ++ [x]).length : Int) = (P.length : Int) + 1 := by simp
    have e4 : x + 1 + 1 * (n : Int) = x + 1 * ((n + 1 : Nat) : Int) := by omega
    rw [e1, e2, e4] at e
    refine Ev_succ ?_
    simp only [mkIntS]
    simp (disch := (first | omega | (simp only [len_mid]; omega))) only [laws_heldIntS.l0, if_pos, if_true, Option.bind_some, w64, rd, getD_mid]
    exact e
theorem heldIntS_ev (n : Nat) (x : Int) (h1 : 1 ≤ x) (h2 : x + 1 * n ≤ 1000000000000) (h3 : n ≤ 1048576) : Ev (fun k => laws_heldIntS.f k (mkIntS n x) x) (x + 1 * n) := by
  have e := heldIntS_loop n [] x h1 h2 (by simp; omega)
  simp only [List.nil_append] at e
  simp only [laws_heldIntS.f]
  exact e
noncomputable def mkStringS : Nat → Int → List ByteArray
  | 0, _ => []
  | n + 1, x => mt (x) :: mkStringS n (x + 1)
theorem markStringS_loop : ∀ (R P : List ByteArray) (x : Int), 1 ≤ x → x + 1 * R.length ≤ 1000000000000 → (P.length : Int) + R.length ≤ 1048576 → Ev (fun k => laws_markStringS.l0 k (P ++ R) x P.length) (x + 1 * R.length, P ++ mkStringS R.length x) := by
  intro R
  induction R with
  | nil =>
    intro P x h1 h2 h3
    refine Ev_succ ?_
    simp (disch := (simp only [List.append_nil]; omega)) only [laws_markStringS.l0, if_neg]
    exact Ev_some (by simp [mkStringS])
  | cons a R ih =>
    intro P x h1 h2 h3
    simp only [List.length_cons] at h2 h3
    have e := ih (P ++ [mt (x)]) (x + 1) (by omega) (by omega) (by simp only [List.length_append, List.length_cons, List.length_nil]; omega)
    have e1 : (P ++ [mt (x)]) ++ R = P ++ mt (x) :: R := by simp
    have e2 : ((P ++ [mt (x)]).length : Int) = (P.length : Int) + 1 := by simp
    rw [e1, e2] at e
    refine Ev_succ ?_
    simp (disch := (first | omega | (simp only [len_mid]; omega))) only [laws_markStringS.l0, if_pos, Option.bind_some, w64, set_mid]
    refine Ev_call (mt_ev (x) (by omega) (by omega)) ?_
    try simp (disch := (first | omega | (simp only [len_mid]; omega))) only [if_pos, Option.bind_some, w64, set_mid]
    have e3 : (P ++ [mt (x)]) ++ mkStringS R.length (x + 1) = P ++ mkStringS (R.length + 1) x := by simp [mkStringS]
    have e4 : x + 1 + 1 * (R.length : Int) = x + 1 * ((a :: R).length : Int) := by simp only [List.length_cons]; omega
    rw [e3, e4] at e
    exact e
theorem markStringS_ev (l : List ByteArray) (x : Int) (h1 : 1 ≤ x) (h2 : x + 1 * l.length ≤ 1000000000000) (h3 : l.length ≤ 1048576) : Ev (fun k => laws_markStringS.f k l x) (x + 1 * l.length, mkStringS l.length x) := by
  have e := markStringS_loop l [] x h1 h2 (by simp; omega)
  simp only [List.nil_append] at e
  simp only [laws_markStringS.f]
  exact e
theorem mkStringS_len : ∀ (n : Nat) (x : Int), (mkStringS n x).length = n
  | 0, _ => rfl
  | n + 1, x => by simp only [mkStringS, List.length_cons, mkStringS_len n]
def mkInsS : Nat → Int → List S59
  | 0, _ => []
  | n + 1, x => (⟨x, x + 1⟩ : S59) :: mkInsS n (x + 1 + 1)
theorem markInsS_loop : ∀ (R P : List S59) (x : Int), 1 ≤ x → x + 2 * R.length ≤ 1000000000000 → (P.length : Int) + R.length ≤ 1048576 → Ev (fun k => laws_markInsS.l0 k (P ++ R) x P.length) (x + 2 * R.length, P ++ mkInsS R.length x) := by
  intro R
  induction R with
  | nil =>
    intro P x h1 h2 h3
    refine Ev_succ ?_
    simp (disch := (simp only [List.append_nil]; omega)) only [laws_markInsS.l0, if_neg]
    exact Ev_some (by simp [mkInsS])
  | cons a R ih =>
    intro P x h1 h2 h3
    simp only [List.length_cons] at h2 h3
    have e := ih (P ++ [(⟨x, x + 1⟩ : S59)]) (x + 1 + 1) (by omega) (by omega) (by simp only [List.length_append, List.length_cons, List.length_nil]; omega)
    have e1 : (P ++ [(⟨x, x + 1⟩ : S59)]) ++ R = P ++ (⟨x, x + 1⟩ : S59) :: R := by simp
    have e2 : ((P ++ [(⟨x, x + 1⟩ : S59)]).length : Int) = (P.length : Int) + 1 := by simp
    rw [e1, e2] at e
    refine Ev_succ ?_
    simp (disch := (first | omega | (simp only [len_mid]; omega))) only [laws_markInsS.l0, if_pos, Option.bind_some, w64, set_mid, rd_T59, getD_mid]
    have e3 : (P ++ [(⟨x, x + 1⟩ : S59)]) ++ mkInsS R.length (x + 1 + 1) = P ++ mkInsS (R.length + 1) x := by simp [mkInsS]
    have e4 : x + 1 + 1 + 2 * (R.length : Int) = x + 2 * ((a :: R).length : Int) := by simp only [List.length_cons]; omega
    rw [e3, e4] at e
    exact e
theorem markInsS_ev (l : List S59) (x : Int) (h1 : 1 ≤ x) (h2 : x + 2 * l.length ≤ 1000000000000) (h3 : l.length ≤ 1048576) : Ev (fun k => laws_markInsS.f k l x) (x + 2 * l.length, mkInsS l.length x) := by
  have e := markInsS_loop l [] x h1 h2 (by simp; omega)
  simp only [List.nil_append] at e
  simp only [laws_markInsS.f]
  exact e
theorem mkInsS_len : ∀ (n : Nat) (x : Int), (mkInsS n x).length = n
  | 0, _ => rfl
  | n + 1, x => by simp only [mkInsS, List.length_cons, mkInsS_len n]
theorem grows_both (c : Int) : ∃ v, Ev (fun k => spec_l20More.f k c) v ∧ Ev (fun k => impl_grows.f k c) v ∧ -1 ≤ v ∧ v ≤ 1 := by
  have j (b : Bool) : ∃ v, Ev (fun k => spec_l20More.j0 k c b) v ∧ Ev (fun k => impl_grows.j0 k c b) v ∧ -1 ≤ v ∧ v ≤ 1 := by
    have step : ∀ v : Int, -1 ≤ v ∧ v ≤ 1 → (∀ k, spec_l20More.j0 (k + 1) c b = some v) → (∀ k, impl_grows.j0 (k + 1) c b = some v) → ∃ v, Ev (fun k => spec_l20More.j0 k c b) v ∧ Ev (fun k => impl_grows.j0 k c b) v ∧ -1 ≤ v ∧ v ≤ 1 :=
      fun v hv h1 h2 => ⟨v, Ev_succ (by simp only [h1]; exact Ev.now _), Ev_succ (by simp only [h2]; exact Ev.now _), hv⟩
    cases b with
    | true => exact step 1 (by omega) (fun k => by simp only [spec_l20More.j0, if_true]) (fun k => by simp only [impl_grows.j0, if_true])
    | false =>
      by_cases h : c = 7 ∨ c = 8 ∨ c = 9 ∨ c = 10 ∨ c = 11 ∨ c = 17 ∨ c = 12 ∨ c = 13 ∨ c = 14
      · rcases h with rfl | rfl | rfl | rfl | rfl | rfl | rfl | rfl | rfl <;> exact step (-1) (by omega) (fun k => rfl) (fun k => rfl)
      · refine step 0 (by omega) (fun k => ?_) (fun k => ?_)
        · simp (disch := omega) only [spec_l20More.j0, Bool.false_eq_true, if_false, if_neg]
        · simp (disch := omega) only [impl_grows.j0, Bool.false_eq_true, if_false, if_neg]
  by_cases h2 : c = 2
  · obtain ⟨v, a, b, h⟩ := j (c == 2); exact ⟨v, by simp only [spec_l20More.f, if_pos h2]; exact a, by simp only [impl_grows.f, if_pos h2]; exact b, h⟩
  by_cases h3 : c = 3
  · obtain ⟨v, a, b, h⟩ := j (c == 3); exact ⟨v, by simp only [spec_l20More.f, if_neg h2, if_pos h3]; exact a, by simp only [impl_grows.f, if_neg h2, if_pos h3]; exact b, h⟩
  by_cases h4 : c = 4
  · obtain ⟨v, a, b, h⟩ := j (c == 4); exact ⟨v, by simp only [spec_l20More.f, if_neg h2, if_neg h3, if_pos h4]; exact a, by simp only [impl_grows.f, if_neg h2, if_neg h3, if_pos h4]; exact b, h⟩
  obtain ⟨v, a, b, h⟩ := j (c == 5); exact ⟨v, by simp only [spec_l20More.f, if_neg h2, if_neg h3, if_neg h4]; exact a, by simp only [impl_grows.f, if_neg h2, if_neg h3, if_neg h4]; exact b, h⟩
theorem heights_loop (L : List S59) (C : List ByteArray) (E : List Int) (hl : L.length ≤ 1048576) (d : Nat) : ∀ (i : Nat) (acc : List Int) (h : Int), i + d = L.length → acc.length = i → -(i : Int) ≤ h → h ≤ i →
    ∃ r, Ev (fun k => spec_Heights.l0 k acc h i L C E) r ∧ Ev (fun k => impl_Heights.l0 k acc h L L.length i) r ∧ r.length = L.length := by
  induction d with
  | zero =>
    intro i acc h hi ha h0 h1
    refine ⟨acc, Ev_succ ?_, Ev_succ ?_, by omega⟩
    · simp (disch := omega) only [spec_Heights.l0, if_neg]; exact Ev.now _
    · simp (disch := omega) only [impl_Heights.l0, if_neg]; exact Ev.now _
  | succ d ih =>
    intro i acc h hi ha h0 h1
    obtain ⟨v, e1, e2, p, q⟩ := grows_both (rd_T59 L i).f0
    have hends : ∃ b, spec_l20Ends.f (rd_T59 L i).f0 = some b ∧ impl_ends.f (rd_T59 L i).f0 = some b := by
      by_cases h16 : (rd_T59 L i).f0 = 16
      · exact ⟨true, by simp only [spec_l20Ends.f, if_pos h16], by simp only [impl_ends.f, if_pos h16]⟩
      · exact ⟨_, by simp only [spec_l20Ends.f, if_neg h16]; rfl, by simp only [impl_ends.f, if_neg h16]⟩
    obtain ⟨b, b1, b2⟩ := hends
    cases b with
    | true =>
      obtain ⟨r, a1, a2, hr⟩ := ih (i + 1) (acc ++ [h]) 0 (by omega) (by simp; omega) (by omega) (by omega)
      refine ⟨r, Ev_succ ?_, Ev_succ ?_, hr⟩
      · simp (disch := omega) only [spec_Heights.l0, if_pos, Option.bind_some, b1]
        refine Ev_call e1 ?_
        simp (disch := omega) only [if_true, w64]; exact a1
      · simp (disch := omega) only [impl_Heights.l0, if_pos, Option.bind_some, b2]
        refine Ev_call e2 ?_
        simp (disch := omega) only [if_true, w64]; exact a2
    | false =>
      obtain ⟨r, a1, a2, hr⟩ := ih (i + 1) (acc ++ [h]) (h + v) (by omega) (by simp; omega) (by omega) (by omega)
      refine ⟨r, Ev_succ ?_, Ev_succ ?_, hr⟩
      · simp (disch := omega) only [spec_Heights.l0, if_pos, Option.bind_some, b1]
        refine Ev_call e1 ?_
        simp (disch := omega) only [Bool.false_eq_true, if_false, w64]; exact a1
      · simp (disch := omega) only [impl_Heights.l0, if_pos, Option.bind_some, b2]
        refine Ev_call e2 ?_
        simp (disch := omega) only [Bool.false_eq_true, if_false, w64]; exact a2
theorem FnExactHeights : laws_FnExactHeights.Say := by
  intro li ls le hi hs he
  simp only [maxLen] at hi hs he
  apply Ev.rounds
  simp only [laws_FnExactHeights.f, laws_szCode.f]
  obtain ⟨t1, e1, h1, h1', f1⟩ := szInsS_some li hi.1 1048576 (by omega) (by omega)
  simp only [e1, Option.bind_some]
  by_cases n1 : t1 < 0
  · simp only [if_pos n1, Option.bind_some, if_pos (show (-1 : Int) < 0 by omega)]; exact Ev.now _
  simp only [if_neg n1]
  obtain ⟨t2, e2, h2, h2', f2⟩ := szStringS_ev ls hs.1 hs.2 t1 (by omega) (by omega)
  by_cases n2 : t2 < 0
  · refine Ev_call (a := -1) (Ev_call e2 ?_) ?_
    · simp only [if_pos n2]; exact Ev.now _
    · simp only [if_pos (show (-1 : Int) < 0 by omega)]; exact Ev.now _
  obtain ⟨t3, e3, h3, h3', f3⟩ := szIntS_some le he.1 t2 (by omega) (by omega)
  by_cases n3 : t3 < 0
  · refine Ev_call (a := -1) (Ev_call e2 ?_) ?_
    · simp only [if_neg n2, e3, Option.bind_some, if_pos n3]; exact Ev.now _
    · simp only [if_pos (show (-1 : Int) < 0 by omega)]; exact Ev.now _
  refine Ev_call (a := t3) (Ev_call e2 ?_) ?_
  · simp only [if_neg n2, e3, Option.bind_some, if_neg n3]; exact Ev.now _
  simp only [if_neg n3]
  have q1 := f1 (by omega); have q2 := (f2 (by omega)).1; have q3 := f3 (by omega)
  have ec : Ev (fun k => laws_toCode.f k li ls le) (li.map cvIns, ls, le) := by
    simp only [laws_toCode.f]
    exact Ev_call (toInsS_ev li (by omega)) (Ev_call (toStringS_ev ls (by omega)) (Ev_call (toIntS_ev le (by omega)) (Ev.now _)))
  have hml : (li.map cvIns).length = li.length := by simp
  obtain ⟨r, a1, a2, hr⟩ := heights_loop (li.map cvIns) ls le (by omega) (li.map cvIns).length 0 [] 0 (by omega) rfl (by omega) (by omega)
  have er := eqIntS_ev r (by omega)
  refine Ev_call ec (Ev_call (a := r) ?_ (Ev_call ec (Ev_call (a := r) ?_ (Ev_call er ?_))))
  · simp only [spec_Heights.f]; exact a1
  · simp only [impl_Heights.f]; exact a2
  simp only [if_true]
  refine Ev_call ec (Ev_call (a := true) ?_ ?_)
  · simp only [laws_eqCode.f]
    refine Ev_call (eqInsS_ev _ (by omega)) ?_
    simp only [if_true]
    refine Ev_call (eqStringS_ev _ (by omega)) ?_
    simp only [if_true]
    refine Ev_call (eqIntS_ev _ (by omega)) ?_
    simp only [if_true]; exact Ev.now _
  simp only [if_true]
  have em : Ev (fun k => laws_markCode.f k (li.map cvIns) ls le 1) (1 + 2 * (li.map cvIns).length + 1 * ls.length + 1 * le.length, mkInsS (li.map cvIns).length 1, mkStringS ls.length (1 + 2 * (li.map cvIns).length), mkIntS le.length (1 + 2 * (li.map cvIns).length + 1 * ls.length)) := by
    simp only [laws_markCode.f]
    refine Ev_call (markInsS_ev _ 1 (by omega) (by omega) (by omega)) (Ev_call (markStringS_ev _ _ (by omega) (by simp only; omega) (by omega)) (Ev_call (markIntS_ev _ _ (by simp only; omega) (by simp only; omega) (by omega)) (Ev.now _)))
  refine Ev_call em ?_
  simp (disch := omega) only [if_neg]
  refine Ev_call er ?_
  refine Ev_succ ?_
  simp only [laws_FnExactHeights.j0, Bool.not_true, Bool.false_eq_true, if_false]
  refine Ev_call (markIntS_ev r 1 (by omega) (by omega) (by omega)) ?_
  have eh := heldIntS_ev r.length 1 (by omega) (by omega) (by omega)
  refine Ev_call eh ?_
  simp (disch := omega) only [if_neg, if_true]
  refine Ev_call ec (Ev_call (a := r) ?_ (Ev_call er ?_))
  · simp only [impl_Heights.f]; exact a2
  simp only [if_true]
  refine Ev_call eh ?_
  simp (disch := omega) only [if_neg, if_true]
  exact Ev.now _


end Go.Proofs.Ytpomlknkfedekaa.Pure

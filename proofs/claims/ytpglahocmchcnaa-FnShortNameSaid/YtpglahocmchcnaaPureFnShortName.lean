import Derived.Test.YtpglahocmchcnaaSayFnShortName
import Derived.Test.YtpglahocmchcnaaKit
/- FnShortName: short names are unlike for unlike numbers, a name of a script each, and no shorter for a greater number; for every code. -/
namespace Go.Proofs.Ytpglahocmchcnaa.Pure
open Go.RowKit Go.Proofs.Ytpglahocmchcnaa.PFnShortName Go.Proofs.YtpglahocmchcnaaW.PrintWords Go.Proofs.YtpglahocmchcnaaW.PrintLast Go.Proofs.YtpglahocmchcnaaW.PrintMore Go.Proofs.Ytpglahocmchcnaa.Kit
set_option linter.unusedSimpArgs false
set_option linter.unusedVariables false

theorem rev_loop (d : Nat) : ∀ (A M B : List Int), M.length ≤ d → (A ++ M ++ B).length < 4611686018427387904 →
    Ev (fun k => slices_Reverse_byte_byte.l0 k (A ++ M ++ B) A.length ((A.length : Int) + M.length - 1)) (A ++ M.reverse ++ B) := by
  induction d with
  | zero =>
    intro A M B hd hl
    obtain rfl : M = [] := List.eq_nil_of_length_eq_zero (by omega)
    refine Ev_succ ?_
    simp (disch := (first | omega | (simp; done) | (simp; omega))) only [slices_Reverse_byte_byte.l0, if_neg]
    exact Ev.now _
  | succ d ih =>
    intro A M B hd hl
    match M with
    | [] =>
      refine Ev_succ ?_
      simp (disch := (first | omega | (simp; done) | (simp; omega))) only [slices_Reverse_byte_byte.l0, if_neg]
      exact Ev.now _
    | [x] =>
      refine Ev_succ ?_
      simp (disch := (first | omega | (simp; done) | (simp; omega))) only [slices_Reverse_byte_byte.l0, if_neg]
      exact Ev.now _
    | x :: y :: M =>
      obtain ⟨M', z, hM⟩ : ∃ M' z, y :: M = M' ++ [z] := ⟨(y :: M).dropLast, (y :: M).getLast (by simp), (List.dropLast_concat_getLast (by simp)).symm⟩
      rw [hM] at hd hl ⊢
      simp only [List.length_append, List.length_cons, List.length_nil] at hd hl
      have e1 : rd (A ++ x :: (M' ++ [z]) ++ B) (A.length : Int) = x := by simp [rd, List.getD_eq_getElem?_getD]
      have e2 : rd (A ++ x :: (M' ++ [z]) ++ B) ((A.length : Int) + (x :: (M' ++ [z])).length - 1) = z := by
        have : ((A.length : Int) + (x :: (M' ++ [z])).length - 1).toNat = A.length + (M'.length + 1) := by simp; omega
        simp only [rd, this, List.getD_eq_getElem?_getD]
        rw [List.append_assoc, List.getElem?_append_right (by omega), Nat.add_sub_cancel_left, List.cons_append, List.getElem?_cons_succ, List.append_assoc, List.getElem?_append_right (by omega)]
        simp
      have e3 : ((A ++ x :: (M' ++ [z]) ++ B).set ((A.length : Int)).toNat z).set ((A.length : Int) + (x :: (M' ++ [z])).length - 1).toNat x = (A ++ [z]) ++ M' ++ (x :: B) := by
        have : ((A.length : Int) + (x :: (M' ++ [z])).length - 1).toNat = A.length + (M'.length + 1) := by simp; omega
        rw [this]
        simp
      have hi := ih (A ++ [z]) M' (x :: B) (by omega) (by simp; omega)
      refine Ev_succ ?_
      simp (disch := (first | omega | (simp; done) | (simp; omega))) only [slices_Reverse_byte_byte.l0, if_pos, e1, e2, e3, w64]
      have e4 : ((A ++ [z]).length : Int) = (A.length : Int) + 1 := by simp
      have e5 : (A.length : Int) + 1 + M'.length - 1 = (A.length : Int) + (x :: (M' ++ [z])).length - 1 - 1 := by simp; omega
      rw [e4, e5] at hi
      have e6 : A ++ [z] ++ M'.reverse ++ x :: B = A ++ (x :: (M' ++ [z])).reverse ++ B := by simp
      rw [e6] at hi
      exact hi
theorem rev_all (l : List Int) (h : l.length < 4611686018427387904) : Ev (fun k => slices_Reverse_byte_byte.f k l) l.reverse := by
  have e := rev_loop l.length [] l [] (Nat.le_refl _) (by simpa using h)
  simp only [List.nil_append, List.append_nil, List.length_nil] at e
  simp (disch := omega) only [slices_Reverse_byte_byte.f, w64]
  have e1 : ((0 : Nat) : Int) + (l.length : Int) - 1 = (l.length : Int) - 1 := by omega
  rw [e1] at e
  exact e

theorem at_some (l : List Int) (hl : l.length ≤ 1048576) (hw : ∀ x ∈ l, (Lit.int .u8 x).wf = true) (i : Int) (h0 : 0 ≤ i) (h1 : i ≤ 1048576) : ∃ v, laws_at.f l i = some v ∧ 0 ≤ v ∧ v < 256 := by
  by_cases h : i < (l.length : Int)
  · have hx : rd l i ∈ l := by
      rw [rd, getD_at l _ _ (by omega)]; exact List.getElem_mem _
    have hr := wf_u8 (hw _ hx)
    exact ⟨rd l i, by simp (disch := omega) only [laws_at.f, if_pos, w64], by omega, by omega⟩
  · exact ⟨(i * 37 + (l.length : Int) * 11) % 256, by simp (disch := omega) only [laws_at.f, if_neg, w64, tmod_nn], by omega, by omega⟩
def dgs (y : Nat) : List Int := if y / 26 = 0 then [97 + ((y % 26 : Nat) : Int)] else (97 + ((y % 26 : Nat) : Int)) :: dgs (y / 26)
termination_by y
decreasing_by omega
theorem dgs_one {y : Nat} (h : y / 26 = 0) : dgs y = [97 + ((y % 26 : Nat) : Int)] := by rw [dgs, if_pos h]
theorem dgs_more {y : Nat} (h : ¬ y / 26 = 0) : dgs y = (97 + ((y % 26 : Nat) : Int)) :: dgs (y / 26) := by rw [dgs, if_neg h]
theorem dgs_range (y : Nat) : ∀ x ∈ dgs y, 97 ≤ x ∧ x ≤ 122 := by
  induction y using Nat.strongRecOn with
  | _ y ih =>
    by_cases h : y / 26 = 0
    · rw [dgs_one h]; intro x hx; obtain rfl := List.mem_singleton.1 hx; omega
    · rw [dgs_more h]
      intro x hx
      rcases List.mem_cons.1 hx with rfl | hx
      · omega
      · exact ih (y / 26) (by omega) x hx
def valD : List Int → Int
  | [] => 0
  | c :: t => (c - 97) + 26 * valD t
theorem valD_dgs (y : Nat) : valD (dgs y) = y := by
  induction y using Nat.strongRecOn with
  | _ y ih =>
    by_cases h : y / 26 = 0
    · rw [dgs_one h]; simp only [valD]; omega
    · rw [dgs_more h]; simp only [valD]; rw [ih (y / 26) (by omega)]; omega
theorem dgs_pos (y : Nat) : 0 < (dgs y).length := by
  by_cases h : y / 26 = 0
  · rw [dgs_one h]; simp
  · rw [dgs_more h]; simp
theorem dgs_mono (a : Nat) : ∀ b, a ≤ b → (dgs a).length ≤ (dgs b).length := by
  induction a using Nat.strongRecOn with
  | _ a ih =>
    intro b hab
    by_cases h : a / 26 = 0
    · rw [dgs_one h]; exact dgs_pos b
    · rw [dgs_more h, dgs_more (y := b) (by omega)]
      have := ih (a / 26) (by omega) (b / 26) (by omega)
      simp only [List.length_cons]; omega
theorem dgs_len (y : Nat) : (dgs y).length ≤ y + 1 := by
  induction y using Nat.strongRecOn with
  | _ y ih =>
    by_cases h : y / 26 = 0
    · rw [dgs_one h]; simp
    · rw [dgs_more h]
      have := ih (y / 26) (by omega)
      simp only [List.length_cons]; omega
/-- A short name. -/
def sn (y : Nat) : ByteArray := strOfNums (36 :: (dgs y).reverse)
theorem sn_B (y : Nat) : bytesOf (sn y) = 36 :: (dgs y).reverse := by
  apply B_str
  intro x hx
  rcases List.mem_cons.1 hx with rfl | hx
  · omega
  · have := dgs_range y x (List.mem_reverse.1 hx); omega
theorem sn_size (y : Nat) : (sn y).size = (dgs y).length + 1 := by
  rw [← B_len, sn_B]; simp
theorem sn_inj {a b : Nat} (h : sn a = sn b) : a = b := by
  have e := congrArg bytesOf h
  rw [sn_B, sn_B] at e
  have e2 : dgs a = dgs b := by
    have := (List.cons.inj e).2
    exact List.reverse_inj.1 this
  have e3 := congrArg valD e2
  rw [valD_dgs, valD_dgs] at e3
  omega
theorem sn_loop (d : Nat) : ∀ (y : Int) (acc : List Int), 0 ≤ y → y.toNat ≤ d → (acc.length : Int) + y ≤ 70000 →
    Ev (fun k => impl_ShortName.l0 k y acc) (⟨#[36]⟩ ++ strOfNums (acc ++ dgs y.toNat).reverse) := by
  induction d with
  | zero =>
    intro y acc h0 hd hl
    have hr := rev_all (acc ++ [97 + ((y.toNat % 26 : Nat) : Int)]) (by simp; omega)
    have ey : (97 + y % 26) % 256 = 97 + ((y.toNat % 26 : Nat) : Int) := by omega
    have eq : y / 26 = 0 := by omega
    rw [dgs_one (by omega)]
    refine Ev_succ ?_
    simp (disch := omega) only [impl_ShortName.l0, if_pos, tmod_nn, tdiv_nn, w64, Option.bind_some, eq, ey]
    refine Ev_call hr ?_
    simp (disch := (simp only [strOfNums_size, List.length_reverse, List.length_append, List.length_cons, List.length_nil]; omega)) only [if_pos]
    exact Ev.now _
  | succ d ih =>
    intro y acc h0 hd hl
    have ey : (97 + y % 26) % 256 = 97 + ((y.toNat % 26 : Nat) : Int) := by omega
    by_cases hq : y / 26 = 0
    · have hr := rev_all (acc ++ [97 + ((y.toNat % 26 : Nat) : Int)]) (by simp; omega)
      rw [dgs_one (by omega)]
      refine Ev_succ ?_
      simp (disch := omega) only [impl_ShortName.l0, if_pos, tmod_nn, tdiv_nn, w64, Option.bind_some, hq, ey]
      refine Ev_call hr ?_
      simp (disch := (simp only [strOfNums_size, List.length_reverse, List.length_append, List.length_cons, List.length_nil]; omega)) only [if_pos]
      exact Ev.now _
    · have e := ih (y / 26) (acc ++ [97 + ((y.toNat % 26 : Nat) : Int)]) (by omega) (by omega) (by simp; omega)
      rw [dgs_more (by omega)]
      have e26 : (y / 26).toNat = y.toNat / 26 := by omega
      rw [e26, List.append_assoc] at e
      refine Ev_succ ?_
      simp (disch := omega) only [impl_ShortName.l0, if_pos, if_neg, tmod_nn, tdiv_nn, w64, Option.bind_some, ey]
      exact e
theorem sn_ev (y : Int) (h0 : 0 ≤ y) (h1 : y ≤ 65535) : Ev (fun k => impl_ShortName.f k y) (sn y.toNat) := by
  have e := sn_loop y.toNat y [] h0 (Nat.le_refl _) (by simp; omega)
  have z : (⟨#[36]⟩ : ByteArray) ++ strOfNums ([] ++ dgs y.toNat).reverse = sn y.toNat := by
    rw [sn, List.nil_append, show (36 :: (dgs y.toNat).reverse) = [36] ++ (dgs y.toNat).reverse from rfl, ← str_app]; rfl
  rw [z] at e
  simp (disch := omega) only [impl_ShortName.f, if_neg]
  exact e
theorem letter36 (c : Int) (h : c = 36 ∨ (97 ≤ c ∧ c ≤ 122)) : spec_l3Letter.f c true = some true := by
  rcases h with rfl | ⟨h0, h1⟩
  · rfl
  · simp (disch := omega) only [spec_l3Letter.f, if_pos]
theorem word_end (s : ByteArray) (hz : s.size ≤ 100000) (hw : ∀ i : Int, 0 ≤ i → i < s.size → bt s i = 36 ∨ (97 ≤ bt s i ∧ bt s i ≤ 122)) (d : Nat) : ∀ i : Int, 0 ≤ i → i + d = s.size → Ev (fun k => spec_l3Word.l0 k s i true) s.size := by
  induction d with
  | zero =>
    intro i h0 hi
    refine Ev_succ ?_
    simp (disch := omega) only [spec_l3Word.l0, if_neg]
    exact Ev_some (by omega)
  | succ d ih =>
    intro i h0 hi
    have e := ih (i + 1) (by omega) (by omega)
    have hl := letter36 _ (hw i h0 (by omega))
    refine Ev_succ ?_
    simp (disch := omega) only [spec_l3Word.l0, if_pos, hl, Option.bind_some, if_true, w64]
    exact e
theorem extract_all (s : ByteArray) : s.extract 0 s.size = s := by
  apply B_inj.1
  rw [B_ext, List.drop_zero, List.take_of_length_le (by rw [B_len]; omega)]
theorem lex_sn (y : Nat) (hy : y ≤ 65535) : Ev (fun k => spec_Lex.f k (sn y) true) ([⟨1, sn y, 0, 0⟩], -1) := by
  have hsz := sn_size y
  have hln := dgs_len y
  have hb : ∀ i : Int, 0 ≤ i → i < (sn y).size → bt (sn y) i = 36 ∨ (97 ≤ bt (sn y) i ∧ bt (sn y) i ≤ 122) := by
    intro i h0 h1
    rw [bt_B, sn_B, getD_at _ _ _ (by simp; omega)]
    have hm := List.getElem_mem (l := 36 :: (dgs y).reverse) (n := i.toNat) (by simp; omega)
    rcases List.mem_cons.1 hm with e | hm
    · exact .inl e
    · exact .inr (dgs_range y _ (List.mem_reverse.1 hm))
  have h36 : bt (sn y) 0 = 36 := by rw [bt_B, sn_B]; rfl
  have hskip0 : Ev (fun k => spec_l3Skip.f k (sn y) 0) 0 := by
    simp only [spec_l3Skip.f]
    refine Ev_succ ?_
    simp (disch := omega) only [spec_l3Skip.l0, if_pos, if_neg, h36]
    simp only [show ((36 : Int) == 32) = false from rfl]
    refine Ev_succ ?_
    simp (disch := omega) only [spec_l3Skip.j1, Bool.false_eq_true, if_false, if_neg]
    refine Ev_succ ?_
    simp only [spec_l3Skip.j2, if_true]
    exact Ev.now _
  have hskipn : Ev (fun k => spec_l3Skip.f k (sn y) (sn y).size) (sn y).size := by
    simp only [spec_l3Skip.f]
    refine Ev_succ ?_
    simp (disch := omega) only [spec_l3Skip.l0, if_neg]
    exact Ev.now _
  have hword := word_end (sn y) (by omega) hb (sn y).size 0 (by omega) (by omega)
  have htok : Ev (fun k => spec_l3Token.f k (sn y) 0 true) (1, sn y, 0, 0, ((sn y).size : Int)) := by
    simp (disch := omega) only [spec_l3Token.f, if_pos, h36, letter36 36 (.inl rfl), Option.bind_some, spec_l3Word.f]
    refine Ev_call hword ?_
    simp (disch := omega) only [if_pos, Int.toNat_natCast, Int.toNat_zero, extract_all]
    exact Ev.now _
  simp only [spec_Lex.f]
  refine Ev_call hskip0 (Ev_succ ?_)
  simp (disch := omega) only [spec_Lex.l0, if_pos]
  refine Ev_call htok ?_
  simp (disch := (first | omega | (simp only [List.length_nil]; omega))) only [if_pos, if_neg]
  refine Ev_call hskipn (Ev_succ ?_)
  simp (disch := omega) only [spec_Lex.l0, if_neg]
  exact Ev_some rfl
theorem FnShortName : laws_FnShortName.Say := by
  intro l hl; obtain ⟨_, hw⟩ := hl
  apply Ev.rounds
  simp only [laws_FnShortName.f, laws_big.f, Option.bind_some]
  by_cases hb : (l.length : Int) > 1048576
  · simp only [decide_eq_true hb, if_true]; exact Ev.now _
  simp only [decide_eq_false hb, Bool.false_eq_true, if_false]
  obtain ⟨v0, e0, p0, q0⟩ := at_some l (by omega) hw 0 (by omega) (by omega)
  obtain ⟨v1, e1, p1, q1⟩ := at_some l (by omega) hw 1 (by omega) (by omega)
  obtain ⟨v2, e2, p2, q2⟩ := at_some l (by omega) hw 2 (by omega) (by omega)
  obtain ⟨v3, e3, p3, q3⟩ := at_some l (by omega) hw 3 (by omega) (by omega)
  have w1 : wrap64 (wrap64 (v0 * 256) + v1) = v0 * 256 + v1 := by rw [w64 (x := v0 * 256) (by omega) (by omega), w64 (by omega) (by omega)]
  have w2 : wrap64 (wrap64 (v2 * 256) + v3) = v2 * 256 + v3 := by rw [w64 (x := v2 * 256) (by omega) (by omega), w64 (by omega) (by omega)]
  simp only [e0, e1, e2, e3, Option.bind_some, w1, w2]
  refine Ev_call (sn_ev _ (by omega) (by omega)) (Ev_call (sn_ev _ (by omega) (by omega)) (Ev_call (lex_sn _ (by omega)) ?_))
  have hc : ((sn (v0 * 256 + v1).toNat).toList == (sn (v2 * 256 + v3).toNat).toList) = (v0 * 256 + v1 == v2 * 256 + v3) := by
    rw [Bool.eq_iff_iff, beq_iff_eq, beq_iff_eq, toList_inj]
    constructor
    · intro h; have := sn_inj h; omega
    · intro h; rw [h]
  have hm : Ev (fun k => impl_ShortName.f k (-1)) (⟨#[]⟩ : ByteArray) := by
    simp (disch := omega) only [impl_ShortName.f, if_pos]; exact Ev.now _
  have hz : ((⟨#[]⟩ : ByteArray).toList == ([] : List UInt8)) = true := by rw [toList_data]; rfl
  rw [hc]
  simp only [beq_self_eq_true, if_true, List.length_cons, List.length_nil, rd_T50, Int.toNat_zero, List.getD_cons_zero]
  by_cases hab : v0 * 256 + v1 ≥ v2 * 256 + v3
  · simp (disch := omega) only [if_pos]
    refine Ev_call hm ?_
    rw [hz]; exact Ev.now _
  · have hl := dgs_mono (v0 * 256 + v1).toNat (v2 * 256 + v3).toNat (by omega)
    have hs1 := sn_size (v0 * 256 + v1).toNat
    have hs2 := sn_size (v2 * 256 + v3).toNat
    simp (disch := omega) only [if_pos, if_neg hab]
    refine Ev_call hm ?_
    rw [hz]; exact Ev.now _


end Go.Proofs.Ytpglahocmchcnaa.Pure

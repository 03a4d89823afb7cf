import Derived.Test.YtpglahocmchcnaaPFnExactReadVarx1
import Derived.Test.YtpglahocmchcnaaVarL
/- FnExactReadVar: the program's ReadVar takes the bytes once; the reference looks at each beginning. They tell the same, for every text. -/
namespace Go.Proofs.Ytpglahocmchcnaa.Pure
open Go.RowKit Go.Proofs.Ytpglahocmchcnaa.PFnExactReadVar Go.Proofs.YtpglahocmchcnaaW.PrintWords Go.Proofs.YtpglahocmchcnaaW.PrintLast Go.Proofs.YtpglahocmchcnaaW.PrintMore Go.Proofs.Ytpglahocmchcnaa.Kit
set_option linter.unusedSimpArgs false
set_option linter.unusedVariables false

theorem svar_loop (d : Nat) : ∀ (x : Int) (acc : List Int), x.toNat ≤ d → 0 ≤ x → (acc.length : Int) + x / 4 < 140737488355328 →
    Ev (fun k => spec_Var.l0 k x acc) (strOfNums (acc ++ varL x.toNat)) := by
  induction d with
  | zero =>
    intro x acc hd h0 hl
    refine Ev_succ ?_
    rw [varL_small (by omega)]
    have e : x % 256 = (x.toNat : Int) := by omega
    simp (disch := omega) only [spec_Var.l0, if_pos, if_neg, e]; exact Ev.now _
  | succ d ih =>
    intro x acc hd h0 hl
    by_cases h : 128 ≤ x
    · have e1 := ih (x / 128) (acc ++ [(128 + x % 128) % 256]) (by omega) (by omega) (by simp; omega)
      refine Ev_succ ?_
      simp (disch := omega) only [spec_Var.l0, if_pos, w64, tdiv_nn, tmod_nn]
      rw [varL_big (by omega)]
      have e2 : ((128 + x.toNat % 128 : Nat) : Int) = (128 + x % 128) % 256 := by omega
      have e3 : x.toNat / 128 = (x / 128).toNat := by omega
      rw [e2, e3, show acc ++ (128 + x % 128) % 256 :: varL (x / 128).toNat = acc ++ [(128 + x % 128) % 256] ++ varL (x / 128).toNat by simp]
      exact e1
    · refine Ev_succ ?_
      rw [varL_small (by omega)]
      have e : x % 256 = (x.toNat : Int) := by omega
      simp (disch := omega) only [spec_Var.l0, if_pos, if_neg, e]; exact Ev.now _
theorem svar (x : Int) (h0 : 0 ≤ x) (h1 : x ≤ 562949953421311) : Ev (fun k => spec_Var.f k x) (strOfNums (varL x.toNat)) := by
  have e := svar_loop x.toNat x [] (Nat.le_refl _) h0 (by simp; omega)
  simp (disch := omega) only [spec_Var.f, spec_l1In.f, if_pos, Option.bind_some, decide_eq_true h1]
  exact e
theorem pow7 {j : Nat} (h : j ≤ 7) : 128 ^ j ≤ 562949953421312 := by
  have := Nat.pow_le_pow_right (n := 128) (by decide) h
  have e : 128 ^ 7 = 562949953421312 := by decide
  omega
/-- The inner loop comes to the value of the first bytes. -/
theorem inner (s : ByteArray) (kk : Nat) (hk : kk ≤ s.size) (h7 : kk ≤ 7) (r : Int × Int) (h : Ev (fun k => spec_ReadVar.l1 k s kk (valL ((bytesOf s).take kk)) (-1)) r) (j : Nat) :
    ∀ i : Nat, i ≤ kk → j = i → Ev (fun k => spec_ReadVar.l1 k s kk (valL (((bytesOf s).take kk).drop i)) ((i : Int) - 1)) r := by
  induction j with
  | zero =>
    intro i _ hi
    subst hi
    exact h
  | succ j ih =>
    intro i hi he
    subst he
    have hb := bt_range s j
    have hl : (bytesOf s).length = s.size := B_len s
    have hlt : j < ((bytesOf s).take kk).length := by rw [List.length_take]; omega
    have hd : ((bytesOf s).take kk).drop j = bt s j :: ((bytesOf s).take kk).drop (j + 1) := by
      rw [List.drop_eq_getElem_cons hlt, List.getElem_take, bt_B]
      congr 1
      rw [getD_at _ _ _ (by rw [hl]; simp; omega)]
      rfl
    have hv := valL_lt (((bytesOf s).take kk).drop (j + 1))
    have hn := valL_nn (((bytesOf s).take kk).drop (j + 1))
    have hp := pow7 (j := (((bytesOf s).take kk).drop (j + 1)).length) (by simp; omega)
    have e := ih j (by omega) rfl
    rw [hd] at e
    simp only [valL] at e
    refine Ev_succ ?_
    have e1 : ((j + 1 : Nat) : Int) - 1 = j := by omega
    rw [e1]
    have e2 : valL (((bytesOf s).take kk).drop (j + 1)) * 128 + bt s j % 128 = bt s j % 128 + 128 * valL (((bytesOf s).take kk).drop (j + 1)) := by omega
    simp (disch := omega) only [spec_ReadVar.l1, if_pos, w64, tmod_nn, e2]
    exact e
theorem chk (s : ByteArray) (kk : Nat) (n : Nat) : (strOfNums (varL n)).toList = (s.extract 0 kk).toList ↔ varL n = (bytesOf s).take kk := by
  rw [toList_B, B_str _ (varL_range n), B_ext, List.drop_zero]
theorem spec_hit (s : ByteArray) (hz : s.size ≤ 1048576) (kk : Nat) (h1 : 1 ≤ kk) (h7 : kk ≤ 7) (hs : kk ≤ s.size) (h : varL (valL ((bytesOf s).take kk)).toNat = (bytesOf s).take kk) :
    Ev (fun k => spec_ReadVar.l0 k s kk) (valL ((bytesOf s).take kk), (kk : Int)) := by
  have hv := valL_lt ((bytesOf s).take kk)
  have hn := valL_nn ((bytesOf s).take kk)
  have hp := pow7 (j := ((bytesOf s).take kk).length) (by simp; omega)
  have hin := inner s kk hs h7 (valL ((bytesOf s).take kk), (kk : Int)) (by
    refine Ev_succ ?_
    simp (disch := omega) only [spec_ReadVar.l1, if_neg]
    refine Ev_call (svar _ hn (by omega)) ?_
    simp (disch := omega) only [if_pos, Int.toNat_natCast]
    simp only [if_pos ((chk s kk _).2 h)]
    exact Ev.now _) kk kk (Nat.le_refl _) rfl
  rw [List.drop_of_length_le (by simp; omega)] at hin
  refine Ev_succ ?_
  simp (disch := omega) only [spec_ReadVar.l0, if_pos, decide_eq_true (show (kk : Int) ≤ (s.size : Int) by omega)]
  refine Ev_succ ?_
  simp (disch := omega) only [spec_ReadVar.j1, if_true, w64]
  exact hin
theorem spec_miss (s : ByteArray) (hz : s.size ≤ 1048576) (kk : Nat) (h1 : 1 ≤ kk) (h7 : kk ≤ 7) (hs : kk ≤ s.size) (h : varL (valL ((bytesOf s).take kk)).toNat ≠ (bytesOf s).take kk) (r : Int × Int)
    (hr : Ev (fun k => spec_ReadVar.l0 k s ((kk + 1 : Nat) : Int)) r) : Ev (fun k => spec_ReadVar.l0 k s kk) r := by
  have hv := valL_lt ((bytesOf s).take kk)
  have hn := valL_nn ((bytesOf s).take kk)
  have hp := pow7 (j := ((bytesOf s).take kk).length) (by simp; omega)
  have hin := inner s kk hs h7 r (by
    refine Ev_succ ?_
    simp (disch := omega) only [spec_ReadVar.l1, if_neg]
    refine Ev_call (svar _ hn (by omega)) ?_
    simp (disch := omega) only [if_pos, Int.toNat_natCast, w64]
    simp only [if_neg (fun e => h ((chk s kk _).1 e))]
    exact hr) kk kk (Nat.le_refl _) rfl
  rw [List.drop_of_length_le (by simp; omega)] at hin
  refine Ev_succ ?_
  simp (disch := omega) only [spec_ReadVar.l0, if_pos, decide_eq_true (show (kk : Int) ≤ (s.size : Int) by omega)]
  refine Ev_succ ?_
  simp (disch := omega) only [spec_ReadVar.j1, if_true, w64]
  exact hin
theorem spec_end (s : ByteArray) (kk : Nat) (h : 7 < kk ∨ s.size < kk) : Ev (fun k => spec_ReadVar.l0 k s kk) (0, 0) := by
  refine Ev_succ ?_
  by_cases h7 : kk ≤ 7
  · simp (disch := omega) only [spec_ReadVar.l0, if_pos, decide_eq_false (show ¬ (kk : Int) ≤ (s.size : Int) by omega)]
    refine Ev_succ ?_
    simp only [spec_ReadVar.j1, Bool.false_eq_true, if_false]; exact Ev.now _
  · simp (disch := omega) only [spec_ReadVar.l0, if_neg]
    refine Ev_succ ?_
    simp only [spec_ReadVar.j1, Bool.false_eq_true, if_false]; exact Ev.now _
/-- Behind a byte that ends a number nothing is found any more. -/
theorem spec_rest (s : ByteArray) (hz : s.size ≤ 1048576) (j : Nat) (hj : (bytesOf s).getD j 0 < 128) (d : Nat) : ∀ kk : Nat, j + 2 ≤ kk → kk + d = 9 + j → Ev (fun k => spec_ReadVar.l0 k s kk) (0, 0) := by
  induction d with
  | zero => intro kk h1 hd; exact spec_end s kk (by omega)
  | succ d ih =>
    intro kk h1 hd
    by_cases h7 : kk ≤ 7 ∧ kk ≤ s.size
    · obtain ⟨h7, hs⟩ := h7
      have hl : (bytesOf s).length = s.size := B_len s
      refine spec_miss s hz kk (by omega) h7 hs (varL_not_mid _ j (by rw [List.length_take]; omega) ?_ _) _ (ih (kk + 1) (by omega) (by omega))
      rw [List.getD_eq_getElem?_getD, List.getElem?_take_of_lt (by omega), ← List.getD_eq_getElem?_getD]
      exact hj
    · exact spec_end s kk (by omega)
theorem shl7 (v : Int) (j : Nat) (hj : j ≤ 6) (h0 : 0 ≤ v) (h1 : v < 128) : shl .i64 v (7 * (j : Int)) = v * ((128 ^ j : Nat) : Int) := by
  unfold shl
  have e : min (7 * (j : Int)).toNat IntKind.i64.bits = 7 * j := by simp only [IntKind.bits]; omega
  have e2 : (2 : Int) ^ (7 * j) = ((128 ^ j : Nat) : Int) := by rw [Int.pow_mul, Int.natCast_pow]; rfl
  rw [e, e2]
  have hp := pow7 (j := j) (by omega)
  have hp6 := pow7 (j := j + 1) (by omega)
  have hs6 : 128 ^ (j + 1) = 128 ^ j * 128 := Nat.pow_succ _ _
  have hq : v * ((128 ^ j : Nat) : Int) ≤ 128 * ((128 ^ j : Nat) : Int) := Int.mul_le_mul_of_nonneg_right (by omega) (Int.natCast_nonneg _)
  have hq0 : 0 ≤ v * ((128 ^ j : Nat) : Int) := Int.mul_nonneg h0 (Int.natCast_nonneg _)
  exact wraps_i64 _ hq0 (by omega)
theorem both (s : ByteArray) (hz : s.size ≤ 1048576) (d : Nat) : ∀ j : Nat, j + d = 8 → j ≤ s.size → (∀ y ∈ (bytesOf s).take j, 128 ≤ y ∧ y < 256) →
    ∃ r, Ev (fun k => spec_ReadVar.l0 k s ((j + 1 : Nat) : Int)) r ∧ Ev (fun k => impl_ReadVar.l0 k s (valL ((bytesOf s).take j)) j) r := by
  have hl : (bytesOf s).length = s.size := B_len s
  induction d with
  | zero =>
    intro j hj hs hp
    refine ⟨(0, 0), spec_end s _ (by omega), Ev_succ ?_⟩
    simp (disch := omega) only [impl_ReadVar.l0, if_neg]
    refine Ev_succ ?_
    simp only [impl_ReadVar.j1, Bool.false_eq_true, if_false]; exact Ev.now _
  | succ d ih =>
    intro j hj hs hp
    by_cases hjs : j < 7 ∧ j < s.size
    · obtain ⟨hj7, hjs⟩ := hjs
      have hb := bt_range s j
      have hbt : bt s j = (bytesOf s).getD j 0 := by rw [bt_B]; rfl
      have htk : (bytesOf s).take (j + 1) = (bytesOf s).take j ++ [bt s j] := by
        rw [List.take_succ_eq_append_getElem (by omega), hbt, getD_at _ _ _ (by omega)]
      have hlen : ((bytesOf s).take j).length = j := by rw [List.length_take]; omega
      have hv := valL_lt ((bytesOf s).take j)
      have hn := valL_nn ((bytesOf s).take j)
      rw [hlen] at hv
      have hpw := pow7 (j := j) (by omega)
      have hpos : 0 < 128 ^ j := Nat.pow_pos (by decide)
      have hval : valL ((bytesOf s).take (j + 1)) = valL ((bytesOf s).take j) + bt s j % 128 * ((128 ^ j : Nat) : Int) := by rw [htk, valL_snoc, hlen]
      have hq : bt s j % 128 * ((128 ^ j : Nat) : Int) ≤ 127 * ((128 ^ j : Nat) : Int) := Int.mul_le_mul_of_nonneg_right (by omega) (by omega)
      have hq0 : 0 ≤ bt s j % 128 * ((128 ^ j : Nat) : Int) := Int.mul_nonneg (by omega) (by omega)
      have hp6 := pow7 (j := j + 1) (by omega)
      have hs6 : 128 ^ (j + 1) = 128 ^ j * 128 := Nat.pow_succ _ _
      have eor : Go.bits .or .i64 (valL ((bytesOf s).take j)) (shl .i64 (Go.bits .and .i64 (bt s j) 127) (7 * (j : Int))) = valL ((bytesOf s).take (j + 1)) := by
        rw [Kit.i64_and127 (x := bt s j) (by omega) (by omega), shl7 _ j (by omega) (by omega) (by omega), hval]
        have e27 : (2 : Int) ^ (7 * j) = ((128 ^ j : Nat) : Int) := by rw [Int.pow_mul, Int.natCast_pow]; rfl
        refine i64_or_high (7 * j) hq0 ?_ (by omega) hn (by rw [e27]; exact hv) (by omega)
        rw [e27]; exact Int.mul_emod_left _ _
      by_cases hbig : 127 < bt s j
      · obtain ⟨r, e1, e2⟩ := ih (j + 1) (by omega) (by omega) (by
          rw [htk]
          intro y hy
          rcases List.mem_append.1 hy with hy | hy
          · exact hp y hy
          · obtain rfl := List.mem_singleton.1 hy; omega)
        refine ⟨r, spec_miss s hz (j + 1) (by omega) (by omega) (by omega) (by rw [htk]; exact varL_not_big _ _ (by omega) _) r e1, Ev_succ ?_⟩
        simp (disch := omega) only [impl_ReadVar.l0, if_pos, decide_eq_true (show (j : Int) < (s.size : Int) by omega)]
        refine Ev_succ ?_
        simp (disch := omega) only [impl_ReadVar.j1, if_true, if_pos, w64, eor]
        exact e2
      · by_cases hzr : bt s j = 0 ∧ 0 < j
        · obtain ⟨hzr, hj0⟩ := hzr
          refine ⟨(0, 0), spec_miss s hz (j + 1) (by omega) (by omega) (by omega) (by
            rw [htk, hzr]
            exact varL_not_zero _ (fun e => by rw [e] at hlen; simp at hlen; omega) _) _ (spec_rest s hz j (by omega) 7 (j + 1 + 1) (by omega) (by omega)), Ev_succ ?_⟩
          simp (disch := omega) only [impl_ReadVar.l0, if_pos, decide_eq_true (show (j : Int) < (s.size : Int) by omega)]
          refine Ev_succ ?_
          simp (disch := omega) only [impl_ReadVar.j1, if_true, if_pos, if_neg, w64]
          exact Ev.now _
        · have hcan : varL (valL ((bytesOf s).take (j + 1))).toNat = (bytesOf s).take (j + 1) := by
            rw [htk]
            exact (varL_valL (bt s j) (by omega) (by omega) _ hp (fun hne => by
              have : j ≠ 0 := fun e => by subst e; simp at hne
              omega)).1
          refine ⟨_, spec_hit s hz (j + 1) (by omega) (by omega) (by omega) hcan, Ev_succ ?_⟩
          simp (disch := omega) only [impl_ReadVar.l0, if_pos, decide_eq_true (show (j : Int) < (s.size : Int) by omega)]
          refine Ev_succ ?_
          by_cases h00 : bt s j = 0
          · simp (disch := omega) only [impl_ReadVar.j1, if_true, if_pos, if_neg, w64, eor]
            exact Ev_some (by simp)
          · simp (disch := omega) only [impl_ReadVar.j1, if_true, if_pos, if_neg, w64, eor]
            exact Ev_some (by simp)
    · refine ⟨(0, 0), spec_end s _ (by omega), Ev_succ ?_⟩
      by_cases h7 : j < 7
      · simp (disch := omega) only [impl_ReadVar.l0, if_pos, decide_eq_false (show ¬ (j : Int) < (s.size : Int) by omega)]
        refine Ev_succ ?_
        simp only [impl_ReadVar.j1, Bool.false_eq_true, if_false]; exact Ev.now _
      · simp (disch := omega) only [impl_ReadVar.l0, if_neg]
        refine Ev_succ ?_
        simp only [impl_ReadVar.j1, Bool.false_eq_true, if_false]; exact Ev.now _
theorem FnExactReadVar : laws_FnExactReadVar.Pure := by
  intro s _
  by_cases h : (s.size : Int) > 1048576
  · exact ⟨0, by simp only [laws_FnExactReadVar.f]; rw [if_pos h]⟩
  apply Ev.rounds
  simp only [laws_FnExactReadVar.f, if_neg h]
  obtain ⟨r, e1, e2⟩ := both s (by omega) 8 0 (by omega) (by omega) (by simp)
  refine Ev_call (f := fun k bt112 => (impl_ReadVar.f k s).bind fun bt114 => (if bt114.1 = bt112.1 then (if bt114.2 = bt112.2 then (some true) else (some false)) else (some false))) (a := r) e1 (Ev_call (a := r) e2 ?_)
  simp only [if_true]
  exact Ev.now _

end Go.Proofs.Ytpglahocmchcnaa.Pure

import Derived.Test.YtpomlknkfedekaaDoorSayFnExactReadDec
import Derived.Test.YtpomlknkfedekaaDoorSegL
import Derived.Test.YtpomlknkfedekaaDoorDecL
import Derived.Test.YtpomlknkfedekaaDoorKit
/- FnExactReadDec: both take just the texts that Dec writes of numbers of at most nine digits; for every text. -/
namespace Go.Proofs.YtpomlknkfedekaaDoor.Pure
open Go.RowKit Go.Proofs.YtpomlknkfedekaaDoor.PFnExactReadDec Go.Proofs.YtpomlknkfedekaaDoorW.PrintWords Go.Proofs.YtpomlknkfedekaaDoorW.PrintLast Go.Proofs.YtpomlknkfedekaaDoorW.PrintMore Go.Proofs.YtpomlknkfedekaaDoor.Kit
set_option linter.unusedSimpArgs false
set_option linter.unusedVariables false

theorem dec_loop (j : Nat) : ∀ (u : Nat) (L : List UInt8) (b : Bool), u < 10 ^ j → u ≤ 9223372036854775808 → (b = false → u ≤ 9223372036854775807) → L.length + j ≤ 40 →
    Ev (fun k => spec_Dec.l0 k (sgn b u) ⟨L.toArray⟩ b) ⟨((if b then [45] else []) ++ digs u ++ L).toArray⟩ := by
  induction j with
  | zero =>
    intro u L b h0 _ _ hl
    obtain rfl : u = 0 := by simp at h0; exact h0
    refine Ev_succ ?_
    have hz : sgn b 0 = 0 := by cases b <;> rfl
    have hs : (⟨L.toArray⟩ : ByteArray).size = L.length := rfl
    simp only [spec_Dec.l0, hz, if_true, digs, List.append_nil]
    cases b with
    | false => simp; exact Ev.now _
    | true =>
      simp only [if_true, hs]
      rw [if_pos (by omega), str_cons]
      exact Ev.now _
  | succ j ih =>
    intro u L b h0 h1 h2 hl
    by_cases hu : u = 0
    · subst hu
      refine Ev_succ ?_
      have hz : sgn b 0 = 0 := by cases b <;> rfl
      have hs : (⟨L.toArray⟩ : ByteArray).size = L.length := rfl
      simp only [spec_Dec.l0, hz, if_true, digs, List.append_nil]
      cases b with
      | false => simp; exact Ev.now _
      | true =>
        simp only [if_true, hs]
        rw [if_pos (by omega), str_cons]
        exact Ev.now _
    have hp := Nat.pow_succ (n := 10) (m := j)
    have i := ih (u / 10) (UInt8.ofNat (48 + u % 10) :: L) b (by omega) (by omega) (by omega) (by simp; omega)
    have hd : digs u = digs (u / 10) ++ [UInt8.ofNat (48 + u % 10)] := digs_step hu
    have he : (if b then [45] else []) ++ digs u ++ L = (if b then [45] else []) ++ digs (u / 10) ++ (UInt8.ofNat (48 + u % 10) :: L) := by rw [hd]; simp
    rw [he]
    refine Ev_succ ?_
    have hn : sgn b u ≠ 0 := by cases b <;> simp only [sgn] <;> simp <;> omega
    have hq : wrap64 (Int.tdiv (sgn b u) 10) = sgn b (u / 10) := by
      cases b with
      | false => simp only [sgn]; rw [tdiv_nn (by simp), w64 (by simp; omega) (by simp; omega)]; simp
      | true => simp only [sgn, if_true]; rw [Int.neg_tdiv, tdiv_nn (by simp), w64 (by omega) (by omega)]; simp
    have hs : (⟨L.toArray⟩ : ByteArray).size = L.length := rfl
    have h8 : ((48 + ((u : Int) % 10)) % 256).toNat = 48 + u % 10 := by omega
    have hone : (strOfNums [(48 + ((u : Int) % 10)) % 256]) = ⟨#[UInt8.ofNat (48 + u % 10)]⟩ := str_digit h8
    have hsz : (⟨#[UInt8.ofNat (48 + u % 10)]⟩ : ByteArray).size = 1 := rfl
    by_cases ht : Int.tmod (sgn b u) 10 < 0
    · have hm : wrap64 (48 + wrap64 (-(Int.tmod (sgn b u) 10))) = 48 + (u : Int) % 10 := by
        cases b with
        | false => simp only [sgn] at ht; rw [tmod_nn (by simp)] at ht; simp at ht; omega
        | true => simp only [sgn, if_true]; rw [Int.neg_tmod, tmod_nn (by simp), Int.neg_neg, w64 (x := (u : Int) % 10) (by omega) (by omega), w64 (by omega) (by omega)]
      simp only [spec_Dec.l0, if_neg hn, if_pos ht, Option.bind_some, hm, hq, hone, hsz, hs]
      rw [str_cons]
      have hc : 1 + L.length ≤ 9223372036854775807 := by omega
      simp only [hc, if_true]
      exact i
    · have hm : wrap64 (48 + (Int.tmod (sgn b u) 10)) = 48 + (u : Int) % 10 := by
        cases b with
        | false => simp only [sgn]; rw [tmod_nn (by simp), w64 (by simp; omega) (by simp; omega)]; simp
        | true =>
          simp only [sgn, if_true] at ht ⊢
          rw [Int.neg_tmod, tmod_nn (by simp)] at ht ⊢
          rw [w64 (by omega) (by omega)]; omega
      simp only [spec_Dec.l0, if_neg hn, if_neg ht, Option.bind_some, hm, hq, hone, hsz, hs]
      rw [str_cons]
      have hc : 1 + L.length ≤ 9223372036854775807 := by omega
      simp only [hc, if_true]
      exact i
theorem dec_ev (a : Int) (h0 : -9223372036854775808 ≤ a) (h1 : a < 9223372036854775808) : Ev (fun k => spec_Dec.f k a) ⟨(Lib.itoa a).toArray⟩ := by
  by_cases hz : a = 0
  · subst hz
    simp only [spec_Dec.f, if_true]
    have e : Lib.itoa 0 = [48] := by simp [Lib.itoa, Lib.decDigits]
    rw [e]
    exact Ev.now _
  have i := dec_loop 20 a.natAbs [] (decide (a < 0)) (by omega) (by omega) (by intro h; simp at h; omega) (by simp)
  have hs : sgn (decide (a < 0)) a.natAbs = a := by
    by_cases hn : a < 0
    · simp [sgn, hn]; omega
    · simp [sgn, hn]; omega
  rw [hs, List.append_nil, itoa_digs hz] at i
  simp only [spec_Dec.f, if_neg hz]
  exact i
theorem parse_app (a b : List UInt8) : ∀ acc, Lib.parseUint10 acc (a ++ b) = match Lib.parseUint10 acc a with | .ok x => Lib.parseUint10 x b | .«syntax» => .«syntax» | .range => .range := by
  induction a with
  | nil => intro acc; rfl
  | cons c a ih =>
    intro acc
    rw [List.cons_append, Lib.parseUint10, Lib.parseUint10]
    split
    · split
      · rfl
      · split
        · rfl
        · exact ih _
    · rfl
theorem dig_nat (n : Nat) (h : n < 10) : (UInt8.ofNat (48 + n)).toNat = 48 + n := by
  rw [UInt8.toNat_ofNat']
  omega
theorem parse_dec (u : Nat) (h : u < 1844674407370955161) : Lib.parseUint10 0 (Lib.decDigits u) = .ok u := by
  induction u using Nat.strongRecOn with
  | _ u ih =>
    rw [Lib.decDigits]
    by_cases c : u < 10
    · rw [dif_pos c]
      have e := dig_nat u c
      simp only [Lib.parseUint10, e]
      rw [if_pos (by omega), if_neg (by omega), if_neg (by omega)]
      congr 1; omega
    · rw [dif_neg c, parse_app, ih (u / 10) (by omega) (by omega)]
      have e := dig_nat (u % 10) (by omega)
      simp only [Lib.parseUint10, e]
      rw [if_pos (by omega), if_neg (by omega), if_neg (by omega)]
      congr 1; omega
theorem dec_head (u : Nat) : ∃ c r, Lib.decDigits u = c :: r ∧ 48 ≤ c.toNat ∧ c.toNat ≤ 57 := by
  induction u using Nat.strongRecOn with
  | _ u ih =>
    rw [Lib.decDigits]
    by_cases c : u < 10
    · rw [dif_pos c]
      have e := dig_nat u c
      exact ⟨_, [], rfl, by omega, by omega⟩
    · rw [dif_neg c]
      obtain ⟨c, r, e, h1, h2⟩ := ih (u / 10) (by omega)
      exact ⟨c, r ++ _, by rw [e]; rfl, h1, h2⟩
theorem atoi_itoa (v : Int) (h0 : -999999999999 ≤ v) (h1 : v ≤ 999999999999) : Lib.atoiAll (Lib.itoa v) = .ok v := by
  by_cases c : v < 0
  · have e : Lib.itoa v = 45 :: Lib.decDigits v.natAbs := by unfold Lib.itoa; rw [if_pos c]
    obtain ⟨x, r, ex, _, _⟩ := dec_head v.natAbs
    have hm : Lib.parseMag (Lib.decDigits v.natAbs) = .ok v.natAbs := by
      unfold Lib.parseMag
      rw [if_neg (by rw [ex]; simp), parse_dec _ (by omega)]
    have e45 : (45 : UInt8).toNat = 45 := rfl
    rw [e, Lib.atoiAll]
    simp only [e45, or_true, if_true, hm, not_true_eq_false, false_and, if_false, true_and]
    rw [if_neg (by omega)]
    congr 1; omega
  · have e : Lib.itoa v = Lib.decDigits v.toNat := by unfold Lib.itoa; rw [if_neg c]
    obtain ⟨x, r, ex, hx1, hx2⟩ := dec_head v.toNat
    have hm : Lib.parseMag (Lib.decDigits v.toNat) = .ok v.toNat := by
      unfold Lib.parseMag
      rw [if_neg (by rw [ex]; simp), parse_dec _ (by omega)]
    rw [e, ex, Lib.atoiAll]
    have n1 : ¬ (x.toNat = 43 ∨ x.toNat = 45) := by omega
    have n2 : ¬ x.toNat = 45 := by omega
    rw [ex] at hm
    have n3 : ¬ (9223372036854775808 ≤ v.toNat) := by omega
    have n4 : (v.toNat : Int) = v := by omega
    have n0 : ¬ x.toNat = 43 := by omega
    simp only [n0, n2, or_false, if_false, hm, not_false_eq_true, true_and, false_and, n3, n4]
theorem p10 (i j : Nat) (h : i ≤ j) : (10 : Int) ^ i ≤ 10 ^ j := by exact_mod_cast Nat.pow_le_pow_right (by decide : 0 < 10) h
theorem p11 : (10 : Int) ^ 11 = 100000000000 := by decide
theorem p9 : (10 : Int) ^ 9 = 1000000000 := by decide
theorem dstep (n x : Int) (h0 : 0 ≤ n) (hn : n < 100000000000) (h1 : 48 ≤ x) (h2 : x ≤ 57) : wrap64 ((wrap64 (n * 10)) + ((x - 48) % 256)) = n * 10 + (x - 48) := by
  rw [w64 (x := n * 10) (by omega) (by omega), w64 (by omega) (by omega)]; omega
theorem pstep (n x P : Int) (h : n < P) (h2 : x ≤ 57) : n * 10 + (x - 48) < P * 10 := by omega
theorem pstep2 (n P : Int) (h0 : 0 ≤ n) (h : n < P) : n < P * 10 := by omega
def stepD (p : Int × Int) (c : UInt8) : Int × Int := if 48 ≤ c.toNat ∧ c.toNat ≤ 57 then (p.1 * 10 + ((c.toNat : Int) - 48), p.2 + 1) else p
theorem fold_dec (u : Nat) : ∀ j : Nat, 1 ≤ j → u < 10 ^ j → (Lib.decDigits u).length ≤ j ∧ (Lib.decDigits u).foldl stepD (0, 0) = ((u : Int), ((Lib.decDigits u).length : Int)) := by
  induction u using Nat.strongRecOn with
  | _ u ih =>
    intro j hj hu
    rw [Lib.decDigits]
    by_cases c : u < 10
    · rw [dif_pos c]
      have e := dig_nat u c
      refine ⟨by simp; omega, ?_⟩
      simp only [List.foldl_cons, List.foldl_nil, stepD, e]
      rw [if_pos (by omega)]
      simp; omega
    · rw [dif_neg c]
      obtain ⟨i, rfl⟩ : ∃ i, j = i + 1 := ⟨j - 1, by omega⟩
      have hp := Nat.pow_succ (n := 10) (m := i)
      have hi : 1 ≤ i := by
        rcases Nat.eq_zero_or_pos i with e | e
        · subst e; simp at hu; omega
        · exact e
      obtain ⟨l1, l2⟩ := ih (u / 10) (by omega) i hi (by omega)
      have e := dig_nat (u % 10) (by omega)
      refine ⟨by rw [List.length_append]; simp; omega, ?_⟩
      rw [List.foldl_append, l2]
      simp only [List.foldl_cons, List.foldl_nil, stepD, e]
      rw [if_pos (by omega), List.length_append]
      simp only [List.length_cons, List.length_nil, Prod.mk.injEq]
      constructor
      · omega
      · simp
theorem fold_bound (l : List UInt8) : ∀ (p : Int × Int) (j : Nat), 0 ≤ p.1 → p.1 < 10 ^ j → p.2 = j → ∃ i : Nat, (l.foldl stepD p).2 = i ∧ 0 ≤ (l.foldl stepD p).1 ∧ (l.foldl stepD p).1 < 10 ^ i := by
  induction l with
  | nil => intro p j h0 h1 h2; exact ⟨j, h2, h0, h1⟩
  | cons c l ih =>
    intro p j h0 h1 h2
    rw [List.foldl_cons]
    unfold stepD
    by_cases hc : 48 ≤ c.toNat ∧ c.toNat ≤ 57
    · rw [if_pos hc]
      refine ih _ (j + 1) (by simp only; omega) ?_ (by simp only; omega)
      simp only
      have : (10 : Int) ^ (j + 1) = 10 ^ j * 10 := Int.pow_succ _ _
      rw [this]; omega
    · rw [if_neg hc]; exact ih p j h0 h1 h2
def numD (s : ByteArray) (p : Int × Int) : Int := if 0 < s.size ∧ bt s 0 = 45 then -p.1 else p.1
def finD (s : ByteArray) (p : Int × Int) : Int × Bool := if p.2 > 9 ∨ s.size > 10 ∨ Lib.itoa (numD s p) ≠ s.data.toList then (0, false) else (numD s p, true)
def readD (s : ByteArray) : Int × Bool := finD s ((s.data.toList.take 11).foldl stepD (0, 0))
theorem read_tail (s : ByteArray) (m : Int) (p : Int × Int) (hm : m = numD s p) (h0 : -1000000000000 ≤ m) (h1 : m ≤ 1000000000000) : Ev (fun k => if p.2 > 9 then some ((0 : Int), false) else if (s.size : Int) > 10 then some (0, false) else (spec_Dec.f k m).bind fun t => if t.toList = s.toList then some (m, true) else some (0, false)) (finD s p) := by
  unfold finD
  rw [← hm]
  by_cases c1 : p.2 > 9
  · rw [if_pos (Or.inl c1)]; simp only [if_pos c1]; exact Ev.now _
  by_cases c2 : s.size > 10
  · rw [if_pos (Or.inr (Or.inl c2))]
    have c3 : (s.size : Int) > 10 := by omega
    simp only [if_neg c1, if_pos c3]; exact Ev.now _
  have c3 : ¬ (s.size : Int) > 10 := by omega
  simp only [if_neg c1, if_neg c3]
  refine Ev_call (dec_ev m (by omega) (by omega)) ?_
  have ht : (⟨(Lib.itoa m).toArray⟩ : ByteArray).toList = Lib.itoa m := by rw [toList_data]
  rw [ht, toList_data]
  by_cases c4 : Lib.itoa m = s.data.toList
  · have : ¬ (p.2 > 9 ∨ s.size > 10 ∨ Lib.itoa m ≠ s.data.toList) := by
      rintro (h | h | h)
      · exact c1 h
      · exact c2 h
      · exact h c4
    rw [if_neg this, if_pos c4]; exact Ev.now _
  · rw [if_pos (Or.inr (Or.inr c4)), if_neg c4]; exact Ev.now _
theorem read_end (s : ByteArray) (hs : s.size ≤ 1048576) (n kk i : Int) (h0 : 0 ≤ n) (h1 : n ≤ 100000000000) : Ev (fun k => spec_ReadDec.j1 k s n kk i false) (finD s (n, kk)) := by
  refine Ev_succ ?_
  simp only [spec_ReadDec.j1, Bool.false_eq_true, if_false]
  have hw : wrap64 (-n) = -n := w64 (by omega) (by omega)
  by_cases c : (s.size : Int) > 0
  · have c' : 0 < (s.size : Int) := c
    simp only [if_pos c, if_pos c']
    refine Ev_succ ?_
    by_cases h45 : bt s 0 = 45
    · have e : (bt s 0 == 45) = true := beq_iff_eq.2 h45
      simp only [e, spec_ReadDec.j2, if_true, hw]
      have hm : -n = numD s (n, kk) := by unfold numD; rw [if_pos ⟨by omega, h45⟩]
      exact read_tail s (-n) (n, kk) hm (by omega) (by omega)
    · have e : (bt s 0 == 45) = false := beq_eq_false_iff_ne.2 h45
      simp only [e, spec_ReadDec.j2, Bool.false_eq_true, if_false]
      have hm : n = numD s (n, kk) := by unfold numD; rw [if_neg (fun h => h45 h.2)]
      exact read_tail s n (n, kk) hm (by omega) (by omega)
  · simp only [if_neg c]
    refine Ev_succ ?_
    simp only [spec_ReadDec.j2, Bool.false_eq_true, if_false]
    have hm : n = numD s (n, kk) := by unfold numD; rw [if_neg (fun h => c (by omega))]
    exact read_tail s n (n, kk) hm (by omega) (by omega)
theorem read_loop (s : ByteArray) (hs : s.size ≤ 1048576) (d : Nat) : ∀ (i : Nat) (n kk : Int), i + d = min 11 s.size → 0 ≤ n → n < 10 ^ i → 0 ≤ kk → kk ≤ i →
    Ev (fun k => spec_ReadDec.l0 k s n kk i) (finD s (((s.data.toList.take 11).drop i).foldl stepD (n, kk))) := by
  have hlen : (s.data.toList.take 11).length = min 11 s.size := by rw [List.length_take, data_length]
  induction d with
  | zero =>
    intro i n kk hi h0 h1 h2 h3
    have hn : n ≤ 100000000000 := by
      have : (10 : Int) ^ i ≤ 10 ^ 11 := p10 _ _ (by omega)
      have e : (10 : Int) ^ 11 = 100000000000 := p11
      omega
    have hd : (s.data.toList.take 11).drop i = [] := List.drop_eq_nil_of_le (by omega)
    rw [hd, List.foldl_nil]
    refine Ev_succ ?_
    by_cases c : (i : Int) < (s.size : Int)
    · have c2 : decide ((i : Int) < 11) = false := decide_eq_false (by omega)
      simp only [spec_ReadDec.l0, if_pos c, c2]
      exact read_end s hs n kk i h0 hn
    · simp only [spec_ReadDec.l0, if_neg c]
      exact read_end s hs n kk i h0 hn
  | succ d ih =>
    intro i n kk hi h0 h1 h2 h3
    have hn : n < 100000000000 := by
      have : (10 : Int) ^ i ≤ 10 ^ 11 := p10 _ _ (by omega)
      have e : (10 : Int) ^ 11 = 100000000000 := p11
      omega
    have hk : wrap64 (kk + 1) = kk + 1 := by clear h1; exact w64 (by omega) (by omega)
    have hi1 : wrap64 ((i : Int) + 1) = ((i + 1 : Nat) : Int) := by clear h1; rw [w64 (by omega) (by omega)]; omega
    have k1 : 0 ≤ kk + 1 := by omega
    have k2 : kk + 1 ≤ ((i + 1 : Nat) : Int) := by clear h1; omega
    have k3 : kk ≤ ((i + 1 : Nat) : Int) := by clear h1; omega
    have k4 : (i + 1) + d = min 11 s.size := by omega
    have c : (i : Int) < (s.size : Int) := by omega
    have c2 : decide ((i : Int) < 11) = true := decide_eq_true (by omega)
    have c3 : 0 ≤ (i : Int) := by omega
    have hb := btAt s i (by omega)
    have hdr : (s.data.toList.take 11).drop i = s.data.toList[i]'(by rw [data_length]; omega) :: (s.data.toList.take 11).drop (i + 1) := by
      rw [List.drop_eq_getElem_cons (by omega), List.getElem_take]
    rw [hdr, List.foldl_cons]
    generalize s.data.toList[i]'(by rw [data_length]; omega) = x at hb ⊢
    have hx := x.toNat_lt
    have hp : (10 : Int) ^ (i + 1) = 10 ^ i * 10 := Int.pow_succ _ _
    refine Ev_succ ?_
    simp only [spec_ReadDec.l0, if_pos c, c2]
    refine Ev_succ ?_
    simp only [spec_ReadDec.j1, if_true, if_pos c3, if_pos c, hb, hi1]
    unfold stepD
    by_cases d1 : 48 ≤ x.toNat
    · have d1' : (x.toNat : Int) ≥ 48 := by omega
      by_cases d2 : x.toNat ≤ 57
      · have d2' : (x.toNat : Int) ≤ 57 := by clear hp h1 hn; omega
        have hw := dstep n x.toNat h0 hn d1' d2'
        rw [if_pos ⟨d1, d2⟩]
        simp only [if_pos d1', if_pos d2', hw, hk]
        have b1 : 0 ≤ n * 10 + ((x.toNat : Int) - 48) := by clear hp h1; omega
        have b2 : n * 10 + ((x.toNat : Int) - 48) < 10 ^ (i + 1) := by rw [hp]; exact pstep n _ _ h1 d2'
        have q := ih (i + 1) (n * 10 + ((x.toNat : Int) - 48)) (kk + 1) k4 b1 b2 k1 k2
        exact q
      · have d2' : ¬ (x.toNat : Int) ≤ 57 := by clear hp h1 hn; omega
        rw [if_neg (fun h => d2 h.2)]
        simp only [if_pos d1', if_neg d2']
        have b2 : n < 10 ^ (i + 1) := by rw [hp]; exact pstep2 n _ h0 h1
        exact ih (i + 1) n kk k4 h0 b2 h2 k3
    · have d1' : ¬ (x.toNat : Int) ≥ 48 := by clear hp h1 hn; omega
      rw [if_neg (fun h => d1 h.1)]
      simp only [if_neg d1']
      have b2 : n < 10 ^ (i + 1) := by rw [hp]; exact pstep2 n _ h0 h1
      exact ih (i + 1) n kk k4 h0 b2 h2 k3
theorem read_spec (s : ByteArray) (hs : s.size ≤ 1048576) : Ev (fun k => spec_ReadDec.f k s) (readD s) := by
  have e := read_loop s hs (min 11 s.size) 0 0 0 (by omega) (by omega) (by decide) (by omega) (by omega)
  exact e
/-- What is taken as a number is the number's own text. -/
theorem readD_num (v : Int) (h0 : -999999999 ≤ v) (h1 : v ≤ 999999999) (s : ByteArray) (e : Lib.itoa v = s.data.toList) : readD s = (v, true) := by
  have h9 : (10 : Nat) ^ 9 = 1000000000 := by decide
  have hl := data_length s
  unfold readD
  by_cases c : v < 0
  · have ei : Lib.itoa v = 45 :: Lib.decDigits v.natAbs := by unfold Lib.itoa; rw [if_pos c]
    obtain ⟨l1, l2⟩ := fold_dec v.natAbs 9 (by omega) (by omega)
    rw [ei] at e
    rw [← e] at hl
    rw [List.length_cons] at hl
    have hb : bt s 0 = 45 := by
      have := btAt s 0 (by omega)
      have e2 : s.data.toList[0]'(by rw [data_length]; omega) = 45 := by simp [← e]
      rw [e2] at this
      exact this
    have hf : (s.data.toList.take 11).foldl stepD (0, 0) = ((v.natAbs : Int), ((Lib.decDigits v.natAbs).length : Int)) := by
      rw [← e, List.take_of_length_le (by simp; omega), List.foldl_cons]
      have : stepD (0, 0) 45 = (0, 0) := by decide
      rw [this, l2]
    rw [hf]
    have hn : numD s ((v.natAbs : Int), ((Lib.decDigits v.natAbs).length : Int)) = v := by
      unfold numD; rw [if_pos ⟨by omega, hb⟩]; simp only; omega
    unfold finD
    rw [hn, if_neg]
    rintro (h | h | h)
    · simp only at h; omega
    · omega
    · exact h (ei.trans e)
  · have ei : Lib.itoa v = Lib.decDigits v.toNat := by unfold Lib.itoa; rw [if_neg c]
    obtain ⟨l1, l2⟩ := fold_dec v.toNat 9 (by omega) (by omega)
    obtain ⟨x, r, ex, hx1, hx2⟩ := dec_head v.toNat
    rw [ei] at e
    have hl2 := hl
    rw [← e] at hl
    have hb : ¬ (0 < s.size ∧ bt s 0 = 45) := by
      rintro ⟨h, h45⟩
      have := btAt s 0 h
      have e2 : s.data.toList[0]'(by rw [data_length]; omega) = x := by simp [← e, ex]
      rw [e2] at this
      have h46 : bt s 0 = (x.toNat : Int) := this
      omega
    have hf : (s.data.toList.take 11).foldl stepD (0, 0) = ((v.toNat : Int), ((Lib.decDigits v.toNat).length : Int)) := by
      rw [← e, List.take_of_length_le (by omega), l2]
    rw [hf]
    have hn : numD s ((v.toNat : Int), ((Lib.decDigits v.toNat).length : Int)) = v := by
      unfold numD; rw [if_neg hb]; simp only; omega
    unfold finD
    rw [hn, if_neg]
    rintro (h | h | h)
    · simp only at h; omega
    · omega
    · exact h (ei.trans e)
theorem readD_impl (s : ByteArray) (hs : s.size ≤ 281474976710655) : impl_ReadDec.f s = some (readD s) := by
  unfold impl_ReadDec.f
  rw [if_pos hs]
  by_cases c : ∃ v : Int, Lib.itoa v = s.data.toList ∧ -999999999 ≤ v ∧ v ≤ 999999999
  · obtain ⟨v, e, h0, h1⟩ := c
    rw [readD_num v h0 h1 s e, ← e, atoi_itoa v (by omega) (by omega)]
    have q1 : -9223372036854775808 ≤ v := by omega
    have q2 : v ≤ 9223372036854775807 := by omega
    simp only [q1, q2, h0, h1, and_self, if_true]
  · have hr : readD s = (0, false) := by
      obtain ⟨i, b1, b2, b3⟩ := fold_bound (s.data.toList.take 11) (0, 0) 0 (by simp) (by simp) rfl
      unfold readD finD
      by_cases q : ((s.data.toList.take 11).foldl stepD (0, 0)).2 > 9 ∨ s.size > 10 ∨ Lib.itoa (numD s ((s.data.toList.take 11).foldl stepD (0, 0))) ≠ s.data.toList
      · rw [if_pos q]
      · exfalso
        have q1 : ¬ ((s.data.toList.take 11).foldl stepD (0, 0)).2 > 9 := fun h => q (Or.inl h)
        have q3 : Lib.itoa (numD s ((s.data.toList.take 11).foldl stepD (0, 0))) = s.data.toList := Classical.not_not.1 (fun h => q (Or.inr (Or.inr h)))
        have hp : (10 : Int) ^ i ≤ 10 ^ 9 := p10 _ _ (by omega)
        have h9 : (10 : Int) ^ 9 = 1000000000 := p9
        apply c
        refine ⟨_, q3, ?_, ?_⟩
        · unfold numD; split <;> omega
        · unfold numD; split <;> omega
    rw [hr]
    cases ea : Lib.atoiAll s.data.toList with
    | ok v =>
      simp only
      have hv : -9223372036854775808 ≤ v ∧ v ≤ 9223372036854775807 := by
        cases el : s.data.toList with
        | nil => rw [el] at ea; simp [Lib.atoiAll] at ea
        | cons x r =>
          rw [el, Lib.atoiAll] at ea
          split at ea
          · cases ea
          · cases ea
          · split at ea
            · cases ea
            · split at ea
              · cases ea
              · injection ea with ea
                split at ea <;> omega
      rw [if_pos hv, if_neg]
      exact fun h => c ⟨v, h⟩
    | «syntax» => rfl
    | range => rfl
theorem Ev_some_of {α : Type} {g : Option α} {a : α} (h : g = some a) : Ev (fun _ => g) a := h ▸ Ev.now a
theorem FnExactReadDec : laws_FnExactReadDec.Say := by
  intro s hs
  apply Ev.rounds
  simp only [laws_FnExactReadDec.f]
  by_cases h : (s.size : Int) > 1048576
  · simp only [if_pos h]; exact Ev.now _
  · simp only [if_neg h]
    refine Ev_call (read_spec s (by omega)) (Ev_call (g := fun _ => impl_ReadDec.f s) (Ev_some_of (readD_impl s (by omega))) ?_)
    simp only [if_true, bne_self_eq_false, Bool.false_eq_true, if_false]
    exact Ev.now _


end Go.Proofs.YtpomlknkfedekaaDoor.Pure

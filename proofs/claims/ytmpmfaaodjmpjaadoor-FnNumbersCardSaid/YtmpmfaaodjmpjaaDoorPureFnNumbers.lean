import Derived.Test.YtmpmfaaodjmpjaaDoorSayFnNumbers
import Derived.Test.YtmpmfaaodjmpjaaDoorSegL
import Derived.Test.YtmpmfaaodjmpjaaDoorVarL
import Derived.Test.YtmpmfaaodjmpjaaDoorDecL
import Derived.Test.YtmpmfaaodjmpjaaDoorKit
/- FnNumbers: what is written of a number is read as it, whatever stands behind; what is read is what would be written; for every code. -/
namespace Go.Proofs.YtmpmfaaodjmpjaaDoor.Pure
open Go.RowKit Go.Proofs.YtmpmfaaodjmpjaaDoor.PFnNumbers Go.Proofs.YtmpmfaaodjmpjaaDoorW.PrintWords Go.Proofs.YtmpmfaaodjmpjaaDoorW.PrintLast Go.Proofs.YtmpmfaaodjmpjaaDoorW.PrintMore Go.Proofs.YtmpmfaaodjmpjaaDoor.Kit
set_option linter.unusedSimpArgs false
set_option linter.unusedVariables false

theorem Ev_some_of {α : Type} {g : Option α} {a : α} (h : g = some a) : Ev (fun _ => g) a := h ▸ Ev.now a
theorem and255 (x : Int) : 0 ≤ Go.bits .and .i64 x 255 ∧ Go.bits .and .i64 x 255 ≤ 255 := by
  have h : (BitVec.ofInt IntKind.i64.bits x &&& BitVec.ofInt IntKind.i64.bits 255).toNat ≤ 255 := by
    rw [BitVec.toNat_and]
    exact Nat.le_trans Nat.and_le_right (by decide)
  simp only [Go.bits]
  rw [wraps_i64 _ (by omega) (by omega)]
  omega
theorem byte_some (b : List Int) (hb : b.length ≤ 140737488355328) (i h : Int) (h0 : 0 ≤ i) (h1 : i ≤ b.length) : ∃ x i' h', spec_l1Byte.f b i h = some (x, i', h') ∧ 0 ≤ x ∧ x ≤ 255 ∧ 0 ≤ i' ∧ i' ≤ b.length := by
  by_cases c : i < (b.length : Int)
  · have e : wrap64 (i + 1) = i + 1 := w64 (by omega) (by omega)
    exact ⟨_, i + 1, _, by simp only [spec_l1Byte.f, if_pos c, if_pos h0, e]; rfl, (and255 _).1, (and255 _).2, by omega, by omega⟩
  · exact ⟨_, i, _, by simp only [spec_l1Byte.f, if_neg c]; rfl, (and255 _).1, (and255 _).2, h0, h1⟩
theorem below_some (b : List Int) (hb : b.length ≤ 140737488355328) (i h : Int) (h0 : 0 ≤ i) (h1 : i ≤ b.length) (n : Int) : ∃ x i' h', spec_l1Below.f b i h n = some (x, i', h') ∧ 0 ≤ x ∧ (0 < n → x < n) ∧ (n ≤ 0 → x = 0) ∧ 0 ≤ i' ∧ i' ≤ b.length := by
  by_cases c : n ≤ 0
  · exact ⟨0, i, h, by simp only [spec_l1Below.f, if_pos c], by omega, by omega, fun _ => rfl, h0, h1⟩
  · obtain ⟨x, i1, q1, e1, a1, b1, c1, d1⟩ := byte_some b hb i h h0 h1
    have hz : ¬ n = 0 := by omega
    by_cases c2 : n ≤ 256
    · refine ⟨Int.tmod x n, i1, q1, ?_, ?_, ?_, ?_, c1, d1⟩
      · simp only [spec_l1Below.f, if_neg c, if_pos c2, e1, Option.bind_some, if_neg hz]
      · rw [tmod_nn a1]; exact Int.emod_nonneg _ hz
      · intro _; rw [tmod_nn a1]; exact Int.emod_lt_of_pos _ (by omega)
      · intro h; exact absurd h c
    · obtain ⟨y, i2, q2, e2, a2, b2, c3, d2⟩ := byte_some b hb i1 q1 c1 d1
      obtain ⟨z, i3, q3, e3, a3, b3, c4, d3⟩ := byte_some b hb i2 q2 c3 d2
      obtain ⟨v, i4, q4, e4, a4, b4, c5, d4⟩ := byte_some b hb i3 q3 c4 d3
      have hw : wrap64 ((wrap64 ((wrap64 ((wrap64 (x * 16777216)) + (wrap64 (y * 65536)))) + (wrap64 (z * 256)))) + v) = x * 16777216 + y * 65536 + z * 256 + v := by
        rw [w64 (x := x * 16777216) (by omega) (by omega), w64 (x := y * 65536) (by omega) (by omega), w64 (x := z * 256) (by omega) (by omega), w64 (x := x * 16777216 + y * 65536) (by omega) (by omega), w64 (x := x * 16777216 + y * 65536 + z * 256) (by omega) (by omega), w64 (by omega) (by omega)]
      have hp : 0 ≤ x * 16777216 + y * 65536 + z * 256 + v := by omega
      refine ⟨Int.tmod (x * 16777216 + y * 65536 + z * 256 + v) n, i4, q4, ?_, ?_, ?_, ?_, c5, d4⟩
      · simp only [spec_l1Below.f, if_neg c, if_neg c2, e1, e2, e3, e4, Option.bind_some, if_neg hz, hw]
      · rw [tmod_nn hp]; exact Int.emod_nonneg _ hz
      · intro _; rw [tmod_nn hp]; exact Int.emod_lt_of_pos _ (by omega)
      · intro h; exact absurd h c
theorem once_some (b : List Int) (hb : b.length ≤ 140737488355328) (i h : Int) (h0 : 0 ≤ i) (h1 : i ≤ b.length) (n : Int) : ∃ x i' h', spec_l1Once.f b i h n = some (x, i', h') ∧ 0 ≤ i' ∧ i' ≤ b.length := by
  obtain ⟨x, i1, q1, e1, a1, b1, c1, d1, f1⟩ := below_some b hb i h h0 h1 n
  exact ⟨x == 0, i1, q1, by simp only [spec_l1Once.f, e1, Option.bind_some], d1, f1⟩
theorem new_loop (l : List Int) (hl : l.length ≤ 140737488355328) (d : Nat) : ∀ (x3 x4 : Int), 0 ≤ x4 → x4 + d = l.length → ∃ h, Ev (fun k => spec_l1New.l0 k l x3 x4) (l, 0, h) := by
  induction d with
  | zero =>
    intro x3 x4 h0 h1
    refine ⟨x3, Ev_succ ?_⟩
    have c : ¬ x4 < (l.length : Int) := by omega
    simp only [spec_l1New.l0, if_neg c]; exact Ev.now _
  | succ d ih =>
    intro x3 x4 h0 h1
    by_cases c2 : x4 < 4000
    · obtain ⟨h, e⟩ := ih (Go.bits .and .i64 (wrap64 ((wrap64 ((wrap64 (x3 * 131)) + (wrap64 (rd l x4)))) + 7)) 1073741823) (x4 + 1) (by omega) (by omega)
      refine ⟨h, Ev_succ ?_⟩
      have c : x4 < (l.length : Int) := by omega
      have hw : wrap64 (x4 + 1) = x4 + 1 := w64 (by omega) (by omega)
      simp only [spec_l1New.l0, if_pos c, if_pos c2, if_pos h0, hw]; exact e
    · refine ⟨x3, Ev_succ ?_⟩
      have c : x4 < (l.length : Int) := by omega
      simp only [spec_l1New.l0, if_pos c, if_neg c2]; exact Ev.now _
theorem new_ev (l : List Int) (hl : l.length ≤ 140737488355328) : ∃ h, Ev (fun k => spec_l1New.f k l) (l, 0, h) := by
  simp only [spec_l1New.f]
  exact new_loop l hl l.length _ 0 (by omega) (by omega)
theorem pickint_some (b : List Int) (hb : b.length ≤ 140737488355328) (i h : Int) (h0 : 0 ≤ i) (h1 : i ≤ b.length) (l : List Int) (hl : 0 < l.length) : ∃ s i' h', spec_l1PickInt.f b i h l = some (s, i', h') ∧ s ∈ l ∧ 0 ≤ i' ∧ i' ≤ b.length := by
  obtain ⟨x, i1, q1, e1, a1, b1, c1, d1, f1⟩ := below_some b hb i h h0 h1 l.length
  have hx : x < (l.length : Int) := b1 (by omega)
  refine ⟨rd l x, i1, q1, by simp only [spec_l1PickInt.f, e1, Option.bind_some, if_pos a1, if_pos hx], ?_, d1, f1⟩
  rw [rd, getD_at l _ _ (by omega)]; exact List.getElem_mem _
theorem num_some (b : List Int) (hb : b.length ≤ 140737488355328) (i h : Int) (h0 : 0 ≤ i) (h1 : i ≤ b.length) : ∃ n i' h', spec_l1Num.f b i h = some (n, i', h') ∧ -9223372036854775808 ≤ n ∧ n ≤ 9223372036854775807 ∧ 0 ≤ i' ∧ i' ≤ b.length := by
  obtain ⟨x, i1, q1, e1, a1, b1, c1, d1, f1⟩ := below_some b hb i h h0 h1 8
  have hx := b1 (by omega)
  by_cases x0 : x = 0
  · obtain ⟨s, i2, q2, e2, m2, a2, b2⟩ := pickint_some b hb i1 q1 d1 f1 ([(-1), 0, 127, 128, 255, 256, 16383, 16384, 65535, 65536, 562949953421311, 562949953421312, 999999999, 1000000000, (-999999999), 9223372036854775807, (-9223372036854775808)] : List Int) (by decide)
    have z : -9223372036854775808 ≤ s ∧ s ≤ 9223372036854775807 := (show ∀ s ∈ ([(-1), 0, 127, 128, 255, 256, 16383, 16384, 65535, 65536, 562949953421311, 562949953421312, 999999999, 1000000000, (-999999999), 9223372036854775807, (-9223372036854775808)] : List Int), -9223372036854775808 ≤ s ∧ s ≤ 9223372036854775807 by decide) _ m2
    refine ⟨s, i2, q2, ?_, z.1, z.2, a2, b2⟩
    unfold spec_l1Num.f
    rw [e1, Option.bind_some, if_pos x0, e2, Option.bind_some]
  by_cases x1 : x = 1
  · obtain ⟨y, i2, q2, e2, a2, b2, c2, d2, f2⟩ := below_some b hb i1 q1 d1 f1 1000000000
    obtain ⟨z, i3, q3, e3, a3, b3, c3, d3, f3⟩ := below_some b hb i2 q2 d2 f2 1000000000
    have hy := b2 (by omega)
    have hz := b3 (by omega)
    have hyz : y * z ≤ 999999999 * 999999999 := Int.mul_le_mul (by omega) (by omega) a3 (by omega)
    have hyz0 : 0 ≤ y * z := Int.mul_nonneg a2 a3
    have hw : wrap64 (y * z) = y * z := w64 (by omega) (by omega)
    refine ⟨y * z, i3, q3, ?_, by omega, by omega, d3, f3⟩
    unfold spec_l1Num.f
    rw [e1, Option.bind_some, if_neg x0, if_pos x1, e2, Option.bind_some, e3, Option.bind_some, hw]
  by_cases x2 : x = 2
  · obtain ⟨y, i2, q2, e2, a2, b2, c2, d2, f2⟩ := below_some b hb i1 q1 d1 f1 100000
    have hy := b2 (by omega)
    have hw : wrap64 (-y) = -y := w64 (by omega) (by omega)
    refine ⟨-y, i2, q2, ?_, by omega, by omega, d2, f2⟩
    unfold spec_l1Num.f
    rw [e1, Option.bind_some, if_neg x0, if_neg x1, if_pos x2, e2, Option.bind_some, hw]
  · obtain ⟨y, i2, q2, e2, a2, b2, c2, d2, f2⟩ := below_some b hb i1 q1 d1 f1 70000
    have hy := b2 (by omega)
    refine ⟨y, i2, q2, ?_, by omega, by omega, d2, f2⟩
    unfold spec_l1Num.f
    rw [e1, Option.bind_some, if_neg x0, if_neg x1, if_neg x2, e2, Option.bind_some]
theorem text_loop (b : List Int) (hb : b.length ≤ 140737488355328) (x6 : Int) (d : Nat) : ∀ (acc : List Int) (n x h : Int), n = d → acc.length + d ≤ 1000000 → 0 ≤ x → x ≤ b.length →
    ∃ s i' h', Ev (fun k => spec_l1Text.l0 k acc x6 n b x h) (s, i', h') ∧ s.size = acc.length + d ∧ 0 ≤ i' ∧ i' ≤ b.length := by
  induction d with
  | zero =>
    intro acc n x h hn _ h0 h1
    refine ⟨strOfNums acc, x, h, Ev_succ ?_, ?_, h0, h1⟩
    · have c : ¬ n > 0 := by omega
      simp only [spec_l1Text.l0, if_neg c]; exact Ev.now _
    · show (strOfNums acc).data.size = _
      rw [← Array.length_toList]; simp [strOfNums]
  | succ d ih =>
    intro acc n x h hn hl h0 h1
    obtain ⟨y, i1, q1, e1, a1, b1, c1, d1⟩ := byte_some b hb x h h0 h1
    have c : n > 0 := by omega
    have cl : acc.length < 140737488355328 := by omega
    have hw : wrap64 (n - 1) = n - 1 := w64 (by omega) (by omega)
    have go : ∀ v : Int, ∃ s i' h', Ev (fun k => spec_l1Text.l0 k (acc ++ [v]) x6 (n - 1) b i1 q1) (s, i', h') ∧ s.size = acc.length + (d + 1) ∧ 0 ≤ i' ∧ i' ≤ b.length := by
      intro v
      obtain ⟨s, i2, h2, e, z, r⟩ := ih (acc ++ [v]) (n - 1) i1 q1 (by omega) (by simp; omega) c1 d1
      exact ⟨s, i2, h2, e, by rw [z]; simp; omega, r⟩
    by_cases k1 : x6 = 1
    · by_cases k2 : x6 = 2
      · omega
      · obtain ⟨s, i2, h2, e, r⟩ := go ((Int.tmod y 2) % 256)
        refine ⟨s, i2, h2, Ev_succ ?_, r⟩
        simp only [spec_l1Text.l0, if_pos c, hw]
        refine Ev_call (Ev_some_of e1) ?_
        simp only [if_pos k1, if_neg k2, if_pos cl]; exact e
    · by_cases k2 : x6 = 2
      · obtain ⟨s, i2, h2, e, r⟩ := go ((wrap64 (97 + (Int.tmod y 4))) % 256)
        refine ⟨s, i2, h2, Ev_succ ?_, r⟩
        simp only [spec_l1Text.l0, if_pos c, hw]
        refine Ev_call (Ev_some_of e1) ?_
        simp only [if_neg k1, if_pos k2, if_pos cl]; exact e
      · obtain ⟨s, i2, h2, e, r⟩ := go (y % 256)
        refine ⟨s, i2, h2, Ev_succ ?_, r⟩
        simp only [spec_l1Text.l0, if_pos c, hw]
        refine Ev_call (Ev_some_of e1) ?_
        simp only [if_neg k1, if_neg k2, if_pos cl]; exact e
theorem text_ev (b : List Int) (hb : b.length ≤ 140737488355328) (x h : Int) (h0 : 0 ≤ x) (h1 : x ≤ b.length) (m : Int) (m0 : 0 ≤ m) (m1 : m ≤ 1000) : ∃ s i' h', Ev (fun k => spec_l1Text.f k b x h m) (s, i', h') ∧ (s.size : Int) ≤ m ∧ 0 ≤ i' ∧ i' ≤ b.length := by
  obtain ⟨y, i1, q1, e1, a1, b1, c1, d1, f1⟩ := below_some b hb x h h0 h1 4
  have hw : wrap64 (m + 1) = m + 1 := w64 (by omega) (by omega)
  obtain ⟨z, i2, q2, e2, a2, b2, c2, d2, f2⟩ := below_some b hb i1 q1 d1 f1 (m + 1)
  have hz := b2 (by omega)
  obtain ⟨s, i3, h3, e, k, r1, r2⟩ := text_loop b hb y z.toNat [] z i2 q2 (by omega) (by simp; omega) d2 f2
  refine ⟨s, i3, h3, ?_, by rw [k]; simp; omega, r1, r2⟩
  simp only [spec_l1Text.f, hw]
  exact Ev_call (Ev_some_of e1) (Ev_call (Ev_some_of e2) e)
theorem svar_loop (d : Nat) : ∀ (x : Int) (acc : List Int), x.toNat ≤ d → 0 ≤ x → (acc.length : Int) + x / 4 < 140737488355328 →
    Ev (fun k => spec_Var.l0 k x acc) (strOfNums (acc ++ varL x.toNat)) := by
  induction d with
  | zero =>
    intro x acc hd h0 hl
    refine Ev_succ ?_
    rw [varL_small (by omega)]
    have e : x % 256 = (x.toNat : Int) := by omega
    simp (disch := omega) only [spec_Var.l0, if_pos, if_neg, e]; exact Ev.now _
  | succ d ih =>
    intro x acc hd h0 hl
    by_cases h : 128 ≤ x
    · have e1 := ih (x / 128) (acc ++ [(128 + x % 128) % 256]) (by omega) (by omega) (by simp; omega)
      refine Ev_succ ?_
      simp (disch := omega) only [spec_Var.l0, if_pos, w64, tdiv_nn, tmod_nn]
      rw [varL_big (by omega)]
      have e2 : ((128 + x.toNat % 128 : Nat) : Int) = (128 + x % 128) % 256 := by omega
      have e3 : x.toNat / 128 = (x / 128).toNat := by omega
      rw [e2, e3, show acc ++ (128 + x % 128) % 256 :: varL (x / 128).toNat = acc ++ [(128 + x % 128) % 256] ++ varL (x / 128).toNat by simp]
      exact e1
    · refine Ev_succ ?_
      rw [varL_small (by omega)]
      have e : x % 256 = (x.toNat : Int) := by omega
      simp (disch := omega) only [spec_Var.l0, if_pos, if_neg, e]; exact Ev.now _
theorem svar (x : Int) (h0 : 0 ≤ x) (h1 : x ≤ 562949953421311) : Ev (fun k => spec_Var.f k x) (strOfNums (varL x.toNat)) := by
  have e := svar_loop x.toNat x [] (Nat.le_refl _) h0 (by simp; omega)
  simp (disch := omega) only [spec_Var.f, spec_l1In.f, if_pos, Option.bind_some, decide_eq_true h1]
  exact e
theorem ivar_loop (d : Nat) : ∀ (x : Int) (acc : List Int), x.toNat ≤ d → 0 ≤ x → x < 9223372036854775808 → (acc.length : Int) + x / 4 < 140737488355328 →
    Ev (fun k => impl_Var.l0 k x acc) (strOfNums (acc ++ varL x.toNat)) := by
  induction d with
  | zero =>
    intro x acc hd h0 h9 hl
    refine Ev_succ ?_
    rw [varL_small (by omega)]
    have e : x % 256 = (x.toNat : Int) := by omega
    simp (disch := omega) only [impl_Var.l0, if_pos, if_neg, e]; exact Ev.now _
  | succ d ih =>
    intro x acc hd h0 h9 hl
    by_cases h : 128 ≤ x
    · have e0 : Go.bits .or .i64 (x % 128) 128 = 128 + x % 128 := by
        rw [i64_or_high (y := x % 128) (x := 128) 7 (by omega) (by omega) (by omega) (by omega) (by omega) (by omega)]; omega
      have e1 := ih (x / 128) (acc ++ [(128 + x % 128) % 256]) (by omega) (by omega) (by omega) (by simp; omega)
      refine Ev_succ ?_
      simp (disch := omega) only [impl_Var.l0, if_pos, i64_and127, e0]
      rw [varL_big (by omega)]
      have e2 : ((128 + x.toNat % 128 : Nat) : Int) = (128 + x % 128) % 256 := by omega
      have e3 : x.toNat / 128 = (x / 128).toNat := by omega
      rw [e2, e3, show acc ++ (128 + x % 128) % 256 :: varL (x / 128).toNat = acc ++ [(128 + x % 128) % 256] ++ varL (x / 128).toNat by simp]
      exact e1
    · refine Ev_succ ?_
      rw [varL_small (by omega)]
      have e : x % 256 = (x.toNat : Int) := by omega
      simp (disch := omega) only [impl_Var.l0, if_pos, if_neg, e]; exact Ev.now _
theorem ivar (x : Int) (h0 : 0 ≤ x) (h1 : x ≤ 562949953421311) : Ev (fun k => impl_Var.f k x) (strOfNums (varL x.toNat)) := by
  have e := ivar_loop x.toNat x [] (Nat.le_refl _) h0 (by omega) (by simp; omega)
  simp (disch := omega) only [impl_Var.f, impl_in.f, if_pos, Option.bind_some, decide_eq_true h1]
  exact e
theorem str_size (l : List Int) : (strOfNums l).size = l.length := by
  show (strOfNums l).data.size = _
  rw [← Array.length_toList]; simp [strOfNums]
theorem var_size (n : Nat) (h : n ≤ 2097152) : (strOfNums (varL n)).size ≤ 4 := by
  rw [str_size]; exact varL_len n 3 (by omega)
theorem pow7 {j : Nat} (h : j ≤ 7) : 128 ^ j ≤ 562949953421312 := by
  have := Nat.pow_le_pow_right (n := 128) (by decide) h
  have e : 128 ^ 7 = 562949953421312 := by decide
  omega
/-- The inner loop comes to the value of the first bytes. -/
theorem shl7 (v : Int) (j : Nat) (hj : j ≤ 6) (h0 : 0 ≤ v) (h1 : v < 128) : shl .i64 v (7 * (j : Int)) = v * ((128 ^ j : Nat) : Int) := by
  unfold shl
  have e : min (7 * (j : Int)).toNat IntKind.i64.bits = 7 * j := by simp only [IntKind.bits]; omega
  have e2 : (2 : Int) ^ (7 * j) = ((128 ^ j : Nat) : Int) := by rw [Int.pow_mul, Int.natCast_pow]; rfl
  rw [e, e2]
  have hp := pow7 (j := j) (by omega)
  have hp6 := pow7 (j := j + 1) (by omega)
  have hs6 : 128 ^ (j + 1) = 128 ^ j * 128 := Nat.pow_succ _ _
  have hq : v * ((128 ^ j : Nat) : Int) ≤ 128 * ((128 ^ j : Nat) : Int) := Int.mul_le_mul_of_nonneg_right (by omega) (Int.natCast_nonneg _)
  have hq0 : 0 ≤ v * ((128 ^ j : Nat) : Int) := Int.mul_nonneg h0 (Int.natCast_nonneg _)
  exact wraps_i64 _ hq0 (by omega)
/-- d bytes more of y, the lowest last, ahead of T. -/
def fxL : Int → Nat → List Int → List Int
  | _, 0, T => T
  | y, d + 1, T => fxL (y / 256) d ((y % 256) :: T)
theorem shr8 (x : Int) (j : Nat) (hj : j ≤ 7) : shr .i64 x (8 * (j : Int)) = x / 256 ^ j := by
  unfold shr
  have e : min (8 * (j : Int)).toNat IntKind.i64.bits = 8 * j := by simp only [IntKind.bits]; omega
  rw [e, Int.pow_mul]
  rfl
theorem fx_impl (x w : Int) (d : Nat) : ∀ (j : Nat) (T : List Int), j + d = w → w ≤ 7 → T.length = j →
    Ev (fun k => impl_Fixed.l0 k x w (List.replicate d 0 ++ T) w j) (strOfNums (fxL (x / 256 ^ j) d T)) := by
  induction d with
  | zero =>
    intro j T hd hw hT
    refine Ev_succ ?_
    simp (disch := omega) only [impl_Fixed.l0, if_neg, List.replicate_zero, List.nil_append]
    exact Ev.now _
  | succ d ih =>
    intro j T hd hw hT
    have hs := ih (j + 1) ((x / 256 ^ j % 256) :: T) (by omega) hw (by simp; omega)
    have e : x / 256 ^ (j + 1) = x / 256 ^ j / 256 := by
      rw [Int.ediv_ediv_of_nonneg (Int.pow_nonneg (by omega)), Int.pow_succ]
    rw [e] at hs
    refine Ev_succ ?_
    have e1 : ((w - 1 - (j : Int)).toNat) = d := by omega
    have e2 : (List.replicate (d + 1) (0 : Int) ++ T).set d (x / 256 ^ j % 256) = List.replicate d 0 ++ (x / 256 ^ j % 256) :: T := by
      rw [List.replicate_succ', List.append_assoc, List.set_append_right _ _ (by simp)]
      simp
    simp (disch := (first | omega | (simp only [List.length_append, List.length_replicate]; omega))) only [impl_Fixed.l0, if_pos, w64, shr8, e1, e2]
    exact hs
theorem parse_app (a b : List UInt8) : ∀ acc, Lib.parseUint10 acc (a ++ b) = match Lib.parseUint10 acc a with | .ok x => Lib.parseUint10 x b | .«syntax» => .«syntax» | .range => .range := by
  induction a with
  | nil => intro acc; rfl
  | cons c a ih =>
    intro acc
    rw [List.cons_append, Lib.parseUint10, Lib.parseUint10]
    split
    · split
      · rfl
      · split
        · rfl
        · exact ih _
    · rfl
theorem dig_nat (n : Nat) (h : n < 10) : (UInt8.ofNat (48 + n)).toNat = 48 + n := by
  rw [UInt8.toNat_ofNat']
  omega
theorem parse_dec (u : Nat) (h : u < 1844674407370955161) : Lib.parseUint10 0 (Lib.decDigits u) = .ok u := by
  induction u using Nat.strongRecOn with
  | _ u ih =>
    rw [Lib.decDigits]
    by_cases c : u < 10
    · rw [dif_pos c]
      have e := dig_nat u c
      simp only [Lib.parseUint10, e]
      rw [if_pos (by omega), if_neg (by omega), if_neg (by omega)]
      congr 1; omega
    · rw [dif_neg c, parse_app, ih (u / 10) (by omega) (by omega)]
      have e := dig_nat (u % 10) (by omega)
      simp only [Lib.parseUint10, e]
      rw [if_pos (by omega), if_neg (by omega), if_neg (by omega)]
      congr 1; omega
theorem dec_head (u : Nat) : ∃ c r, Lib.decDigits u = c :: r ∧ 48 ≤ c.toNat ∧ c.toNat ≤ 57 := by
  induction u using Nat.strongRecOn with
  | _ u ih =>
    rw [Lib.decDigits]
    by_cases c : u < 10
    · rw [dif_pos c]
      have e := dig_nat u c
      exact ⟨_, [], rfl, by omega, by omega⟩
    · rw [dif_neg c]
      obtain ⟨c, r, e, h1, h2⟩ := ih (u / 10) (by omega)
      exact ⟨c, r ++ _, by rw [e]; rfl, h1, h2⟩
theorem atoi_itoa (v : Int) (h0 : -999999999999 ≤ v) (h1 : v ≤ 999999999999) : Lib.atoiAll (Lib.itoa v) = .ok v := by
  by_cases c : v < 0
  · have e : Lib.itoa v = 45 :: Lib.decDigits v.natAbs := by unfold Lib.itoa; rw [if_pos c]
    obtain ⟨x, r, ex, _, _⟩ := dec_head v.natAbs
    have hm : Lib.parseMag (Lib.decDigits v.natAbs) = .ok v.natAbs := by
      unfold Lib.parseMag
      rw [if_neg (by rw [ex]; simp), parse_dec _ (by omega)]
    have e45 : (45 : UInt8).toNat = 45 := rfl
    rw [e, Lib.atoiAll]
    simp only [e45, or_true, if_true, hm, not_true_eq_false, false_and, if_false, true_and]
    rw [if_neg (by omega)]
    congr 1; omega
  · have e : Lib.itoa v = Lib.decDigits v.toNat := by unfold Lib.itoa; rw [if_neg c]
    obtain ⟨x, r, ex, hx1, hx2⟩ := dec_head v.toNat
    have hm : Lib.parseMag (Lib.decDigits v.toNat) = .ok v.toNat := by
      unfold Lib.parseMag
      rw [if_neg (by rw [ex]; simp), parse_dec _ (by omega)]
    rw [e, ex, Lib.atoiAll]
    have n1 : ¬ (x.toNat = 43 ∨ x.toNat = 45) := by omega
    have n2 : ¬ x.toNat = 45 := by omega
    rw [ex] at hm
    have n3 : ¬ (9223372036854775808 ≤ v.toNat) := by omega
    have n4 : (v.toNat : Int) = v := by omega
    have n0 : ¬ x.toNat = 43 := by omega
    simp only [n0, n2, or_false, if_false, hm, not_false_eq_true, true_and, false_and, n3, n4]
theorem p10 (i j : Nat) (h : i ≤ j) : (10 : Int) ^ i ≤ 10 ^ j := by exact_mod_cast Nat.pow_le_pow_right (by decide : 0 < 10) h
theorem p11 : (10 : Int) ^ 11 = 100000000000 := by decide
theorem p9 : (10 : Int) ^ 9 = 1000000000 := by decide
theorem dstep (n x : Int) (h0 : 0 ≤ n) (hn : n < 100000000000) (h1 : 48 ≤ x) (h2 : x ≤ 57) : wrap64 ((wrap64 (n * 10)) + ((x - 48) % 256)) = n * 10 + (x - 48) := by
  rw [w64 (x := n * 10) (by omega) (by omega), w64 (by omega) (by omega)]; omega
theorem pstep (n x P : Int) (h : n < P) (h2 : x ≤ 57) : n * 10 + (x - 48) < P * 10 := by omega
theorem pstep2 (n P : Int) (h0 : 0 ≤ n) (h : n < P) : n < P * 10 := by omega
def stepD (p : Int × Int) (c : UInt8) : Int × Int := if 48 ≤ c.toNat ∧ c.toNat ≤ 57 then (p.1 * 10 + ((c.toNat : Int) - 48), p.2 + 1) else p
theorem fold_dec (u : Nat) : ∀ j : Nat, 1 ≤ j → u < 10 ^ j → (Lib.decDigits u).length ≤ j ∧ (Lib.decDigits u).foldl stepD (0, 0) = ((u : Int), ((Lib.decDigits u).length : Int)) := by
  induction u using Nat.strongRecOn with
  | _ u ih =>
    intro j hj hu
    rw [Lib.decDigits]
    by_cases c : u < 10
    · rw [dif_pos c]
      have e := dig_nat u c
      refine ⟨by simp; omega, ?_⟩
      simp only [List.foldl_cons, List.foldl_nil, stepD, e]
      rw [if_pos (by omega)]
      simp; omega
    · rw [dif_neg c]
      obtain ⟨i, rfl⟩ : ∃ i, j = i + 1 := ⟨j - 1, by omega⟩
      have hp := Nat.pow_succ (n := 10) (m := i)
      have hi : 1 ≤ i := by
        rcases Nat.eq_zero_or_pos i with e | e
        · subst e; simp at hu; omega
        · exact e
      obtain ⟨l1, l2⟩ := ih (u / 10) (by omega) i hi (by omega)
      have e := dig_nat (u % 10) (by omega)
      refine ⟨by rw [List.length_append]; simp; omega, ?_⟩
      rw [List.foldl_append, l2]
      simp only [List.foldl_cons, List.foldl_nil, stepD, e]
      rw [if_pos (by omega), List.length_append]
      simp only [List.length_cons, List.length_nil, Prod.mk.injEq]
      constructor
      · omega
      · simp
theorem fold_bound (l : List UInt8) : ∀ (p : Int × Int) (j : Nat), 0 ≤ p.1 → p.1 < 10 ^ j → p.2 = j → ∃ i : Nat, (l.foldl stepD p).2 = i ∧ 0 ≤ (l.foldl stepD p).1 ∧ (l.foldl stepD p).1 < 10 ^ i := by
  induction l with
  | nil => intro p j h0 h1 h2; exact ⟨j, h2, h0, h1⟩
  | cons c l ih =>
    intro p j h0 h1 h2
    rw [List.foldl_cons]
    unfold stepD
    by_cases hc : 48 ≤ c.toNat ∧ c.toNat ≤ 57
    · rw [if_pos hc]
      refine ih _ (j + 1) (by simp only; omega) ?_ (by simp only; omega)
      simp only
      have : (10 : Int) ^ (j + 1) = 10 ^ j * 10 := Int.pow_succ _ _
      rw [this]; omega
    · rw [if_neg hc]; exact ih p j h0 h1 h2
def numD (s : ByteArray) (p : Int × Int) : Int := if 0 < s.size ∧ bt s 0 = 45 then -p.1 else p.1
def finD (s : ByteArray) (p : Int × Int) : Int × Bool := if p.2 > 9 ∨ s.size > 10 ∨ Lib.itoa (numD s p) ≠ s.data.toList then (0, false) else (numD s p, true)
def readD (s : ByteArray) : Int × Bool := finD s ((s.data.toList.take 11).foldl stepD (0, 0))
/-- What is taken as a number is the number's own text. -/
theorem readD_num (v : Int) (h0 : -999999999 ≤ v) (h1 : v ≤ 999999999) (s : ByteArray) (e : Lib.itoa v = s.data.toList) : readD s = (v, true) := by
  have h9 : (10 : Nat) ^ 9 = 1000000000 := by decide
  have hl := data_length s
  unfold readD
  by_cases c : v < 0
  · have ei : Lib.itoa v = 45 :: Lib.decDigits v.natAbs := by unfold Lib.itoa; rw [if_pos c]
    obtain ⟨l1, l2⟩ := fold_dec v.natAbs 9 (by omega) (by omega)
    rw [ei] at e
    rw [← e] at hl
    rw [List.length_cons] at hl
    have hb : bt s 0 = 45 := by
      have := btAt s 0 (by omega)
      have e2 : s.data.toList[0]'(by rw [data_length]; omega) = 45 := by simp [← e]
      rw [e2] at this
      exact this
    have hf : (s.data.toList.take 11).foldl stepD (0, 0) = ((v.natAbs : Int), ((Lib.decDigits v.natAbs).length : Int)) := by
      rw [← e, List.take_of_length_le (by simp; omega), List.foldl_cons]
      have : stepD (0, 0) 45 = (0, 0) := by decide
      rw [this, l2]
    rw [hf]
    have hn : numD s ((v.natAbs : Int), ((Lib.decDigits v.natAbs).length : Int)) = v := by
      unfold numD; rw [if_pos ⟨by omega, hb⟩]; simp only; omega
    unfold finD
    rw [hn, if_neg]
    rintro (h | h | h)
    · simp only at h; omega
    · omega
    · exact h (ei.trans e)
  · have ei : Lib.itoa v = Lib.decDigits v.toNat := by unfold Lib.itoa; rw [if_neg c]
    obtain ⟨l1, l2⟩ := fold_dec v.toNat 9 (by omega) (by omega)
    obtain ⟨x, r, ex, hx1, hx2⟩ := dec_head v.toNat
    rw [ei] at e
    have hl2 := hl
    rw [← e] at hl
    have hb : ¬ (0 < s.size ∧ bt s 0 = 45) := by
      rintro ⟨h, h45⟩
      have := btAt s 0 h
      have e2 : s.data.toList[0]'(by rw [data_length]; omega) = x := by simp [← e, ex]
      rw [e2] at this
      have h46 : bt s 0 = (x.toNat : Int) := this
      omega
    have hf : (s.data.toList.take 11).foldl stepD (0, 0) = ((v.toNat : Int), ((Lib.decDigits v.toNat).length : Int)) := by
      rw [← e, List.take_of_length_le (by omega), l2]
    rw [hf]
    have hn : numD s ((v.toNat : Int), ((Lib.decDigits v.toNat).length : Int)) = v := by
      unfold numD; rw [if_neg hb]; simp only; omega
    unfold finD
    rw [hn, if_neg]
    rintro (h | h | h)
    · simp only at h; omega
    · omega
    · exact h (ei.trans e)
theorem readD_impl (s : ByteArray) (hs : s.size ≤ 281474976710655) : impl_ReadDec.f s = some (readD s) := by
  unfold impl_ReadDec.f
  rw [if_pos hs]
  by_cases c : ∃ v : Int, Lib.itoa v = s.data.toList ∧ -999999999 ≤ v ∧ v ≤ 999999999
  · obtain ⟨v, e, h0, h1⟩ := c
    rw [readD_num v h0 h1 s e, ← e, atoi_itoa v (by omega) (by omega)]
    have q1 : -9223372036854775808 ≤ v := by omega
    have q2 : v ≤ 9223372036854775807 := by omega
    simp only [q1, q2, h0, h1, and_self, if_true]
  · have hr : readD s = (0, false) := by
      obtain ⟨i, b1, b2, b3⟩ := fold_bound (s.data.toList.take 11) (0, 0) 0 (by simp) (by simp) rfl
      unfold readD finD
      by_cases q : ((s.data.toList.take 11).foldl stepD (0, 0)).2 > 9 ∨ s.size > 10 ∨ Lib.itoa (numD s ((s.data.toList.take 11).foldl stepD (0, 0))) ≠ s.data.toList
      · rw [if_pos q]
      · exfalso
        have q1 : ¬ ((s.data.toList.take 11).foldl stepD (0, 0)).2 > 9 := fun h => q (Or.inl h)
        have q3 : Lib.itoa (numD s ((s.data.toList.take 11).foldl stepD (0, 0))) = s.data.toList := Classical.not_not.1 (fun h => q (Or.inr (Or.inr h)))
        have hp : (10 : Int) ^ i ≤ 10 ^ 9 := p10 _ _ (by omega)
        have h9 : (10 : Int) ^ 9 = 1000000000 := p9
        apply c
        refine ⟨_, q3, ?_, ?_⟩
        · unfold numD; split <;> omega
        · unfold numD; split <;> omega
    rw [hr]
    cases ea : Lib.atoiAll s.data.toList with
    | ok v =>
      simp only
      have hv : -9223372036854775808 ≤ v ∧ v ≤ 9223372036854775807 := by
        cases el : s.data.toList with
        | nil => rw [el] at ea; simp [Lib.atoiAll] at ea
        | cons x r =>
          rw [el, Lib.atoiAll] at ea
          split at ea
          · cases ea
          · cases ea
          · split at ea
            · cases ea
            · split at ea
              · cases ea
              · injection ea with ea
                split at ea <;> omega
      rw [if_pos hv, if_neg]
      exact fun h => c ⟨v, h⟩
    | «syntax» => rfl
    | range => rfl
theorem bt_rng (s : ByteArray) (i : Int) : 0 ≤ bt s i ∧ bt s i < 256 := by
  rw [bt_B]
  rcases Nat.lt_or_ge i.toNat (bytesOf s).length with h | h
  · rw [getD_at _ _ _ h]; exact B_range s _ (List.getElem_mem _)
  · rw [List.getD_eq_getElem?_getD, List.getElem?_eq_none h]; exact ⟨Int.le_refl 0, by decide⟩
/-! the numbers of variable length -/
theorem valL_varL (n : Nat) : valL (varL n) = n := by
  induction n using Nat.strongRecOn with
  | _ n ih =>
    by_cases h : n < 128
    · rw [varL_small h]; simp only [valL]; omega
    · rw [varL_big h]; simp only [valL]; rw [ih (n / 128) (by omega)]; omega
def varTo (n : Int) : ByteArray := if 0 ≤ n ∧ n ≤ 562949953421311 then strOfNums (varL n.toNat) else ⟨#[]⟩
theorem varTo_size (n : Int) : (varTo n).size ≤ 7 := by
  unfold varTo
  split
  · next h => rw [str_size]; exact varL_len _ 6 (by omega)
  · decide
theorem spec_any (n : Int) : Ev (fun k => spec_Var.f k n) (varTo n) := by
  unfold varTo
  by_cases h : 0 ≤ n ∧ n ≤ 562949953421311
  · rw [if_pos h]; exact svar n h.1 h.2
  · rw [if_neg h]
    by_cases h0 : 0 ≤ n
    · have h1 : ¬ n ≤ 562949953421311 := fun h1 => h ⟨h0, h1⟩
      simp (disch := omega) only [spec_Var.f, spec_l1In.f, if_pos, Option.bind_some, decide_eq_false h1]; exact Ev.now _
    · simp (disch := omega) only [spec_Var.f, spec_l1In.f, if_neg, Option.bind_some]; exact Ev.now _
theorem impl_any (n : Int) : Ev (fun k => impl_Var.f k n) (varTo n) := by
  unfold varTo
  by_cases h : 0 ≤ n ∧ n ≤ 562949953421311
  · rw [if_pos h]; exact ivar n h.1 h.2
  · rw [if_neg h]
    by_cases h0 : 0 ≤ n
    · have h1 : ¬ n ≤ 562949953421311 := fun h1 => h ⟨h0, h1⟩
      simp (disch := omega) only [impl_Var.f, impl_in.f, if_pos, Option.bind_some, decide_eq_false h1]; exact Ev.now _
    · simp (disch := omega) only [impl_Var.f, impl_in.f, if_neg, Option.bind_some]; exact Ev.now _
def rvL (l : List Int) : Nat → Nat → Int × Int
  | 0, _ => (0, 0)
  | d + 1, j => if j < l.length then (if 127 < l.getD j 0 then rvL l d (j + 1) else if l.getD j 0 = 0 ∧ 0 < j then (0, 0) else (valL (l.take (j + 1)), ((j + 1 : Nat) : Int))) else (0, 0)
theorem rv_impl (s : ByteArray) (hz : s.size ≤ 1048576) (d : Nat) : ∀ j : Nat, j + d = 7 → j ≤ s.size → (∀ y ∈ (bytesOf s).take j, 128 ≤ y ∧ y < 256) →
    Ev (fun k => impl_ReadVar.l0 k s (valL ((bytesOf s).take j)) j) (rvL (bytesOf s) d j) := by
  have hl : (bytesOf s).length = s.size := B_len s
  induction d with
  | zero =>
    intro j hj hs hp
    refine Ev_succ ?_
    simp (disch := omega) only [impl_ReadVar.l0, if_neg]
    refine Ev_succ ?_
    simp only [impl_ReadVar.j1, Bool.false_eq_true, if_false]; exact Ev.now _
  | succ d ih =>
    intro j hj hs hp
    by_cases hjs : j < s.size
    · have hb := bt_rng s j
      have hbt : bt s j = (bytesOf s).getD j 0 := by rw [bt_B]; rfl
      have htk : (bytesOf s).take (j + 1) = (bytesOf s).take j ++ [bt s j] := by
        rw [List.take_succ_eq_append_getElem (by omega), hbt, getD_at _ _ _ (by omega)]
      have hlen : ((bytesOf s).take j).length = j := by rw [List.length_take]; omega
      have hv := valL_lt ((bytesOf s).take j)
      have hn := valL_nn ((bytesOf s).take j)
      rw [hlen] at hv
      have hpw := pow7 (j := j) (by omega)
      have hpos : 0 < 128 ^ j := Nat.pow_pos (by decide)
      have hval : valL ((bytesOf s).take (j + 1)) = valL ((bytesOf s).take j) + bt s j % 128 * ((128 ^ j : Nat) : Int) := by rw [htk, valL_snoc, hlen]
      have hq : bt s j % 128 * ((128 ^ j : Nat) : Int) ≤ 127 * ((128 ^ j : Nat) : Int) := Int.mul_le_mul_of_nonneg_right (by omega) (by omega)
      have hq0 : 0 ≤ bt s j % 128 * ((128 ^ j : Nat) : Int) := Int.mul_nonneg (by omega) (by omega)
      have hp6 := pow7 (j := j + 1) (by omega)
      have hs6 : 128 ^ (j + 1) = 128 ^ j * 128 := Nat.pow_succ _ _
      have eor : Go.bits .or .i64 (valL ((bytesOf s).take j)) (shl .i64 (Go.bits .and .i64 (bt s j) 127) (7 * (j : Int))) = valL ((bytesOf s).take (j + 1)) := by
        rw [Kit.i64_and127 (x := bt s j) (by omega) (by omega), shl7 _ j (by omega) (by omega) (by omega), hval]
        have e27 : (2 : Int) ^ (7 * j) = ((128 ^ j : Nat) : Int) := by rw [Int.pow_mul, Int.natCast_pow]; rfl
        refine i64_or_high (7 * j) hq0 ?_ (by omega) hn (by rw [e27]; exact hv) (by omega)
        rw [e27]; exact Int.mul_emod_left _ _
      rw [rvL, if_pos (by omega), ← hbt]
      by_cases hbig : 127 < bt s j
      · rw [if_pos hbig]
        have e2 := ih (j + 1) (by omega) (by omega) (by
          rw [htk]
          intro y hy
          rcases List.mem_append.1 hy with hy | hy
          · exact hp y hy
          · obtain rfl := List.mem_singleton.1 hy; omega)
        refine Ev_succ ?_
        simp (disch := omega) only [impl_ReadVar.l0, if_pos, decide_eq_true (show (j : Int) < (s.size : Int) by omega)]
        refine Ev_succ ?_
        simp (disch := omega) only [impl_ReadVar.j1, if_true, if_pos, w64, eor]
        exact e2
      · rw [if_neg hbig]
        refine Ev_succ ?_
        simp (disch := omega) only [impl_ReadVar.l0, if_pos, decide_eq_true (show (j : Int) < (s.size : Int) by omega)]
        refine Ev_succ ?_
        by_cases hzr : bt s j = 0 ∧ 0 < j
        · rw [if_pos hzr]
          obtain ⟨hzr, hj0⟩ := hzr
          simp (disch := omega) only [impl_ReadVar.j1, if_true, if_pos, if_neg, w64]
          exact Ev.now _
        · rw [if_neg hzr]
          by_cases h00 : bt s j = 0
          · simp (disch := omega) only [impl_ReadVar.j1, if_true, if_pos, if_neg, w64, eor]
            exact Ev_some (by simp)
          · simp (disch := omega) only [impl_ReadVar.j1, if_true, if_pos, if_neg, w64, eor]
            exact Ev_some (by simp)
    · rw [rvL, if_neg (by omega)]
      refine Ev_succ ?_
      simp (disch := omega) only [impl_ReadVar.l0, if_pos, decide_eq_false (show ¬ (j : Int) < (s.size : Int) by omega)]
      refine Ev_succ ?_
      simp only [impl_ReadVar.j1, Bool.false_eq_true, if_false]; exact Ev.now _
def readV (s : ByteArray) : Int × Int := rvL (bytesOf s) 7 0
theorem readV_impl (s : ByteArray) (hz : s.size ≤ 1048576) : Ev (fun k => impl_ReadVar.f k s) (readV s) := by
  have e := rv_impl s hz 7 0 rfl (by omega) (by simp)
  simp only [impl_ReadVar.f]
  exact e
/-- A number is read back, whatever stands behind. -/
theorem rvL_var (l : List Int) (p : List Int) (x : Int) (t : List Int) (hl : l = p ++ x :: t) (hp : ∀ y ∈ p, 128 ≤ y) (h1 : x < 128) (hx : p ≠ [] → x ≠ 0) (d : Nat) : ∀ j : Nat, p.length < j + d → j ≤ p.length → rvL l d j = (valL (p ++ [x]), ((p.length + 1 : Nat) : Int)) := by
  have hlen : l.length = p.length + 1 + t.length := by rw [hl]; exact len_mid p t x
  induction d with
  | zero => intro j h0 h2; omega
  | succ d ih =>
    intro j h0 h2
    rw [rvL, if_pos (by omega)]
    by_cases h : j < p.length
    · have e : l.getD j 0 = p[j] := by rw [hl, List.getD_eq_getElem?_getD, List.getElem?_append_left h, List.getElem?_eq_getElem h]; rfl
      have := hp p[j] (List.getElem_mem h)
      rw [e, if_pos (by omega)]
      exact ih (j + 1) (by omega) (by omega)
    · obtain rfl : j = p.length := by omega
      have e : l.getD p.length 0 = x := by
        have := getD_mid p t x 0
        rw [Int.toNat_natCast] at this
        rw [hl]; exact this
      have ht : l.take (p.length + 1) = p ++ [x] := by
        rw [hl, show p ++ x :: t = (p ++ [x]) ++ t by simp]
        exact List.take_left' (by simp)
      rw [e, if_neg (by omega), if_neg, ht]
      rintro ⟨a, b⟩
      exact hx (fun e2 => by rw [e2] at b; simp at b) a
/-- What is read is what would be written. -/
theorem rvL_canon (l : List Int) (h0 : ∀ y ∈ l, 0 ≤ y ∧ y < 256) (d : Nat) : ∀ j : Nat, j + d = 7 → (∀ y ∈ l.take j, 128 ≤ y ∧ y < 256) → (rvL l d j).2 = 0 ∨ ∃ m : Nat, (rvL l d j).2 = m ∧ m ≤ l.length ∧ 0 ≤ (rvL l d j).1 ∧ (rvL l d j).1 ≤ 562949953421311 ∧ varL (rvL l d j).1.toNat = l.take m := by
  induction d with
  | zero => intro j _ _; exact Or.inl rfl
  | succ d ih =>
    intro j hj hp
    rw [rvL]
    by_cases hjl : j < l.length
    · rw [if_pos hjl]
      have e : l.getD j 0 = l[j] := getD_at l 0 j hjl
      have hb := h0 l[j] (List.getElem_mem hjl)
      have htk : l.take (j + 1) = l.take j ++ [l[j]] := List.take_succ_eq_append_getElem hjl
      rw [e]
      by_cases hbig : 127 < l[j]
      · rw [if_pos hbig]
        refine ih (j + 1) (by omega) ?_
        rw [htk]
        intro y hy
        rcases List.mem_append.1 hy with hy | hy
        · exact hp y hy
        · obtain rfl := List.mem_singleton.1 hy; omega
      · rw [if_neg hbig]
        by_cases hz : l[j] = 0 ∧ 0 < j
        · rw [if_pos hz]; exact Or.inl rfl
        · rw [if_neg hz]
          refine Or.inr ⟨j + 1, rfl, by omega, valL_nn _, ?_, ?_⟩
          · have := valL_lt (l.take (j + 1))
            have hlen : (l.take (j + 1)).length = j + 1 := by rw [List.length_take]; omega
            rw [hlen] at this
            have hp7 := pow7 (j := j + 1) (by omega)
            simp only
            omega
          · rw [htk]
            have hlen : (l.take j).length = j := by rw [List.length_take]; omega
            exact (varL_valL l[j] (by omega) (by omega) _ hp (fun hne h00 => hz ⟨h00, by
              rcases Nat.eq_zero_or_pos j with q | q
              · subst q; simp at hne
              · exact q⟩)).1
    · rw [if_neg hjl]; exact Or.inl rfl
/-! hexadecimal -/
def hexT : ByteArray := ⟨#[48, 49, 50, 51, 52, 53, 54, 55, 56, 57, 97, 98, 99, 100, 101, 102]⟩
def hd (v : Int) : Int := bt (⟨#[48, 49, 50, 51, 52, 53, 54, 55, 56, 57, 97, 98, 99, 100, 101, 102]⟩ : ByteArray) v
theorem hd_table : ∀ v : Fin 16, Lib.indexByte hexT.data.toList ((hd (v.val : Int)).toNat.toUInt8) = (v.val : Int) := by decide +kernel
theorem hd_at (v : Int) (h0 : 0 ≤ v) (h1 : v < 16) : strings_IndexByte.f (⟨#[48, 49, 50, 51, 52, 53, 54, 55, 56, 57, 97, 98, 99, 100, 101, 102]⟩ : ByteArray) (hd v) = some v := by
  obtain ⟨n, rfl⟩ := Int.eq_ofNat_of_zero_le h0
  have := hd_table ⟨n, by omega⟩
  exact congrArg some this
theorem hd_range (v : Int) : 0 ≤ hd v ∧ hd v < 256 := by
  have := bt_rng (⟨#[48, 49, 50, 51, 52, 53, 54, 55, 56, 57, 97, 98, 99, 100, 101, 102]⟩ : ByteArray) v
  unfold hd; omega
def hexL : List Int → List Int
  | [] => []
  | c :: r => hd (c / 16) :: hd (c % 16) :: hexL r
theorem hexL_len : ∀ l, (hexL l).length = 2 * l.length
  | [] => rfl
  | c :: r => by simp only [hexL, List.length_cons, hexL_len r]; omega
theorem hexL_range : ∀ l, ∀ x ∈ hexL l, 0 ≤ x ∧ x < 256
  | [], x, h => absurd h List.not_mem_nil
  | c :: r, x, h => by
    rcases List.mem_cons.1 h with rfl | h
    · exact hd_range _
    · rcases List.mem_cons.1 h with rfl | h
      · exact hd_range _
      · exact hexL_range r x h
theorem hexL_get : ∀ (l : List Int) (i : Nat), i < l.length → (hexL l).getD (2 * i) 0 = hd (l.getD i 0 / 16) ∧ (hexL l).getD (2 * i + 1) 0 = hd (l.getD i 0 % 16)
  | [], i, h => absurd h (Nat.not_lt_zero _)
  | c :: r, 0, _ => ⟨rfl, rfl⟩
  | c :: r, i + 1, h => by
    have e := hexL_get r i (by simpa using h)
    have e1 : 2 * (i + 1) = 2 * i + 1 + 1 := by omega
    rw [e1]
    change (hexL r).getD (2 * i) 0 = _ ∧ (hexL r).getD (2 * i + 1) 0 = _
    exact e
theorem hex_ev_loop (s : ByteArray) (hn : s.size ≤ 1048576) (d : Nat) : ∀ (acc : List Int) (i : Nat), i + d = s.size → acc.length ≤ 2 * i →
    Ev (fun k => impl_Hex.l0 k s acc s.size i) (strOfNums (acc ++ hexL ((bytesOf s).drop i))) := by
  have hl : (bytesOf s).length = s.size := B_len s
  induction d with
  | zero =>
    intro acc i hd' hl'
    have hd0 : (bytesOf s).drop i = [] := List.drop_eq_nil_of_le (by omega)
    rw [hd0, hexL, List.append_nil]
    refine Ev_succ ?_
    simp (disch := omega) only [impl_Hex.l0, if_neg]; exact Ev.now _
  | succ d ih =>
    intro acc i hd' hl'
    have hb := bt_rng s i
    have hbt : bt s i = (bytesOf s)[i]'(by omega) := by rw [bt_B]; exact getD_at _ _ i (by omega)
    have e2 := ih (acc ++ [hd (bt s i / 16), hd (bt s i % 16)]) (i + 1) (by omega) (by simp; omega)
    rw [List.drop_eq_getElem_cons (by omega), ← hbt, hexL]
    rw [List.append_assoc] at e2
    refine Ev_succ ?_
    have hw : wrap64 ((i : Int) + 1) = ((i + 1 : Nat) : Int) := by rw [w64 (by omega) (by omega)]; omega
    simp (disch := omega) only [impl_Hex.l0, if_pos, hw, u8_and15, Option.bind_some, List.length_cons, List.length_nil]
    exact e2
theorem hex_ev (s : ByteArray) (hn : s.size ≤ 1048576) : Ev (fun k => impl_Hex.f k s) (strOfNums (hexL (bytesOf s))) := by
  have e := hex_ev_loop s hn s.size [] 0 (by omega) (by simp)
  simp only [impl_Hex.f]
  exact e
theorem or16 (a b : Int) (ha : 0 ≤ a) (ha2 : a < 16) (hb : 0 ≤ b) (hb2 : b < 16) : Go.bits .or .i64 (a * 16) b = 16 * a + b := by
  rw [i64_or_low 4 (by omega) (by omega) (by omega) (by omega) (by omega) (by omega)]; omega
theorem unhex_ev_loop (s z : ByteArray) (hn : s.size ≤ 1048576) (hz : bytesOf z = hexL (bytesOf s)) (d : Nat) : ∀ (i : Nat), i + d = s.size →
    Ev (fun k => impl_Unhex.l0 k z ((bytesOf s).take i) ((2 * i : Nat) : Int)) (s, true) := by
  have hl : (bytesOf s).length = s.size := B_len s
  have hzl : z.size = 2 * s.size := by rw [← B_len, hz, hexL_len, hl]
  induction d with
  | zero =>
    intro i hi
    have ht : (bytesOf s).take i = bytesOf s := List.take_of_length_le (by omega)
    rw [ht]
    refine Ev_succ ?_
    simp (disch := omega) only [impl_Unhex.l0, if_neg, str_B]; exact Ev.now _
  | succ d ih =>
    intro i hi
    have e2 := ih (i + 1) (by omega)
    have hr := B_range s ((bytesOf s)[i]'(by omega)) (List.getElem_mem _)
    have hg : (bytesOf s).getD i 0 = (bytesOf s)[i]'(by omega) := getD_at _ _ i (by omega)
    obtain ⟨g1, g2⟩ := hexL_get (bytesOf s) i (by omega)
    have b1 : bt z ((2 * i : Nat) : Int) = hd ((bytesOf s)[i]'(by omega) / 16) := by rw [bt_B, hz, Int.toNat_natCast, g1, hg]
    have hw1 : wrap64 (((2 * i : Nat) : Int) + 1) = ((2 * i + 1 : Nat) : Int) := by rw [w64 (by omega) (by omega)]; omega
    have hw2 : wrap64 (((2 * i : Nat) : Int) + 2) = ((2 * (i + 1) : Nat) : Int) := by rw [w64 (by omega) (by omega)]; omega
    have b2 : bt z ((2 * i + 1 : Nat) : Int) = hd ((bytesOf s)[i]'(by omega) % 16) := by rw [bt_B, hz, Int.toNat_natCast, g2, hg]
    have ht : (bytesOf s).take (i + 1) = (bytesOf s).take i ++ [(bytesOf s)[i]'(by omega)] := List.take_succ_eq_append_getElem (by omega)
    have hlen : ((bytesOf s).take i).length = i := by rw [List.length_take]; omega
    rw [ht] at e2
    generalize (bytesOf s)[i]'(by omega) = c at hr b1 b2 e2
    have f1 := hd_at (c / 16) (by omega) (by omega)
    have f2 := hd_at (c % 16) (by omega) (by omega)
    have eo := or16 (c / 16) (c % 16) (by omega) (by omega) (by omega) (by omega)
    have ec : (16 * (c / 16) + c % 16) % 256 = c := by omega
    have w16 : wrap64 (c / 16 * 16) = c / 16 * 16 := w64 (by omega) (by omega)
    have k0 : ((2 * i : Nat) : Int) < (z.size : Int) := by omega
    have k1 : 0 ≤ ((2 * i : Nat) : Int) := by omega
    have k2 : 0 ≤ ((2 * i + 1 : Nat) : Int) := by omega
    have k3 : ((2 * i + 1 : Nat) : Int) < (z.size : Int) := by omega
    have k4 : ¬ c / 16 < 0 := by omega
    have k5 : ¬ c % 16 < 0 := by omega
    have k6 : ((bytesOf s).take i).length < 140737488355328 := by omega
    refine Ev_succ ?_
    simp only [impl_Unhex.l0, if_pos k0, if_pos k1, hw1, if_pos k2, if_pos k3, b1, b2, f1, f2, Option.bind_some, if_neg k4, if_neg k5, if_pos k6, w16, eo, ec, hw2]
    exact e2
theorem unhex_ev (s : ByteArray) (hn : s.size ≤ 1048576) : Ev (fun k => impl_Unhex.f k (strOfNums (hexL (bytesOf s)))) (s, true) := by
  have hz : bytesOf (strOfNums (hexL (bytesOf s))) = hexL (bytesOf s) := B_str _ (hexL_range _)
  have hzl : (strOfNums (hexL (bytesOf s))).size = 2 * s.size := by rw [← B_len, hz, hexL_len, B_len]
  have e := unhex_ev_loop s _ hn hz s.size 0 (by omega)
  have c : (((strOfNums (hexL (bytesOf s))).size : Int) % 2) = 0 := by omega
  simp only [impl_Unhex.f, if_pos c]
  exact e
theorem ext_any (s : ByteArray) (i j : Nat) : (s.extract i j).size ≤ s.size := by rw [ByteArray.size_extract]; omega
theorem spoil_ev (b : List Int) (hb : b.length ≤ 140737488355328) (x h : Int) (h0 : 0 ≤ x) (h1 : x ≤ b.length) (s : ByteArray) (hs : s.size ≤ 1000000) : ∃ r i' h', Ev (fun k => spec_l1Spoil.f k b x h s) (r, i', h') ∧ r.size ≤ 3 * s.size + 10 ∧ 0 ≤ i' ∧ i' ≤ b.length := by
  by_cases c0 : (s.size : Int) = 0
  · obtain ⟨r, i1, q1, e1, z1, a1, b1⟩ := text_ev b hb x h h0 h1 3 (by omega) (by omega)
    refine ⟨r, i1, q1, ?_, by omega, a1, b1⟩
    simp only [spec_l1Spoil.f, if_pos c0]
    exact Ev_call e1 (Ev.now _)
  · obtain ⟨y, i1, q1, e1, a1, b1, c1, d1, f1⟩ := below_some b hb x h h0 h1 s.size
    have hy := b1 (by omega)
    obtain ⟨z, i2, q2, e2, a2, b2, c2, d2, f2⟩ := below_some b hb i1 q1 d1 f1 4
    have hz := b2 (by omega)
    have g1 : y ≤ (s.size : Int) := by omega
    have hw : wrap64 (y + 1) = y + 1 := w64 (by omega) (by omega)
    have g2 : 0 ≤ y + 1 := by omega
    have g3 : y + 1 ≤ (s.size : Int) := by omega
    have x1 := ext_any s 0 y.toNat
    have x2 := ext_any s (y + 1).toNat s.size
    have x3 := ext_any s y.toNat s.size
    by_cases z0 : z = 0
    · have g4 : (s.extract 0 y.toNat).size + (s.extract (y + 1).toNat s.size).size ≤ 9223372036854775807 := by omega
      refine ⟨s.extract 0 y.toNat ++ s.extract (y + 1).toNat s.size, i2, q2, ?_, by rw [size_app]; omega, d2, f2⟩
      simp only [spec_l1Spoil.f, if_neg c0]
      refine Ev_call (Ev_some_of e1) (Ev_call (Ev_some_of e2) ?_)
      simp only [if_pos z0, if_pos a1, if_pos g1, hw, if_pos g2, if_pos g3, if_pos g4]; exact Ev.now _
    by_cases z1 : z = 1
    · obtain ⟨v, i3, q3, e3, a3, b3, c3, d3⟩ := byte_some b hb i2 q2 d2 f2
      have s1 : (strOfNums [v % 256]).size = 1 := rfl
      have g4 : (s.extract 0 y.toNat).size + (strOfNums [v % 256]).size ≤ 9223372036854775807 := by omega
      have g5 : (s.extract 0 y.toNat ++ strOfNums [v % 256]).size + (s.extract y.toNat s.size).size ≤ 9223372036854775807 := by rw [size_app]; omega
      refine ⟨(s.extract 0 y.toNat ++ strOfNums [v % 256]) ++ s.extract y.toNat s.size, i3, q3, ?_, by rw [size_app, size_app]; omega, c3, d3⟩
      simp only [spec_l1Spoil.f, if_neg c0]
      refine Ev_call (Ev_some_of e1) (Ev_call (Ev_some_of e2) ?_)
      simp only [if_neg z0, if_pos z1, if_pos a1, if_pos g1]
      refine Ev_call (Ev_some_of e3) ?_
      simp only [Option.bind_some, if_pos g4, if_pos g5]; exact Ev.now _
    by_cases z2 : z = 2
    · refine ⟨s.extract 0 y.toNat, i2, q2, ?_, by omega, d2, f2⟩
      simp only [spec_l1Spoil.f, if_neg c0]
      refine Ev_call (Ev_some_of e1) (Ev_call (Ev_some_of e2) ?_)
      simp only [if_neg z0, if_neg z1, if_pos z2, if_pos a1, if_pos g1]; exact Ev.now _
    · obtain ⟨v, i3, q3, e3, a3, b3, c3, d3, f3⟩ := below_some b hb i2 q2 d2 f2 255
      have s1 : (strOfNums [(Go.bits .xor .i64 (wrap64 (bt s y)) (wrap64 (1 + v))) % 256]).size = 1 := rfl
      have g4 : (s.extract 0 y.toNat).size + (strOfNums [(Go.bits .xor .i64 (wrap64 (bt s y)) (wrap64 (1 + v))) % 256]).size ≤ 9223372036854775807 := by omega
      have g5 : (s.extract 0 y.toNat ++ strOfNums [(Go.bits .xor .i64 (wrap64 (bt s y)) (wrap64 (1 + v))) % 256]).size + (s.extract (y + 1).toNat s.size).size ≤ 9223372036854775807 := by rw [size_app]; omega
      refine ⟨(s.extract 0 y.toNat ++ strOfNums [(Go.bits .xor .i64 (wrap64 (bt s y)) (wrap64 (1 + v))) % 256]) ++ s.extract (y + 1).toNat s.size, i3, q3, ?_, by rw [size_app, size_app]; omega, d3, f3⟩
      simp only [spec_l1Spoil.f, if_neg c0]
      refine Ev_call (Ev_some_of e1) (Ev_call (Ev_some_of e2) ?_)
      simp only [if_neg z0, if_neg z1, if_neg z2, if_pos a1, if_pos g1, if_pos hy]
      refine Ev_call (Ev_some_of e3) ?_
      simp only [Option.bind_some, if_pos g4, hw, if_pos g2, if_pos g3, if_pos g5]; exact Ev.now _
theorem fxL_len (d : Nat) : ∀ (y : Int) (T : List Int), (fxL y d T).length = d + T.length := by
  induction d with
  | zero => intro y T; simp [fxL]
  | succ d ih => intro y T; rw [fxL, ih]; simp; omega
theorem fxL_range (d : Nat) : ∀ (y : Int) (T : List Int), (∀ x ∈ T, 0 ≤ x ∧ x < 256) → ∀ x ∈ fxL y d T, 0 ≤ x ∧ x < 256 := by
  induction d with
  | zero => intro y T h; exact h
  | succ d ih =>
    intro y T h
    rw [fxL]
    refine ih _ _ (fun x hx => ?_)
    rcases List.mem_cons.1 hx with rfl | hx
    · omega
    · exact h x hx
def b256 (a c : Int) : Int := a * 256 + c
theorem fxL_val (d : Nat) : ∀ (y : Int) (T : List Int), 0 ≤ y → y < ((256 ^ d : Nat) : Int) → (fxL y d T).foldl b256 0 = T.foldl b256 y := by
  induction d with
  | zero => intro y T h0 h1; simp at h1; obtain rfl : y = 0 := by omega
            rfl
  | succ d ih =>
    intro y T h0 h1
    have e : 256 ^ (d + 1) = 256 ^ d * 256 := Nat.pow_succ _ _
    rw [fxL, ih (y / 256) _ (by omega) (by omega), List.foldl_cons]
    congr 1
    unfold b256; omega
theorem rf_ev (s : ByteArray) (hs : 7 ≤ s.size) (hz : s.size ≤ 1048576) (d : Nat) : ∀ (i : Nat) (n : Int), i + d = 7 → n = ((bytesOf s).take i).foldl b256 0 → 0 ≤ n → n < ((256 ^ i : Nat) : Int) →
    Ev (fun k => impl_ReadFixed.l0 k s n 7 i) (((bytesOf s).take 7).foldl b256 0, true) := by
  have hl : (bytesOf s).length = s.size := B_len s
  induction d with
  | zero =>
    intro i n hi hn h0 h1
    obtain rfl : i = 7 := by omega
    refine Ev_succ ?_
    rw [← hn]
    simp (disch := omega) only [impl_ReadFixed.l0, if_neg]; exact Ev.now _
  | succ d ih =>
    intro i n hi hn h0 h1
    have k0 : (i : Int) < 7 := by clear h1 hn; omega
    have k1 : 0 ≤ (i : Int) := by clear h1 hn; omega
    have k2 : (i : Int) < (s.size : Int) := by clear h1 hn; omega
    have hb := bt_rng s i
    have hp := Nat.pow_le_pow_right (n := 256) (by decide) (show i ≤ 6 by clear h1 hn; omega)
    have h6 : 256 ^ 6 = 281474976710656 := by decide
    have hq : 256 ^ (i + 1) = 256 ^ i * 256 := Nat.pow_succ _ _
    have hbt : bt s i = (bytesOf s)[i]'(by omega) := by rw [bt_B]; exact getD_at _ _ i (by omega)
    have ht : (bytesOf s).take (i + 1) = (bytesOf s).take i ++ [bt s i] := by rw [hbt]; exact List.take_succ_eq_append_getElem (by omega)
    have e2 := ih (i + 1) (n * 256 + bt s i) (by omega) (by rw [ht, List.foldl_append, ← hn]; rfl) (by omega) (by omega)
    have e : Go.bits .or .i64 (n * 256) (bt s i) = n * 256 + bt s i := i64_or_low 8 (by omega) (by omega) (by omega) (by omega) (by omega) (by omega)
    have hw : wrap64 ((i : Int) + 1) = ((i + 1 : Nat) : Int) := by rw [w64 (by omega) (by omega)]; omega
    have w1 : wrap64 (n * 256) = n * 256 := w64 (by omega) (by omega)
    have w2 : wrap64 (bt s i) = bt s i := w64 (by omega) (by omega)
    refine Ev_succ ?_
    simp only [impl_ReadFixed.l0, if_pos k0, if_pos k1, if_pos k2, w1, w2, e, hw]; exact e2
theorem rf_any (s : ByteArray) (hz : s.size ≤ 1048576) : ∃ r : Int × Bool, Ev (fun k => impl_ReadFixed.f k s 7) r ∧ (7 ≤ s.size → r = (((bytesOf s).take 7).foldl b256 0, true)) := by
  by_cases h : 7 ≤ s.size
  · refine ⟨_, ?_, fun _ => rfl⟩
    have e := rf_ev s h hz 7 0 0 rfl rfl (by omega) (by decide)
    have c : decide ((s.size : Int) < 7) = false := decide_eq_false (by omega)
    simp (disch := omega) only [impl_ReadFixed.f, impl_in.f, if_pos, Option.bind_some, decide_eq_true (show (7 : Int) ≤ 7 by omega), c]
    refine Ev_succ ?_
    simp only [impl_ReadFixed.j0, Bool.false_eq_true, if_false]
    exact e
  · refine ⟨(0, false), ?_, fun q => absurd q h⟩
    have c : decide ((s.size : Int) < 7) = true := decide_eq_true (by omega)
    simp (disch := omega) only [impl_ReadFixed.f, impl_in.f, if_pos, Option.bind_some, decide_eq_true (show (7 : Int) ≤ 7 by omega), c]
    refine Ev_succ ?_
    simp only [impl_ReadFixed.j0, if_true]
    exact Ev.now _
def fixTo (n : Int) : ByteArray := if 0 ≤ n ∧ n < 72057594037927936 then strOfNums (fxL n 7 []) else ⟨#[]⟩
theorem fix_ev (n : Int) (h0 : -9223372036854775808 ≤ n) (h1 : n ≤ 9223372036854775807) : Ev (fun k => impl_Fixed.f k n 7) (fixTo n) := by
  have w56 : wrap64 (8 * 7) = 8 * ((7 : Nat) : Int) := by rw [w64 (by omega) (by omega)]; rfl
  have hsh := shr8 n 7 (by omega)
  have hp : (256 : Int) ^ 7 = 72057594037927936 := by decide
  have c56 : 0 ≤ 8 * ((7 : Nat) : Int) := by omega
  unfold fixTo
  by_cases hn : n < 0
  · rw [if_neg (by omega)]
    simp (disch := omega) only [impl_Fixed.f, impl_in.f, if_pos, Option.bind_some, decide_eq_true (show (7 : Int) ≤ 7 by omega), if_pos hn]
    refine Ev_succ ?_
    simp only [impl_Fixed.j0, if_true]; exact Ev.now _
  · by_cases hb : n < 72057594037927936
    · rw [if_pos ⟨by omega, hb⟩]
      have e0 : (shr .i64 n (8 * ((7 : Nat) : Int)) != 0) = false := by rw [hsh, hp]; apply bne_eq_false_iff_eq.2; omega
      simp only [impl_Fixed.f, impl_in.f, if_pos (show (7 : Int) ≥ 1 by omega), Option.bind_some, decide_eq_true (show (7 : Int) ≤ 7 by omega), if_true, if_neg hn, w56, if_pos c56, e0]
      refine Ev_succ ?_
      have e := fx_impl n 7 7 0 [] (by omega) (by omega) rfl
      rw [List.append_nil, Int.pow_zero, Int.ediv_one] at e
      simp only [impl_Fixed.j0, Bool.false_eq_true, if_false, if_pos (show (0 : Int) ≤ 7 by omega), if_pos (show ((7 : Int)).toNat ≤ 281474976710656 by decide)]
      exact e
    · rw [if_neg (by omega)]
      have e0 : (shr .i64 n (8 * ((7 : Nat) : Int)) != 0) = true := by rw [hsh, hp]; apply bne_iff_ne.2; omega
      simp only [impl_Fixed.f, impl_in.f, if_pos (show (7 : Int) ≥ 1 by omega), Option.bind_some, decide_eq_true (show (7 : Int) ≤ 7 by omega), if_true, if_neg hn, w56, if_pos c56, e0]
      refine Ev_succ ?_
      simp only [impl_Fixed.j0, if_true]; exact Ev.now _
theorem dec_len_ge (j : Nat) : ∀ u : Nat, 10 ^ j ≤ u → j + 1 ≤ (Lib.decDigits u).length := by
  induction j with
  | zero => intro u _; obtain ⟨c, r, e, _, _⟩ := dec_head u; rw [e]; simp
  | succ j ih =>
    intro u hu
    have hp := Nat.pow_succ (n := 10) (m := j)
    have hpos : 0 < 10 ^ j := Nat.pow_pos (by decide)
    rw [Lib.decDigits, dif_neg (by omega), List.length_append]
    have := ih (u / 10) (by omega)
    simp only [List.length_cons, List.length_nil]; omega
theorem readD_big (n : Int) (h0 : -9223372036854775808 ≤ n) (h1 : n ≤ 9223372036854775807) (h : n ≤ -1000000000 ∨ 1000000000 ≤ n) (s : ByteArray) (e : Lib.itoa n = s.data.toList) : (readD s).2 = false := by
  have h9 : (10 : Nat) ^ 9 = 1000000000 := by decide
  have h19 : (10 : Nat) ^ 19 = 10000000000000000000 := by decide
  have hl := data_length s
  unfold readD finD
  split
  · rfl
  · next q =>
    exfalso
    have q1 : ¬ ((s.data.toList.take 11).foldl stepD (0, 0)).2 > 9 := fun h => q (Or.inl h)
    have q2 : ¬ s.size > 10 := fun h => q (Or.inr (Or.inl h))
    rcases h with h | h
    · have ei : Lib.itoa n = 45 :: Lib.decDigits n.natAbs := by unfold Lib.itoa; rw [if_pos (by omega)]
      have := dec_len_ge 9 n.natAbs (by omega)
      rw [ei] at e
      rw [← e, List.length_cons] at hl
      omega
    · have ei : Lib.itoa n = Lib.decDigits n.toNat := by unfold Lib.itoa; rw [if_neg (by omega)]
      have := dec_len_ge 9 n.toNat (by omega)
      obtain ⟨l1, l2⟩ := fold_dec n.toNat 19 (by omega) (by omega)
      rw [ei] at e
      rw [← e] at hl
      rw [← e, List.take_of_length_le (by omega), l2] at q1
      simp only at q1
      omega
theorem itoa_len (n : Int) (h0 : -9223372036854775808 ≤ n) (h1 : n ≤ 9223372036854775807) : (Lib.itoa n).length ≤ 20 := by
  have h19 : (10 : Nat) ^ 19 = 10000000000000000000 := by decide
  by_cases c : n < 0
  · have ei : Lib.itoa n = 45 :: Lib.decDigits n.natAbs := by unfold Lib.itoa; rw [if_pos c]
    have := (fold_dec n.natAbs 19 (by omega) (by omega)).1
    rw [ei, List.length_cons]; omega
  · have ei : Lib.itoa n = Lib.decDigits n.toNat := by unfold Lib.itoa; rw [if_neg c]
    have := (fold_dec n.toNat 19 (by omega) (by omega)).1
    rw [ei]; omega
theorem toList_ne {s : ByteArray} (h : 0 < s.size) : s.toList ≠ ([] : List UInt8) := by
  rw [toList_data]; intro e
  have := data_length s
  rw [e] at this; simp at this; omega
theorem draw_var (l : List Int) (hl : l.length ≤ 140737488355328) : ∃ n : Int, Ev (fun k => spec_DrawVar.f k l) n ∧ -9223372036854775808 ≤ n ∧ n ≤ 9223372036854775807 := by
  obtain ⟨h, e0⟩ := new_ev l hl
  obtain ⟨n, i1, q1, e1, a, b, _, _⟩ := num_some l hl 0 h (by omega) (by omega)
  refine ⟨n, ?_, a, b⟩
  unfold spec_DrawVar.f
  exact Ev_call e0 (Ev_call (Ev_some_of e1) (Ev.now _))
theorem draw_hex (l : List Int) (hl : l.length ≤ 140737488355328) : ∃ s : ByteArray, Ev (fun k => spec_DrawHex.f k l) s ∧ s.size ≤ 40 := by
  obtain ⟨h, e0⟩ := new_ev l hl
  obtain ⟨s, i1, q1, e1, a, _, _⟩ := text_ev l hl 0 h (by omega) (by omega) 40 (by omega) (by omega)
  refine ⟨s, ?_, by omega⟩
  unfold spec_DrawHex.f
  exact Ev_call e0 (Ev_call e1 (Ev.now _))
theorem draw_readvar (l : List Int) (hl : l.length ≤ 140737488355328) : ∃ s : ByteArray, Ev (fun k => spec_DrawReadVar.f k l) s ∧ s.size ≤ 100 := by
  obtain ⟨h, e0⟩ := new_ev l hl
  obtain ⟨n, i1, q1, e1, _, _, a1, b1⟩ := num_some l hl 0 h (by omega) (by omega)
  obtain ⟨t, i2, q2, e2, z2, a2, b2⟩ := text_ev l hl i1 q1 a1 b1 4 (by omega) (by omega)
  obtain ⟨o, i3, q3, e3, a3, b3⟩ := once_some l hl i2 q2 a2 b2 4
  have hv := varTo_size n
  have hs : (varTo n ++ t).size ≤ 11 := by rw [size_app]; omega
  have c : (varTo n).size + t.size ≤ 9223372036854775807 := by omega
  cases o with
  | false =>
    refine ⟨varTo n ++ t, ?_, by omega⟩
    unfold spec_DrawReadVar.f
    refine Ev_call e0 (Ev_call (Ev_some_of e1) (Ev_call (spec_any n) (Ev_call e2 ?_)))
    simp only [if_pos c]
    refine Ev_call (Ev_some_of e3) ?_
    simp only [Bool.false_eq_true, if_false]; exact Ev.now _
  | true =>
    obtain ⟨r, i4, q4, e4, z4, _, _⟩ := spoil_ev l hl i3 q3 a3 b3 (varTo n ++ t) (by omega)
    refine ⟨r, ?_, by omega⟩
    unfold spec_DrawReadVar.f
    refine Ev_call e0 (Ev_call (Ev_some_of e1) (Ev_call (spec_any n) (Ev_call e2 ?_)))
    simp only [if_pos c]
    refine Ev_call (Ev_some_of e3) ?_
    simp only [if_true]
    exact Ev_call e4 (Ev.now _)
theorem last_law (l : List Int) (hl : l.length ≤ 140737488355328) (t : ByteArray) (ht : t.size ≤ 40) : Ev (fun k => laws_FnNumbers.j2 k l t false) true := by
  obtain ⟨r, er, hr⟩ := draw_readvar l hl
  have eh := hex_ev t (by omega)
  have eu := unhex_ev t (by omega)
  have ev := readV_impl r (by omega)
  refine Ev_succ ?_
  simp only [laws_FnNumbers.j2, Bool.false_eq_true, if_false]
  refine Ev_call eh (Ev_call eu (Ev_call er (Ev_call ev ?_)))
  simp only [if_true]
  rcases rvL_canon (bytesOf r) (B_range r) 7 0 rfl (by simp) with h | ⟨m, h1, h2, h3, h4, h5⟩
  · have h' : (readV r).2 = 0 := h
    simp only [if_pos h']; exact Ev.now _
  · have h1' : (readV r).2 = m := h1
    by_cases hm : (readV r).2 = 0
    · simp only [if_pos hm]; exact Ev.now _
    · simp only [if_neg hm]
      refine Ev_call (impl_any (readV r).1) (Ev_call er ?_)
      rw [B_len] at h2
      have c1 : 0 ≤ (readV r).2 := by omega
      have c2 : (readV r).2 ≤ (r.size : Int) := by omega
      simp only [if_pos c1, if_pos c2]
      refine Ev_some ?_
      rw [beq_iff_eq, toList_B]
      have hv : varTo (readV r).1 = strOfNums (varL (readV r).1.toNat) := by
        unfold varTo; rw [if_pos ⟨h3, h4⟩]
      rw [hv, B_str _ (varL_range _), B_ext, h1', Int.toNat_natCast, List.drop_zero]
      exact h5
theorem dec_law (l : List Int) (hl : l.length ≤ 140737488355328) (n : Int) (h0 : -9223372036854775808 ≤ n) (h1 : n ≤ 9223372036854775807) (t : ByteArray) (ht : t.size ≤ 40) : Ev (fun k => laws_FnNumbers.j1 k l n t false) true := by
  have fin := last_law l hl t ht
  refine Ev_succ ?_
  simp only [laws_FnNumbers.j1, Bool.false_eq_true, if_false]
  have ei : impl_Dec.f n = some ⟨(Lib.itoa n).toArray⟩ := by
    have c : -9223372036854775808 ≤ n ∧ n ≤ 9223372036854775807 := ⟨h0, h1⟩
    simp only [impl_Dec.f, strconv_Itoa.f, if_pos c, Option.bind_some]
  have hil := itoa_len n h0 h1
  have hsz : (⟨(Lib.itoa n).toArray⟩ : ByteArray).size = (Lib.itoa n).length := rfl
  have er := readD_impl (⟨(Lib.itoa n).toArray⟩ : ByteArray) (by omega)
  refine Ev_call (g := fun _ => impl_Dec.f n) (Ev_some_of ei) (Ev_call (g := fun _ => impl_ReadDec.f ⟨(Lib.itoa n).toArray⟩) (Ev_some_of er) ?_)
  by_cases hin : -999999999 ≤ n ∧ n ≤ 999999999
  · have hr := readD_num n hin.1 hin.2 ⟨(Lib.itoa n).toArray⟩ rfl
    rw [hr]
    have c1 : n > -1000000000 := by omega
    have c2 : (true != decide (n < 1000000000)) = false := by rw [decide_eq_true (by omega)]; rfl
    simp only [if_pos c1, c2, Bool.false_eq_true, if_false, if_true, bne_self_eq_false]
    exact fin
  · have hr := readD_big n h0 h1 (by omega) ⟨(Lib.itoa n).toArray⟩ rfl
    rw [hr]
    by_cases c1 : n > -1000000000
    · have c2 : (false != decide (n < 1000000000)) = false := by rw [decide_eq_false (by omega)]; rfl
      simp only [if_pos c1, c2, Bool.false_eq_true, if_false]
      exact fin
    · simp only [if_neg c1, bne_self_eq_false, Bool.false_eq_true, if_false]
      exact fin
theorem fix_law (l : List Int) (hl : l.length ≤ 140737488355328) (n : Int) (h0 : -9223372036854775808 ≤ n) (h1 : n ≤ 9223372036854775807) (t : ByteArray) (ht : t.size ≤ 40) : Ev (fun k => laws_FnNumbers.j0 k l n t false) true := by
  have fin := dec_law l hl n h0 h1 t ht
  refine Ev_succ ?_
  simp only [laws_FnNumbers.j0, Bool.false_eq_true, if_false]
  refine Ev_call (fix_ev n h0 h1) ?_
  by_cases hin : 0 ≤ n ∧ n < 72057594037927936
  · have hf : fixTo n = strOfNums (fxL n 7 []) := by unfold fixTo; rw [if_pos hin]
    have hB : bytesOf (strOfNums (fxL n 7 [])) = fxL n 7 [] := B_str _ (fxL_range 7 n [] (fun x hx => absurd hx List.not_mem_nil))
    have hs : (fixTo n).size = 7 := by rw [hf, str_size, fxL_len]; rfl
    have c0 : (fixTo n).size + t.size ≤ 9223372036854775807 := by omega
    simp only [if_pos c0]
    obtain ⟨r, er, hr⟩ := rf_any (fixTo n ++ t) (by rw [size_app]; omega)
    have hr := hr (by rw [size_app]; omega)
    refine Ev_call er ?_
    have hp7 : ((256 ^ 7 : Nat) : Int) = 72057594037927936 := by decide
    have hv : ((bytesOf (fixTo n ++ t)).take 7).foldl b256 0 = n := by
      rw [B_app, hf, hB, List.take_left' (by rw [fxL_len]; rfl), fxL_val 7 n [] hin.1 (by rw [hp7]; exact hin.2)]
      rfl
    rw [hv] at hr
    subst hr
    have c1 : ¬ (fixTo n).toList = [] := toList_ne (by omega)
    have c2 : ((fixTo n).size : Int) = 7 := by omega
    have c3 : ¬ n < 0 := by omega
    have c4 : ((fixTo n).toList == ([] : List UInt8)) = false := beq_eq_false_iff_ne.2 c1
    have c5 : (false != decide (n ≥ 72057594037927936)) = false := by rw [decide_eq_false (by omega)]; rfl
    simp only [if_neg c1, if_true, if_pos c2, if_neg c3, c4, c5]
    exact fin
  · have hf : fixTo n = ⟨#[]⟩ := by unfold fixTo; rw [if_neg hin]
    rw [hf]
    have z0 : (⟨#[]⟩ : ByteArray).size = 0 := rfl
    have c0 : (⟨#[]⟩ : ByteArray).size + t.size ≤ 9223372036854775807 := by omega
    have c1 : (⟨#[]⟩ : ByteArray).toList = [] := toList_data _
    simp only [if_pos c0]
    obtain ⟨r, er, _⟩ := rf_any (⟨#[]⟩ ++ t) (by rw [size_app]; omega)
    refine Ev_call er ?_
    simp only [c1, if_true]
    by_cases hn : n < 0
    · simp only [if_pos hn, beq_self_eq_true, bne_self_eq_false]; exact fin
    · have c5 : (true != decide (n ≥ 72057594037927936)) = false := by rw [decide_eq_true (by omega)]; rfl
      simp only [if_neg hn, beq_self_eq_true, c5]; exact fin
theorem FnNumbers : laws_FnNumbers.Say := by
  intro l hlw
  apply Ev.rounds
  simp only [laws_FnNumbers.f, laws_big.f, Option.bind_some]
  by_cases h : (l.length : Int) > 1048576
  · simp only [decide_eq_true h, if_true]; exact Ev.now _
  · simp only [decide_eq_false h, Bool.false_eq_true, if_false]
    obtain ⟨n, en, h0, h1⟩ := draw_var l (by omega)
    obtain ⟨t, et, ht⟩ := draw_hex l (by omega)
    have fin := fix_law l (by omega) n h0 h1 t ht
    have hv := varTo_size n
    refine Ev_call en (Ev_call et (Ev_call (impl_any n) ?_))
    have c0 : (varTo n).size + t.size ≤ 9223372036854775807 := by omega
    simp only [if_pos c0]
    refine Ev_call (readV_impl (varTo n ++ t) (by rw [size_app]; omega)) ?_
    by_cases hin : 0 ≤ n ∧ n ≤ 562949953421311
    · have hvt : varTo n = strOfNums (varL n.toNat) := by unfold varTo; rw [if_pos hin]
      obtain ⟨p, x, ef, x0, x1, hp, hx, _⟩ := varL_form n.toNat
      have hB : bytesOf (varTo n ++ t) = p ++ x :: bytesOf t := by rw [B_app, hvt, B_str _ (varL_range _), ef]; simp
      have hvs : (varTo n).size = p.length + 1 := by rw [hvt, str_size, ef]; simp
      have hrd : readV (varTo n ++ t) = (n, ((varTo n).size : Int)) := by
        unfold readV
        rw [rvL_var _ p x (bytesOf t) hB (fun y hy => (hp y hy).1) x1 hx 7 0 (by omega) (by omega), ← ef, valL_varL, hvs]
        congr 1; omega
      rw [hrd]
      have c1 : n ≥ 0 := hin.1
      have c2 : ¬ (varTo n).toList = [] := toList_ne (by omega)
      have c3 : ((varTo n).toList != ([] : List UInt8)) = true := bne_iff_ne.2 c2
      have c4 : (true != decide (n ≤ 562949953421311)) = false := by rw [decide_eq_true hin.2]; rfl
      simp only [if_pos c1, c3, c4, Bool.false_eq_true, if_false, if_neg c2, if_true, bne_self_eq_false]
      exact fin
    · have hvt : varTo n = ⟨#[]⟩ := by unfold varTo; rw [if_neg hin]
      have c2 : (varTo n).toList = [] := by rw [hvt]; exact toList_data _
      have c3 : ((varTo n).toList != ([] : List UInt8)) = false := bne_eq_false_iff_eq.2 c2
      by_cases c1 : n ≥ 0
      · have c4 : (false != decide (n ≤ 562949953421311)) = false := by rw [decide_eq_false (by omega)]; rfl
        simp only [if_pos c1, c3, c4, Bool.false_eq_true, if_false, if_pos c2]
        exact fin
      · simp only [if_neg c1, c3, bne_self_eq_false, Bool.false_eq_true, if_false, if_pos c2]
        exact fin


end Go.Proofs.YtmpmfaaodjmpjaaDoor.Pure

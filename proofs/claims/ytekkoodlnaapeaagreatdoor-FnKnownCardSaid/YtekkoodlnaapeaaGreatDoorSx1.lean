import Derived.Below
import Derived.Lib.ItoaNum
import Derived.Lib.ItoaLen
import Derived.Laws.Sem
import Derived.WalkKit
import Derived.Orders
import Derived.Laws.AppendOwn
import Derived.Laws.IdiomCopy
/- An evaluator of the model over values that are not all known: numbers, texts, what stays, values, memory. -/
set_option linter.unusedVariables false
set_option linter.unusedSimpArgs false
set_option linter.constructorNameAsVariable false
/- Numbers that are not all known: sums of products of unknowns; and what is known of their bounds. -/
namespace Go.Proofs.YtekkoodlnaapeaaGreatDoor.SX
open Go.RowKit

/-- A number: a known one, or a sum of products of unknowns and a known one. -/
inductive SI where
  | c (n : Int)
  | p (ts : List (List Nat × Int)) (k : Int)
def mval (σ : Nat → Int) : List Nat → Int
  | [] => 1
  | i :: r => σ i * mval σ r
def tval (σ : Nat → Int) : List (List Nat × Int) → Int
  | [] => 0
  | t :: r => t.2 * mval σ t.1 + tval σ r
def SI.val (σ : Nat → Int) : SI → Int
  | .c n => n
  | .p ts k => tval σ ts + k
/-- Lists of numbers: alike, and in order. -/
def lb : List Nat → List Nat → Bool
  | [], [] => true
  | a :: x, b :: y => if Nat.beq a b then lb x y else false
  | _, _ => false
def ll : List Nat → List Nat → Bool
  | [], _ :: _ => true
  | a :: x, b :: y => if Nat.blt a b then true else if Nat.beq a b then ll x y else false
  | _, _ => false
theorem lb_eq : ∀ {x y : List Nat}, lb x y = true → x = y
  | [], [], _ => rfl
  | a :: x, b :: y, h => by
    unfold lb at h
    split at h
    · rename_i e
      rw [Nat.eq_of_beq_eq_true e, lb_eq h]
    · cases h
  | [], _ :: _, h => by simp [lb] at h
  | _ :: _, [], h => by simp [lb] at h
def iz : Int → Bool
  | .ofNat n => Nat.beq n 0
  | .negSucc _ => false
theorem iz_eq {n : Int} (h : iz n = true) : n = 0 := by
  cases n with
  | ofNat n => rw [iz] at h; rw [Nat.eq_of_beq_eq_true h]; rfl
  | negSucc n => cases h
def ieq : Int → Int → Bool
  | .ofNat a, .ofNat b => Nat.beq a b
  | .negSucc a, .negSucc b => Nat.beq a b
  | _, _ => false
theorem ieq_iff (a b : Int) : ieq a b = decide (a = b) := by
  have hb : ∀ m n : Nat, Nat.beq m n = decide (m = n) := fun m n => by
    cases h : Nat.beq m n with
    | true => simp [Nat.eq_of_beq_eq_true h]
    | false => simp [Nat.ne_of_beq_eq_false h]
  cases a <;> cases b <;> simp [ieq, hb] <;> omega
def ilt : Int → Int → Bool
  | .ofNat a, .ofNat b => Nat.ble (Nat.succ a) b
  | .negSucc a, .negSucc b => Nat.ble (Nat.succ b) a
  | .negSucc _, .ofNat _ => true
  | .ofNat _, .negSucc _ => false
theorem ilt_iff (a b : Int) : ilt a b = decide (a < b) := by
  have hb : ∀ m n : Nat, Nat.ble (Nat.succ m) n = decide (m < n) := fun m n => by
    cases h : Nat.ble (Nat.succ m) n with
    | true => have := Nat.le_of_ble_eq_true h; simp; omega
    | false => have := Nat.not_le_of_not_ble_eq_true (by rw [h]; simp); simp; omega
  cases a <;> cases b <;> simp only [ilt, hb] <;> first
    | (apply decide_eq_decide.2; simp only [Int.ofNat_eq_natCast]; omega)
    | (apply decide_eq_decide.2; omega)
    | (symm; apply decide_eq_true; simp only [Int.ofNat_eq_natCast]; omega)
    | (symm; apply decide_eq_false; simp only [Int.ofNat_eq_natCast]; omega)
/-- One product more in a sum. -/
def ins (m : List Nat) (k : Int) : List (List Nat × Int) → List (List Nat × Int)
  | [] => if iz k then [] else [(m, k)]
  | t :: r =>
    if lb m t.1 then (let s := k + t.2; if iz s then r else (m, s) :: r)
    else if ll m t.1 then (if iz k then t :: r else (m, k) :: t :: r)
    else t :: ins m k r
theorem tval_ins (σ : Nat → Int) (m : List Nat) (k : Int) : ∀ ts, tval σ (ins m k ts) = k * mval σ m + tval σ ts
  | [] => by
    unfold ins
    split
    · rename_i h; rw [iz_eq h]; simp [tval]
    · rfl
  | t :: r => by
    unfold ins
    split
    · rename_i h
      have e := lb_eq h
      dsimp only
      split
      · rename_i h2
        have h3 := iz_eq h2
        have : k * mval σ m + t.2 * mval σ t.1 = 0 := by rw [e, ← Int.add_mul, h3, Int.zero_mul]
        simp only [tval]; omega
      · simp only [tval]; rw [e, Int.add_mul]; omega
    · split
      · split
        · rename_i h; rw [iz_eq h]; simp
        · rfl
      · simp only [tval, tval_ins σ m k r]; omega
def addT : List (List Nat × Int) → List (List Nat × Int) → List (List Nat × Int)
  | [], b => b
  | t :: r, b => ins t.1 t.2 (addT r b)
theorem tval_addT (σ : Nat → Int) : ∀ a b, tval σ (addT a b) = tval σ a + tval σ b
  | [], b => by simp [addT, tval]
  | t :: r, b => by simp only [addT, tval_ins, tval_addT σ r b, tval]; omega
def scaleT (q : Int) : List (List Nat × Int) → List (List Nat × Int)
  | [] => []
  | t :: r => (t.1, q * t.2) :: scaleT q r
theorem tval_scaleT (σ : Nat → Int) (q : Int) : ∀ a, tval σ (scaleT q a) = q * tval σ a
  | [] => by simp [scaleT, tval]
  | t :: r => by simp only [scaleT, tval, tval_scaleT σ q r, Int.mul_add, Int.mul_assoc]
def insN (i : Nat) : List Nat → List Nat
  | [] => [i]
  | j :: r => if Nat.ble i j then i :: j :: r else j :: insN i r
theorem mval_insN (σ : Nat → Int) (i : Nat) : ∀ m, mval σ (insN i m) = σ i * mval σ m
  | [] => rfl
  | j :: r => by
    unfold insN
    split
    · rfl
    · simp only [mval, mval_insN σ i r]; rw [← Int.mul_assoc, ← Int.mul_assoc, Int.mul_comm (σ j)]
def mulM : List Nat → List Nat → List Nat
  | [], b => b
  | i :: r, b => insN i (mulM r b)
theorem mval_mulM (σ : Nat → Int) : ∀ a b, mval σ (mulM a b) = mval σ a * mval σ b
  | [], b => by simp [mulM, mval]
  | i :: r, b => by simp only [mulM, mval_insN, mval, mval_mulM σ r b, Int.mul_assoc]
def mulT1 (m : List Nat) (k : Int) : List (List Nat × Int) → List (List Nat × Int)
  | [] => []
  | t :: r => ins (mulM m t.1) (k * t.2) (mulT1 m k r)
theorem tval_mulT1 (σ : Nat → Int) (m : List Nat) (k : Int) : ∀ a, tval σ (mulT1 m k a) = k * mval σ m * tval σ a
  | [] => by simp [mulT1, tval]
  | t :: r => by
    simp only [mulT1, tval_ins, tval, tval_mulT1 σ m k r, mval_mulM, Int.mul_add]
    congr 1
    rw [Int.mul_assoc, Int.mul_assoc, ← Int.mul_assoc t.2, Int.mul_comm t.2, Int.mul_assoc]
def mulT : List (List Nat × Int) → List (List Nat × Int) → List (List Nat × Int)
  | [], _ => []
  | t :: r, b => addT (mulT1 t.1 t.2 b) (mulT r b)
theorem tval_mulT (σ : Nat → Int) : ∀ a b, tval σ (mulT a b) = tval σ a * tval σ b
  | [], b => by simp [mulT, tval]
  | t :: r, b => by simp only [mulT, tval_addT, tval_mulT1, tval_mulT σ r b, tval, Int.add_mul]
def SI.mk (ts : List (List Nat × Int)) (k : Int) : SI :=
  match ts with
  | [] => .c k
  | t :: r => .p (t :: r) k
theorem SI.val_mk (σ : Nat → Int) (ts : List (List Nat × Int)) (k : Int) : (SI.mk ts k).val σ = tval σ ts + k := by
  cases ts with
  | nil => simp [SI.mk, SI.val, tval]
  | cons t r => rfl
/-- Known numbers reckoned at once. -/
def fzN (n : Nat) : Option Nat :=
  match n with
  | 0 => some 0
  | Nat.succ m => some (Nat.succ m)
theorem fzN_eq {n m : Nat} (h : fzN n = some m) : m = n := by cases n <;> simp [fzN] at h <;> omega
def fzI (n : Int) : Option Int :=
  match n with
  | .ofNat a => match fzN a with
    | some b => some (.ofNat b)
    | none => none
  | .negSucc a => match fzN a with
    | some b => some (.negSucc b)
    | none => none
theorem fzI_eq {n m : Int} (h : fzI n = some m) : m = n := by
  cases n with
  | ofNat a =>
    simp only [fzI] at h
    cases e : fzN a with
    | none => rw [e] at h; cases h
    | some b => rw [e] at h; rw [← fzN_eq e]; exact (Option.some.inj h).symm
  | negSucc a =>
    simp only [fzI] at h
    cases e : fzN a with
    | none => rw [e] at h; cases h
    | some b => rw [e] at h; rw [← fzN_eq e]; exact (Option.some.inj h).symm
def SI.add : SI → SI → SI
  | .c a, .c b => .c (a + b)
  | .c a, .p ts k => .p ts (a + k)
  | .p ts k, .c b => .p ts (k + b)
  | .p ts k, .p us j => SI.mk (addT ts us) (k + j)
theorem SI.val_add (σ : Nat → Int) (a b : SI) : (a.add b).val σ = a.val σ + b.val σ := by
  cases a <;> cases b <;> simp only [SI.add, SI.val_mk, tval_addT] <;> simp only [SI.val] <;> omega
def SI.neg : SI → SI
  | .c a => .c (-a)
  | .p ts k => .p (scaleT (-1) ts) (-k)
theorem SI.val_neg (σ : Nat → Int) (a : SI) : a.neg.val σ = -a.val σ := by
  cases a <;> simp only [SI.neg, SI.val, tval_scaleT] <;> omega
def SI.sub : SI → SI → SI
  | .c a, .c b => .c (a - b)
  | a, b => a.add b.neg
theorem SI.val_sub (σ : Nat → Int) (a b : SI) : (a.sub b).val σ = a.val σ - b.val σ := by
  cases a <;> cases b <;> simp only [SI.sub, SI.val_add, SI.val_neg] <;> first | rfl | (simp only [SI.val]; omega) | omega
def SI.mul : SI → SI → SI
  | .c a, .c b => .c (a * b)
  | .c a, .p ts k => if iz a then .c 0 else .p (scaleT a ts) (a * k)
  | .p ts k, .c b => if iz b then .c 0 else .p (scaleT b ts) (k * b)
  | .p ts k, .p us j => SI.mk (addT (mulT ts us) (addT (scaleT j ts) (scaleT k us))) (k * j)
theorem SI.val_mul (σ : Nat → Int) (a b : SI) : (a.mul b).val σ = a.val σ * b.val σ := by
  cases a with
  | c a => cases b with
    | c b => rfl
    | p ts k =>
      simp only [SI.mul]
      split
      · rename_i h; rw [iz_eq h]; simp [SI.val]
      · simp only [SI.val, tval_scaleT, Int.mul_add]
  | p ts k => cases b with
    | c b =>
      simp only [SI.mul]
      split
      · rename_i h; rw [iz_eq h]; simp [SI.val]
      · simp only [SI.val, tval_scaleT, Int.add_mul]; rw [Int.mul_comm b]
    | p us j =>
      simp only [SI.mul, SI.val_mk, tval_addT, tval_mulT, tval_scaleT]
      simp only [SI.val, Int.add_mul, Int.mul_add]
      rw [Int.mul_comm j]; omega
def teq : List (List Nat × Int) → List (List Nat × Int) → Bool
  | [], [] => true
  | a :: x, b :: y => if lb a.1 b.1 then (if ieq a.2 b.2 then teq x y else false) else false
  | _, _ => false
theorem teq_eq : ∀ {x y}, teq x y = true → x = y
  | [], [], _ => rfl
  | a :: x, b :: y, h => by
    unfold teq at h
    split at h
    · rename_i e
      split at h
      · rename_i e2
        rw [ieq_iff] at e2
        rw [teq_eq h, Prod.ext (lb_eq e) (of_decide_eq_true e2)]
      · cases h
    · cases h
  | [], _ :: _, h => by simp [teq] at h
  | _ :: _, [], h => by simp [teq] at h
def SI.beq : SI → SI → Bool
  | .c a, .c b => ieq a b
  | .p ts k, .p us j => if teq ts us then ieq k j else false
  | _, _ => false
theorem SI.beq_eq {a b : SI} (h : a.beq b = true) : a = b := by
  cases a <;> cases b <;> simp only [SI.beq] at h
  · rw [ieq_iff] at h; rw [of_decide_eq_true h]
  · cases h
  · cases h
  · split at h
    · rename_i e
      rw [ieq_iff] at h
      rw [teq_eq e, of_decide_eq_true h]
    · cases h
/-! Bounds. -/
def Within (R : List (Int × Int)) (σ : Nat → Int) : Prop := ∀ (i : Nat) (r : Int × Int), R[i]? = some r → r.1 ≤ σ i ∧ σ i ≤ r.2
def mn2 (a b : Int) : Int := if ilt a b then a else b
def mx2 (a b : Int) : Int := if ilt a b then b else a
theorem mn2_le (a b : Int) : mn2 a b ≤ a ∧ mn2 a b ≤ b := by unfold mn2; rw [ilt_iff]; split <;> rename_i h <;> simp at h <;> omega
theorem le_mx2 (a b : Int) : a ≤ mx2 a b ∧ b ≤ mx2 a b := by unfold mx2; rw [ilt_iff]; split <;> rename_i h <;> simp at h <;> omega
def bmul (x y : Int × Int) : Int × Int :=
  (mn2 (mn2 (x.1 * y.1) (x.1 * y.2)) (mn2 (x.2 * y.1) (x.2 * y.2)), mx2 (mx2 (x.1 * y.1) (x.1 * y.2)) (mx2 (x.2 * y.1) (x.2 * y.2)))
theorem bmul_lo {a b x c : Int} (h1 : a ≤ x) (h2 : x ≤ b) : (a * c ≤ x * c ∨ b * c ≤ x * c) ∧ (x * c ≤ a * c ∨ x * c ≤ b * c) := by
  rcases Int.le_total 0 c with h | h
  · exact ⟨.inl (Int.mul_le_mul_of_nonneg_right h1 h), .inr (Int.mul_le_mul_of_nonneg_right h2 h)⟩
  · exact ⟨.inr (Int.mul_le_mul_of_nonpos_right h2 h), .inl (Int.mul_le_mul_of_nonpos_right h1 h)⟩
theorem bmul_ok {x y : Int × Int} {p q : Int} (hp : x.1 ≤ p ∧ p ≤ x.2) (hq : y.1 ≤ q ∧ q ≤ y.2) : (bmul x y).1 ≤ p * q ∧ p * q ≤ (bmul x y).2 := by
  have h1 := bmul_lo (c := q) hp.1 hp.2
  have h2 := bmul_lo (c := x.1) hq.1 hq.2
  have h3 := bmul_lo (c := x.2) hq.1 hq.2
  rw [Int.mul_comm y.1, Int.mul_comm y.2, Int.mul_comm q] at h2 h3
  have m1 := mn2_le (x.1 * y.1) (x.1 * y.2)
  have m2 := mn2_le (x.2 * y.1) (x.2 * y.2)
  have m3 := mn2_le (mn2 (x.1 * y.1) (x.1 * y.2)) (mn2 (x.2 * y.1) (x.2 * y.2))
  have n1 := le_mx2 (x.1 * y.1) (x.1 * y.2)
  have n2 := le_mx2 (x.2 * y.1) (x.2 * y.2)
  have n3 := le_mx2 (mx2 (x.1 * y.1) (x.1 * y.2)) (mx2 (x.2 * y.1) (x.2 * y.2))
  simp only [bmul]
  omega
def brM (R : List (Int × Int)) : List Nat → Option (Int × Int)
  | [] => some (1, 1)
  | i :: r => match R[i]?, brM R r with
    | some x, some y => some (bmul x y)
    | _, _ => none
theorem brM_ok {R : List (Int × Int)} {σ : Nat → Int} (hR : Within R σ) : ∀ (m : List Nat) (r : Int × Int), brM R m = some r → r.1 ≤ mval σ m ∧ mval σ m ≤ r.2
  | [], r, h => by obtain rfl := Option.some.inj h; simp [mval]
  | i :: m, r, h => by
    unfold brM at h
    split at h
    · rename_i x y h1 h2
      obtain rfl := Option.some.inj h
      exact bmul_ok (hR i x h1) (brM_ok hR m y h2)
    · cases h
def brT (R : List (Int × Int)) : List (List Nat × Int) → Option (Int × Int)
  | [] => some (0, 0)
  | t :: r => match brM R t.1, brT R r with
    | some x, some y => some ((bmul (t.2, t.2) x).1 + y.1, (bmul (t.2, t.2) x).2 + y.2)
    | _, _ => none
theorem brT_ok {R : List (Int × Int)} {σ : Nat → Int} (hR : Within R σ) : ∀ (m : List (List Nat × Int)) (r : Int × Int), brT R m = some r → r.1 ≤ tval σ m ∧ tval σ m ≤ r.2
  | [], r, h => by obtain rfl := Option.some.inj h; simp [tval]
  | t :: m, r, h => by
    unfold brT at h
    split at h
    · rename_i x y h1 h2
      obtain rfl := Option.some.inj h
      have a := bmul_ok (x := (t.2, t.2)) (p := t.2) ⟨Int.le_refl _, Int.le_refl _⟩ (brM_ok hR t.1 x h1)
      have b := brT_ok hR m y h2
      simp only [tval]
      omega
    · cases h
def SI.br (R : List (Int × Int)) : SI → Option (Int × Int)
  | .c n => some (n, n)
  | .p ts k => match brT R ts with
    | some x => some (x.1 + k, x.2 + k)
    | none => none
theorem SI.br_ok {R : List (Int × Int)} {σ : Nat → Int} (hR : Within R σ) (s : SI) (r : Int × Int) (h : s.br R = some r) : r.1 ≤ s.val σ ∧ s.val σ ≤ r.2 := by
  cases s with
  | c n => obtain rfl := Option.some.inj h; simp [SI.val]
  | p ts k =>
    simp only [SI.br] at h
    split at h
    · rename_i x h1
      obtain rfl := Option.some.inj h
      have := brT_ok hR ts x h1
      simp only [SI.val]
      omega
    · cases h
/-- Is a number below another one, or alike? -/
def SI.lt? (R : List (Int × Int)) : SI → SI → Option Bool
  | .c a, .c b => some (ilt a b)
  | a, b => match (a.sub b).br R with
    | some r => if ilt r.2 0 then some true else if ilt r.1 0 then none else some false
    | none => none
theorem SI.lt?_ok {R : List (Int × Int)} {σ : Nat → Int} (hR : Within R σ) {a b : SI} {t : Bool} (h : SI.lt? R a b = some t) : decide (a.val σ < b.val σ) = t := by
  have key : ∀ t, (match (a.sub b).br R with
    | some r => if ilt r.2 0 then some true else if ilt r.1 0 then none else some false
    | none => none) = some t → decide (a.val σ < b.val σ) = t := by
    intro t h
    split at h
    · rename_i r h1
      have hb := SI.br_ok hR _ _ h1
      rw [SI.val_sub] at hb
      simp only [ilt_iff] at h
      split at h
      · rename_i h2
        have h2 := of_decide_eq_true h2
        obtain rfl := Option.some.inj h
        exact decide_eq_true (by omega)
      · split at h
        · cases h
        · rename_i h3
          obtain rfl := Option.some.inj h
          simp at h3
          exact decide_eq_false (by omega)
    · cases h
  cases a with
  | c a => cases b with
    | c b => simp only [SI.lt?, ilt_iff] at h; exact Option.some.inj h
    | p ts k => exact key t h
  | p ts k => exact key t (by cases b <;> exact h)
def SI.eq? (R : List (Int × Int)) : SI → SI → Option Bool
  | .c a, .c b => some (ieq a b)
  | a, b => match a.sub b with
    | .c n => some (iz n)
    | s => match s.br R with
      | some r => if ilt r.2 0 then some false else if ilt 0 r.1 then some false else none
      | none => none
theorem iz_iff (n : Int) : iz n = decide (n = 0) := by
  cases h : iz n with
  | true => rw [iz_eq h]; rfl
  | false =>
    symm
    apply decide_eq_false
    rintro rfl
    cases h
theorem SI.eq?_ok {R : List (Int × Int)} {σ : Nat → Int} (hR : Within R σ) {a b : SI} {t : Bool} (h : SI.eq? R a b = some t) : decide (a.val σ = b.val σ) = t := by
  have key : ∀ t, (match a.sub b with
    | .c n => some (iz n)
    | s => match s.br R with
      | some r => if ilt r.2 0 then some false else if ilt 0 r.1 then some false else none
      | none => none) = some t → decide (a.val σ = b.val σ) = t := by
    intro t h
    have hs := SI.val_sub σ a b
    generalize a.sub b = d at h hs
    cases d with
    | c n =>
      simp only [iz_iff] at h
      obtain rfl := Option.some.inj h
      have hs : n = a.val σ - b.val σ := hs
      apply decide_eq_decide.2
      omega
    | p ts k =>
      simp only at h
      split at h
      · rename_i r h1
        have hb := SI.br_ok hR _ _ h1
        rw [hs] at hb
        simp only [ilt_iff] at h
        split at h
        · rename_i h2
          have h2 := of_decide_eq_true h2
          obtain rfl := Option.some.inj h
          exact decide_eq_false (by omega)
        · split at h
          · rename_i h2
            have h2 := of_decide_eq_true h2
            obtain rfl := Option.some.inj h
            exact decide_eq_false (by omega)
          · cases h
      · cases h
  cases a with
  | c a => cases b with
    | c b => simp only [SI.eq?, ieq_iff] at h; exact Option.some.inj h
    | p ts k => exact key t h
  | p ts k => exact key t (by cases b <;> exact h)
/-- Is a number between two known ones for sure? -/
def SI.inB (R : List (Int × Int)) (lo hi : Int) (s : SI) : Bool :=
  match s.br R with
  | some r => if ilt r.1 lo then false else if ilt hi r.2 then false else true
  | none => false
theorem SI.inB_ok {R : List (Int × Int)} {σ : Nat → Int} (hR : Within R σ) {lo hi : Int} {s : SI} (h : s.inB R lo hi = true) : lo ≤ s.val σ ∧ s.val σ ≤ hi := by
  unfold SI.inB at h
  split at h
  · rename_i r h1
    have := SI.br_ok hR _ _ h1
    simp only [ilt_iff] at h
    split at h
    · cases h
    · split at h
      · cases h
      · rename_i h2 h3
        simp at h2 h3
        omega
  · cases h
def kmin : IntKind → Int
  | .i8 => -128 | .i16 => -32768 | .i32 => -2147483648 | .i64 => -9223372036854775808 | _ => 0
def kmax : IntKind → Int
  | .i8 => 127 | .i16 => 32767 | .i32 => 2147483647 | .i64 => 9223372036854775807
  | .u8 => 255 | .u16 => 65535 | .u32 => 4294967295 | .u64 => 18446744073709551615
theorem wrap_in (k : IntKind) (n : Int) (h : kmin k ≤ n ∧ n ≤ kmax k) : k.wrap n = n := by
  cases k <;> simp only [kmin, kmax] at h <;> simp only [IntKind.wrap, IntKind.bits, IntKind.signed] <;> simp <;> (try split) <;> omega
end Go.Proofs.YtekkoodlnaapeaaGreatDoor.SX

/- Texts that are not all known: bytes, and numbers' decimals. -/
namespace Go.Proofs.YtekkoodlnaapeaaGreatDoor.SX
open Go.RowKit

/-- A part of a text: a byte, or a number's decimals. -/
inductive Pc where
  | b (n : Nat)
  | d (s : SI)
def Pc.val (σ : Nat → Int) : Pc → List UInt8
  | .b n => [UInt8.ofNat n]
  | .d s => Lib.itoa (s.val σ)
def sval (σ : Nat → Int) : List Pc → List UInt8
  | [] => []
  | q :: r => q.val σ ++ sval σ r
theorem sval_app (σ : Nat → Int) : ∀ a b, sval σ (a ++ b) = sval σ a ++ sval σ b
  | [], b => rfl
  | q :: r, b => by simp only [List.cons_append, sval, sval_app σ r b, List.append_assoc]
/-- No part is longer than 32. -/
def POk (σ : Nat → Int) : List Pc → Prop
  | [] => True
  | q :: r => (q.val σ).length ≤ 32 ∧ POk σ r
theorem POk.app {σ : Nat → Int} : ∀ {a b : List Pc}, POk σ a → POk σ b → POk σ (a ++ b)
  | [], _, _, h => h
  | _ :: _, _, h, h' => ⟨h.1, POk.app h.2 h'⟩
theorem POk.len {σ : Nat → Int} : ∀ {a : List Pc}, POk σ a → (sval σ a).length ≤ 32 * a.length
  | [], _ => by simp [sval]
  | q :: r, h => by
    have h1 := h.1
    have h2 := POk.len h.2
    simp only [sval, List.length_append, List.length_cons]
    omega
theorem itoa_ne (n : Int) : 1 ≤ (Lib.itoa n).length := by
  unfold Lib.itoa
  split
  · simp
  · rw [Lib.decDigits_length]; exact Lib.nDigits_pos _
theorem pcval_ne (σ : Nat → Int) (q : Pc) : 1 ≤ (q.val σ).length := by
  cases q with
  | b n => simp [Pc.val]
  | d s => exact itoa_ne _
/-- The table of decimals: a number, the unknown that is their length, the unknown that is their first byte. -/
def DecT := List (SI × Nat × Nat)
def dfind : List (SI × Nat × Nat) → SI → Option (Nat × Nat)
  | [], _ => none
  | e :: r, s => if e.1.beq s then some e.2 else dfind r s
def DOk (σ : Nat → Int) (D : List (SI × Nat × Nat)) : Prop :=
  ∀ e ∈ D, σ e.2.1 = ((Lib.itoa (e.1.val σ)).length : Int) ∧ ∃ x t, Lib.itoa (e.1.val σ) = x :: t ∧ σ e.2.2 = (x.toNat : Int)
theorem dfind_ok {σ : Nat → Int} {D : List (SI × Nat × Nat)} {s : SI} {r : Nat × Nat} (hD : DOk σ D) (h : dfind D s = some r) :
    σ r.1 = ((Lib.itoa (s.val σ)).length : Int) ∧ ∃ x t, Lib.itoa (s.val σ) = x :: t ∧ σ r.2 = (x.toNat : Int) := by
  induction D with
  | nil => cases h
  | cons e D ih =>
    unfold dfind at h
    split at h
    · rename_i hb
      obtain rfl := Option.some.inj h
      have := hD e (List.mem_cons_self ..)
      rwa [SI.beq_eq hb] at this
    · exact ih (fun e he => hD e (List.mem_cons_of_mem _ he)) h
def lvar (i : Nat) : SI := .p [([i], 1)] 0
theorem lvar_val (σ : Nat → Int) (i : Nat) : (lvar i).val σ = σ i := by simp [lvar, SI.val, tval, mval]
/-- A text's length. -/
def slenF (D : List (SI × Nat × Nat)) : List Pc → Nat → SI → Option SI
  | [], n, acc => some (acc.add (.c (Int.ofNat n)))
  | .b _ :: r, n, acc => slenF D r (Nat.succ n) acc
  | .d s :: r, n, acc => match dfind D s with
    | some q => slenF D r n (acc.add (lvar q.1))
    | none => none
theorem slenF_ok {σ : Nat → Int} {D : List (SI × Nat × Nat)} (hD : DOk σ D) : ∀ (q : List Pc) (n : Nat) (acc r : SI), slenF D q n acc = some r →
    r.val σ = ((sval σ q).length : Int) + (n : Int) + acc.val σ
  | [], n, acc, r, h => by
    obtain rfl := Option.some.inj h
    rw [SI.val_add]; simp only [SI.val, sval, List.length_nil, Int.ofNat_eq_natCast]; omega
  | .b x :: t, n, acc, r, h => by
    have := slenF_ok hD t (Nat.succ n) acc r h
    simp only [sval, Pc.val, List.length_append, List.length_cons, List.length_nil]; omega
  | .d s :: t, n, acc, r, h => by
    unfold slenF at h
    split at h
    · rename_i q hq
      have h1 := (dfind_ok hD hq).1
      have := slenF_ok hD t n _ r h
      rw [SI.val_add, lvar_val] at this
      simp only [sval, Pc.val, List.length_append]; omega
    · cases h
def slen (D : List (SI × Nat × Nat)) (q : List Pc) : Option SI := slenF D q 0 (.c 0)
theorem slen_ok {σ : Nat → Int} {D : List (SI × Nat × Nat)} (hD : DOk σ D) {q : List Pc} {r : SI} (h : slen D q = some r) : r.val σ = ((sval σ q).length : Int) := by
  have := slenF_ok hD q 0 (.c 0) r h
  rw [this]
  simp [SI.val]
theorem drop_la {α : Type} (b : List α) (k : Nat) : ∀ a : List α, (a ++ b).drop (a.length + k) = b.drop k
  | [] => by simp
  | x :: a => by rw [List.cons_append, List.length_cons, Nat.succ_add, List.drop_succ_cons, drop_la b k a]
theorem take_la {α : Type} (b : List α) (k : Nat) : ∀ a : List α, (a ++ b).take (a.length + k) = a ++ b.take k
  | [] => by simp
  | x :: a => by rw [List.cons_append, List.length_cons, Nat.succ_add, List.take_succ_cons, take_la b k a, List.cons_append]
/-- A text less so many bytes ahead. -/
def sdrop (R : List (Int × Int)) (D : List (SI × Nat × Nat)) : List Pc → SI → Option (List Pc)
  | [], n => match n with
    | .c k => if iz k then some [] else none
    | .p .. => none
  | .b x :: r, n => match n with
    | .c k => match k with
      | .ofNat m => match m with
        | 0 => some (.b x :: r)
        | Nat.succ j => sdrop R D r (.c (.ofNat j))
      | .negSucc _ => none
    | .p ts k => if (SI.p ts k).inB R 1 9223372036854775807 then sdrop R D r ((SI.p ts k).sub (.c 1)) else none
  | .d s :: r, n => match n with
    | .c k => if iz k then some (.d s :: r) else none
    | .p ts k => match dfind D s with
      | some q => match (SI.p ts k).sub (lvar q.1) with
        | m => if m.inB R 0 9223372036854775807 then sdrop R D r m else none
      | none => none
theorem sdrop_ok {R : List (Int × Int)} {σ : Nat → Int} (hR : Within R σ) {D : List (SI × Nat × Nat)} (hD : DOk σ D) : ∀ (q : List Pc) (n : SI) (r : List Pc), sdrop R D q n = some r →
    0 ≤ n.val σ ∧ n.val σ ≤ ((sval σ q).length : Int) ∧ sval σ r = (sval σ q).drop (n.val σ).toNat ∧ (POk σ q → POk σ r)
  | [], n, r, h => by
    cases n with
    | c k =>
      simp only [sdrop] at h
      split at h
      · rename_i hk
        obtain rfl := Option.some.inj h
        rw [iz_eq hk]
        simp [SI.val, sval]
      · cases h
    | p ts k => cases h
  | .b x :: t, n, r, h => by
    cases n with
    | c k =>
      cases k with
      | ofNat m =>
        cases m with
        | zero =>
          obtain rfl := Option.some.inj h
          simp [SI.val]
        | succ j =>
          have h := sdrop_ok hR hD t (.c (.ofNat j)) r h
          simp only [SI.val, Int.ofNat_eq_natCast] at h ⊢
          refine ⟨by omega, by simp only [sval, Pc.val, List.length_append, List.length_cons, List.length_nil]; omega, ?_, fun hp => h.2.2.2 hp.2⟩
          rw [h.2.2.1]
          have e : ((j.succ : Nat) : Int).toNat = j + 1 := by omega
          have e2 : (j : Int).toNat = j := by omega
          simp only [e2, e, sval, Pc.val, List.cons_append, List.nil_append, List.drop_succ_cons]
      | negSucc m => cases h
    | p ts k =>
      simp only [sdrop] at h
      split at h
      · rename_i hb
        have hb := SI.inB_ok hR hb
        have h := sdrop_ok hR hD t _ r h
        rw [SI.val_sub] at h
        generalize (SI.p ts k).val σ = v at h hb ⊢
        simp only [SI.val] at h
        refine ⟨by omega, by simp only [sval, Pc.val, List.length_append, List.length_cons, List.length_nil]; omega, ?_, fun hp => h.2.2.2 hp.2⟩
        rw [h.2.2.1]
        have e : v.toNat = (v - 1).toNat + 1 := by omega
        simp only [e, sval, Pc.val, List.cons_append, List.nil_append, List.drop_succ_cons]
      · cases h
  | .d s :: t, n, r, h => by
    cases n with
    | c k =>
      simp only [sdrop] at h
      split at h
      · rename_i hk
        obtain rfl := Option.some.inj h
        rw [iz_eq hk]
        simp [SI.val]
      · cases h
    | p ts k =>
      simp only [sdrop] at h
      split at h
      · rename_i q hq
        split at h
        · rename_i hb
          have hb := SI.inB_ok hR hb
          have hl := (dfind_ok hD hq).1
          have h := sdrop_ok hR hD t _ r h
          rw [SI.val_sub, lvar_val, hl] at h hb
          generalize (SI.p ts k).val σ = v at h hb ⊢
          refine ⟨by omega, by simp only [sval, Pc.val, List.length_append]; omega, ?_, fun hp => h.2.2.2 hp.2⟩
          rw [h.2.2.1]
          have e : v.toNat = (Lib.itoa (s.val σ)).length + (v - ((Lib.itoa (s.val σ)).length : Int)).toNat := by omega
          simp only [sval, Pc.val]
          rw [e, drop_la]
        · cases h
      · cases h
/-- The first so many bytes of a text. -/
def stake (R : List (Int × Int)) (D : List (SI × Nat × Nat)) : List Pc → SI → Option (List Pc)
  | [], n => match n with
    | .c k => if iz k then some [] else none
    | .p .. => none
  | .b x :: r, n => match n with
    | .c k => match k with
      | .ofNat m => match m with
        | 0 => some []
        | Nat.succ j => match stake R D r (.c (.ofNat j)) with
          | some t => some (.b x :: t)
          | none => none
      | .negSucc _ => none
    | .p ts k => if (SI.p ts k).inB R 1 9223372036854775807 then (match stake R D r ((SI.p ts k).sub (.c 1)) with
          | some t => some (.b x :: t)
          | none => none) else none
  | .d s :: r, n => match n with
    | .c k => if iz k then some [] else none
    | .p ts k => match dfind D s with
      | some q => match (SI.p ts k).sub (lvar q.1) with
        | m => if m.inB R 0 9223372036854775807 then (match stake R D r m with
          | some t => some (.d s :: t)
          | none => none) else none
      | none => none
theorem stake_ok {R : List (Int × Int)} {σ : Nat → Int} (hR : Within R σ) {D : List (SI × Nat × Nat)} (hD : DOk σ D) : ∀ (q : List Pc) (n : SI) (r : List Pc), stake R D q n = some r →
    0 ≤ n.val σ ∧ n.val σ ≤ ((sval σ q).length : Int) ∧ sval σ r = (sval σ q).take (n.val σ).toNat ∧ (POk σ q → POk σ r)
  | [], n, r, h => by
    cases n with
    | c k =>
      simp only [stake] at h
      split at h
      · rename_i hk
        obtain rfl := Option.some.inj h
        rw [iz_eq hk]
        simp [SI.val, sval]
      · cases h
    | p ts k => cases h
  | .b x :: t, n, r, h => by
    cases n with
    | c k =>
      cases k with
      | ofNat m =>
        cases m with
        | zero =>
          obtain rfl := Option.some.inj h
          simp [SI.val, sval, POk]
          omega
        | succ j =>
          simp only [stake] at h
          split at h
          · rename_i u hu
            obtain rfl := Option.some.inj h
            have h := stake_ok hR hD t (.c (.ofNat j)) u hu
            simp only [SI.val, Int.ofNat_eq_natCast] at h ⊢
            refine ⟨by omega, by simp only [sval, Pc.val, List.length_append, List.length_cons, List.length_nil]; omega, ?_, fun hp => ⟨hp.1, h.2.2.2 hp.2⟩⟩
            have e : ((j.succ : Nat) : Int).toNat = j + 1 := by omega
            have e2 : (j : Int).toNat = j := by omega
            rw [e2] at h
            simp only [e, sval, Pc.val, List.cons_append, List.nil_append, List.take_succ_cons, h.2.2.1]
          · cases h
      | negSucc m => cases h
    | p ts k =>
      simp only [stake] at h
      split at h
      · rename_i hb
        split at h
        · rename_i u hu
          obtain rfl := Option.some.inj h
          have hb := SI.inB_ok hR hb
          have h := stake_ok hR hD t _ u hu
          rw [SI.val_sub] at h
          generalize (SI.p ts k).val σ = v at h hb ⊢
          simp only [SI.val] at h
          refine ⟨by omega, by simp only [sval, Pc.val, List.length_append, List.length_cons, List.length_nil]; omega, ?_, fun hp => ⟨hp.1, h.2.2.2 hp.2⟩⟩
          have e : v.toNat = (v - 1).toNat + 1 := by omega
          simp only [e, sval, Pc.val, List.cons_append, List.nil_append, List.take_succ_cons, h.2.2.1]
        · cases h
      · cases h
  | .d s :: t, n, r, h => by
    cases n with
    | c k =>
      simp only [stake] at h
      split at h
      · rename_i hk
        obtain rfl := Option.some.inj h
        rw [iz_eq hk]
        simp [SI.val, sval, POk]
        omega
      · cases h
    | p ts k =>
      simp only [stake] at h
      split at h
      · rename_i q hq
        split at h
        · rename_i hb
          split at h
          · rename_i u hu
            obtain rfl := Option.some.inj h
            have hb := SI.inB_ok hR hb
            have hl := (dfind_ok hD hq).1
            have h := stake_ok hR hD t _ u hu
            rw [SI.val_sub, lvar_val, hl] at h hb
            generalize (SI.p ts k).val σ = v at h hb ⊢
            refine ⟨by omega, by simp only [sval, Pc.val, List.length_append]; omega, ?_, fun hp => ⟨hp.1, h.2.2.2 hp.2⟩⟩
            have e : v.toNat = (Lib.itoa (s.val σ)).length + (v - ((Lib.itoa (s.val σ)).length : Int)).toNat := by omega
            simp only [sval, Pc.val]
            rw [e, take_la, h.2.2.1]
          · cases h
        · cases h
      · cases h
/-- A text's first byte. -/
def shead (D : List (SI × Nat × Nat)) : List Pc → Option SI
  | [] => none
  | .b x :: _ => if Nat.blt x 256 then some (.c (.ofNat x)) else none
  | .d s :: _ => match dfind D s with
    | some q => some (lvar q.2)
    | none => none
theorem u8_nat {x : Nat} (h : x < 256) : (UInt8.ofNat x).toNat = x := UInt8.toNat_ofNat_of_lt' (by simpa using h)
theorem shead_ok {σ : Nat → Int} {D : List (SI × Nat × Nat)} (hD : DOk σ D) {q : List Pc} {r : SI} (h : shead D q = some r) :
    ∃ x t, sval σ q = x :: t ∧ r.val σ = (x.toNat : Int) := by
  cases q with
  | nil => cases h
  | cons a t =>
    cases a with
    | b x =>
      simp only [shead] at h
      split at h
      · rename_i hx
        obtain rfl := Option.some.inj h
        have : x < 256 := Nat.le_of_ble_eq_true hx
        exact ⟨_, _, rfl, by simp only [SI.val, u8_nat this, Int.ofNat_eq_natCast]⟩
      · cases h
    | d s =>
      simp only [shead] at h
      split at h
      · rename_i p hp
        obtain rfl := Option.some.inj h
        obtain ⟨_, x, u, hu, hx⟩ := dfind_ok hD hp
        exact ⟨x, u ++ sval σ t, by simp only [sval, Pc.val, hu, List.cons_append], by rw [lvar_val, hx]⟩
      · cases h
theorem digit_byte : ∀ (u : Nat) (x : UInt8), x ∈ Lib.decDigits u → 48 ≤ x.toNat ∧ x.toNat ≤ 57 := by
  intro u
  induction u using Nat.strongRecOn with
  | _ u ih =>
    intro x hx
    rw [Lib.decDigits] at hx
    split at hx
    · rename_i h
      rw [List.mem_singleton] at hx
      subst hx
      rw [u8_nat (by omega)]
      omega
    · rename_i h
      rw [List.mem_append, List.mem_singleton] at hx
      rcases hx with hx | rfl
      · exact ih _ (by omega) x hx
      · rw [u8_nat (by omega)]
        omega
theorem itoa_byte {n : Int} {x : UInt8} (h : x ∈ Lib.itoa n) : x.toNat = 45 ∨ 48 ≤ x.toNat ∧ x.toNat ≤ 57 := by
  unfold Lib.itoa at h
  split at h
  · rcases List.mem_cons.1 h with rfl | h
    · exact .inl rfl
    · exact .inr (digit_byte _ _ h)
  · exact .inr (digit_byte _ _ h)
/-- Are two texts alike? -/
def noDig (x : Nat) : Bool := if Nat.blt x 45 then true else if Nat.blt 57 x then Nat.blt x 256 else if Nat.beq x 46 then true else Nat.beq x 47
def seq : List Pc → List Pc → Option Bool
  | [], [] => some true
  | [], _ :: _ => some false
  | _ :: _, [] => some false
  | .b x :: r, .b y :: t => if Nat.beq x y then seq r t else if Nat.blt x 256 then (if Nat.blt y 256 then some false else none) else none
  | .d s :: r, .d u :: t => if s.beq u then seq r t else none
  | .d _ :: _, .b y :: _ => if noDig y then some false else none
  | .b y :: _, .d _ :: _ => if noDig y then some false else none
theorem noDig_ok {x : Nat} (h : noDig x = true) : x < 256 ∧ ¬ (x = 45 ∨ 48 ≤ x ∧ x ≤ 57) := by
  unfold noDig at h
  have hl : ∀ a b, Nat.blt a b = true → a < b := fun a b h => Nat.le_of_ble_eq_true h
  split at h
  · rename_i h1; have := hl _ _ h1; omega
  · rename_i h1
    split at h
    · rename_i h2; have := hl _ _ h2; have := hl _ _ h; omega
    · split at h
      · rename_i h2; have := Nat.eq_of_beq_eq_true h2; omega
      · have := Nat.eq_of_beq_eq_true h; omega
theorem seq_db {σ : Nat → Int} {s : SI} {y : Nat} (r t : List Pc) (h : noDig y = true) : sval σ (.d s :: r) ≠ sval σ (.b y :: t) := by
  intro e
  have h1 := itoa_ne (s.val σ)
  simp only [sval, Pc.val] at e
  cases hi : Lib.itoa (s.val σ) with
  | nil => rw [hi] at h1; simp at h1
  | cons x u =>
    rw [hi] at e
    simp only [List.cons_append, List.nil_append, List.cons.injEq] at e
    have := itoa_byte (n := s.val σ) (x := x) (by rw [hi]; exact List.mem_cons_self ..)
    have hn := noDig_ok h
    rw [e.1, u8_nat hn.1] at this
    exact hn.2 this
theorem seq_ok {σ : Nat → Int} : ∀ (a b : List Pc) (t : Bool), seq a b = some t → decide (sval σ a = sval σ b) = t
  | [], [], t, h => by obtain rfl := Option.some.inj h; rfl
  | [], q :: r, t, h => by
    obtain rfl := Option.some.inj h
    refine decide_eq_false fun e => ?_
    have := pcval_ne σ q
    have e2 := congrArg List.length e
    simp only [sval, List.length_nil, List.length_append] at e2
    omega
  | q :: r, [], t, h => by
    obtain rfl : t = false := by cases q <;> exact (Option.some.inj h).symm
    refine decide_eq_false fun e => ?_
    have := pcval_ne σ q
    have e2 := congrArg List.length e
    simp only [sval, List.length_nil, List.length_append] at e2
    omega
  | .b x :: r, .b y :: u, t, h => by
    simp only [seq] at h
    split at h
    · rename_i hx
      rw [← seq_ok (σ := σ) r u t h]
      have := Nat.eq_of_beq_eq_true hx
      subst this
      exact decide_eq_decide.2 (by simp [sval, Pc.val])
    · rename_i hx
      split at h
      · rename_i h1
        split at h
        · rename_i h2
          obtain rfl := Option.some.inj h
          refine decide_eq_false fun e => ?_
          simp only [sval, Pc.val, List.cons_append, List.nil_append, List.cons.injEq] at e
          have h3 : x < 256 := Nat.le_of_ble_eq_true h1
          have h4 : y < 256 := Nat.le_of_ble_eq_true h2
          have := congrArg UInt8.toNat e.1
          rw [u8_nat h3, u8_nat h4] at this
          subst this
          exact hx (Nat.beq_refl _)
        · cases h
      · cases h
  | .d s :: r, .d v :: u, t, h => by
    simp only [seq] at h
    split at h
    · rename_i hx
      rw [← seq_ok (σ := σ) r u t h, SI.beq_eq hx]
      exact decide_eq_decide.2 (by simp [sval])
    · cases h
  | .d s :: r, .b y :: u, t, h => by
    simp only [seq] at h
    split at h
    · rename_i hx
      obtain rfl := Option.some.inj h
      exact decide_eq_false (seq_db r u hx)
    · cases h
  | .b y :: u, .d s :: r, t, h => by
    simp only [seq] at h
    split at h
    · rename_i hx
      obtain rfl := Option.some.inj h
      exact decide_eq_false (fun e => seq_db r u hx e.symm)
    · cases h
/-- Is a text ahead of another one? -/
def slt : List Pc → List Pc → Option Bool
  | _, [] => some false
  | [], _ :: _ => some true
  | .b x :: r, .b y :: t => if Nat.blt x 256 then (if Nat.blt y 256 then (if Nat.blt x y then some true else if Nat.beq x y then slt r t else some false) else none) else none
  | _ :: _, _ :: _ => none
theorem slt_ok {σ : Nat → Int} : ∀ (a b : List Pc) (t : Bool), slt a b = some t → Op.bytesLess (sval σ a) (sval σ b) = t
  | [], [], t, h => by obtain rfl := Option.some.inj h; rfl
  | q :: r, [], t, h => by
    obtain rfl : t = false := by cases q <;> exact (Option.some.inj h).symm
    simp [sval, Op.bytesLess]
  | [], q :: r, t, h => by
    obtain rfl := Option.some.inj h
    have := pcval_ne σ q
    simp only [sval]
    cases hq : q.val σ with
    | nil => rw [hq] at this; simp at this
    | cons x u => rfl
  | .b x :: r, .b y :: u, t, h => by
    simp only [slt] at h
    split at h
    · rename_i h1
      split at h
      · rename_i h2
        have h3 : x < 256 := Nat.le_of_ble_eq_true h1
        have h4 : y < 256 := Nat.le_of_ble_eq_true h2
        have e : ∀ p q : Nat, p < 256 → q < 256 → ((UInt8.ofNat p < UInt8.ofNat q) ↔ p < q) := fun p q hp hq => by
          rw [UInt8.lt_iff_toNat_lt, u8_nat hp, u8_nat hq]
        simp only [sval, Pc.val, List.cons_append, List.nil_append, Op.bytesLess]
        split at h
        · rename_i h5
          obtain rfl := Option.some.inj h
          have : x < y := Nat.le_of_ble_eq_true h5
          rw [decide_eq_true ((e x y h3 h4).2 this)]; rfl
        · rename_i h5
          have h5 : ¬ x < y := fun hh => h5 (Nat.ble_eq_true_of_le hh)
          rw [decide_eq_false (fun hh => h5 ((e x y h3 h4).1 hh)), Bool.false_or]
          split at h
          · rename_i h6
            have := Nat.eq_of_beq_eq_true h6
            subst this
            rw [slt_ok (σ := σ) r u t h]; simp
          · rename_i h6
            obtain rfl := Option.some.inj h
            have : ¬ (UInt8.ofNat x = UInt8.ofNat y) := fun hh => by
              have := congrArg UInt8.toNat hh
              rw [u8_nat h3, u8_nat h4] at this
              subst this
              exact h6 (Nat.beq_refl _)
            simp [this]
      · cases h
    · cases h
  | .d _ :: _, .b _ :: _, t, h => by cases h
  | .d _ :: _, .d _ :: _, t, h => by cases h
  | .b _ :: _, .d _ :: _, t, h => by cases h
end Go.Proofs.YtekkoodlnaapeaaGreatDoor.SX

/- What stays: the blocks of a set F, the streams. -/
namespace Go.Proofs.YtekkoodlnaapeaaGreatDoor.SX
open Go.RowKit
structure Fz (F : Nat → Prop) (w w' : World) : Prop where
  os : w'.os = w.os
  tape : w'.tape = w.tape
  output : w'.output = w.output
  size : w.heap.size ≤ w'.heap.size
  block : ∀ k, F k → w'.heap[k]? = w.heap[k]?
variable {F : Nat → Prop}
theorem Fz.refl (F : Nat → Prop) (w : World) : Fz F w w := ⟨rfl, rfl, rfl, Nat.le_refl _, fun _ _ => rfl⟩
theorem Fz.trans {a b c : World} (h : Fz F a b) (k : Fz F b c) : Fz F a c :=
  ⟨k.os.trans h.os, k.tape.trans h.tape, k.output.trans h.output, Nat.le_trans h.size k.size, fun i hi => (k.block i hi).trans (h.block i hi)⟩
theorem Fz.mono {F' : Nat → Prop} {w w' : World} (h : Fz F w w') (hF : ∀ k, F' k → F k) : Fz F' w w' := ⟨h.os, h.tape, h.output, h.size, fun k hk => h.block k (hF k hk)⟩
theorem Fz.drew {a w : World} (h : Fz F a w) : Fz F a w.drew := ⟨h.os, h.tape, h.output, h.size, h.block⟩
theorem Fz.alloc {a w : World} (h : Fz F a w) (hB : ∀ k, F k → k < w.heap.size) (o : Obj) : Fz F a (w.alloc o) :=
  h.trans ⟨rfl, rfl, rfl, by simp, fun k hk => Below.heap_alloc _ _ _ (hB k hk)⟩
theorem Fz.setCell {a w : World} (h : Fz F a w) {p : Addr} (hp : ¬ F p.block) (u : Value) : Fz F a (w.setCell p u) :=
  h.trans ⟨rfl, rfl, rfl, by simp [World.setCell], fun k hk => Below.heap_setCell _ _ _ _ (fun e => hp (e ▸ hk))⟩
theorem Fz.grown {a w w' : World} {row : Option Nat} (h : Fz F a w) (hg : w.grownBy w' row) (hB : ∀ k, F k → k < w.heap.size) (hr : ∀ k, row = some k → ¬ F k) : Fz F a w' :=
  h.trans ⟨hg.os, hg.tape, hg.output, hg.size, fun k hk => hg.block k (hB k hk) (fun e => hr k e.symm hk)⟩
theorem Fz.below {B : Nat} {w w' : World} (h : Fz (· < B) w w') : Below B w w' := ⟨h.os, h.tape, h.output, h.size, h.block⟩
end Go.Proofs.YtekkoodlnaapeaaGreatDoor.SX

/- Values, slots and memory that are not all known. -/
namespace Go.Proofs.YtekkoodlnaapeaaGreatDoor.SX
open Go.RowKit

/-- A value of one cell. -/
inductive S0 where
  | b (v : Bool)
  | i (k : IntKind) (s : SI)
  | s (q : List Pc)
  | ptr (id off : Nat)
  | nilp
  | sl (id off len sz : Nat) (cap : Option Nat)
  | nils
  | op (j : Nat)
/-- A part of a tuple. -/
inductive T1 where
  | x (v : S0)
  | g (cs : List S0)
/-- A value. -/
inductive SV where
  | v (x : S0)
  | f (fn : Nat) (first cap : List S0)
  | a (cs : List S0)
  | t (xs : List T1)
  | u
  | w
/-- Where a row lies: its block, the place of its first cell, and how many cells there are from there on. -/
structure Loc where
  blk : Nat
  off : Nat
  n : Nat
structure Env where
  σ : Nat → Int
  θ : Nat → Value
  one : ∀ j, (θ j).oneCell' = true
  J : (Nat → Prop) → World → Prop
  Jm : ∀ {b b' : Nat → Prop} {w0 w1 : World}, J b w0 → Fz b w0 w1 → (∀ k, b k → b' k) → J b' w1
def R0 (X : Env) (ρ : List Loc) : S0 → Value → Prop
  | .b v, w => w = .bool v
  | .i k s, w => w = .int k (s.val X.σ)
  | .s q, w => ∃ bs : ByteArray, w = .string bs ∧ bs.data.toList = sval X.σ q ∧ POk X.σ q
  | .ptr id off, w => ∃ l, ρ[id]? = some l ∧ w = .pointer (some ⟨l.blk, l.off + off, none⟩)
  | .nilp, w => w = .pointer none
  | .sl id off len sz cap, w => ∃ l a cp, ρ[id]? = some l ∧ w = .slice (some a) len cp ∧ len ≤ cp ∧ (∀ c, cap = some c → cp = c) ∧ (cp = 0 ∨ (a = ⟨l.blk, l.off + off, none⟩ ∧ off + cp * sz ≤ l.n))
  | .nils, w => w = .slice none 0 0
  | .op j, w => w = X.θ j
def Rs (X : Env) (ρ : List Loc) : List S0 → List Value → Prop
  | [], [] => True
  | x :: r, v :: t => R0 X ρ x v ∧ Rs X ρ r t
  | _, _ => False
def R1 (X : Env) (ρ : List Loc) : T1 → Value → Prop
  | .x v, w => R0 X ρ v w
  | .g cs, w => ∃ vs, w = .agg vs ∧ Rs X ρ cs vs.toList
def RT (X : Env) (ρ : List Loc) : List T1 → List Value → Prop
  | [], [] => True
  | x :: r, v :: t => R1 X ρ x v ∧ RT X ρ r t
  | _, _ => False
def R (X : Env) (ρ : List Loc) : SV → Value → Prop
  | .v x, w => R0 X ρ x w
  | .f fn first cap, w => ∃ fs cs, w = .func (.func fn) fs cs ∧ Rs X ρ first fs.toList ∧ Rs X ρ cap cs.toList
  | .a cs, w => ∃ vs, w = .agg vs ∧ Rs X ρ cs vs.toList
  | .t xs, w => ∃ vs, w = .tuple vs ∧ RT X ρ xs vs.toList
  | .u, w => w = undef
  | .w, _ => True
/-- More rows than before. -/
def Ext (ρ ρ' : List Loc) : Prop := ∃ l, ρ' = ρ ++ l
theorem Ext.refl (ρ : List Loc) : Ext ρ ρ := ⟨[], by simp⟩
theorem Ext.trans {a b c : List Loc} (h : Ext a b) (k : Ext b c) : Ext a c := by
  obtain ⟨x, rfl⟩ := h
  obtain ⟨y, rfl⟩ := k
  exact ⟨x ++ y, by simp⟩
theorem Ext.one (ρ : List Loc) (l : Loc) : Ext ρ (ρ ++ [l]) := ⟨[l], rfl⟩
theorem Ext.get {ρ ρ' : List Loc} (h : Ext ρ ρ') {i : Nat} {l : Loc} (hl : ρ[i]? = some l) : ρ'[i]? = some l := by
  obtain ⟨t, rfl⟩ := h
  have : i < ρ.length := (List.getElem?_eq_some_iff.1 hl).1
  rw [List.getElem?_append_left this, hl]
theorem R0.ext {X : Env} {ρ ρ' : List Loc} (e : Ext ρ ρ') {x : S0} {v : Value} (h : R0 X ρ x v) : R0 X ρ' x v := by
  cases x <;> simp only [R0] at h ⊢ <;> first
    | exact h
    | (obtain ⟨l, h1, h2⟩ := h; exact ⟨l, e.get h1, h2⟩)
    | (obtain ⟨l, a, c, h1, h2⟩ := h; exact ⟨l, a, c, e.get h1, h2⟩)
theorem Rs.ext {X : Env} {ρ ρ' : List Loc} (e : Ext ρ ρ') : ∀ {x : List S0} {v : List Value}, Rs X ρ x v → Rs X ρ' x v
  | [], [], _ => trivial
  | _ :: _, _ :: _, h => ⟨h.1.ext e, Rs.ext e h.2⟩
  | [], _ :: _, h => h.elim
  | _ :: _, [], h => h.elim
theorem R1.ext {X : Env} {ρ ρ' : List Loc} (e : Ext ρ ρ') {x : T1} {v : Value} (h : R1 X ρ x v) : R1 X ρ' x v := by
  cases x with
  | x y => exact R0.ext e h
  | g cs => obtain ⟨vs, h1, h2⟩ := h; exact ⟨vs, h1, h2.ext e⟩
theorem RT.ext {X : Env} {ρ ρ' : List Loc} (e : Ext ρ ρ') : ∀ {x : List T1} {v : List Value}, RT X ρ x v → RT X ρ' x v
  | [], [], _ => trivial
  | _ :: _, _ :: _, h => ⟨h.1.ext e, RT.ext e h.2⟩
  | [], _ :: _, h => h.elim
  | _ :: _, [], h => h.elim
theorem R.ext {X : Env} {ρ ρ' : List Loc} (e : Ext ρ ρ') {x : SV} {v : Value} (h : R X ρ x v) : R X ρ' x v := by
  cases x with
  | v y => exact R0.ext e h
  | f fn a b => obtain ⟨fs, cs, h1, h2, h3⟩ := h; exact ⟨fs, cs, h1, h2.ext e, h3.ext e⟩
  | a cs => obtain ⟨vs, h1, h2⟩ := h; exact ⟨vs, h1, h2.ext e⟩
  | t xs => obtain ⟨vs, h1, h2⟩ := h; exact ⟨vs, h1, h2.ext e⟩
  | u => exact h
  | w => trivial
theorem Rs.len {X : Env} {ρ : List Loc} : ∀ {x : List S0} {v : List Value}, Rs X ρ x v → x.length = v.length
  | [], [], _ => rfl
  | _ :: _, _ :: _, h => by simp [Rs.len h.2]
  | [], _ :: _, h => h.elim
  | _ :: _, [], h => h.elim
theorem Rs.app {X : Env} {ρ : List Loc} : ∀ {x y : List S0} {v u : List Value}, Rs X ρ x v → Rs X ρ y u → Rs X ρ (x ++ y) (v ++ u)
  | [], _, [], _, _, h => h
  | _ :: _, _, _ :: _, _, h, k => ⟨h.1, Rs.app h.2 k⟩
  | [], _, _ :: _, _, h, _ => h.elim
  | _ :: _, _, [], _, h, _ => h.elim
/-! Lists of cells. -/
def ldrop {α : Type} : Nat → List α → Option (List α)
  | 0, l => some l
  | Nat.succ _, [] => none
  | Nat.succ n, _ :: l => ldrop n l
def ltake {α : Type} : Nat → List α → Option (List α)
  | 0, _ => some []
  | Nat.succ _, [] => none
  | Nat.succ n, x :: l => match ltake n l with
    | some t => some (x :: t)
    | none => none
/-- A list behind another one, laid out. -/
def appO {α : Type} : List α → List α → Option (List α)
  | [], b => some b
  | x :: r, b => match appO r b with
    | some t => some (x :: t)
    | none => none
theorem appO_eq {α : Type} : ∀ {a b c : List α}, appO a b = some c → c = a ++ b
  | [], b, c, h => (Option.some.inj h).symm
  | x :: r, b, c, h => by
    unfold appO at h
    split at h
    · rename_i t ht
      rw [← Option.some.inj h, appO_eq ht]; rfl
    · cases h
/-- A list with others over its cells from a place on. -/
def lover {α : Type} (new : List α) : Nat → List α → Option (List α)
  | 0, l => match ldrop new.length l with
    | some t => appO new t
    | none => none
  | Nat.succ _, [] => none
  | Nat.succ n, x :: l => match lover new n l with
    | some t => some (x :: t)
    | none => none
theorem ldrop_ok {α : Type} : ∀ {n : Nat} {l t : List α}, ldrop n l = some t → t = l.drop n ∧ n ≤ l.length
  | 0, l, t, h => by obtain rfl := Option.some.inj h; simp
  | Nat.succ n, [], t, h => by cases h
  | Nat.succ n, x :: l, t, h => by
    have := ldrop_ok (n := n) (l := l) (t := t) h
    simp only [List.drop_succ_cons, List.length_cons]
    exact ⟨this.1, by omega⟩
theorem ltake_ok {α : Type} : ∀ {n : Nat} {l t : List α}, ltake n l = some t → t = l.take n ∧ n ≤ l.length
  | 0, l, t, h => by obtain rfl := Option.some.inj h; simp
  | Nat.succ n, [], t, h => by cases h
  | Nat.succ n, x :: l, t, h => by
    simp only [ltake] at h
    split at h
    · rename_i u hu
      obtain rfl := Option.some.inj h
      have := ltake_ok hu
      simp only [List.take_succ_cons, List.length_cons, this.1]
      exact ⟨trivial, by omega⟩
    · cases h
theorem lover_ok {α : Type} {new : List α} : ∀ {n : Nat} {l t : List α}, lover new n l = some t → t = l.take n ++ (new ++ l.drop (n + new.length)) ∧ n + new.length ≤ l.length
  | 0, l, t, h => by
    simp only [lover] at h
    split at h
    · rename_i u hu
      obtain rfl := appO_eq h
      have := ldrop_ok hu
      simp only [List.take_zero, List.nil_append, Nat.zero_add, this.1]
      exact ⟨trivial, this.2⟩
    · cases h
  | Nat.succ n, [], t, h => by cases h
  | Nat.succ n, x :: l, t, h => by
    simp only [lover] at h
    split at h
    · rename_i u hu
      obtain rfl := Option.some.inj h
      have := lover_ok hu
      simp only [List.take_succ_cons, List.length_cons, List.cons_append, this.1, Nat.succ_add, List.drop_succ_cons]
      exact ⟨trivial, by omega⟩
    · cases h
theorem Rs.drop {X : Env} {ρ : List Loc} : ∀ (n : Nat) {x : List S0} {v : List Value}, Rs X ρ x v → Rs X ρ (x.drop n) (v.drop n)
  | 0, _, _, h => h
  | _ + 1, [], [], _ => trivial
  | n + 1, _ :: _, _ :: _, h => Rs.drop n h.2
  | _ + 1, [], _ :: _, h => h.elim
  | _ + 1, _ :: _, [], h => h.elim
theorem Rs.take {X : Env} {ρ : List Loc} : ∀ (n : Nat) {x : List S0} {v : List Value}, Rs X ρ x v → Rs X ρ (x.take n) (v.take n)
  | 0, _, _, _ => by simp [Rs]
  | _ + 1, [], [], _ => trivial
  | n + 1, _ :: _, _ :: _, h => ⟨h.1, Rs.take n h.2⟩
  | _ + 1, [], _ :: _, h => h.elim
  | _ + 1, _ :: _, [], h => h.elim
/-! Slots. -/
inductive ET where
  | nil
  | lf (v : SV)
  | nd (l r : ET)
  | w
def ET.get : List Bool → ET → Option SV
  | _, .w => some .w
  | [], .lf v => some v
  | b :: p, .nd l r => match b with
    | true => ET.get p r
    | false => ET.get p l
  | _, _ => none
def ET.set (v : SV) : List Bool → ET → Option ET
  | [], _ => some (.lf v)
  | b :: p, .nd l r => match b with
    | true => match ET.set v p r with
      | some t => some (.nd l t)
      | none => none
    | false => match ET.set v p l with
      | some t => some (.nd t r)
      | none => none
  | b :: p, .w => match ET.set v p .w with
    | some t => match b with
      | true => some (.nd .w t)
      | false => some (.nd t .w)
    | none => none
  | b :: p, _ => match ET.set v p .nil with
    | some t => match b with
      | true => some (.nd .nil t)
      | false => some (.nd t .nil)
    | none => none
theorem ET.get_nil : ∀ p, ET.get p .nil = none
  | [] => rfl
  | _ :: _ => rfl
theorem ET.get_w : ∀ p, ET.get p .w = some .w
  | [] => rfl
  | _ :: _ => rfl
theorem ET.set_nd {v : SV} {p : List Bool} (ih : ∀ {e e' : ET}, ET.set v p e = some e' → ET.get p e' = some v ∧ ∀ q, q.length = p.length → q ≠ p → ET.get q e' = ET.get q e)
    {b : Bool} {l r e' : ET} (h : ET.set v (b :: p) (.nd l r) = some e') : ET.get (b :: p) e' = some v ∧ ∀ q, q.length = (b :: p).length → q ≠ b :: p → ET.get q e' = ET.get q (.nd l r) := by
  cases b with
  | true =>
    simp only [ET.set] at h
    split at h
    · rename_i t ht
      obtain rfl := Option.some.inj h
      have ih := ih ht
      refine ⟨ih.1, fun q hq hn => ?_⟩
      cases q with
      | nil => simp at hq
      | cons c q =>
        cases c with
        | true => exact ih.2 q (by simpa using hq) (fun e => hn (by rw [e]))
        | false => rfl
    · cases h
  | false =>
    simp only [ET.set] at h
    split at h
    · rename_i t ht
      obtain rfl := Option.some.inj h
      have ih := ih ht
      refine ⟨ih.1, fun q hq hn => ?_⟩
      cases q with
      | nil => simp at hq
      | cons c q =>
        cases c with
        | false => exact ih.2 q (by simpa using hq) (fun e => hn (by rw [e]))
        | true => rfl
    · cases h
theorem ET.set_ok {v : SV} : ∀ {p : List Bool} {e e' : ET}, ET.set v p e = some e' → ET.get p e' = some v ∧ ∀ q, q.length = p.length → q ≠ p → ET.get q e' = ET.get q e
  | [], e, e', h => by
    obtain rfl : ET.lf v = e' := by cases e <;> exact Option.some.inj h
    refine ⟨rfl, fun q hq hn => ?_⟩
    simp at hq
    exact absurd hq hn
  | b :: p, .nd l r, e', h => ET.set_nd (fun h => ET.set_ok h) h
  | b :: p, .nil, e', h => by
    have h2 : ET.set v (b :: p) (.nd .nil .nil) = some e' := by
      rw [← h]
      cases b <;> simp only [ET.set] <;> split <;> simp_all
    have := ET.set_nd (fun h => ET.set_ok h) h2
    refine ⟨this.1, fun q hq hn => (this.2 q hq hn).trans ?_⟩
    cases q with
    | nil => rfl
    | cons c q => cases c <;> exact ET.get_nil q
  | b :: p, .w, e', h => by
    have h2 : ET.set v (b :: p) (.nd .w .w) = some e' := by
      rw [← h]
      cases b <;> simp only [ET.set] <;> split <;> simp_all
    have := ET.set_nd (fun h => ET.set_ok h) h2
    refine ⟨this.1, fun q hq hn => (this.2 q hq hn).trans ?_⟩
    cases q with
    | nil => simp at hq
    | cons c q => cases c <;> exact (ET.get_w q).trans (ET.get_w _).symm
  | b :: p, .lf x, e', h => by
    have h2 : ET.set v (b :: p) (.nd .nil .nil) = some e' := by
      rw [← h]
      cases b <;> simp only [ET.set] <;> split <;> simp_all
    have := ET.set_nd (fun h => ET.set_ok h) h2
    refine ⟨this.1, fun q hq hn => (this.2 q hq hn).trans ?_⟩
    cases q with
    | nil => simp at hq
    | cons c q => cases c <;> exact ET.get_nil q
def bits : Nat → Nat → List Bool
  | 0, _ => []
  | Nat.succ w, n => Nat.beq (n % 2) 1 :: bits w (n / 2)
theorem bits_len : ∀ w n, (bits w n).length = w
  | 0, _ => rfl
  | Nat.succ w, n => by simp [bits, bits_len w]
theorem bits_inj : ∀ (w n m : Nat), n < 2 ^ w → m < 2 ^ w → bits w n = bits w m → n = m
  | 0, n, m, h1, h2, _ => by simp at h1 h2; omega
  | Nat.succ w, n, m, h1, h2, h => by
    simp only [bits, List.cons.injEq] at h
    have e := bits_inj w (n / 2) (m / 2) (by rw [Nat.pow_succ] at h1; omega) (by rw [Nat.pow_succ] at h2; omega) h.2
    have hb : ∀ x : Nat, Nat.beq (x % 2) 1 = decide (x % 2 = 1) := fun x => by
      cases hx : Nat.beq (x % 2) 1 with
      | true => simp [Nat.eq_of_beq_eq_true hx]
      | false => simp [Nat.ne_of_beq_eq_false hx]
    rw [hb, hb] at h
    have h1 := decide_eq_decide.1 h.1
    omega
/-- What is known of a function's slots: how many there are; which of them are kept, and the width of their numbers; which of them lie on the stack. -/
structure Kx where
  n : Nat
  w : Nat
  ix : List Nat
  σ : List (Option Nat)
/-- The values: those of a region, the last first; and those that are kept. -/
structure EV where
  s : List SV
  t : ET
def pos : List Nat → Nat → Nat → Option Nat
  | [], _, _ => none
  | x :: r, t, i => if x = t then some i else pos r t (i + 1)
theorem pos_get : ∀ {l : List Nat} {t i j : Nat}, pos l t i = some j → i ≤ j ∧ l[j - i]? = some t
  | [], _, _, _, h => by cases h
  | x :: r, t, i, j, h => by
    simp only [pos] at h
    split at h
    · rename_i e
      obtain rfl := Option.some.inj h
      simp [e]
    · have := pos_get h
      have e : j - i = (j - (i + 1)) + 1 := by omega
      rw [e]
      exact ⟨by omega, by simpa using this.2⟩
def Kx.pa (K : Kx) (t : Nat) : Option (List Bool) := (pos K.ix t 0).map (bits K.w)
def Kx.Ok (K : Kx) : Prop := K.ix.length ≤ 2 ^ K.w ∧ ∀ t ∈ K.ix, t < K.n
theorem Kx.pa_inv {K : Kx} {t : Nat} {p : List Bool} (h : K.pa t = some p) : ∃ i, K.ix[i]? = some t ∧ p = bits K.w i := by
  obtain ⟨i, hi, rfl⟩ := Option.map_eq_some_iff.1 h
  exact ⟨i, by simpa using (pos_get hi).2, rfl⟩
theorem Kx.pa_len {K : Kx} {t : Nat} {p : List Bool} (h : K.pa t = some p) : p.length = K.w := by
  obtain ⟨i, _, rfl⟩ := K.pa_inv h
  exact bits_len _ _
theorem Kx.pa_lt {K : Kx} (hK : K.Ok) {t : Nat} {p : List Bool} (h : K.pa t = some p) : t < K.n := by
  obtain ⟨i, hi, _⟩ := K.pa_inv h
  exact hK.2 t (List.mem_of_getElem? hi)
theorem Kx.pa_inj {K : Kx} (hK : K.Ok) {t u : Nat} {p : List Bool} (h : K.pa t = some p) (h2 : K.pa u = some p) : t = u := by
  obtain ⟨i, hi, e1⟩ := K.pa_inv h
  obtain ⟨j, hj, e2⟩ := K.pa_inv h2
  have li := (List.getElem?_eq_some_iff.1 hi).1
  have lj := (List.getElem?_eq_some_iff.1 hj).1
  have := bits_inj K.w i j (Nat.lt_of_lt_of_le li hK.1) (Nat.lt_of_lt_of_le lj hK.1) (e1.symm.trans e2)
  subst this
  rw [hi] at hj
  exact Option.some.inj hj
def lnth : Nat → List SV → SV
  | _, [] => .w
  | 0, v :: _ => v
  | Nat.succ i, _ :: r => lnth i r
/-- The slots hold what they should. -/
def RE' (X : Env) (ρ : List Loc) (K : Kx) (e : EV) (tmps : Array Value) : Prop :=
  tmps.size = K.n ∧ K.Ok ∧ (∀ t p, K.pa t = some p → R X ρ ((ET.get p e.t).getD .u) (tmps.getD t undef)) ∧ ∀ i d, K.σ[i]? = some (some d) → d < K.n ∧ R X ρ (lnth i e.s) (tmps.getD d undef)
theorem RE'.ext {X : Env} {ρ ρ' : List Loc} (x : Ext ρ ρ') {K : Kx} {e : EV} {tmps : Array Value} (h : RE' X ρ K e tmps) : RE' X ρ' K e tmps :=
  ⟨h.1, h.2.1, fun t p ht => (h.2.2.1 t p ht).ext x, fun i d hi => ⟨(h.2.2.2 i d hi).1, (h.2.2.2 i d hi).2.ext x⟩⟩
def Kx.push (K : Kx) (d : Option Nat) : Kx := { K with σ := d :: K.σ.map fun o => if o = d then none else o }
def Kx.base (K : Kx) : Kx := { K with σ := [] }
theorem RE'.drop {X : Env} {ρ : List Loc} {K : Kx} {e : EV} {tmps : Array Value} (h : RE' X ρ K e tmps) : RE' X ρ K.base ⟨[], e.t⟩ tmps :=
  ⟨h.1, h.2.1, h.2.2.1, fun i d hi => by cases hi⟩
theorem put_at (tmps : Array Value) (d t : Nat) (u : Value) (hd : d < tmps.size) : (tmps.setIfInBounds d u).getD t undef = if d = t then u else tmps.getD t undef := by
  by_cases c : d = t
  · subst c
    rw [if_pos rfl]
    simp [Array.getD, hd]
  · rw [if_neg c]
    simp only [Array.getD_eq_getD_getElem?]
    rw [Array.getElem?_setIfInBounds_ne c]
/-- A slot is written. -/
theorem RE'.set {X : Env} {ρ : List Loc} {K : Kx} {e : EV} {tmps : Array Value} (h : RE' X ρ K e tmps) {d : Nat} (hd : d < K.n) {v : SV} {u : Value} (hv : R X ρ v u) {t' : ET}
    (he : match K.pa d with
      | some p => ET.set v p e.t = some t'
      | none => t' = e.t) : RE' X ρ (K.push (some d)) ⟨v :: e.s, t'⟩ (tmps.setIfInBounds d u) := by
  obtain ⟨h1, h2, h3, h4⟩ := h
  have hds : d < tmps.size := by rw [h1]; exact hd
  refine ⟨by show (tmps.setIfInBounds d u).size = K.n; simpa using h1, h2, fun t p ht => ?_, fun i k hi => ?_⟩
  · have ht : K.pa t = some p := ht
    rw [put_at _ _ _ _ hds]
    by_cases c : d = t
    · subst c
      rw [ht] at he
      rw [if_pos rfl]
      show R X ρ ((ET.get p t').getD .u) u
      rw [(ET.set_ok he).1]
      exact hv
    · rw [if_neg c]
      show R X ρ ((ET.get p t').getD .u) _
      have e1 : ET.get p t' = ET.get p e.t := by
        cases hp : K.pa d with
        | none => rw [hp] at he; rw [he]
        | some q =>
          rw [hp] at he
          exact (ET.set_ok he).2 p (by rw [K.pa_len ht, K.pa_len hp]) (fun e => c (K.pa_inj h2 hp (e ▸ ht)))
      rw [e1]
      exact h3 t p ht
  · show k < K.n ∧ R X ρ (lnth i (v :: e.s)) _
    cases i with
    | zero =>
      have : some d = some k := Option.some.inj hi
      obtain rfl := Option.some.inj this
      rw [put_at _ _ _ _ hds, if_pos rfl]
      exact ⟨hd, hv⟩
    | succ i =>
      have hi : (K.σ.map fun o => if o = some d then none else o)[i]? = some (some k) := by simpa [Kx.push] using hi
      rw [List.getElem?_map] at hi
      obtain ⟨o, ho, hk⟩ := Option.map_eq_some_iff.1 hi
      split at hk
      · cases hk
      · rename_i hne
        subst hk
        obtain ⟨q1, q2⟩ := h4 i k ho
        rw [put_at _ _ _ _ hds, if_neg (fun e => hne (by rw [e]))]
        exact ⟨q1, q2⟩
theorem RE'.skip {X : Env} {ρ : List Loc} {K : Kx} {e : EV} {tmps : Array Value} (h : RE' X ρ K e tmps) (v : SV) : RE' X ρ (K.push none) ⟨v :: e.s, e.t⟩ tmps := by
  obtain ⟨h1, h2, h3, h4⟩ := h
  refine ⟨h1, h2, h3, fun i k hi => ?_⟩
  cases i with
  | zero => cases Option.some.inj hi
  | succ i =>
    have hi : (K.σ.map fun o => if o = none then none else o)[i]? = some (some k) := by simpa [Kx.push] using hi
    rw [List.getElem?_map] at hi
    obtain ⟨o, ho, hk⟩ := Option.map_eq_some_iff.1 hi
    split at hk
    · cases hk
    · subst hk
      exact h4 i k ho
/-! Memory. -/
structure Blk where
  ty : Nat
  cells : List S0
inductive HT where
  | nil
  | nd (v : Option Blk) (l r : HT)
def HT.get : HT → Nat → Option Blk
  | .nil, _ => none
  | .nd v l r, n => match n with
    | 0 => v
    | Nat.succ m => match Nat.beq (m % 2) 0 with
      | true => HT.get l (m / 2)
      | false => HT.get r (m / 2)
def HT.put (b : Option Blk) : HT → Nat → Option HT
  | .nil, n => match n with
    | 0 => some (.nd b .nil .nil)
    | Nat.succ _ => none
  | .nd v l r, n => match n with
    | 0 => some (.nd b l r)
    | Nat.succ m => match Nat.beq (m % 2) 0 with
      | true => match HT.put b l (m / 2) with
        | some t => some (.nd v t r)
        | none => none
      | false => match HT.put b r (m / 2) with
        | some t => some (.nd v l t)
        | none => none
theorem HT.put_ok {b : Option Blk} : ∀ {h h' : HT} {n : Nat}, HT.put b h n = some h' → ∀ m, HT.get h' m = if m = n then b else HT.get h m
  | .nil, h', n, hp, m => by
    cases n with
    | zero =>
      obtain rfl := Option.some.inj hp
      cases m with
      | zero => rfl
      | succ m =>
        simp only [HT.get]
        split <;> simp
    | succ n => cases hp
  | .nd v l r, h', n, hp, m => by
    cases n with
    | zero =>
      obtain rfl := Option.some.inj hp
      cases m with
      | zero => rfl
      | succ m => simp [HT.get]
    | succ n =>
      simp only [HT.put] at hp
      have hb : ∀ x : Nat, Nat.beq (x % 2) 0 = decide (x % 2 = 0) := fun x => by
        cases hx : Nat.beq (x % 2) 0 with
        | true => simp [Nat.eq_of_beq_eq_true hx]
        | false => simp [Nat.ne_of_beq_eq_false hx]
      split at hp
      · rename_i hn
        rw [hb] at hn
        have hn := of_decide_eq_true hn
        split at hp
        · rename_i t ht
          obtain rfl := Option.some.inj hp
          have ih := HT.put_ok ht
          cases m with
          | zero => simp [HT.get]
          | succ m =>
            simp only [HT.get, hb, Nat.add_right_cancel_iff]
            by_cases c : m % 2 = 0
            · rw [decide_eq_true c]
              simp only [ih]
              by_cases c2 : m = n
              · rw [if_pos (by omega), if_pos c2]
              · rw [if_neg (by omega), if_neg c2]
            · rw [decide_eq_false c]
              simp only
              rw [if_neg (by omega)]
        · cases hp
      · rename_i hn
        rw [hb] at hn
        have hn := of_decide_eq_false hn
        split at hp
        · rename_i t ht
          obtain rfl := Option.some.inj hp
          have ih := HT.put_ok ht
          cases m with
          | zero => simp [HT.get]
          | succ m =>
            simp only [HT.get, hb, Nat.add_right_cancel_iff]
            by_cases c : m % 2 = 0
            · rw [decide_eq_true c]
              simp only
              rw [if_neg (by omega)]
            · rw [decide_eq_false c]
              simp only [ih]
              by_cases c2 : m = n
              · rw [if_pos (by omega), if_pos c2]
              · rw [if_neg (by omega), if_neg c2]
        · cases hp
structure Mem where
  t : HT
  nx : Nat
/-- One row is where it should be. -/
structure RowAt (X : Env) (ρ : List Loc) (base : Nat → Prop) (w : World) (b : Blk) (l : Loc) : Prop where
  low : ¬ base l.blk
  at_ : ∃ cs fr, w.heap[l.blk]? = some (.cells cs b.ty fr) ∧ (fr.1 = fr.2 ∨ cs.size ≤ fr.1) ∧ l.off + l.n ≤ cs.size ∧ b.cells.length ≤ l.n ∧ Rs X ρ b.cells ((cs.toList.drop l.off).take b.cells.length)
/-- Memory is as it should be: the rows that are known lie apart, above base. -/
structure RG (X : Env) (ρ : List Loc) (base : Nat → Prop) (g : Nat → Option Blk) (w : World) : Prop where
  row : ∀ id b, g id = some b → ∃ l, ρ[id]? = some l ∧ RowAt X ρ base w b l
  inj : ∀ id id' b b' l l', g id = some b → g id' = some b' → ρ[id]? = some l → ρ[id']? = some l' → l.blk = l'.blk → id = id'
structure RH (X : Env) (ρ : List Loc) (base : Nat → Prop) (m : Mem) (w : World) : Prop where
  nx : ρ.length = m.nx
  g : RG X ρ base m.t.get w
end Go.Proofs.YtekkoodlnaapeaaGreatDoor.SX

/- Operations that look at slots alone. -/
namespace Go.Proofs.YtekkoodlnaapeaaGreatDoor.SX
open Go.RowKit

inductive Opd where
  | t (p : List Bool)
  | k (v : SV)
  | l (i : Nat)
/-- How two values are compared. -/
inductive EK where
  | b      -- truth values
  | g (ks : List Nat)     -- structs of plain parts
  | p      -- a pointer with nil
  | l      -- a slice with nil
inductive CO where
  | mv (x : Opd)
  | pick (c a b : Opd)
  | alloc (ty : Nat) (z : List S0)
  | box (ty : Nat) (x : Opd)
  | bld (z : List S0) (ps : List (Nat × Nat × Opd))
  | bldS (ty len : Nat) (z : List S0) (ps : List (Nat × Nat × Opd)) (sz : Nat)
  | ld (agg : Bool) (n : Nat) (x : Opd)
  | st (n : Nat) (a x : Opd)
  | nilc (x : Opd)
  | bin (op : BinOp) (x y : Opd)
  | eqv (neg : Bool) (k : EK) (x y : Opd)
  | not (x : Opd)
  | conv (k : IntKind) (x : Opd)
  | convS (x : Opd)
  | mark (x : Opd)
  | slS (x : Opd) (lo hi : Option Opd)
  | slL (sz : Nat) (x : Opd) (lo hi mx : Option Opd)
  | fa (off : Nat) (x : Opd)
  | fld (agg : Bool) (off n : Nat) (x : Opd)
  | ixA (sz : Nat) (x i : Opd)
  | ixS (x i : Opd)
  | mkS (ty sz bytes : Nat) (z : List S0) (l c : Opd)
  | mkF (f : Nat) (first cap : List Opd)
  | ext (i : Nat) (x : Opd)
  | lenS (x : Opd)
  | lenL (x : Opd)
  | mx (x y : Opd)
  | mn (x y : Opd)
  | app (ty sz bytes : Nat) (s x : Opd)
  | call (f : Nat) (args : List Opd)
  | callv (x : Opd) (args : List Opd)

/-! ### Out of the program -/
def pcsOf : List UInt8 → List Pc
  | [] => []
  | b :: r => .b b.toNat :: pcsOf r
def cV0 : Value → Option S0
  | .bool b => some (.b b)
  | .int k n => some (.i k (.c n))
  | .string s => some (.s (pcsOf s.data.toList))
  | .pointer none => some .nilp
  | .slice none 0 0 => some .nils
  | _ => none
def cVs : List Value → Option (List S0)
  | [] => some []
  | v :: r => match cV0 v, cVs r with
    | some x, some y => some (x :: y)
    | _, _ => none
def cV (v : Value) : Option SV :=
  match v with
  | .agg cs => (cVs cs.toList).map SV.a
  | .tuple vs => if vs.size = 0 then some .u else none
  | v => (cV0 v).map SV.v
def spos : List (Option Nat) → Nat → Nat → Option Nat
  | [], _, _ => none
  | x :: r, t, i => if x = some t then some i else spos r t (i + 1)
theorem spos_get : ∀ {l : List (Option Nat)} {t i j : Nat}, spos l t i = some j → i ≤ j ∧ l[j - i]? = some (some t)
  | [], _, _, _, h => by cases h
  | x :: r, t, i, j, h => by
    simp only [spos] at h
    split at h
    · rename_i e
      obtain rfl := Option.some.inj h
      simp [e]
    · have := spos_get h
      have e : j - i = (j - (i + 1)) + 1 := by omega
      rw [e]
      exact ⟨by omega, by simpa using this.2⟩
def cX (K : Kx) : Operand → Option Opd
  | .tmp t => match spos K.σ t 0 with
    | some i => some (.l i)
    | none => (K.pa t).map .t
  | .const v => (cV v).map Opd.k
  | .func f => some (.k (.f f [] []))
  | .global _ => none
def cXs (K : Kx) : List Operand → Option (List Opd)
  | [] => some []
  | x :: r => match cX K x, cXs K r with
    | some a, some b => some (a :: b)
    | _, _ => none
def cXo (K : Kx) : Option Operand → Option (Option Opd)
  | none => some none
  | some x => (cX K x).map some
def Opd.ev (e : EV) : Opd → SV
  | .t p => match ET.get p e.t with
    | some v => v
    | none => .u
  | .k v => v
  | .l i => lnth i e.s
theorem pcsOf_val (σ : Nat → Int) : ∀ l, sval σ (pcsOf l) = l
  | [] => rfl
  | b :: r => by simp only [pcsOf, sval, Pc.val, pcsOf_val σ r, UInt8.ofNat_toNat, List.cons_append, List.nil_append]
theorem pcsOf_ok (σ : Nat → Int) : ∀ l, POk σ (pcsOf l)
  | [] => trivial
  | b :: r => ⟨by simp [Pc.val], pcsOf_ok σ r⟩
theorem cV0_ok (X : Env) (ρ : List Loc) {v : Value} {x : S0} (h : cV0 v = some x) : R0 X ρ x v := by
  unfold cV0 at h
  split at h <;> first
    | (obtain rfl := Option.some.inj h; first | rfl | exact ⟨_, rfl, (pcsOf_val _ _).symm, pcsOf_ok _ _⟩)
    | cases h
theorem cVs_ok (X : Env) (ρ : List Loc) : ∀ {v : List Value} {x : List S0}, cVs v = some x → Rs X ρ x v
  | [], x, h => by obtain rfl := Option.some.inj h; trivial
  | v :: r, x, h => by
    unfold cVs at h
    split at h
    · rename_i a b ha hb
      obtain rfl := Option.some.inj h
      exact ⟨cV0_ok X ρ ha, cVs_ok X ρ hb⟩
    · cases h
theorem cV_ok (X : Env) (ρ : List Loc) {v : Value} {x : SV} (h : cV v = some x) : R X ρ x v := by
  unfold cV at h
  split at h
  · rename_i cs
    obtain ⟨y, hy, rfl⟩ := Option.map_eq_some_iff.1 h
    exact ⟨cs, rfl, cVs_ok X ρ hy⟩
  · rename_i vs
    split at h
    · rename_i hz
      obtain rfl := Option.some.inj h
      obtain rfl : vs = #[] := Array.eq_empty_of_size_eq_zero hz
      rfl
    · cases h
  · obtain ⟨y, hy, rfl⟩ := Option.map_eq_some_iff.1 h
    exact cV0_ok X ρ hy
theorem slot_ok {X : Env} {ρ : List Loc} {K : Kx} {e : EV} {tmps : Array Value} (h : RE' X ρ K e tmps) {t : Nat} {o : Opd} (hx : cX K (.tmp t) = some o) : t < K.n ∧ R X ρ (o.ev e) (tmps.getD t undef) := by
  simp only [cX] at hx
  split at hx
  · rename_i i hi
    obtain rfl := Option.some.inj hx
    exact h.2.2.2 i t (by simpa using (spos_get hi).2)
  · obtain ⟨p, hp, rfl⟩ := Option.map_eq_some_iff.1 hx
    refine ⟨K.pa_lt h.2.1 hp, ?_⟩
    have := h.2.2.1 t p hp
    simp only [Opd.ev]
    cases hg : ET.get p e.t with
    | none => rw [hg] at this; exact this
    | some v => rw [hg] at this; exact this
theorem ev_ok {X : Env} {ρ : List Loc} {K : Kx} {e : EV} {a : Act} (h : RE' X ρ K e a.tmps) {x : Operand} {o : Opd} (hx : cX K x = some o) : R X ρ (o.ev e) (a.eval x) := by
  cases x with
  | tmp t => exact (slot_ok h hx).2
  | const v =>
    simp only [cX] at hx
    obtain ⟨y, hy, rfl⟩ := Option.map_eq_some_iff.1 hx
    exact cV_ok X ρ hy
  | func f =>
    obtain rfl := Option.some.inj hx
    exact ⟨#[], #[], rfl, trivial, trivial⟩
  | global g => cases hx
def RL (X : Env) (ρ : List Loc) : List SV → List Value → Prop
  | [], [] => True
  | x :: r, v :: t => R X ρ x v ∧ RL X ρ r t
  | _, _ => False
def evs (e : EV) : List Opd → List SV
  | [] => []
  | o :: r => o.ev e :: evs e r
theorem evs_ok {X : Env} {ρ : List Loc} {K : Kx} {e : EV} {a : Act} (h : RE' X ρ K e a.tmps) : ∀ {xs : List Operand} {os : List Opd}, cXs K xs = some os →
    RL X ρ (evs e os) (xs.map a.eval)
  | [], os, hx => by obtain rfl := Option.some.inj hx; trivial
  | x :: r, os, hx => by
    unfold cXs at hx
    split at hx
    · rename_i o os' ho hos
      obtain rfl := Option.some.inj hx
      exact ⟨ev_ok h ho, evs_ok h hos⟩
    · cases hx
/-! ### Types -/
def szOf (P : Program) (t : TypeId) : Option Nat := (P.info? t).map (·.size)
def aggOf (P : Program) (t : TypeId) : Option Bool := (P.underlying t).map fun
  | .struct _ => true
  | .array _ _ => true
  | _ => false
def zeroOf (P : Program) (t : TypeId) : Option (List S0) := ((P.info? t).bind (·.zero)).bind fun z => cVs z.cells.toList
def elemOf' (P : Program) (t : TypeId) : Option TypeId := match P.underlying t with
  | some (.slice e) => some e
  | _ => none
/-- A struct whose parts are of one cell each, one behind the other: truth values (0), whole numbers (1) and texts (2). -/
def plainFields (P : Program) : List Field → Nat → Option (List Nat)
  | [], _ => some []
  | f :: r, i => if f.name != "_" && f.offset == i then
      match P.underlying f.type with
      | some .bool => (plainFields P r (i + 1)).map (0 :: ·)
      | some (.int _) => (plainFields P r (i + 1)).map (1 :: ·)
      | some .string => (plainFields P r (i + 1)).map (2 :: ·)
      | _ => none
    else none
def partsOf (places : List (Nat × Nat)) (K : Kx) : List (Nat × Operand) → Option (List (Nat × Nat × Opd))
  | [] => some []
  | x :: r => match places[x.1]?, cX K x.2, partsOf places K r with
    | some pl, some o, some t => some ((pl.1, pl.2, o) :: t)
    | _, _, _ => none
def partsOfS (sz : Nat) (K : Kx) : List (Nat × Operand) → Option (List (Nat × Nat × Opd))
  | [] => some []
  | x :: r => match cX K x.2, partsOfS sz K r with
    | some o, some t => some ((x.1 * sz, sz, o) :: t)
    | _, _ => none
def repZ (z : List S0) : Nat → List S0
  | 0 => []
  | k + 1 => z ++ repZ z k
def eqK (P : Program) (t : TypeId) : Option EK :=
  match P.underlying t with
  | some .bool => some .b
  | some (.pointer _) => some .p
  | some (.slice _) => some .l
  | some (.struct fs) => if szOf P t == some fs.size && !P.stoodInHeld t && !P.eqGuardType P.depth t then (plainFields P fs.toList 0).map EK.g else none
  | _ => none
def isIS (P : Program) (t : TypeId) : Bool :=
  match P.underlying t with
  | some (.int _) => true
  | some .string => true
  | _ => false
def cOp (P : Program) (K : Kx) : Op → Option CO
  | .move x => (cX K x).map CO.mv
  | .assign x => (cX K x).map CO.mv
  | .pick c a b => (cX K c).bind fun c => (cX K a).bind fun a => (cX K b).map fun b => .pick c a b
  | .alloc t => (zeroOf P t).map fun z => .alloc t z
  | .box t x => (cX K x).map fun x => .box t x
  | .build t ps => match P.underlying t with
    | some (.struct fs) => (zeroOf P t).bind fun z => (fs.toList.mapM (fun f => (P.info? f.type).map fun i => (f.offset, i.size))).bind fun pl => (partsOf pl K ps.toList).map fun q => .bld z q
    | _ => none
  | .buildSlice t len ps => (elemOf' P t).bind fun e => (szOf P e).bind fun s => (zeroOf P e).bind fun z => (partsOfS s K ps.toList).bind fun q =>
      if len * s ≤ 4096 ∧ z.length = s ∧ 0 < s then some (.bldS e len (repZ z len) q s) else none
  | .load t x => (aggOf P t).bind fun g => (szOf P t).bind fun s => (cX K x).map fun x => .ld g s x
  | .store t a x => (szOf P t).bind fun s => (cX K a).bind fun a => (cX K x).map fun x => .st s a x
  | .nilCheck x => (cX K x).map CO.nilc
  | .binOp op t x y _ => (cX K x).bind fun a => (cX K y).bind fun b =>
      match op with
      | .eql => if isIS P t then some (.bin op a b) else (eqK P t).map fun k => .eqv false k a b
      | .neq => if isIS P t then some (.bin op a b) else (eqK P t).map fun k => .eqv true k a b
      | .add => some (.bin op a b)
      | .sub => some (.bin op a b)
      | .mul => some (.bin op a b)
      | .rem => some (.bin op a b)
      | .lss => some (.bin op a b)
      | .leq => some (.bin op a b)
      | .gtr => some (.bin op a b)
      | .geq => some (.bin op a b)
      | _ => none
  | .unOp op _ x => match op with
    | .not => (cX K x).map CO.not
    | _ => none
  | .convert s d x => match P.underlying s, P.underlying d with
    | some (.int _), some (.int k) => (cX K x).map fun x => .conv k x
    | some .string, some .string => (cX K x).map CO.convS
    | some (.slice _), some (.slice e) => match P.underlying e with
      | some (.int .u8) => if s = d then (cX K x).map CO.mark else none
      | _ => none
    | _, _ => none
  | .slice t x lo hi mx => (cX K x).bind fun x => (cXo K lo).bind fun lo => (cXo K hi).bind fun hi => (cXo K mx).bind fun mx =>
      match P.underlying t with
      | some .string => match mx with
        | none => some (.slS x lo hi)
        | some _ => none
      | some (.slice e) => (szOf P e).map fun s => .slL s x lo hi mx
      | _ => none
  | .fieldAddr t x f => match P.underlying t with
    | some (.struct fs) => match fs[f]? with
      | some g => match szOf P g.type with
        | some (Nat.succ _) => (cX K x).map fun x => .fa g.offset x
        | _ => none
      | none => none
    | _ => none
  | .field t x f => match P.underlying t with
    | some (.struct fs) => match fs[f]? with
      | some g => (aggOf P g.type).bind fun b => (szOf P g.type).bind fun s => (cX K x).map fun x => .fld b g.offset s x
      | none => none
    | _ => none
  | .indexAddr t x i => (elemOf' P t).bind fun e => (szOf P e).bind fun s => (cX K x).bind fun x => (cX K i).map fun i => .ixA s x i
  | .index t x i => match P.underlying t with
    | some .string => (cX K x).bind fun x => (cX K i).map fun i => .ixS x i
    | _ => none
  | .makeSlice t l c => (elemOf' P t).bind fun e => (P.info? e).bind fun i => (zeroOf P e).bind fun z => (cX K l).bind fun l => (cX K c).bind fun c =>
      if z.length = 1 ∧ i.size = 1 then some (.mkS e i.size i.bytes z l c) else none
  | .makeFunc f first cap => match f with
    | .func f => (cXs K first.toList).bind fun a => (cXs K cap.toList).map fun b => .mkF f a b
    | _ => none
  | .extract x i => (cX K x).map fun x => .ext i x
  | .call c => match c.callee with
    | .builtin .len => match c.args.toList, c.argTypes.toList with
      | [x], [t] => match P.underlying t with
        | some .string => (cX K x).map CO.lenS
        | some (.slice _) => (cX K x).map CO.lenL
        | _ => none
      | _, _ => none
    | .builtin .append => match c.args.toList, c.argTypes.toList with
      | [s, x], [t, u] => if t = u then (elemOf' P t).bind fun e => (P.info? e).bind fun i => (zeroOf P e).bind fun z => (cX K s).bind fun s => (cX K x).bind fun x =>
          if z.length = i.size ∧ 0 < i.size then some (.app e i.size i.bytes s x) else none
        else none
      | _, _ => none
    | .builtin .max => match c.args.toList with
      | [x, y] => (cX K x).bind fun x => (cX K y).map fun y => .mx x y
      | _ => none
    | .builtin .min => match c.args.toList with
      | [x, y] => (cX K x).bind fun x => (cX K y).map fun y => .mn x y
      | _ => none
    | .value (.func f) => (cXs K c.args.toList).map fun a => .call f a
    | .value (.tmp t) => (cX K (.tmp t)).bind fun x => (cXs K c.args.toList).map fun a => .callv x a
    | _ => none
  | _ => none
end Go.Proofs.YtekkoodlnaapeaaGreatDoor.SX

/- What the operations yield that look at slots alone. -/
namespace Go.Proofs.YtekkoodlnaapeaaGreatDoor.SX
open Go.RowKit

structure Ctx where
  R : List (Int × Int)
  D : List (SI × Nat × Nat)
  M : List (SI × Int × SI)
def COk (C : Ctx) (σ : Nat → Int) : Prop := Within C.R σ ∧ DOk σ C.D ∧ ∀ e ∈ C.M, (e.1.val σ).tmod e.2.1 = e.2.2.val σ
def frc : SI → Option SI
  | .c n => match fzI n with
    | some m => some (.c m)
    | none => none
  | .p ts k => some (.p ts k)
theorem frc_eq {s r : SI} (h : frc s = some r) : r = s := by
  cases s with
  | c n =>
    simp only [frc] at h
    split at h
    · rename_i m hm
      rw [← fzI_eq hm]
      exact (Option.some.inj h).symm
    · cases h
  | p ts k => exact (Option.some.inj h).symm
def arith (C : Ctx) (k : IntKind) (s : SI) : Option SV :=
  if s.inB C.R (kmin k) (kmax k) then (match frc s with
    | some r => some (.v (.i k r))
    | none => none) else none
theorem arith_ok {C : Ctx} {X : Env} {ρ : List Loc} (hC : COk C X.σ) {k : IntKind} {s : SI} {v : SV} (h : arith C k s = some v) : R X ρ v (.int k (k.wrap (s.val X.σ))) := by
  unfold arith at h
  split at h
  · rename_i hb
    split at h
    · rename_i r hr
      obtain rfl := Option.some.inj h
      obtain rfl := frc_eq hr
      show _ = Value.int _ _
      rw [wrap_in k _ (SI.inB_ok hC.1 hb)]
    · cases h
  · cases h
def kn : IntKind → Nat
  | .i8 => 0 | .i16 => 1 | .i32 => 2 | .i64 => 3 | .u8 => 4 | .u16 => 5 | .u32 => 6 | .u64 => 7
theorem kn_inj {a b : IntKind} (h : Nat.beq (kn a) (kn b) = true) : a = b := by
  have := Nat.eq_of_beq_eq_true h
  cases a <;> cases b <;> simp [kn] at this ⊢
def mfind : List (SI × Int × SI) → SI → Int → Option SI
  | [], _, _ => none
  | e :: r, s, n => if e.1.beq s then (if ieq e.2.1 n then some e.2.2 else mfind r s n) else mfind r s n
theorem mfind_ok {σ : Nat → Int} : ∀ {M : List (SI × Int × SI)} (_ : ∀ e ∈ M, (e.1.val σ).tmod e.2.1 = e.2.2.val σ) {s : SI} {n : Int} {r : SI}, mfind M s n = some r → (s.val σ).tmod n = r.val σ
  | [], _, _, _, _, h => by cases h
  | e :: M, hM, s, n, r, h => by
    have hM' : ∀ e ∈ M, (e.1.val σ).tmod e.2.1 = e.2.2.val σ := fun e he => hM e (List.mem_cons_of_mem _ he)
    unfold mfind at h
    split at h
    · rename_i h1
      split at h
      · rename_i h2
        obtain rfl := Option.some.inj h
        rw [ieq_iff] at h2
        have := hM e (List.mem_cons_self ..)
        rw [SI.beq_eq h1, of_decide_eq_true h2] at this
        exact this
      · exact mfind_ok hM' h
    · exact mfind_ok hM' h
def bb : Option Bool → Option SV
  | some b => some (.v (.b b))
  | none => none
def nb : Option Bool → Option SV
  | some b => some (.v (.b (!b)))
  | none => none
def orO : Option Bool → Option Bool → Option Bool
  | some a, some b => some (a || b)
  | _, _ => none
def evBin (C : Ctx) (op : BinOp) (x y : SV) : Option SV :=
  match x, y with
  | .v (.i k a), .v (.i k' b) => if Nat.beq (kn k) (kn k') then (match op with
      | .add => arith C k (a.add b)
      | .sub => arith C k (a.sub b)
      | .mul => arith C k (a.mul b)
      | .rem => match b with
        | .c m => if iz m then none else (match a with
          | .c n => match frc (.c (n.tmod m)) with
            | some r => some (.v (.i k r))
            | none => none
          | a => match mfind C.M a m with
            | some r => some (.v (.i k r))
            | none => none)
        | .p .. => none
      | .lss => bb (SI.lt? C.R a b)
      | .leq => nb (SI.lt? C.R b a)
      | .gtr => bb (SI.lt? C.R b a)
      | .geq => nb (SI.lt? C.R a b)
      | .eql => bb (SI.eq? C.R a b)
      | .neq => nb (SI.eq? C.R a b)
      | _ => none) else none
  | .v (.s a), .v (.s b) => match op with
      | .add => if Nat.ble (a.length + b.length) 1000000 then (match appO a b with
          | some c => some (.v (.s c))
          | none => none) else none
      | .eql => bb (seq a b)
      | .neq => nb (seq a b)
      | .lss => bb (slt a b)
      | .leq => bb (orO (slt a b) (seq a b))
      | .gtr => nb (orO (slt a b) (seq a b))
      | .geq => nb (slt a b)
      | _ => none
  | _, _ => none
theorem bb_ok {X : Env} {ρ : List Loc} {o : Option Bool} {v : SV} {b : Bool} (h : bb o = some v) (hb : ∀ t, o = some t → b = t) : R X ρ v (.bool b) := by
  cases o with
  | none => cases h
  | some t => obtain rfl := Option.some.inj h; rw [hb t rfl]; rfl
theorem nb_ok {X : Env} {ρ : List Loc} {o : Option Bool} {v : SV} {b : Bool} (h : nb o = some v) (hb : ∀ t, o = some t → b = !t) : R X ρ v (.bool b) := by
  cases o with
  | none => cases h
  | some t => obtain rfl := Option.some.inj h; rw [hb t rfl]; rfl
theorem blist (s : ByteArray) : s.toList = s.data.toList := by rw [ByteArray.toList_eq]
theorem evBin_ok {C : Ctx} {X : Env} {ρ : List Loc} (hC : COk C X.σ) {P : Program} {op : BinOp} {t : TypeId} {xo yo : Operand} {x y v : SV} {p q : Value}
    (hx : R X ρ x p) (hy : R X ρ y q) (h : evBin C op x y = some v) :
    ∃ u, R X ρ v u ∧ ∀ w, (do eqGuard op t xo yo p q; binOp op t p q : Sem Value).run P w = .ok u w := by
  unfold evBin at h
  split at h
  · rename_i k a k' b
    obtain rfl := (show p = .int k (a.val X.σ) from hx)
    obtain rfl := (show q = .int k' (b.val X.σ) from hy)
    split at h
    · rename_i hk
      obtain rfl := kn_inj hk
      have hg : ∀ w, (do eqGuard op t xo yo (.int k (a.val X.σ)) (.int k (b.val X.σ)); binOp op t (.int k (a.val X.σ)) (.int k (b.val X.σ)) : Sem Value).run P w = (binOp op t (.int k (a.val X.σ)) (.int k (b.val X.σ))).run P w := by
        intro w; rw [eqGuard_at_int]; rfl
      simp only [hg]
      cases op <;> simp only at h <;> try (cases h; done)
      case add => exact ⟨_, arith_ok hC h, fun w => by rw [binOp_add, SI.val_add]; rfl⟩
      case sub => exact ⟨_, arith_ok hC h, fun w => by rw [binOp_sub, SI.val_sub]; rfl⟩
      case mul => exact ⟨_, arith_ok hC h, fun w => by rw [binOp_mul, SI.val_mul]; rfl⟩
      case rem =>
        cases b with
        | p ts j => cases h
        | c m =>
          simp only at h
          split at h
          · cases h
          · rename_i hm
            have hm0 : m ≠ 0 := fun e => by subst e; exact hm rfl
            refine ⟨.int k ((a.val X.σ).tmod m), ?_, fun w => by simp [binOp, Op.intDiv, SI.val, hm0]⟩
            split at h
            · rename_i n
              split at h
              · rename_i r hr
                obtain rfl := Option.some.inj h
                obtain rfl := frc_eq hr
                rfl
              · cases h
            · split at h
              · rename_i r hr
                obtain rfl := Option.some.inj h
                show _ = Value.int _ _
                rw [mfind_ok hC.2.2 hr]
              · cases h
      case lss => exact ⟨_, bb_ok h (fun t ht => SI.lt?_ok hC.1 ht), fun w => by rw [binOp_lss]; rfl⟩
      case gtr => exact ⟨_, bb_ok h (fun t ht => SI.lt?_ok hC.1 ht), fun w => by rw [binOp_gtr]; rfl⟩
      case leq =>
        refine ⟨_, nb_ok h (fun t ht => ?_), fun w => by rw [binOp_leq]; rfl⟩
        rw [← SI.lt?_ok hC.1 ht, ← decide_not]
        exact decide_eq_decide.2 (by omega)
      case geq =>
        refine ⟨_, nb_ok h (fun t ht => ?_), fun w => by rw [binOp_geq]; rfl⟩
        rw [← SI.lt?_ok hC.1 ht, ← decide_not]
        exact decide_eq_decide.2 (by omega)
      case eql => exact ⟨_, bb_ok h (fun t ht => by rw [← SI.eq?_ok hC.1 ht]), fun w => by rw [binOp_eql]; rfl⟩
      case neq =>
        exact ⟨_, nb_ok h (fun t ht => by rw [← SI.eq?_ok hC.1 ht]), fun w => by rw [binOp_neq]; rfl⟩
    · cases h
  · rename_i a b
    obtain ⟨bs, rfl, hbs, hpa⟩ := hx
    obtain ⟨cs, rfl, hcs, hpb⟩ := hy
    have hg : ∀ w, (do eqGuard op t xo yo (.string bs) (.string cs); binOp op t (.string bs) (.string cs) : Sem Value).run P w = (Op.stringOp op bs cs).run P w := by
      intro w; rw [eqGuard_at_string]; cases op <;> rfl
    simp only [hg]
    have heq : ∀ t, seq a b = some t → (bs.toList == cs.toList) = t := fun t ht => by
      rw [blist, blist, hbs, hcs, ← seq_ok (σ := X.σ) a b t ht]
      by_cases c : sval X.σ a = sval X.σ b
      · simp [c]
      · simp [c]
    have hlt : ∀ t, slt a b = some t → Op.bytesLess bs.toList cs.toList = t := fun t ht => by
      rw [blist, blist, hbs, hcs, slt_ok a b t ht]
    have hor : ∀ t, orO (slt a b) (seq a b) = some t → (Op.bytesLess bs.toList cs.toList || bs.toList == cs.toList) = t := fun t ht => by
      cases h1 : slt a b with
      | none => rw [h1] at ht; cases ht
      | some t1 => cases h2 : seq a b with
        | none => rw [h1, h2] at ht; cases ht
        | some t2 =>
          rw [h1, h2] at ht
          rw [hlt _ h1, heq _ h2]
          exact Option.some.inj ht
    cases op <;> simp only at h <;> try (cases h; done)
    case add =>
      split at h
      · rename_i hn
        split at h
        · rename_i c hc
          obtain rfl := Option.some.inj h
          have e := appO_eq hc
          subst e
          have h1 := hpa.len
          have h2 := hpb.len
          rw [← hbs] at h1
          rw [← hcs] at h2
          have hn := Nat.le_of_ble_eq_true hn
          refine ⟨.string (bs ++ cs), ⟨bs ++ cs, rfl, by rw [sval_app, ← hbs, ← hcs]; simp, hpa.app hpb⟩, fun w => ?_⟩
          have s1 : bs.size = bs.data.toList.length := by rw [Array.length_toList]; rfl
          have s2 : cs.size = cs.data.toList.length := by rw [Array.length_toList]; rfl
          have : ¬ ((bs.size + cs.size : Nat) : Int) > 9223372036854775807 := by omega
          simp only [Op.stringOp, IntKind.max_i64]
          rw [if_neg this]
          rfl
        · cases h
      · cases h
    case eql => exact ⟨_, bb_ok h heq, fun w => rfl⟩
    case neq => exact ⟨_, nb_ok h (fun t ht => by rw [heq t ht]), fun w => rfl⟩
    case lss => exact ⟨_, bb_ok h hlt, fun w => rfl⟩
    case leq => exact ⟨_, bb_ok h hor, fun w => rfl⟩
    case gtr => exact ⟨_, nb_ok h (fun t ht => by rw [hor t ht]), fun w => rfl⟩
    case geq => exact ⟨_, nb_ok h (fun t ht => by rw [hlt t ht]), fun w => rfl⟩
  · cases h
end Go.Proofs.YtekkoodlnaapeaaGreatDoor.SX

import Derived.Test.YtkmcnjpgamaljaaGreatDoorKit
import Derived.Lib.Split
import Derived.Lib.CountLaws
import Derived.Lib.IndexLaws
import Derived.Lib.IndexBytes
import Derived.Lib.Join
/- Texts cut at slashes, and what is left of them when they are cleaned: lists alone. -/
namespace Go.Proofs.YtkmcnjpgamaljaaGreatDoor.Kit
open Go.RowKit Go.Proofs.YtkmcnjpgamaljaaGreatDoorW.PrintWords Go.Proofs.YtkmcnjpgamaljaaGreatDoorW.PrintMore
set_option linter.unusedSimpArgs false
set_option linter.unusedVariables false

def sp : List UInt8 → List (List UInt8)
  | [] => [[]]
  | c :: r => if c = 47 then [] :: sp r else match sp r with
    | h :: t => (c :: h) :: t
    | [] => [[c]]
theorem sp_app (a b : List UInt8) (ha : ∀ x ∈ a, x ≠ 47) : sp (a ++ 47 :: b) = a :: sp b := by
  induction a with
  | nil => simp [sp]
  | cons c a ih => rw [List.cons_append, sp, if_neg (ha c (.head _)), ih (fun x hx => ha x (.tail _ hx))]
theorem sp_no (a : List UInt8) (ha : ∀ x ∈ a, x ≠ 47) : sp a = [a] := by
  induction a with
  | nil => rfl
  | cons c a ih => rw [sp, if_neg (ha c (.head _)), ih (fun x hx => ha x (.tail _ hx))]
theorem sp_ne (a : List UInt8) : sp a ≠ [] := by
  cases a with
  | nil => simp [sp]
  | cons c a =>
    rw [sp]
    split
    · simp
    · split <;> simp
theorem sp_len (a : List UInt8) : (sp a).length ≤ a.length + 1 := by
  induction a with
  | nil => simp [sp]
  | cons c a ih =>
    rw [sp]
    split
    · simp; omega
    · split
      · next h t e => rw [e] at ih; simp at ih ⊢; omega
      · simp
theorem sp_size (a : List UInt8) : ∀ p ∈ sp a, p.length ≤ a.length := by
  induction a with
  | nil => simp [sp]
  | cons c a ih =>
    rw [sp]
    split
    · intro p hp
      rcases List.mem_cons.1 hp with rfl | hp
      · simp
      · have := ih p hp; simp; omega
    · split
      · next h t e =>
        rw [e] at ih
        intro p hp
        rcases List.mem_cons.1 hp with rfl | hp
        · have := ih h (.head _); simp; omega
        · have := ih p (.tail _ hp); simp; omega
      · intro p hp
        simp at hp; subst hp; simp
theorem splitK_sp (k : Nat) : ∀ (l : List UInt8), Lib.count l [47] = k → Lib.splitK [47] 0 k l = sp l := by
  induction k with
  | zero =>
    intro l hk
    have hm : Lib.index l [47] = -1 := by
      rcases Lib.index_spec l [47] with ⟨h, _⟩ | ⟨i, h, _⟩
      · exact h
      · have := Lib.count_hit (s := l) (sub := [47]) (by simp) h; omega
    have hn := Lib.indexByte_none ((Lib.index_one l 47).symm.trans hm)
    rw [sp_no l (fun x hx e => by
      obtain ⟨n, hl, e1⟩ := List.getElem_of_mem hx
      exact hn n (by rw [List.getElem?_eq_getElem hl, e1, e]))]
    rfl
  | succ k ih =>
    intro l hk
    rcases Lib.index_spec l [47] with ⟨h, _⟩ | ⟨i, h, _⟩
    · have := Lib.count_miss h; omega
    · have hc := Lib.count_hit (s := l) (sub := [47]) (by simp) h
      obtain ⟨h1, h2⟩ := Lib.indexByte_some ((Lib.index_one l 47).symm.trans h)
      obtain ⟨hi, e⟩ := List.getElem?_eq_some_iff.1 h1
      have hl : l = l.take i ++ 47 :: l.drop (i + 1) := by
        conv => lhs; rw [← List.take_append_drop i l]
        rw [List.drop_eq_getElem_cons hi, e]
      have hz : (Lib.index l [47] == -1) = false := by rw [h]; simp
      rw [Lib.splitK, hz, if_neg (by simp), h, Int.toNat_natCast, Nat.add_zero, List.length_singleton, ih _ (by simp at hc; omega)]
      conv => rhs; rw [hl]
      rw [sp_app _ _ (fun x hx ex => by
        obtain ⟨n, hn, e1⟩ := List.getElem_of_mem hx
        have hn' : n < i := by simp at hn; omega
        rw [List.getElem_take] at e1
        exact h2 n hn' (by rw [List.getElem?_eq_getElem (by omega), e1, ex]))]
def PB (l : List UInt8) : ByteArray := ⟨l.toArray⟩
theorem PB_data (s : ByteArray) : PB s.data.toList = s := by apply data_inj; rfl
theorem data_PB (l : List UInt8) : (PB l).data.toList = l := rfl
theorem toList_PB (l : List UInt8) : (PB l).toList = l := toList_data _
theorem size_PB (l : List UInt8) : (PB l).size = l.length := rfl
theorem app_PB (a b : List UInt8) : PB a ++ PB b = PB (a ++ b) := by apply data_inj; rw [data_app]; rfl
theorem splitB_sp (s : ByteArray) : Lib.splitB ⟨#[47]⟩ 0 (Lib.countB s ⟨#[47]⟩) s = (sp s.data.toList).map PB := by
  have h := Lib.splitB_data ⟨#[47]⟩ 0 (Lib.countB s ⟨#[47]⟩) s
  have e := splitK_sp (Lib.countB s ⟨#[47]⟩) s.data.toList rfl
  have h2 : (Lib.splitB ⟨#[47]⟩ 0 (Lib.countB s ⟨#[47]⟩) s).map (·.data.toList) = sp s.data.toList := h.trans e
  rw [← h2, List.map_map]
  conv => lhs; rw [← List.map_id (Lib.splitB ⟨#[47]⟩ 0 (Lib.countB s ⟨#[47]⟩) s)]
  exact List.map_congr_left (fun x _ => (PB_data x).symm)
/-- One piece more. -/
def stp (st : List ByteArray) (p : ByteArray) : List ByteArray :=
  if p.toList = [] then st else if p.toList = [46] then st else if p.toList = [46, 46] then st.take (st.length - 1) else st ++ [p]
theorem stp_nil (st : List ByteArray) : stp st (PB []) = st := by unfold stp; rw [if_pos (toList_PB [])]
theorem stp_len (st : List ByteArray) (p : ByteArray) : (stp st p).length ≤ st.length + 1 := by
  unfold stp; split
  · omega
  · split
    · omega
    · split
      · rw [List.length_take]; omega
      · simp
theorem stp_size (st : List ByteArray) (p : ByteArray) (B : Nat) (h : ∀ x ∈ st, x.size ≤ B) (hp : p.size ≤ B) : ∀ x ∈ stp st p, x.size ≤ B := by
  unfold stp; split
  · exact h
  · split
    · exact h
    · split
      · exact fun x hx => h x (List.mem_of_mem_take hx)
      · intro x hx
        rcases List.mem_append.1 hx with hx | hx
        · exact h x hx
        · rw [List.mem_singleton.1 hx]; exact hp
def shown (st : List ByteArray) : ByteArray := if st = [] then PB [47] else PB (Lib.joinTail [47] (st.map (·.data.toList)))
def cleaned (s : ByteArray) : List ByteArray := ((sp s.data.toList).map PB).foldl stp []
theorem joinTail_snoc (r : List (List UInt8)) (y : List UInt8) : Lib.joinTail [47] (r ++ [y]) = Lib.joinTail [47] r ++ [47] ++ y := by
  unfold Lib.joinTail; simp
def okb (b : Int) : Bool := decide ((97 ≤ b ∧ b ≤ 122) ∨ (48 ≤ b ∧ b ≤ 57) ∨ b = 46 ∨ b = 95 ∨ b = 45 ∨ b = 47)
def okF (s : ByteArray) : Int → Nat → Bool
  | _, 0 => true
  | i, d + 1 => okb (bt s i) && okF s (i + 1) d
theorem btAt (s : ByteArray) (j : Nat) (h : j < s.size) : bt s (j : Int) = ((s.data.toList[j]'(by rw [Array.length_toList]; exact h)).toNat : Int) := by
  rw [bt, dif_pos (by simpa using h)]
  rfl
/-- A path. -/
def isP (s : ByteArray) : Bool := decide (1 ≤ s.size) && decide (s.size ≤ 40) && (bt s 0 == 47) && okF s 0 s.size
theorem joinTail_le (r : List (List UInt8)) (B : Nat) (h : ∀ x ∈ r, x.length ≤ B) : (Lib.joinTail [47] r).length ≤ r.length * (B + 1) := by
  induction r with
  | nil => simp [Lib.joinTail]
  | cons x r ih =>
    have h1 := ih (fun y hy => h y (.tail _ hy))
    have h2 := h x (.head _)
    have e : Lib.joinTail [47] (x :: r) = [47] ++ x ++ Lib.joinTail [47] r := by simp [Lib.joinTail]
    rw [e]
    simp only [List.length_append, List.length_cons, List.length_nil, Nat.add_mul]
    omega
theorem join_shown (st : List ByteArray) : PB [47] ++ PB (Lib.join (st.map (·.data.toList)) [47]) = shown st := by
  cases st with
  | nil => rfl
  | cons x r =>
    rw [shown, if_neg (by simp), app_PB, List.map_cons, Lib.join_cons]
    congr 1

end Go.Proofs.YtkmcnjpgamaljaaGreatDoor.Kit
/- What is cleaned is clean: its pieces are neither empty nor dots, and cleaned again it stays; lists alone. -/
namespace Go.Proofs.YtkmcnjpgamaljaaGreatDoor.Kit
open Go.RowKit Go.Proofs.YtkmcnjpgamaljaaGreatDoorW.PrintWords Go.Proofs.YtkmcnjpgamaljaaGreatDoorW.PrintMore
set_option linter.unusedSimpArgs false
set_option linter.unusedVariables false

/-- A piece that stays. -/
def good (x : ByteArray) : Prop := x.toList ≠ [] ∧ x.toList ≠ [46] ∧ x.toList ≠ [46, 46] ∧ ∀ c ∈ x.data.toList, c ≠ 47
theorem sp_no47 (l : List UInt8) : ∀ p ∈ sp l, ∀ c ∈ p, c ≠ 47 := by
  induction l with
  | nil => intro p hp; simp [sp] at hp; subst hp; simp
  | cons a l ih =>
    rw [sp]
    split
    · intro p hp
      rcases List.mem_cons.1 hp with rfl | hp
      · simp
      · exact ih p hp
    · next ha =>
      split
      · next h t e =>
        rw [e] at ih
        intro p hp
        rcases List.mem_cons.1 hp with rfl | hp
        · intro c hc
          rcases List.mem_cons.1 hc with rfl | hc
          · exact ha
          · exact ih h (.head _) c hc
        · exact ih p (.tail _ hp)
      · intro p hp
        simp at hp; subst hp
        intro c hc
        simp at hc; subst hc; exact ha
theorem good_stp (st : List ByteArray) (p : ByteArray) (h : ∀ x ∈ st, good x) (hp : ∀ c ∈ p.data.toList, c ≠ 47) : ∀ x ∈ stp st p, good x := by
  unfold stp; split
  · exact h
  · next h1 =>
    split
    · exact h
    · next h2 =>
      split
      · exact fun x hx => h x (List.mem_of_mem_take hx)
      · next h3 =>
        intro x hx
        rcases List.mem_append.1 hx with hx | hx
        · exact h x hx
        · rw [List.mem_singleton.1 hx]; exact ⟨h1, h2, h3, hp⟩
theorem good_fold (L : List ByteArray) (hL : ∀ p ∈ L, ∀ c ∈ p.data.toList, c ≠ 47) : ∀ st : List ByteArray, (∀ x ∈ st, good x) → ∀ x ∈ L.foldl stp st, good x := by
  induction L with
  | nil => intro st h; exact h
  | cons p L ih =>
    intro st h
    rw [List.foldl_cons]
    exact ih (fun q hq => hL q (.tail _ hq)) _ (good_stp st p h (hL p (.head _)))
theorem good_cleaned (s : ByteArray) : ∀ x ∈ cleaned s, good x :=
  good_fold _ (fun p hp => by
    obtain ⟨q, hq, rfl⟩ := List.mem_map.1 hp
    exact sp_no47 _ q hq) [] (by simp)
theorem fold_good (L : List ByteArray) (hL : ∀ p ∈ L, good p) : ∀ st : List ByteArray, L.foldl stp st = st ++ L := by
  induction L with
  | nil => intro st; simp
  | cons p L ih =>
    intro st
    obtain ⟨h1, h2, h3, _⟩ := hL p (.head _)
    have e : stp st p = st ++ [p] := by unfold stp; rw [if_neg h1, if_neg h2, if_neg h3]
    rw [List.foldl_cons, e, ih (fun q hq => hL q (.tail _ hq))]
    simp
theorem sp_tail (xs : List (List UInt8)) : ∀ x : List UInt8, (∀ c ∈ x, c ≠ 47) → (∀ y ∈ xs, ∀ c ∈ y, c ≠ 47) → sp (x ++ Lib.joinTail [47] xs) = x :: xs := by
  induction xs with
  | nil => intro x hx _; simp [Lib.joinTail]; exact sp_no x hx
  | cons y ys ih =>
    intro x hx hy
    have e : Lib.joinTail [47] (y :: ys) = 47 :: (y ++ Lib.joinTail [47] ys) := by simp [Lib.joinTail]
    rw [e, sp_app _ _ hx, ih y (hy y (.head _)) (fun z hz => hy z (.tail _ hz))]
theorem sp_shown (st : List ByteArray) (h : ∀ x ∈ st, good x) : ((sp (shown st).data.toList).map PB).foldl stp [] = st := by
  cases st with
  | nil =>
    have e : (shown []).data.toList = [47] := rfl
    rw [e]
    simp [sp, stp_nil]
  | cons x r =>
    have e : (shown (x :: r)).data.toList = [] ++ 47 :: (x.data.toList ++ Lib.joinTail [47] (r.map (·.data.toList))) := by
      rw [shown, if_neg (by simp), data_PB]
      simp [Lib.joinTail]
    rw [e, sp_app _ _ (by simp), sp_tail _ _ (h x (.head _)).2.2.2 (fun y hy => by
      obtain ⟨z, hz, rfl⟩ := List.mem_map.1 hy
      exact (h z (.tail _ hz)).2.2.2), List.map_cons, List.foldl_cons, stp_nil, List.map_cons, List.map_map]
    have e2 : PB x.data.toList :: r.map (PB ∘ fun z => z.data.toList) = x :: r := by
      rw [PB_data]
      congr 1
      conv => rhs; rw [← List.map_id r]
      exact List.map_congr_left (fun z _ => PB_data z)
    rw [e2, fold_good _ h]
    rfl
/-- How much a list of pieces takes. -/
def lsum : List ByteArray → Nat
  | [] => 0
  | x :: r => 1 + x.size + lsum r
theorem lsum_app (a b : List ByteArray) : lsum (a ++ b) = lsum a + lsum b := by
  induction a with
  | nil => simp [lsum]
  | cons x a ih => rw [List.cons_append, lsum, lsum, ih]; omega
theorem lsum_take (a : List ByteArray) (n : Nat) : lsum (a.take n) ≤ lsum a := by
  conv => rhs; rw [← List.take_append_drop n a, lsum_app]
  omega
theorem lsum_stp (st : List ByteArray) (p : ByteArray) : lsum (stp st p) ≤ lsum st + (1 + p.size) := by
  unfold stp; split
  · omega
  · split
    · omega
    · split
      · have := lsum_take st (st.length - 1); omega
      · rw [lsum_app]; simp [lsum]
theorem lsum_fold (L : List ByteArray) : ∀ st : List ByteArray, lsum (L.foldl stp st) ≤ lsum st + lsum L := by
  induction L with
  | nil => intro st; simp [lsum]
  | cons p L ih =>
    intro st
    rw [List.foldl_cons]
    have h1 := ih (stp st p)
    have h2 := lsum_stp st p
    rw [lsum]; omega
theorem lsum_sp (l : List UInt8) : lsum ((sp l).map PB) = l.length + 1 := by
  induction l with
  | nil => rfl
  | cons c l ih =>
    rw [sp]
    split
    · rw [List.map_cons, lsum, ih, size_PB]; simp; omega
    · split
      · next h t e =>
        rw [e] at ih
        simp only [List.map_cons, lsum, size_PB, List.length_cons] at ih ⊢
        omega
      · next e => exact absurd e (sp_ne l)
theorem joinTail_size (st : List ByteArray) : (Lib.joinTail [47] (st.map (·.data.toList))).length = lsum st := by
  induction st with
  | nil => rfl
  | cons x r ih =>
    have e : Lib.joinTail [47] ((x :: r).map (·.data.toList)) = 47 :: (x.data.toList ++ Lib.joinTail [47] (r.map (·.data.toList))) := by simp [Lib.joinTail]
    rw [e, List.length_cons, List.length_append, ih, data_length, lsum]
    omega
def okc (c : UInt8) : Bool := okb (c.toNat : Int)
theorem okF_all (s : ByteArray) (d : Nat) : ∀ i : Nat, i + d = s.size → (okF s (i : Int) d = true ↔ ∀ c ∈ s.data.toList.drop i, okc c = true) := by
  induction d with
  | zero =>
    intro i hi
    rw [List.drop_eq_nil_of_le (by rw [data_length]; omega)]
    simp [okF]
  | succ d ih =>
    intro i hi
    have hl : i < s.data.toList.length := by rw [data_length]; omega
    have e := ih (i + 1) (by omega)
    have e2 : ((i + 1 : Nat) : Int) = (i : Int) + 1 := by omega
    rw [e2] at e
    rw [okF, Bool.and_eq_true, e, List.drop_eq_getElem_cons hl, btAt s i (by omega)]
    constructor
    · rintro ⟨h1, h2⟩ c hc
      rcases List.mem_cons.1 hc with rfl | hc
      · exact h1
      · exact h2 c hc
    · intro h
      exact ⟨h _ (.head _), fun c hc => h c (.tail _ hc)⟩
theorem isP_iff (s : ByteArray) : isP s = true ↔ s.size ≤ 40 ∧ s.data.toList.head? = some 47 ∧ ∀ c ∈ s.data.toList, okc c = true := by
  unfold isP
  simp only [Bool.and_eq_true, decide_eq_true_eq, beq_iff_eq]
  have e := okF_all s s.size 0 (by omega)
  rw [List.drop_zero] at e
  have z : ((0 : Nat) : Int) = 0 := rfl
  rw [z] at e
  rw [e]
  constructor
  · rintro ⟨⟨⟨h1, h2⟩, h3⟩, h4⟩
    refine ⟨h2, ?_, h4⟩
    have hl : 0 < s.data.toList.length := by rw [data_length]; omega
    have b := btAt s 0 (by omega)
    rw [z, h3] at b
    rw [List.head?_eq_getElem?, List.getElem?_eq_getElem hl]
    congr 1
    apply UInt8.toNat_inj.1
    have e4 : (47 : UInt8).toNat = 47 := rfl
    omega
  · rintro ⟨h2, h3, h4⟩
    have hl : 0 < s.data.toList.length := by
      cases h : s.data.toList with
      | nil => rw [h] at h3; simp at h3
      | cons => simp
    have hs : 0 < s.size := by rw [data_length] at hl; exact hl
    refine ⟨⟨⟨hs, h2⟩, ?_⟩, h4⟩
    rw [List.head?_eq_getElem?, List.getElem?_eq_getElem hl] at h3
    have b := btAt s 0 hs
    rw [z, Option.some.inj h3] at b
    exact b
theorem sp_mem (l : List UInt8) : ∀ p ∈ sp l, ∀ c ∈ p, c ∈ l := by
  induction l with
  | nil => intro p hp; simp [sp] at hp; subst hp; simp
  | cons a l ih =>
    rw [sp]
    split
    · intro p hp
      rcases List.mem_cons.1 hp with rfl | hp
      · simp
      · exact fun c hc => .tail _ (ih p hp c hc)
    · split
      · next h t e =>
        rw [e] at ih
        intro p hp
        rcases List.mem_cons.1 hp with rfl | hp
        · intro c hc
          rcases List.mem_cons.1 hc with rfl | hc
          · exact .head _
          · exact .tail _ (ih h (.head _) c hc)
        · exact fun c hc => .tail _ (ih p (.tail _ hp) c hc)
      · intro p hp
        simp at hp; subst hp
        intro c hc
        simp at hc; subst hc; exact .head _
theorem fold_mem (P : UInt8 → Prop) (L : List ByteArray) (hL : ∀ p ∈ L, ∀ c ∈ p.data.toList, P c) : ∀ st : List ByteArray, (∀ x ∈ st, ∀ c ∈ x.data.toList, P c) → ∀ x ∈ L.foldl stp st, ∀ c ∈ x.data.toList, P c := by
  induction L with
  | nil => intro st h; exact h
  | cons p L ih =>
    intro st h
    rw [List.foldl_cons]
    refine ih (fun q hq => hL q (.tail _ hq)) _ ?_
    unfold stp; split
    · exact h
    · split
      · exact h
      · split
        · exact fun x hx => h x (List.mem_of_mem_take hx)
        · intro x hx
          rcases List.mem_append.1 hx with hx | hx
          · exact h x hx
          · rw [List.mem_singleton.1 hx]; exact hL p (.head _)
theorem joinTail_mem (P : UInt8 → Prop) (h47 : P 47) (st : List ByteArray) (h : ∀ x ∈ st, ∀ c ∈ x.data.toList, P c) : ∀ c ∈ Lib.joinTail [47] (st.map (·.data.toList)), P c := by
  induction st with
  | nil => intro c hc; simp [Lib.joinTail] at hc
  | cons x r ih =>
    have e : Lib.joinTail [47] ((x :: r).map (·.data.toList)) = 47 :: (x.data.toList ++ Lib.joinTail [47] (r.map (·.data.toList))) := by simp [Lib.joinTail]
    rw [e]
    intro c hc
    rcases List.mem_cons.1 hc with rfl | hc
    · exact h47
    · rcases List.mem_append.1 hc with hc | hc
      · exact h x (.head _) c hc
      · exact ih (fun y hy => h y (.tail _ hy)) c hc
/-- What is cleaned is a path, and clean. -/
theorem clean_fix {s : ByteArray} (h : isP s = true) : isP (shown (cleaned s)) = true ∧ cleaned (shown (cleaned s)) = cleaned s := by
  obtain ⟨h1, h2, h3⟩ := (isP_iff s).1 h
  refine ⟨(isP_iff _).2 ?_, sp_shown _ (good_cleaned s)⟩
  have hok : ∀ x ∈ cleaned s, ∀ c ∈ x.data.toList, okc c = true := fold_mem _ _ (fun p hp c hc => by
    obtain ⟨q, hq, rfl⟩ := List.mem_map.1 hp
    exact h3 c (sp_mem _ q hq c hc)) [] (by simp)
  have hsum : lsum (cleaned s) ≤ s.size := by
    obtain ⟨r, hr⟩ : ∃ r, s.data.toList = 47 :: r := by
      cases e : s.data.toList with
      | nil => rw [e] at h2; simp at h2
      | cons a r => rw [e] at h2; simp at h2; subst h2; exact ⟨r, rfl⟩
    have hl := data_length s
    rw [hr, List.length_cons] at hl
    have e : cleaned s = ((sp r).map PB).foldl stp [] := by
      unfold cleaned
      rw [hr, sp, if_pos rfl, List.map_cons, List.foldl_cons, stp_nil]
    have := lsum_fold ((sp r).map PB) []
    rw [lsum_sp] at this
    rw [e]
    simp only [lsum] at this
    omega
  cases hst : cleaned s with
  | nil =>
    have e : shown [] = PB [47] := rfl
    rw [e]
    refine ⟨by rw [size_PB]; simp, rfl, ?_⟩
    intro c hc
    rw [data_PB] at hc
    simp at hc; subst hc; decide
  | cons x r =>
    rw [hst] at hok hsum
    rw [shown, if_neg (by simp)]
    refine ⟨?_, ?_, ?_⟩
    · rw [size_PB, joinTail_size]; omega
    · rw [data_PB]
      simp [Lib.joinTail]
    · rw [data_PB]
      exact joinTail_mem (fun c => okc c = true) (by decide) _ hok
theorem shown_second {s : ByteArray} (h : 1 < (shown (cleaned s)).size) : bt (shown (cleaned s)) 1 ≠ 47 := by
  have hg := good_cleaned s
  cases hst : cleaned s with
  | nil =>
    rw [hst] at h
    have e : (shown []).size = 1 := rfl
    omega
  | cons x r =>
    rw [hst] at hg h
    obtain ⟨h1, _, _, h4⟩ := hg x (.head _)
    rw [toList_data] at h1
    have e : (shown (x :: r)).data.toList = 47 :: (x.data.toList ++ Lib.joinTail [47] (r.map (·.data.toList))) := by
      rw [shown, if_neg (by simp), data_PB]
      simp [Lib.joinTail]
    have b := btAt (shown (x :: r)) 1 h
    have z : ((1 : Nat) : Int) = 1 := rfl
    rw [z] at b
    rw [b]
    cases hx : x.data.toList with
    | nil => exact absurd hx h1
    | cons c t =>
      have hc := h4 c (by rw [hx]; exact .head _)
      have e3 : (shown (x :: r)).data.toList[1]? = some c := by rw [e, hx]; rfl
      obtain ⟨hl, e4⟩ := List.getElem?_eq_some_iff.1 e3
      rw [e4]
      intro q
      apply hc
      apply UInt8.toNat_inj.1
      have e5 : (47 : UInt8).toNat = 47 := rfl
      omega

end Go.Proofs.YtkmcnjpgamaljaaGreatDoor.Kit

import Derived.Test.YtkmcnjpgamaljaaDoorKit
import Derived.Lib.Split
import Derived.Lib.CountLaws
import Derived.Lib.IndexLaws
import Derived.Lib.IndexBytes
import Derived.Lib.Join
/- Texts cut at slashes, and what is left of them when they are cleaned: lists alone. -/
namespace Go.Proofs.YtkmcnjpgamaljaaDoor.Kit
open Go.RowKit Go.Proofs.YtkmcnjpgamaljaaDoorW.PrintWords Go.Proofs.YtkmcnjpgamaljaaDoorW.PrintMore
set_option linter.unusedSimpArgs false
set_option linter.unusedVariables false

def sp : List UInt8 → List (List UInt8)
  | [] => [[]]
  | c :: r => if c = 47 then [] :: sp r else match sp r with
    | h :: t => (c :: h) :: t
    | [] => [[c]]
theorem sp_app (a b : List UInt8) (ha : ∀ x ∈ a, x ≠ 47) : sp (a ++ 47 :: b) = a :: sp b := by
  induction a with
  | nil => simp [sp]
  | cons c a ih => rw [List.cons_append, sp, if_neg (ha c (.head _)), ih (fun x hx => ha x (.tail _ hx))]
theorem sp_no (a : List UInt8) (ha : ∀ x ∈ a, x ≠ 47) : sp a = [a] := by
  induction a with
  | nil => rfl
  | cons c a ih => rw [sp, if_neg (ha c (.head _)), ih (fun x hx => ha x (.tail _ hx))]
theorem sp_ne (a : List UInt8) : sp a ≠ [] := by
  cases a with
  | nil => simp [sp]
  | cons c a =>
    rw [sp]
    split
    · simp
    · split <;> simp
theorem sp_len (a : List UInt8) : (sp a).length ≤ a.length + 1 := by
  induction a with
  | nil => simp [sp]
  | cons c a ih =>
    rw [sp]
    split
    · simp; omega
    · split
      · next h t e => rw [e] at ih; simp at ih ⊢; omega
      · simp
theorem sp_size (a : List UInt8) : ∀ p ∈ sp a, p.length ≤ a.length := by
  induction a with
  | nil => simp [sp]
  | cons c a ih =>
    rw [sp]
    split
    · intro p hp
      rcases List.mem_cons.1 hp with rfl | hp
      · simp
      · have := ih p hp; simp; omega
    · split
      · next h t e =>
        rw [e] at ih
        intro p hp
        rcases List.mem_cons.1 hp with rfl | hp
        · have := ih h (.head _); simp; omega
        · have := ih p (.tail _ hp); simp; omega
      · intro p hp
        simp at hp; subst hp; simp
theorem splitK_sp (k : Nat) : ∀ (l : List UInt8), Lib.count l [47] = k → Lib.splitK [47] 0 k l = sp l := by
  induction k with
  | zero =>
    intro l hk
    have hm : Lib.index l [47] = -1 := by
      rcases Lib.index_spec l [47] with ⟨h, _⟩ | ⟨i, h, _⟩
      · exact h
      · have := Lib.count_hit (s := l) (sub := [47]) (by simp) h; omega
    have hn := Lib.indexByte_none ((Lib.index_one l 47).symm.trans hm)
    rw [sp_no l (fun x hx e => by
      obtain ⟨n, hl, e1⟩ := List.getElem_of_mem hx
      exact hn n (by rw [List.getElem?_eq_getElem hl, e1, e]))]
    rfl
  | succ k ih =>
    intro l hk
    rcases Lib.index_spec l [47] with ⟨h, _⟩ | ⟨i, h, _⟩
    · have := Lib.count_miss h; omega
    · have hc := Lib.count_hit (s := l) (sub := [47]) (by simp) h
      obtain ⟨h1, h2⟩ := Lib.indexByte_some ((Lib.index_one l 47).symm.trans h)
      obtain ⟨hi, e⟩ := List.getElem?_eq_some_iff.1 h1
      have hl : l = l.take i ++ 47 :: l.drop (i + 1) := by
        conv => lhs; rw [← List.take_append_drop i l]
        rw [List.drop_eq_getElem_cons hi, e]
      have hz : (Lib.index l [47] == -1) = false := by rw [h]; simp
      rw [Lib.splitK, hz, if_neg (by simp), h, Int.toNat_natCast, Nat.add_zero, List.length_singleton, ih _ (by simp at hc; omega)]
      conv => rhs; rw [hl]
      rw [sp_app _ _ (fun x hx ex => by
        obtain ⟨n, hn, e1⟩ := List.getElem_of_mem hx
        have hn' : n < i := by simp at hn; omega
        rw [List.getElem_take] at e1
        exact h2 n hn' (by rw [List.getElem?_eq_getElem (by omega), e1, ex]))]
def PB (l : List UInt8) : ByteArray := ⟨l.toArray⟩
theorem PB_data (s : ByteArray) : PB s.data.toList = s := by apply data_inj; rfl
theorem data_PB (l : List UInt8) : (PB l).data.toList = l := rfl
theorem toList_PB (l : List UInt8) : (PB l).toList = l := toList_data _
theorem size_PB (l : List UInt8) : (PB l).size = l.length := rfl
theorem app_PB (a b : List UInt8) : PB a ++ PB b = PB (a ++ b) := by apply data_inj; rw [data_app]; rfl
theorem splitB_sp (s : ByteArray) : Lib.splitB ⟨#[47]⟩ 0 (Lib.countB s ⟨#[47]⟩) s = (sp s.data.toList).map PB := by
  have h := Lib.splitB_data ⟨#[47]⟩ 0 (Lib.countB s ⟨#[47]⟩) s
  have e := splitK_sp (Lib.countB s ⟨#[47]⟩) s.data.toList rfl
  have h2 : (Lib.splitB ⟨#[47]⟩ 0 (Lib.countB s ⟨#[47]⟩) s).map (·.data.toList) = sp s.data.toList := h.trans e
  rw [← h2, List.map_map]
  conv => lhs; rw [← List.map_id (Lib.splitB ⟨#[47]⟩ 0 (Lib.countB s ⟨#[47]⟩) s)]
  exact List.map_congr_left (fun x _ => (PB_data x).symm)
/-- One piece more. -/
def stp (st : List ByteArray) (p : ByteArray) : List ByteArray :=
  if p.toList = [] then st else if p.toList = [46] then st else if p.toList = [46, 46] then st.take (st.length - 1) else st ++ [p]
theorem stp_nil (st : List ByteArray) : stp st (PB []) = st := by unfold stp; rw [if_pos (toList_PB [])]
theorem stp_len (st : List ByteArray) (p : ByteArray) : (stp st p).length ≤ st.length + 1 := by
  unfold stp; split
  · omega
  · split
    · omega
    · split
      · rw [List.length_take]; omega
      · simp
theorem stp_size (st : List ByteArray) (p : ByteArray) (B : Nat) (h : ∀ x ∈ st, x.size ≤ B) (hp : p.size ≤ B) : ∀ x ∈ stp st p, x.size ≤ B := by
  unfold stp; split
  · exact h
  · split
    · exact h
    · split
      · exact fun x hx => h x (List.mem_of_mem_take hx)
      · intro x hx
        rcases List.mem_append.1 hx with hx | hx
        · exact h x hx
        · rw [List.mem_singleton.1 hx]; exact hp
def shown (st : List ByteArray) : ByteArray := if st = [] then PB [47] else PB (Lib.joinTail [47] (st.map (·.data.toList)))
def cleaned (s : ByteArray) : List ByteArray := ((sp s.data.toList).map PB).foldl stp []
theorem joinTail_snoc (r : List (List UInt8)) (y : List UInt8) : Lib.joinTail [47] (r ++ [y]) = Lib.joinTail [47] r ++ [47] ++ y := by
  unfold Lib.joinTail; simp
def okb (b : Int) : Bool := decide ((97 ≤ b ∧ b ≤ 122) ∨ (48 ≤ b ∧ b ≤ 57) ∨ b = 46 ∨ b = 95 ∨ b = 45 ∨ b = 47)
def okF (s : ByteArray) : Int → Nat → Bool
  | _, 0 => true
  | i, d + 1 => okb (bt s i) && okF s (i + 1) d
theorem btAt (s : ByteArray) (j : Nat) (h : j < s.size) : bt s (j : Int) = ((s.data.toList[j]'(by rw [Array.length_toList]; exact h)).toNat : Int) := by
  rw [bt, dif_pos (by simpa using h)]
  rfl
/-- A path. -/
def isP (s : ByteArray) : Bool := decide (1 ≤ s.size) && decide (s.size ≤ 40) && (bt s 0 == 47) && okF s 0 s.size
theorem joinTail_le (r : List (List UInt8)) (B : Nat) (h : ∀ x ∈ r, x.length ≤ B) : (Lib.joinTail [47] r).length ≤ r.length * (B + 1) := by
  induction r with
  | nil => simp [Lib.joinTail]
  | cons x r ih =>
    have h1 := ih (fun y hy => h y (.tail _ hy))
    have h2 := h x (.head _)
    have e : Lib.joinTail [47] (x :: r) = [47] ++ x ++ Lib.joinTail [47] r := by simp [Lib.joinTail]
    rw [e]
    simp only [List.length_append, List.length_cons, List.length_nil, Nat.add_mul]
    omega
theorem join_shown (st : List ByteArray) : PB [47] ++ PB (Lib.join (st.map (·.data.toList)) [47]) = shown st := by
  cases st with
  | nil => rfl
  | cons x r =>
    rw [shown, if_neg (by simp), app_PB, List.map_cons, Lib.join_cons]
    congr 1

end Go.Proofs.YtkmcnjpgamaljaaDoor.Kit

import Derived.Test.YtopicidanlienaaKit
import Derived.Lib.SlicesCompact
import Derived.Sort.Walk0
/- Texts in order, each once: what is sorted and rid of equals is what is put in place by place. Lists alone. -/
namespace Go.Proofs.Ytopicidanlienaa.Kit
open Go.RowKit Go.Proofs.YtopicidanlienaaW.PrintWords Go.Proofs.YtopicidanlienaaW.PrintMore
set_option linter.unusedSimpArgs false
set_option linter.unusedVariables false

theorem slt_irr (a : List UInt8) : ¬ a < a := List.lt_irrefl a
theorem slt_trans {a b c : List UInt8} (h : a < b) (k : b < c) : a < c := List.lt_trans h k
theorem slt_tri {a b : List UInt8} (h : ¬ a < b) (h2 : a ≠ b) : b < a := by
 rcases Classical.em (b < a) with k | k
 ·exact k
 ·exact absurd (List.le_antisymm (show a ≤ b from k) (show b ≤ a from h)) h2
theorem less_iff (a b : List UInt8) : Op.bytesLess a b = true ↔ a < b := by rw [bytesLess_eq, decide_eq_true_eq]
def Asc (l : List (List UInt8)) : Prop := l.Pairwise (· < ·)
theorem asc_ext : ∀ {a b : List (List UInt8)}, Asc a → Asc b → (∀ x, x ∈ a ↔ x ∈ b) → a = b
 | [], [], _, _, _ => rfl
 | [], y :: b, _, _, h => by have := (h y).2 (.head _); cases this
 | x :: a, [], _, _, h => by have := (h x).1 (.head _); cases this
 | x :: a, y :: b, ha, hb, h => by
  obtain ⟨ha1, ha2⟩ := List.pairwise_cons.1 ha
  obtain ⟨hb1, hb2⟩ := List.pairwise_cons.1 hb
  have hxy : x = y := by
   rcases List.mem_cons.1 ((h x).1 (.head _)) with e | hx
   ·exact e
   ·rcases List.mem_cons.1 ((h y).2 (.head _)) with e | hy
    ·exact e.symm
    ·exact absurd (slt_trans (ha1 y hy) (hb1 x hx)) (slt_irr x)
  subst hxy
  congr 1
  refine asc_ext ha2 hb2 fun z => ⟨fun hz => ?_, fun hz => ?_⟩
  ·rcases List.mem_cons.1 ((h z).1 (.tail _ hz)) with e | h'
   ·subst e; exact absurd (ha1 z hz) (slt_irr z)
   ·exact h'
  ·rcases List.mem_cons.1 ((h z).2 (.tail _ hz)) with e | h'
   ·subst e; exact absurd (hb1 z hz) (slt_irr z)
   ·exact h'
theorem compact_asc (d : Array (List UInt8)) (hs : ∀ i j, i < j → j < d.size → ¬ d[j]! < d[i]!) (m : Nat) : m ≤ d.size →
  Asc (Lib.compactUpTo d m) ∧ (∀ x, x ∈ Lib.compactUpTo d m ↔ ∃ j, j < m ∧ d[j]! = x) ∧ (∀ x ∈ Lib.compactUpTo d m, ¬ d[m - 1]! < x) := by
 induction m with
 | zero => intro _; exact ⟨List.Pairwise.nil, fun x => ⟨fun h => by simp [Lib.compactUpTo] at h, fun ⟨j, hj, _⟩ => absurd hj (Nat.not_lt_zero _)⟩, fun x h => by simp [Lib.compactUpTo] at h⟩
 | succ m ih =>
  intro hm
  obtain ⟨i1, i2, i3⟩ := ih (by omega)
  rw [Lib.compactUpTo_succ]
  rw [show m + 1 - 1 = m from rfl]
  by_cases hk : Lib.keeps d m = true
  ·rw [hk, if_pos rfl]
   have hlast : ∀ x ∈ Lib.compactUpTo d m, x < d[m]! := by
    intro x hx
    obtain ⟨j, hj, e⟩ := (i2 x).1 hx
    have hm0 : 0 < m := by omega
    have hne : d[m]! ≠ d[m - 1]! := by
     intro e2
     rw [Lib.keeps_neg hm0 e2] at hk; cases hk
    have h1 : d[m - 1]! < d[m]! := slt_tri (hs (m - 1) m (by omega) (by omega)) hne
    rcases Classical.em (x = d[m - 1]!) with e2 | e2
    ·rw [e2]; exact h1
    ·exact slt_trans (slt_tri (i3 x hx) (fun e3 => e2 e3.symm)) h1
   refine ⟨?_, ?_, ?_⟩
   ·refine List.pairwise_append.2 ⟨i1, List.pairwise_singleton _ _, fun a ha b hb => ?_⟩
    obtain rfl := List.mem_singleton.1 hb
    exact hlast a ha
   ·intro x
    rw [List.mem_append, List.mem_singleton, i2 x]
    constructor
    ·rintro (⟨j, hj, e⟩ | e)
     ·exact ⟨j, by omega, e⟩
     ·exact ⟨m, by omega, e.symm⟩
    ·rintro ⟨j, hj, e⟩
     rcases Nat.lt_or_ge j m with h | h
     ·exact .inl ⟨j, h, e⟩
     ·obtain rfl : j = m := by omega
      exact .inr e.symm
   ·intro x hx h
    rcases List.mem_append.1 hx with hx | hx
    ·exact slt_irr x (slt_trans (hlast x hx) h)
    ·obtain rfl := List.mem_singleton.1 hx
     exact slt_irr _ h
  ·rw [Bool.eq_false_iff.2 hk, if_neg (by simp), List.append_nil]
   have hm0 : 0 < m := by
    rcases Nat.eq_zero_or_pos m with e | e
    ·subst e; exact absurd (by simp [Lib.keeps]) hk
    ·exact e
   have heq : d[m]! = d[m - 1]! := by
    rcases Classical.em (d[m]! = d[m - 1]!) with e | e
    ·exact e
    ·exact absurd (Lib.keeps_pos e) hk
   refine ⟨i1, ?_, ?_⟩
   ·intro x
    rw [i2 x]
    constructor
    ·rintro ⟨j, hj, e⟩; exact ⟨j, by omega, e⟩
    ·rintro ⟨j, hj, e⟩
     rcases Nat.lt_or_ge j m with h | h
     ·exact ⟨j, h, e⟩
     ·obtain rfl : j = m := by omega
      exact ⟨j - 1, by omega, heq.symm.trans e⟩
   ·intro x hx h
    rw [heq] at h
    exact i3 x hx h
theorem srt_asc (l : List (List UInt8)) : Asc (Lib.compact (l.mergeSort fun x y => decide (x ≤ y))) ∧ ∀ x, x ∈ Lib.compact (l.mergeSort fun x y => decide (x ≤ y)) ↔ x ∈ l := by
 have hp : (l.mergeSort fun x y => decide (x ≤ y)).Pairwise (fun a b => decide (a ≤ b) = true) :=
  List.pairwise_mergeSort (le := fun x y : List UInt8 => decide (x ≤ y)) (fun (a b c : List UInt8) (h1 : decide (a ≤ b) = true) (h2 : decide (b ≤ c) = true) => decide_eq_true (List.le_trans (of_decide_eq_true h1) (of_decide_eq_true h2)))
   (fun (a b : List UInt8) => by
    show (decide (a ≤ b) || decide (b ≤ a)) = true
    rcases List.le_total a b with h | h
    ·rw [decide_eq_true h]; rfl
    ·rw [decide_eq_true h, Bool.or_true]) l
 have hmem : ∀ x, x ∈ (l.mergeSort fun x y => decide (x ≤ y)) ↔ x ∈ l := fun x => List.mem_mergeSort
 generalize (l.mergeSort fun x y => decide (x ≤ y)) = zs at hp hmem
 have hz : ∀ j (hj : j < zs.length), zs.toArray[j]! = zs[j] := fun j hj => by simp [getElem!_pos, hj]
 have hs : ∀ i j, i < j → j < zs.toArray.size → ¬ zs.toArray[j]! < zs.toArray[i]! := by
  intro i j hij hj
  have hj' : j < zs.length := by simpa using hj
  rw [hz j hj', hz i (by omega)]
  exact of_decide_eq_true (List.pairwise_iff_getElem.1 hp i j (by omega) hj' hij)
 obtain ⟨h1, h2, _⟩ := compact_asc zs.toArray hs zs.length (by simp)
 refine ⟨h1, fun x => ?_⟩
 show x ∈ Lib.compactUpTo zs.toArray zs.length ↔ _
 rw [h2 x, ← hmem x]
 constructor
 ·rintro ⟨j, hj, e⟩
  rw [hz j hj] at e
  rw [← e]; exact List.getElem_mem _
 ·intro h
  obtain ⟨j, hj, e⟩ := List.mem_iff_getElem.1 h
  exact ⟨j, hj, (hz j hj).trans e⟩
def insB (s : ByteArray) : List ByteArray → List ByteArray
 | [] => [s]
 | x :: r => if Op.bytesLess s.toList x.toList = true then s :: x :: r else x :: insB s r
theorem insB_mem (s y : ByteArray) : ∀ l, y ∈ insB s l ↔ y = s ∨ y ∈ l
 | [] => by simp [insB]
 | x :: r => by
  rw [insB]
  split
  ·simp
  ·rw [List.mem_cons, insB_mem s y r, List.mem_cons]
   constructor
   ·rintro (h | h | h)
    ·exact .inr (.inl h)
    ·exact .inl h
    ·exact .inr (.inr h)
   ·rintro (h | h | h)
    ·exact .inr (.inl h)
    ·exact .inl h
    ·exact .inr (.inr h)
def AscB (l : List ByteArray) : Prop := Asc (l.map (·.data.toList))
theorem insB_asc (s : ByteArray) : ∀ l, AscB l → s ∉ l → AscB (insB s l)
 | [], _, _ => List.pairwise_singleton _ _
 | x :: r, h, hn => by
  obtain ⟨h1, h2⟩ := List.pairwise_cons.1 (show Asc (x.data.toList :: r.map (·.data.toList)) from h)
  rw [insB]
  by_cases c : Op.bytesLess s.toList x.toList = true
  ·rw [if_pos c]
   rw [toList_data, toList_data] at c
   have c' := (less_iff _ _).1 c
   refine List.pairwise_cons.2 ⟨fun b hb => ?_, h⟩
   rcases List.mem_cons.1 hb with e | hb
   ·rw [e]; exact c'
   ·exact slt_trans c' (h1 b hb)
  ·rw [if_neg c]
   rw [toList_data, toList_data] at c
   have hne : s.data.toList ≠ x.data.toList := fun e => hn (by rw [data_inj e]; exact .head _)
   have hx : x.data.toList < s.data.toList := slt_tri (fun k => c ((less_iff _ _).2 k)) hne
   have ih := insB_asc s r h2 (fun k => hn (.tail _ k))
   refine List.pairwise_cons.2 ⟨fun b hb => ?_, ih⟩
   obtain ⟨y, hy, rfl⟩ := List.mem_map.1 hb
   rcases (insB_mem s y r).1 hy with rfl | hy
   ·exact hx
   ·exact h1 _ (List.mem_map.2 ⟨y, hy, rfl⟩)
def inB (l : List ByteArray) (s : ByteArray) : Bool := l.any (fun x => x.toList == s.toList)
theorem inB_iff (l : List ByteArray) (s : ByteArray) : inB l s = true ↔ s ∈ l := by
 unfold inB
 rw [List.any_eq_true]
 constructor
 ·rintro ⟨x, hx, e⟩
  rw [beq_iff_eq, toList_inj] at e
  exact e ▸ hx
 ·intro h; exact ⟨s, h, by rw [beq_iff_eq]⟩
def putB (l : List ByteArray) (s : ByteArray) : List ByteArray := if inB l s = true then l else insB s l
theorem putB_asc (l : List ByteArray) (s : ByteArray) (h : AscB l) : AscB (putB l s) := by
 unfold putB
 split
 ·exact h
 ·next c => exact insB_asc s l h (fun k => c ((inB_iff l s).2 k))
theorem putB_mem (l : List ByteArray) (s y : ByteArray) : y ∈ putB l s ↔ y = s ∨ y ∈ l := by
 unfold putB
 split
 ·next c =>
  constructor
  ·exact .inr
  ·rintro (rfl | h)
   ·exact (inB_iff l y).1 c
   ·exact h
 ·exact insB_mem s y l
theorem puts_asc (L : List ByteArray) : ∀ l, AscB l → AscB (L.foldl putB l) ∧ ∀ y, y ∈ L.foldl putB l ↔ y ∈ L ∨ y ∈ l := by
 induction L with
 | nil => intro l h; exact ⟨h, fun y => by simp⟩
 | cons x r ih =>
  intro l h
  rw [List.foldl_cons]
  obtain ⟨h1, h2⟩ := ih _ (putB_asc l x h)
  refine ⟨h1, fun y => ?_⟩
  rw [h2 y, putB_mem, List.mem_cons]
  constructor
  ·rintro (h | h | h)
   ·exact .inl (.inr h)
   ·exact .inl (.inl h)
   ·exact .inr h
  ·rintro ((h | h) | h)
   ·exact .inr (.inl h)
   ·exact .inl h
   ·exact .inr (.inr h)
def B8 (b : List UInt8) : ByteArray := ⟨b.toArray⟩
theorem ascB_ext {a b : List ByteArray} (ha : AscB a) (hb : AscB b) (h : ∀ x, x ∈ a ↔ x ∈ b) : a = b := by
 have e : a.map (·.data.toList) = b.map (·.data.toList) := asc_ext ha hb fun x => by
  simp only [List.mem_map]
  exact ⟨fun ⟨y, hy, e⟩ => ⟨y, (h y).1 hy, e⟩, fun ⟨y, hy, e⟩ => ⟨y, (h y).2 hy, e⟩⟩
 have e2 := congrArg (List.map B8) e
 rw [List.map_map, List.map_map] at e2
 have e3 : (B8 ∘ fun x : ByteArray => x.data.toList) = id := by funext x; apply data_inj; rfl
 rw [e3, List.map_id, List.map_id] at e2
 exact e2
theorem rise_puts (L : List ByteArray) : (Lib.compact ((L.map (·.data.toList)).mergeSort fun x y => decide (x ≤ y))).map (fun b => (⟨b.toArray⟩ : ByteArray)) = L.foldl putB [] := by
 obtain ⟨h1, h2⟩ := srt_asc (L.map (·.data.toList))
 obtain ⟨h3, h4⟩ := puts_asc L [] List.Pairwise.nil
 refine ascB_ext ?_ h3 fun x => ?_
 ·unfold AscB
  rw [List.map_map]
  have e3 : ((fun x : ByteArray => x.data.toList) ∘ fun b : List UInt8 => (⟨b.toArray⟩ : ByteArray)) = id := by funext x; rfl
  rw [e3, List.map_id]; exact h1
 ·rw [h4 x]
  simp only [List.mem_map, List.not_mem_nil, or_false]
  constructor
  ·rintro ⟨b, hb, rfl⟩
   obtain ⟨y, hy, e⟩ := List.mem_map.1 ((h2 b).1 hb)
   have : (⟨b.toArray⟩ : ByteArray) = y := data_inj e.symm
   rw [this]; exact hy
  ·intro hx
   exact ⟨x.data.toList, (h2 _).2 (List.mem_map.2 ⟨x, hx, rfl⟩), data_inj rfl⟩
end Go.Proofs.Ytopicidanlienaa.Kit

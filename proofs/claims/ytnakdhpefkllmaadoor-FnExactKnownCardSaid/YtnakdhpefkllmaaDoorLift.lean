import Derived.Test.YtnakdhpefkllmaaDoorWWords
import Derived.Deep.Slices
import Derived.ChangeSame
/- From what is read at the call (a datum's reading) to the kinds of the printed contracts: whole numbers, bools, texts, slices, structs. -/
namespace Go.Proofs.YtnakdhpefkllmaaDoor.Lift
open Go.ChangeShapes Go.WideShapes Go.Deep Go.Proofs.YtnakdhpefkllmaaDoorW.PrintWords

/-- Whatever reads as type t is of kind d, and what B says holds of it. -/
def Opens {α : Type} (P : Program) (t : TypeId) (d : Kd α) (B : α → Prop) : Prop :=
  ∀ (H : Type) (enc : TypeId × Value → H) (w : World) (base : Nat) (spare : Nat → Bool) (held : Bool) (fuel : Nat) (cs : List Value) (x : DataW H × List MemPlace),
    DataW.trod enc P w base spare held fuel t cs = some x → ∃ a, d.K w a cs ∧ B a
theorem opens_int {P : Program} {t : TypeId} {k : IntKind} (ht : P.underlying t = some (.int k)) : Opens P t (Kd.int k) (fun n => (Lit.int k n).wf = true) := by
  intro H enc w base spare held fuel cs x h
  obtain ⟨n, rfl, _, hw⟩ := DataW.trod_int ht h
  exact ⟨n, rfl, hw⟩
theorem opens_bool {P : Program} {t : TypeId} (ht : P.underlying t = some .bool) : Opens P t Kd.bool (fun _ => True) := by
  intro H enc w base spare held fuel cs x h
  obtain ⟨b, rfl, _⟩ := DataW.trod_bool ht h
  exact ⟨b, rfl, trivial⟩
theorem opens_string {P : Program} {t : TypeId} (ht : P.underlying t = some .string) : Opens P t Kd.string (fun s => s.size ≤ maxLen) := by
  intro H enc w base spare held fuel cs x h
  obtain ⟨s, rfl, _, hs⟩ := DataW.trod_string ht h
  exact ⟨s, rfl, hs⟩
theorem opens_slice {α : Type} {P : Program} {t e : TypeId} {d : Kd α} {B : α → Prop} (ht : P.underlying t = some (.slice e)) (hsz : P.cellsOf e = d.sz) (he : Opens P e d B) :
    Opens P t (Kd.slice e d) (fun xs => xs.length ≤ maxLen ∧ ∀ a ∈ xs, B a) := by
  intro H enc w base spare held fuel cs x h
  rcases open_slice ht h with ⟨rfl, _⟩ | ⟨a, len, cap, m, n, D, Pl, rfl, _, hl, hm, hmm, _, hx⟩
  · exact ⟨[], ⟨none, 0, rfl, Nat.le_refl _, Kd.C_nil d w⟩, by simp, by simp⟩
  · have hlm : len ≤ m := by rw [hmm]; split <;> omega
    have one : ∀ i, i < len → ∃ y : α, d.K w y ((w.cells? base (a.add (i * P.cellsOf e)) (P.cellsOf e)).getD []) ∧ B y := fun i hi => by
      obtain ⟨cs', h1, h2⟩ := hx i (by omega)
      obtain ⟨y, hy, hB⟩ := he H enc w base spare held n cs' _ h2
      exact ⟨y, by rw [h1]; exact hy, hB⟩
    rcases Nat.eq_zero_or_pos len with h0 | h0
    · subst h0
      exact ⟨[], ⟨some a, cap, rfl, Nat.zero_le _, ⟨rfl, by simp, fun h => absurd h (Nat.lt_irrefl 0)⟩⟩, by simp, by simp⟩
    · haveI : Inhabited α := ⟨Classical.choose (one 0 h0)⟩
      obtain ⟨f, hf⟩ := choose_lt one
      have hmax : len ≤ maxLen := Nat.le_trans hl hm
      refine ⟨(List.range len).map f, ⟨some a, cap, by simp, by simpa using hl, ?_⟩, by simpa using hmax, ?_⟩
      · refine ⟨rfl, by simp only [maxLen] at hmax; simpa using hmax, fun _ => ⟨a, rfl, fun j p hj => ?_⟩⟩
        have hjl : j < len := by
          have := (List.getElem?_eq_some_iff.1 hj).1
          simpa using this
        have hp : f j = p := by simpa [hjl] using hj
        subst hp
        obtain ⟨cs', h1, _⟩ := hx j (by omega)
        have hK := (hf j hjl).1
        rw [h1] at hK
        obtain ⟨_, hlen, hc⟩ := World.cells?_some h1
        refine ⟨cs', by rw [hlen, hsz], hK, fun i u hu => ?_⟩
        have hi : i < P.cellsOf e := by
          have := (List.getElem?_eq_some_iff.1 hu).1
          omega
        rw [← hsz, ← Go.Deep.add_add, hc i hi, hu]
      · intro y hy
        obtain ⟨i, hi, rfl⟩ := List.mem_map.1 hy
        exact (hf i (List.mem_range.1 hi)).2
/-- The fields of a struct from cell o on. -/
def OpensF {α : Type} (P : Program) (fs : List Field) (o : Nat) (d : Kd α) (B : α → Prop) : Prop :=
  ∀ (H : Type) (enc : TypeId × Value → H) (w : World) (base : Nat) (spare : Nat → Bool) (held : Bool) (n : Nat) (cs : List Value),
    (∀ f ∈ fs, ∃ y, DataW.trod enc P w base spare held n f.type ((cs.drop f.offset).take (P.cellsOf f.type)) = some y) → cs.length = o + d.sz → ∃ a, d.K w a (cs.drop o) ∧ B a
theorem opensF_one {α : Type} {P : Program} {f : Field} {o : Nat} {d : Kd α} {B : α → Prop} (ho : f.offset = o) (hsz : P.cellsOf f.type = d.sz) (h : Opens P f.type d B) : OpensF P [f] o d B := by
  intro H enc w base spare held n cs hf hl
  obtain ⟨y, hy⟩ := hf f (by simp)
  rw [ho, hsz, List.take_of_length_le (by rw [List.length_drop]; omega)] at hy
  exact h H enc w base spare held n _ y hy
theorem opensF_cons {α β : Type} {P : Program} {f : Field} {fs : List Field} {o : Nat} {d : Kd α} {d' : Kd β} {B : α → Prop} {B' : β → Prop} (ho : f.offset = o) (hsz : P.cellsOf f.type = d.sz) (h : Opens P f.type d B)
    (h' : OpensF P fs (o + d.sz) d' B') : OpensF P (f :: fs) o (Kd.pair d d') (fun x => B x.1 ∧ B' x.2) := by
  intro H enc w base spare held n cs hf hl
  have hl' : cs.length = o + d.sz + d'.sz := by rw [hl]; exact (Nat.add_assoc _ _ _).symm
  obtain ⟨y, hy⟩ := hf f (by simp)
  rw [ho, hsz] at hy
  obtain ⟨a, ha, hB⟩ := h H enc w base spare held n _ y hy
  obtain ⟨b, hb, hB'⟩ := h' H enc w base spare held n cs (fun g hg => hf g (by simp [hg])) hl'
  refine ⟨(a, b), ⟨_, _, ?_, ha, hb⟩, hB, hB'⟩
  rw [← List.drop_drop, List.take_append_drop]
theorem opens_struct {α : Type} {P : Program} {t : TypeId} {fs : Array Field} {d : Kd α} {B : α → Prop} (ht : P.underlying t = some (.struct fs)) (hsz : P.cellsOf t = d.sz) (h : OpensF P fs.toList 0 d B) : Opens P t d B := by
  intro H enc w base spare held fuel cs x hx
  obtain ⟨xs, n, _, _, hl, hlen, hf⟩ := DataW.trod_struct ht hx
  obtain ⟨a, ha, hB⟩ := h H enc w base spare held n cs (fun f hf' => by
    obtain ⟨i, hi, rfl⟩ := List.mem_iff_getElem.1 hf'
    have hi' : i < fs.size := by simpa using hi
    refine ⟨xs[i]'(by omega), ?_⟩
    rw [hf i _ (by rw [Array.getElem?_eq_getElem hi', Array.getElem_toList]), List.getElem?_eq_getElem]) (by rw [hl, hsz, Nat.zero_add])
  exact ⟨a, by simpa using ha, hB⟩
theorem opens_iso {α β : Type} {P : Program} {t : TypeId} {d : Kd α} {B : α → Prop} {f : β → α} (g : α → β) (hg : ∀ a, f (g a) = a) (h : Opens P t d B) : Opens P t (Kd.iso d f) (fun x => B (f x)) := by
  intro H enc w base spare held fuel cs x hx
  obtain ⟨a, ha, hB⟩ := h H enc w base spare held fuel cs x hx
  exact ⟨g a, by show d.K w (f (g a)) cs; rw [hg]; exact ha, by show B (f (g a)); rw [hg]; exact hB⟩
theorem opens_imp {α : Type} {P : Program} {t : TypeId} {d : Kd α} {B B' : α → Prop} (h : Opens P t d B) (hB : ∀ a, B a → B' a) : Opens P t d B' := by
  intro H enc w base spare held fuel cs x hx
  obtain ⟨a, ha, hb⟩ := h H enc w base spare held fuel cs x hx
  exact ⟨a, ha, hB a hb⟩
/-- A slice that came in, as the printed contracts ask for it. -/
theorem slice_in {α : Type} {P : Program} {t e : TypeId} {d : Kd α} {B : List α → Prop} {H : Type} {enc : TypeId × Value → H} {w : World} {base : Nat} {spare : Nat → Bool} {held : Bool} {A : Option Addr} {n c : Nat} {x : DataW H} {ps : List MemPlace}
    (ho : Opens P t (Kd.slice e d) B) (h : DataW.Trod enc P w base spare held t (.slice A n c) x ps) : ∃ xs, n = xs.length ∧ xs.length ≤ c ∧ d.C w A xs.length xs ∧ B xs := by
  obtain ⟨fuel, h⟩ := h
  obtain ⟨xs, ⟨A', c', he, hc, hC⟩, hB⟩ := ho H enc w base spare held fuel _ _ h
  simp only [Value.cells] at he
  injection (List.head_eq_of_cons_eq he) with e1 e2 e3
  subst e1 e3
  exact ⟨xs, e2, hc, hC, hB⟩
end Go.Proofs.YtnakdhpefkllmaaDoor.Lift

import Derived.Test.YtopicidanlienaaWWords
import Derived.Test.YtopicidanlienaaWLast
import Derived.Test.YtopicidanlienaaWKept
import Derived.Test.YtopicidanlienaaWMore
import Derived.Laws.IdiomCopy
import Derived.Laws.AppendOwn
import Derived.Deep.Upon
import Derived.Deep.RegionLaw
import Derived.Lib.SliceRun
import Derived.Shelf.Spec.SlicesInsert
import Derived.Lib.AppendZeros
import Derived.Lib.AppendZerosOnto
/- Rows of structs in one block, told cell by cell: opened, written, shut. -/
namespace Go.Proofs.Ytopicidanlienaa.RowL
open Go.RowKit Go.Proofs.YtopicidanlienaaW.PrintWords Go.Proofs.YtopicidanlienaaW.PrintLast Go.Proofs.YtopicidanlienaaW.PrintMore
set_option linter.unusedVariables false
set_option linter.unusedSimpArgs false
def lay (c : Array Value) : Nat → List Value → Array Value
 | _, [] => c
 | o, v :: r => lay (c.setIfInBounds o v) (o + 1) r
theorem lay_size : ∀ (vs : List Value) (c : Array Value) (o : Nat), (lay c o vs).size = c.size
 | [], _, _ => rfl
 | v :: r, c, o => by rw [lay, lay_size r, Array.size_setIfInBounds]
theorem lay_list : ∀ (vs : List Value) (c : Array Value) (o : Nat), o + vs.length ≤ c.size → (lay c o vs).toList = c.toList.take o ++ (vs ++ c.toList.drop (o + vs.length))
 | [], c, o, h => by simp [lay]
 | v :: r, c, o, h => by
  rw [List.length_cons] at h
  rw [lay, lay_list r _ _ (by rw [Array.size_setIfInBounds]; omega), Array.toList_setIfInBounds, List.length_cons]
  have hc : o < c.toList.length := by rw [Array.length_toList]; omega
  have e1 : (c.toList.set o v).take (o + 1) = c.toList.take o ++ [v] := by
   rw [List.take_succ_eq_append_getElem (by simpa using hc), List.getElem_set_self, List.take_set_of_le (Nat.le_refl _)]
  have e2 : (c.toList.set o v).drop (o + 1 + r.length) = c.toList.drop (o + (r.length + 1)) := by
   rw [List.drop_set_of_lt (by omega), show o + 1 + r.length = o + (r.length + 1) by omega]
  rw [e1, e2]; simp
theorem heap_setCells (g T : Nat) : ∀ (vs : List Value) (o : Nat) (w : World) (cur : Array Value), w.heap[g]? = some (.cells cur T (0, 0)) → (w.setCells g o vs).heap[g]? = some (.cells (lay cur o vs) T (0, 0))
 | [], _, _, _, h => h
 | v :: r, o, w, cur, h => by
  rw [World.setCells, lay]
  refine heap_setCells g T r (o + 1) _ _ ?_
  simp [World.setCell, Array.getElem?_modify, h]
theorem cell_of {w : World} {g T : Nat} {cur : Array Value} (h : w.heap[g]? = some (.cells cur T (0, 0))) (o : Nat) : w.cell? ⟨g, o, none⟩ = cur.toList[o]? := by
 simp [World.cell?, h]
theorem free_of {w : World} {g T : Nat} {cur : Array Value} (h : w.heap[g]? = some (.cells cur T (0, 0))) (o : Nat) : w.frozen? ⟨g, o, none⟩ = false := by
 simp [World.frozen?, h]
theorem below_cells {a : World} {b : Nat} (hb : a.heap.size ≤ b) : ∀ (vs : List Value) (o : Nat) (w : World), Below a.heap.size a w → Below a.heap.size a (w.setCells b o vs)
 | [], _, _, h => h
 | v :: r, o, w, h => by rw [World.setCells]; exact below_cells hb r _ _ (below_set h hb)
theorem kept_cells {W : World} {S : Nat → Prop} {b : Nat} (hb : S b ∨ W.heap.size ≤ b) : ∀ (vs : List Value) (o : Nat) (w : World), Kept W w S → Kept W (w.setCells b o vs) S
 | [], _, _, h => h
 | v :: r, o, w, h => by rw [World.setCells]; exact kept_cells hb r _ _ (Kept.setCell h hb v)
section
variable {α : Type} {enc : α → List Value} {sz : Nat} {R : α → List Value → Prop}
theorem flat_len (hsz : ∀ x, (enc x).length = sz) : ∀ l : List α, (l.flatMap enc).length = l.length * sz
 | [] => by simp
 | x :: r => by rw [List.flatMap_cons, List.length_append, flat_len hsz r, hsz, List.length_cons, Nat.add_mul, Nat.one_mul, Nat.add_comm]
theorem reps_flat (hR : ∀ x cs, R x cs → cs = enc x) : ∀ (l : List α) (cs : List Value), Reps R sz l cs → cs = l.flatMap enc
 | [], cs, h => by
  have := h.1; simp only [List.length_nil, Nat.zero_mul] at this
  rw [List.length_eq_zero_iff.1 this]; rfl
 | x :: r, cs, h => by
  have h0 := hR _ _ (h.2 0 x rfl)
  rw [Nat.zero_mul, List.drop_zero] at h0
  have hl := h.1
  rw [List.length_cons, Nat.add_mul, Nat.one_mul] at hl
  have ht := reps_flat hR r (cs.drop sz) ⟨by rw [List.length_drop]; omega, fun j p hj => by
   have := h.2 (j + 1) p hj
   rwa [Nat.add_mul, Nat.one_mul, Nat.add_comm, ← List.drop_drop] at this⟩
  rw [List.flatMap_cons, ← h0, ← ht, List.take_append_drop]
theorem flat_reps (hR : ∀ x, R x (enc x)) (hsz : ∀ x, (enc x).length = sz) (l : List α) : Reps R sz l (l.flatMap enc) := by
 refine ⟨flat_len hsz l, fun j p h => ?_⟩
 obtain ⟨hj, e⟩ := List.getElem?_eq_some_iff.1 h
 have hs : l.flatMap enc = (l.take j).flatMap enc ++ (enc p ++ (l.drop (j + 1)).flatMap enc) := by
  conv => lhs; rw [← List.take_append_drop j l, List.drop_eq_getElem_cons hj, e]
  rw [List.flatMap_append, List.flatMap_cons]
 have hl : ((l.take j).flatMap enc).length = j * sz := by rw [flat_len hsz, List.length_take, Nat.min_eq_left (by omega)]
 rw [hs, ← hl, List.drop_left, ← hsz p, List.take_left]
 exact hR p
end
section
variable {α : Type} {d : Kd α} {enc : α → List Value} {e : Nat} {w : World} {base : Nat} {ok : Nat → Prop} {v : Value} {l : List α}
theorem R_open (hM : ∀ w base ok x cs, d.M w base ok x cs → cs = enc x) (h : d.R e w base ok v l) (hl : l ≠ []) :
  ∃ g cap cur, v = .slice (some ⟨g, 0, none⟩) l.length cap ∧ base ≤ g ∧ w.heap[g]? = some (.cells cur e (0, 0)) ∧ l.length ≤ cap ∧ cap ≤ maxLen ∧ cur.size = cap * d.sz ∧ cur.toList.take (l.length * d.sz) = l.flatMap enc ∧ ok g := by
 obtain ⟨hP, inner, ho, hrep⟩ := h
 rcases ho.2 with ⟨_, hz⟩ | ⟨g, cap, cur, rfl, hb, hg, hnc, hm, hs, ht⟩
 ·exact absurd (List.length_eq_zero_iff.1 hz) hl
 ·exact ⟨g, cap, cur, rfl, hb, hg, hnc, hm, hs, ht.trans (reps_flat (fun x cs hx => hM _ _ _ x cs hx) l inner hrep), hP g rfl⟩
theorem R_shut (hM : ∀ w base ok x, d.M w base ok x (enc x)) (hsz : ∀ x, (enc x).length = d.sz) {g cap : Nat} {cur : Array Value} (hb : base ≤ g) (hg : w.heap[g]? = some (.cells cur e (0, 0))) (hn : l.length ≤ cap) (hm : cap ≤ maxLen) (hs : cur.size = cap * d.sz) (ht : cur.toList.take (l.length * d.sz) = l.flatMap enc) (hok : ok g) :
  d.R e w base ok (.slice (some ⟨g, 0, none⟩) l.length cap) l :=
 ⟨fun k hk => by obtain rfl := Option.some.inj hk; exact hok, l.flatMap enc, ⟨flat_len hsz l, .inr ⟨g, cap, cur, rfl, hb, hg, hn, hm, hs, ht⟩⟩, flat_reps (fun x => hM _ _ _ x) hsz l⟩
end
theorem zero_one (c : Array Value) : (Builtin.zeroCells c 1).toList = c.toList := by
 simp only [Builtin.zeroCells, Nat.one_mul]
 apply List.ext_getElem
 ·simp
 ·intro i h1 h2
  simp at h1 h2 ⊢
  rw [getElem!_pos c _ (by rw [Nat.mod_eq_of_lt h2]; exact h2)]
  congr 1
  exact Nat.mod_eq_of_lt h2
theorem run_clear_one {P : Program} (w : World) (t e ty : TypeId) (z : Value) (ht : P.underlying t = some (.slice e)) (hv : ∀ w, (zeroValue e).run P w = .ok z w) (h1 : ∀ u ∈ z.cells.toList, u.oneCell' = true) (b o c : Nat)
  (hc : ∀ j, j < z.cells.size → (w.cell? ⟨b, o + j, none⟩).isSome = true) (hf : ∀ j, j < z.cells.size → w.frozen? ⟨b, o + j, none⟩ = false) :
  (Builtin.clear_ #[t] ty #[.slice (some ⟨b, o, none⟩) 1 c]).run P w = .ok (.tuple #[]) (w.setCells b o z.cells.toList) := by
 have hst := run_storeCells_cells (P := P) b o z.cells.toList 0 w (by simpa using hc) (by simpa using hf) h1
 simp only [Nat.add_zero] at hst
 simp [Builtin.clear_, run_underlying ht, hv, zero_one, hst]
theorem run_copy_sized {P : Program} (w : World) (dT sT ty elem : TypeId) (b o dLen dCap : Nat) (a : Addr) (sLen sCap sz : Nat) (cs : List Value)
  (hu : P.underlying dT = some (.slice elem)) (hs : (P.info? elem).map (·.size) = some sz) (hn : cs.length = Nat.min sLen dLen * sz)
  (hsrc : ∀ j v, cs[j]? = some v → w.cell? (a.add j) = some v) (hc : ∀ j, j < cs.length → (w.cell? ⟨b, o + j, none⟩).isSome = true) (hf : ∀ j, j < cs.length → w.frozen? ⟨b, o + j, none⟩ = false) (h1 : ∀ v ∈ cs, v.oneCell' = true) :
  (Builtin.copy_ #[dT, sT] ty #[.slice (some ⟨b, o, none⟩) dLen dCap, .slice (some a) sLen sCap]).run P w = .ok (goInt (Nat.min sLen dLen)) (w.setCells b o cs) := by
 have hl := run_loadCells_list (P := P) w a cs hsrc
 have hst := run_storeCells_cells (P := P) b o cs 0 w (by simpa using hc) (by simpa using hf) h1
 cases hq : P.info? elem with
 | none => simp [hq] at hs
 | some i =>
  have hi : i.size = sz := by simpa [hq] using hs
  simp [Builtin.copy_, run_underlying hu, Builtin.lenOf, Builtin.firstCells, sizeOf, typeInfo, hq, hi, ← hn, hl, hst]
theorem run_overlaps_own {P : Program} (w : World) (tS tR e : TypeId) (ht : P.underlying tS = some (.slice e)) (size : Nat) (hz : ∀ w, (Go.sizeOf e).run P w = .ok size w)
  (a b : Addr) (la ca lb cb : Nat) (hne : a.block ≠ b.block) (tA tB : TypeId) (kA kB : Nat)
  (hsa : w.shape? a.block = some (tA, kA)) (hsb : w.shape? b.block = some (tB, kB)) (hkA : kA ≠ 0) (hfb : ∀ o s, w.frozen? ⟨b.block, o, s⟩ = false) :
  (Extern.SlicesOverlaps.overlaps #[tS, tS] #[tR] #[.slice (some a) la ca, .slice (some b) lb cb]).run P w = .ok (.bool false) w := by
 have hnb : (a.block != b.block) = true := by simpa using hne
 have hnb' : (a.block == b.block) = false := by simpa using hne
 have hfb0 : w.frozen? b = false := hfb b.off b.spot
 change Sem.run P (α := Value) (do
  let some t := (#[tS, tS] : Array TypeId)[0]? | stuck "slices.overlaps: no parameter types"
  let .slice elem ← underlying t | stuck "slices.overlaps: slice type expected"
  let size ← sizeOf elem
  match (some a : Option Addr), (some b : Option Addr) with
  | some a, some b =>
   if la = 0 ∨ lb = 0 ∨ size = 0 then pure (Value.bool false)
   else if a.block != b.block && (← frozen a) && (← frozen b) then unsupported .addressObserved
   else do
    if a.block != b.block then do
     noView a; noView b
     if ← mayBeOne a b then return Value.bool ((← choose (.extern "sameAddr.stringBytes" 2)) == 1)
    pure (Value.bool (a.block == b.block && a.off < b.off + lb * size && b.off < a.off + la * size))
  | _, _ => pure (Value.bool false)) w = _
 by_cases h0 : la = 0 ∨ lb = 0 ∨ size = 0
 ·simp [run_underlying ht, hz, h0]
 ·cases kA with
  | zero => exact absurd rfl hkA
  | succ kA =>
   cases hq : w.frozen? a <;> cases hr : w.frozen? { block := a.block, off := kA + 1 } <;>
   simp [run_underlying ht, hz, h0, hnb, hnb', frozen, noView, viewAt, mayBeOne, stringish, shape, Sem.run, hsa, hsb, hfb, hfb0, hq, hr]
end Go.Proofs.Ytopicidanlienaa.RowL

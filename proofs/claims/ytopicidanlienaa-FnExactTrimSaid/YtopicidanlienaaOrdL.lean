import Derived.Orders
/- A region whose order is drawn, by what holds of the operations that are done: one law over all orders. -/
namespace Go.Proofs.Ytopicidanlienaa.OrdL
open Go
def predsOf (o : Oper) : List Nat := (o.after.toList.filter (Region.binds .any)).map (·.on)
def aheadOk (ops : Array Oper) : Bool := (List.range ops.size).all fun i => match ops[i]? with
 | some o => (predsOf o).all (· < i)
 | none => true
def cnt (L : Array Bool) : Nat → Nat
 | 0 => 0
 | k + 1 => cnt L k + (if L.getD k false then 0 else 1)
theorem cnt_set (L : Array Bool) (i : Nat) (hi : i < L.size) (h : L.getD i false = false) : ∀ k, cnt (L.setIfInBounds i true) k + (if i < k then 1 else 0) = cnt L k
 | 0 => by simp [cnt]
 | k + 1 => by
  have ih := cnt_set L i hi h k
  simp only [cnt]
  by_cases c : k = i
  ·subst c
   have e1 : (L.setIfInBounds k true).getD k false = true := by
    rw [Array.getD_eq_getD_getElem?]; simp [hi]
   rw [e1, h]
   simp at ih ⊢
   exact ih
  ·have e1 : (L.setIfInBounds i true).getD k false = L.getD k false := by
    rw [Array.getD_eq_getD_getElem?, Array.getD_eq_getD_getElem?, Array.getElem?_setIfInBounds_ne (Ne.symm c)]
   have e2 : (if i < k then 1 else 0) = (if i < k + 1 then 1 else (0 : Nat)) := by
    by_cases c2 : i < k
    ·rw [if_pos c2, if_pos (by omega)]
    ·rw [if_neg c2, if_neg (by omega)]
   rw [e1]
   rw [e2] at ih
   generalize (if L.getD k false = true then 0 else 1) = z
   omega
theorem cnt_zero {L : Array Bool} : ∀ {k : Nat}, cnt L k = 0 → ∀ i, i < k → L.getD i false = true
 | 0, _, i, hi => by omega
 | k + 1, h, i, hi => by
  simp only [cnt] at h
  by_cases c : i = k
  ·subst c
   cases hq : L.getD i false with
   | true => rfl
   | false => rw [hq] at h; simp at h
  ·exact cnt_zero (Nat.add_eq_zero_iff.1 h).1 i (by omega)
theorem cnt_none : ∀ (n k : Nat), cnt (Array.replicate n false) k = k
 | n, 0 => rfl
 | n, k + 1 => by
  have e : (Array.replicate n false).getD k false = false := by
   rw [Array.getD_eq_getD_getElem?, Array.getElem?_replicate]; split <;> rfl
  simp [cnt, cnt_none n k, e]
theorem unl {L : Array Bool} {i : Nat} (h : L.getD i true = false) : L.getD i false = false := by
 rw [Array.getD_eq_getD_getElem?] at h ⊢
 cases hq : L[i]? with
 | none => rfl
 | some b => rw [hq] at h; exact h
theorem ahead_get {ops : Array Oper} (h : aheadOk ops = true) {i : Nat} {o : Oper} (hi : ops[i]? = some o) : ∀ x ∈ predsOf o, x < i := by
 unfold aheadOk at h
 rw [List.all_eq_true] at h
 have h1 := h i (List.mem_range.2 (Array.getElem?_eq_some_iff.1 hi).1)
 rw [hi] at h1
 simp only [List.all_eq_true, decide_eq_true_eq] at h1
 exact h1
variable {P : Program} {ops : Array Oper} {Q : Exit → Act → World → Prop} {L : Array Bool}
theorem all_done (hs : L.size = ops.size) (ha : aheadOk ops = true) (h : Region.ready .any ops L = []) : ∀ i, i < ops.size → L.getD i false = true := by
 intro i
 induction i using Nat.strongRecOn with
 | _ i ihi =>
  intro hi
  cases hq : L.getD i false with
  | true => rfl
  | false =>
   exfalso
   have ho : ops[i]? = some ops[i] := Array.getElem?_eq_getElem hi
   have hT : L.getD i true = false := by
    rw [Array.getD_eq_getD_getElem?] at hq ⊢
    rw [Array.getElem?_eq_getElem (by rw [hs]; exact hi)] at hq ⊢
    exact hq
   have : i ∈ Region.ready .any ops L := mem_ready.2 ⟨hT, _, ho, fun ed hed hb => by
    have hp : ed.on ∈ predsOf ops[i] := by
     unfold predsOf
     rw [List.mem_map]
     exact ⟨ed, List.mem_filter.2 ⟨by simpa using hed, hb⟩, rfl⟩
    have hlt := ahead_get ha ho _ hp
    exact ihi ed.on hlt (by omega)⟩
   rw [h] at this
   cases this
theorem region_inv {id : Nat} {a : Act} {W : World} (hm : P.follows .mixedOrders = true) (ha : aheadOk ops = true) (I : Array Bool → Act → World → Prop)
  (start : I (Array.replicate ops.size false) a { W with drawn := W.drawn + 1 })
  (step : ∀ (L : Array Bool) (a : Act) (W : World) (i : Nat) (o : Oper), L.size = ops.size → I L a W → ops[i]? = some o → L.getD i false = false → (∀ e ∈ predsOf o, L.getD e false = true) → wpOp P ops Q i (I (L.setIfInBounds i true)) a W)
  (fin : ∀ (L : Array Bool) (a : Act) (W : World), (∀ i, i < ops.size → L.getD i false = true) → I L a W → Q .normal a W) : (Code.region id ops true).wp P Q a W := by
 refine wp_region_any hm ?_
 have key : ∀ (k : Nat) (L : Array Bool) (a : Act) (W : World), L.size = ops.size → I L a W → cnt L ops.size ≤ k → wpAny P .any ops Q k L a W := by
  intro k
  induction k with
  | zero =>
   intro L a W hs hI hc
   have hall := cnt_zero (L := L) (k := ops.size) (by omega)
   refine ⟨?_, fin L a W hall hI⟩
   cases hq : Region.ready .any ops L with
   | nil => rfl
   | cons i r =>
    exfalso
    have hi : i ∈ Region.ready .any ops L := by rw [hq]; exact List.mem_cons_self ..
    obtain ⟨hun, o, ho, _⟩ := mem_ready.1 hi
    have := hall i (Array.getElem?_eq_some_iff.1 ho).1
    rw [unl hun] at this
    cases this
  | succ k ihk =>
   intro L a W hs hI hc
   refine ⟨fun h => fin L a W (all_done hs ha h) hI, fun i hi => ?_⟩
   obtain ⟨hun, o, ho, hb⟩ := mem_ready.1 hi
   have hin : i < ops.size := (Array.getElem?_eq_some_iff.1 ho).1
   refine wpOp_mono (K := I (L.setIfInBounds i true)) (fun a' W' hI' => ?_) (step L a W i o hs hI ho (unl hun) fun e he => ?_)
   ·refine ihk _ a' W' (by simpa using hs) hI' ?_
    have := cnt_set L i (by rw [hs]; exact hin) (unl hun) ops.size
    rw [if_pos hin] at this
    omega
   ·unfold predsOf at he
    rw [List.mem_map] at he
    obtain ⟨ed, hed, rfl⟩ := he
    rw [List.mem_filter] at hed
    exact hb ed (by simpa using hed.1) hed.2
 exact key ops.size _ a _ (by simp) start (by rw [cnt_none]; exact Nat.le_refl _)
theorem wpOp_of {i : Nat} {o : Oper} {K : Act → World → Prop} {a : Act} {W : World} (ho : ops[i]? = some o) (hg : o.guard = none) (h : o.wp P a W K Q) : wpOp P ops Q i K a W := by
 unfold wpOp
 rw [ho]
 simp only [Region.wanted, hg, if_true]
 exact .inl h
theorem wpOp_if {i : Nat} {o : Oper} {K : Act → World → Prop} {a : Act} {W : World} (ho : ops[i]? = some o) (h : if Region.wanted o (yielded ops a.tmps) = true then o.wp P a W K Q else K (a.put o.dst undef) W) : wpOp P ops Q i K a W := by
 unfold wpOp
 rw [ho]
 simp only
 split at h
 ·rename_i hw
  rw [if_pos hw]
  exact .inl h
 ·rename_i hw
  rw [if_neg hw]
  exact h
end Go.Proofs.Ytopicidanlienaa.OrdL

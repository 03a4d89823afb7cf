import Derived.Test.YtekkoodlnaapeaaGreatDoorSx3
import Derived.Lib.Join
import Derived.Lib.Split
import Derived.Lib.CountLaws
import Derived.Lib.IndexLaws
import Derived.Lib.IndexBytes
import Derived.Lib.LastIndexByte
import Derived.Lib.Strings
/- The evaluator: statements, functions, soundness; the same for the kernel; memos; oracles. -/
set_option linter.unusedVariables false
set_option linter.unusedSimpArgs false
set_option linter.constructorNameAsVariable false
/- Statements and loops. -/
namespace Go.Proofs.YtekkoodlnaapeaaGreatDoor.SX
open Go.RowKit
/-! ### Statements -/
inductive CC where
  | skip
  | rg (ops : List CP)
  | rgD (ops : List DP)
  | seq (a b : CC)
  | cond (c : Opd) (a b : CC)
  | blk (id : Nat) (c : CC)
  | lp (c : CC)
  | ex (id : Nat)
  | ret
inductive Ex where
  | norm
  | ex (id : Nat)
  | ret
def Ex.exit : Ex → Exit
  | .norm => .normal
  | .ex id => .exit id
  | .ret => .ret
def cCode (P : Program) (K : Kx) : Code → Option CC
  | .skip => some .skip
  | .region _ ops draw => if draw then (cReg P K ops).map CC.rgD else (cOpers P ops ops.toList K).map CC.rg
  | .seq a b => match cCode P K a, cCode P K b with
    | some x, some y => some (.seq x y)
    | _, _ => none
  | .cond c a b => match cX K c, cCode P K a, cCode P K b with
    | some o, some x, some y => some (.cond o x y)
    | _, _, _ => none
  | .block id c => (cCode P K c).map fun x => .blk id x
  | .loop c => (cCode P K c).map CC.lp
  | .exit id => some (.ex id)
  | .ret => some .ret
  | _ => none
abbrev LoopF := CC → ET → Mem → Option (Ex × ET × Mem)
def evCode (C : Ctx) (ih : CallF) (lp : LoopF) : CC → ET → Mem → Option (Ex × ET × Mem)
  | .skip, e, m => some (.norm, e, m)
  | .rg ops, e, m => match evOps C ih ops ⟨[], e⟩ m with
    | some (e', m') => some (.norm, e', m')
    | none => none
  | .rgD ops, e, m => match evD C ih ops e m with
    | some (e', m') => some (.norm, e', m')
    | none => none
  | .seq a b, e, m => match evCode C ih lp a e m with
    | some (x, e', m') => match x with
      | .norm => evCode C ih lp b e' m'
      | .ex i => some (.ex i, e', m')
      | .ret => some (.ret, e', m')
    | none => none
  | .cond c a b, e, m => match c.ev ⟨[], e⟩ with
    | .v (.b t) => match t with
      | true => evCode C ih lp a e m
      | false => evCode C ih lp b e m
    | _ => none
  | .blk id c, e, m => match evCode C ih lp c e m with
    | some (x, e', m') => match x with
      | .norm => some (.norm, e', m')
      | .ex i => match Nat.beq i id with
        | true => some (.norm, e', m')
        | false => some (.ex i, e', m')
      | .ret => some (.ret, e', m')
    | none => none
  | .lp c, e, m => lp c e m
  | .ex id, e, m => some (.ex id, e, m)
  | .ret, e, m => some (.ret, e, m)
/-- A round more of a loop that has been entered. -/
def LoopWp (P : Program) (c : Code) (Q : Exit → Act → World → Prop) (a : Act) (w : World) : Prop :=
  ∀ (b : Frame) (k : List Item) (cs : List Frame), ∃ e a' w', Q e a' w' ∧ Arrives P (lone (b.at a (.code c :: .inLoop c :: k)) cs w) b k cs e a' w'
theorem loop_of {P : Program} {c : Code} {Q : Exit → Act → World → Prop} {a : Act} {w : World} (h : LoopWp P c Q a w) : (Code.loop c).wp P Q a w := fun b k cs => by
  obtain ⟨e, a', w', q, r⟩ := h b k cs
  exact ⟨e, a', w', q, .of_steps (.one step_loop) r⟩
theorem loop_round {P : Program} {c : Code} {Q : Exit → Act → World → Prop} {a : Act} {w : World} (h : c.wp P (Exit.then (LoopWp P c Q) Q) a w) : LoopWp P c Q a w := fun b k cs => by
  obtain ⟨e, a₁, w₁, hq, harr⟩ := h b (.inLoop c :: k) cs
  cases e with
  | normal =>
    obtain ⟨e₂, a₂, w₂, hq₂, harr₂⟩ := hq b k cs
    exact ⟨e₂, a₂, w₂, hq₂, .of_steps (Steps.trans harr (.one step_inLoop)) harr₂⟩
  | exit id => exact ⟨_, a₁, w₁, hq, .pass (x := .inLoop c) rfl (fun _ _ => .inl (by simp)) harr⟩
  | goto l => exact ⟨_, a₁, w₁, hq, .pass (x := .inLoop c) rfl (fun _ _ => .inl (by simp)) harr⟩
  | ret => exact ⟨_, a₁, w₁, hq, .pass (x := .inLoop c) rfl (fun _ _ => .inl (by simp)) harr⟩
  | panic ch => exact ⟨_, a₁, w₁, hq, .pass (x := .inLoop c) rfl (fun _ _ => .inl (by simp)) harr⟩
  | outgrown => exact ⟨_, a₁, w₁, hq, .pass (x := .inLoop c) rfl (fun _ _ => .inl (by simp)) harr⟩
section
variable {X : Env} {P : Program} {base : Nat → Prop} {C : Ctx}
/-- Loops are as they are reckoned. -/
def LH (X : Env) (P : Program) (base : Nat → Prop) (w0 : World) (lp : LoopF) : Prop :=
  ∀ (K : Kx), K.σ = [] → ∀ (code : Code) (c : CC), cCode P K code = some c → ∀ (ρ : List Loc) (e e' : ET) (m m' : Mem) (x : Ex) (a : Act) (W : World) (Q : Exit → Act → World → Prop), St X base w0 K ρ ⟨[], e⟩ m a W → lp c e m = some (x, e', m') →
    (∀ ρ' a' W', Ext ρ ρ' → St X base w0 K ρ' ⟨[], e'⟩ m' a' W' → Q x.exit a' W') → LoopWp P code Q a W
theorem evCode_ok (hC : COk C X.σ) {w0 : World} (hb0 : ∀ k, base k → k < w0.heap.size) (hJ : X.J base w0) {ih : CallF} (hih : IHA X P ih) {lp : LoopF} (hlp : LH X P base w0 lp) {K : Kx} (hσ : K.σ = []) : ∀ (code : Code) (c : CC), cCode P K code = some c →
    ∀ (ρ : List Loc) (e e' : ET) (m m' : Mem) (x : Ex) (a : Act) (W : World) (Q : Exit → Act → World → Prop), St X base w0 K ρ ⟨[], e⟩ m a W → evCode C ih lp c e m = some (x, e', m') →
    (∀ ρ' a' W', Ext ρ ρ' → St X base w0 K ρ' ⟨[], e'⟩ m' a' W' → Q x.exit a' W') → code.wp P Q a W := by
  intro code
  induction code with
  | skip =>
    intro c hc ρ e e' m m' x a W Q hS he hQ
    obtain rfl := Option.some.inj hc
    injection (Option.some.inj he) with q1 q2
    injection q2 with q2 q3
    subst q1 q2 q3
    exact wp_skip (hQ ρ a W (Ext.refl _) hS)
  | region id ops draw =>
    intro c hc ρ e e' m m' x a W Q hS he hQ
    simp only [cCode] at hc
    split at hc
    · rename_i hd
      obtain ⟨ds, hds, rfl⟩ := Option.map_eq_some_iff.1 hc
      simp only [evCode] at he
      split at he
      · rename_i e1 m1 h1
        injection (Option.some.inj he) with q1 q2
        injection q2 with q2 q3
        subst q1 q2 q3
        subst hd
        exact evD_ok hσ hC hb0 hJ hih hds hS h1 Q hQ id
      · cases he
    · rename_i hd
      obtain ⟨cps, hcps, rfl⟩ := Option.map_eq_some_iff.1 hc
      simp only [evCode] at he
      split at he
      · rename_i e1 m1 h1
        injection (Option.some.inj he) with q1 q2
        injection q2 with q2 q3
        subst q1 q2 q3
        obtain rfl : draw = false := by cases draw <;> simp_all
        refine wp_region ?_
        rw [List.range_eq_range']
        refine evOps_ok hC hb0 (hih base w0 hb0 hJ) Q cps 0 K ρ ⟨[], e⟩ _ m _ a W (by simpa using hcps) hS h1 ?_
        have hk : K.base = K := by unfold Kx.base; rw [← hσ]
        rw [hk]
        exact hQ
      · cases he
  | seq p q ih1 ih2 =>
    intro c hc ρ e e' m m' x a W Q hS he hQ
    simp only [cCode] at hc
    split at hc
    · rename_i cp cq h1 h2
      obtain rfl := Option.some.inj hc
      simp only [evCode] at he
      split at he
      · rename_i x1 e1 m1 hv
        refine wp_seq (ih1 cp h1 ρ e e1 m m1 x1 a W _ hS hv fun ρ' a' W' r1 r2 => ?_)
        split at he
        · exact ih2 cq h2 ρ' e1 e' m1 m' x a' W' Q r2 he fun ρ2 a2 W2 p1 p2 => hQ ρ2 a2 W2 (r1.trans p1) p2
        · injection (Option.some.inj he) with q1 q2
          injection q2 with q2 q3
          subst q1 q2 q3
          exact hQ ρ' a' W' r1 r2
        · injection (Option.some.inj he) with q1 q2
          injection q2 with q2 q3
          subst q1 q2 q3
          exact hQ ρ' a' W' r1 r2
      · cases he
    · cases hc
  | cond c0 p q ih1 ih2 =>
    intro c hc ρ e e' m m' x a W Q hS he hQ
    simp only [cCode] at hc
    split at hc
    · rename_i o cp cq h0 h1 h2
      obtain rfl := Option.some.inj hc
      simp only [evCode] at he
      have hv := ev_ok hS.e h0
      split at he
      · rename_i t ht
        rw [ht] at hv
        have hv : a.eval c0 = .bool t := hv
        split at he
        · exact wp_cond_true hv (ih1 cp h1 ρ e e' m m' x a W Q hS he hQ)
        · exact wp_cond_false hv (ih2 cq h2 ρ e e' m m' x a W Q hS he hQ)
      · cases he
    · cases hc
  | block id p ih1 =>
    intro c hc ρ e e' m m' x a W Q hS he hQ
    simp only [cCode] at hc
    obtain ⟨cp, h1, rfl⟩ := Option.map_eq_some_iff.1 hc
    simp only [evCode] at he
    split at he
    · rename_i x1 e1 m1 hv
      refine wp_block (ih1 cp h1 ρ e e1 m m1 x1 a W _ hS hv fun ρ' a' W' r1 r2 => ?_)
      split at he
      · injection (Option.some.inj he) with q1 q2
        injection q2 with q2 q3
        subst q1 q2 q3
        exact hQ ρ' a' W' r1 r2
      · rename_i i
        simp only [Ex.exit, Exit.inBlock]
        split at he
        · rename_i hi
          injection (Option.some.inj he) with q1 q2
          injection q2 with q2 q3
          subst q1 q2 q3
          rw [if_pos (Nat.eq_of_beq_eq_true hi)]
          exact hQ ρ' a' W' r1 r2
        · rename_i hi
          injection (Option.some.inj he) with q1 q2
          injection q2 with q2 q3
          subst q1 q2 q3
          rw [if_neg (Nat.ne_of_beq_eq_false hi)]
          exact hQ ρ' a' W' r1 r2
      · injection (Option.some.inj he) with q1 q2
        injection q2 with q2 q3
        subst q1 q2 q3
        exact hQ ρ' a' W' r1 r2
    · cases he
  | loop p ih1 =>
    intro c hc ρ e e' m m' x a W Q hS he hQ
    simp only [cCode] at hc
    obtain ⟨cp, h1, rfl⟩ := Option.map_eq_some_iff.1 hc
    exact loop_of (hlp K hσ p cp h1 ρ e e' m m' x a W Q hS he hQ)
  | exit id =>
    intro c hc ρ e e' m m' x a W Q hS he hQ
    obtain rfl := Option.some.inj hc
    injection (Option.some.inj he) with q1 q2
    injection q2 with q2 q3
    subst q1 q2 q3
    exact wp_exit (hQ ρ a W (Ext.refl _) hS)
  | ret =>
    intro c hc ρ e e' m m' x a W Q hS he hQ
    obtain rfl := Option.some.inj hc
    injection (Option.some.inj he) with q1 q2
    injection q2 with q2 q3
    subst q1 q2 q3
    exact wp_ret (hQ ρ a W (Ext.refl _) hS)
  | _ => intro c hc; cases hc
end
end Go.Proofs.YtekkoodlnaapeaaGreatDoor.SX

/- Functions, and all of it. -/
namespace Go.Proofs.YtekkoodlnaapeaaGreatDoor.SX
open Go.RowKit

inductive CR where
  | t (p : List Bool)
  | c (p : List Bool) (agg : Bool) (n : Nat)
structure CF where
  n : Nat
  w : Nat
  ix : List Nat
  ps : List (Option (List Bool))
  res : List CR
  body : CC
def cRes (P : Program) (K : Kx) : List ResultVar → Option (List CR)
  | [] => some []
  | r :: l => match r with
    | .tmp t => (K.pa t).bind fun p => (cRes P K l).map (CR.t p :: ·)
    | .cell t ty => (K.pa t).bind fun p => (aggOf P ty).bind fun g => (szOf P ty).bind fun s => (cRes P K l).map (CR.c p g s :: ·)
def cFunc (P : Program) (w : Nat) (ix : List Nat) (np : Nat) (F : Func) : Option CF :=
  match F.body with
  | some b => if F.name == "runtime.NumGoroutine" then none else if ix.length ≤ 2 ^ w ∧ ix.all (· < F.ntmps) = true ∧ np ≤ F.ntmps then (cRes P ⟨F.ntmps, w, ix, []⟩ F.results.toList).bind fun r => (cCode P ⟨F.ntmps, w, ix, []⟩ b).map fun c => ⟨F.ntmps, w, ix, (List.range' 0 np).map (Kx.pa ⟨F.ntmps, w, ix, []⟩), r, c⟩ else none
  | none => none
def initE : List (Option (List Bool)) → List SV → ET → Option ET
  | _, [], e => some e
  | [], _ :: _, _ => none
  | p :: ps, v :: r, e => match setD p v e with
    | some e' => initE ps r e'
    | none => none
def pickR (g : Bool) (n : Nat) (r : List S0) : Option SV :=
  match g with
  | true => match ltake n r with
    | some cs => some (.a cs)
    | none => none
  | false => match r with
    | c :: _ => some (.v c)
    | [] => none
def evR (e : ET) (m : Mem) : CR → Option SV
  | .t p => match ET.get p e with
    | some v => some v
    | none => some .u
  | .c p g n => match ET.get p e with
    | some (.v (.ptr id off)) => match HT.get m.t id with
      | some b => match ldrop off b.cells with
        | some r => pickR g n r
        | none => none
      | none => none
    | _ => none
def evRs (e : ET) (m : Mem) : List CR → Option (List SV)
  | [] => some []
  | r :: l => match evR e m r with
    | some v => match evRs e m l with
      | some t => some (v :: t)
      | none => none
    | none => none
def toT : List SV → Option (List T1)
  | [] => some []
  | x :: r => match x with
    | .v y => match toT r with
      | some t => some (.x y :: t)
      | none => none
    | .a cs => match toT r with
      | some t => some (.g cs :: t)
      | none => none
    | _ => none
def resOf (l : List SV) : Option SV :=
  match l with
  | [] => some .u
  | x :: r => match r with
    | [] => some x
    | y :: t => match toT (x :: y :: t) with
      | some xs => some (.t xs)
      | none => none
structure Fs where
  call : CallF
  loop : LoopF
def runF (C : Ctx) (ih : Fs) (cf : CF) (args : List SV) (m : Mem) : Option (SV × Mem) :=
  match initE cf.ps args .nil with
  | some e => match evCode C ih.call ih.loop cf.body e m with
    | some (x, e', m') => match x with
      | .ex _ => none
      | _ => match evRs e' m' cf.res with
        | some l => match resOf l with
          | some v => some (v, m')
          | none => none
        | none => none
    | none => none
  | none => none
abbrev Orc := Nat → Option (List SV → Mem → Option (SV × Mem))
def stepF (C : Ctx) (pg : Nat → Option CF) (orc : Orc) (ih : Fs) : Fs :=
  ⟨fun f args m => match orc f with
    | some g => g args m
    | none => match pg f with
      | some cf => runF C ih cf args m
      | none => none,
   fun c e m => match evCode C ih.call ih.loop c e m with
    | some (x, e', m') => match x with
      | .norm => ih.loop c e' m'
      | .ex i => some (.ex i, e', m')
      | .ret => some (.ret, e', m')
    | none => none⟩
def ev (C : Ctx) (pg : Nat → Option CF) (orc : Orc) (k : Nat) : Fs :=
  Nat.rec ⟨fun _ _ _ => none, fun _ _ _ => none⟩ (fun _ ih => stepF C pg orc ih) k
section
variable {X : Env} {P : Program} {base : Nat → Prop} {C : Ctx}
theorem initE_get {K : Kx} (hK : K.Ok) : ∀ (args : List SV) (i np : Nat) (e e' : ET), initE ((List.range' i np).map K.pa) args e = some e' →
    args.length ≤ np ∧ ∀ t p, K.pa t = some p → ET.get p e' = if i ≤ t ∧ t < i + args.length then args[t - i]? else ET.get p e
  | [], i, np, e, e', he => by
    have he : some e = some e' := by cases np <;> exact he
    obtain rfl := Option.some.inj he
    refine ⟨Nat.zero_le _, fun t p ht => ?_⟩
    rw [if_neg (by simp only [List.length_nil]; omega)]
  | v :: r, i, 0, e, e', he => by cases he
  | v :: r, i, np + 1, e, e', he => by
    rw [List.range'_succ, List.map_cons] at he
    unfold initE at he
    split at he
    · rename_i e1 h1
      obtain ⟨hle, ih⟩ := initE_get hK r (i + 1) np e1 e' he
      refine ⟨by simpa using hle, fun t p ht => ?_⟩
      rw [ih t p ht]
      simp only [List.length_cons]
      have hset : ET.get p e1 = if t = i then some v else ET.get p e := by
        cases hp : K.pa i with
        | none =>
          rw [hp] at h1
          obtain rfl := Option.some.inj h1
          rw [if_neg]
          intro q
          rw [q, hp] at ht
          cases ht
        | some q =>
          rw [hp] at h1
          have hs := ET.set_ok h1
          by_cases c : t = i
          · subst c
            rw [ht] at hp
            obtain rfl := Option.some.inj hp
            rw [if_pos rfl, hs.1]
          · rw [if_neg c, hs.2 p (by rw [K.pa_len ht, K.pa_len hp]) (fun e => c (K.pa_inj hK ht (e ▸ hp)))]
      by_cases c : t = i
      · subst c
        rw [if_neg (by omega), if_pos (by omega), hset, if_pos rfl]
        simp
      · by_cases c2 : i ≤ t ∧ t < i + (r.length + 1)
        · rw [if_pos (by omega), if_pos c2]
          have : t - i = (t - (i + 1)) + 1 := by omega
          rw [this]
          simp
        · rw [if_neg (by omega), if_neg c2, hset, if_neg c]
    · cases he
theorem RL.get {ρ : List Loc} : ∀ {x : List SV} {v : List Value} {i : Nat} {c : SV}, RL X ρ x v → x[i]? = some c → ∃ u, v[i]? = some u ∧ R X ρ c u
  | [], _, _, _, _, h => by simp at h
  | x :: r, [], _, _, h, _ => h.elim
  | x :: r, v :: t, 0, c, h, h2 => by
    obtain rfl := Option.some.inj h2
    exact ⟨v, rfl, h.1⟩
  | x :: r, v :: t, i + 1, c, h, h2 => by
    obtain ⟨u, h3, h4⟩ := RL.get (i := i) h.2 (by simpa using h2)
    exact ⟨u, by simpa using h3, h4⟩
theorem RL.len {ρ : List Loc} : ∀ {x : List SV} {v : List Value}, RL X ρ x v → x.length = v.length
  | [], [], _ => rfl
  | _ :: _, _ :: _, h => by simp [RL.len h.2]
  | [], _ :: _, h => h.elim
  | _ :: _, [], h => h.elim
theorem init_ok {ρ : List Loc} {K : Kx} (hσ : K.σ = []) (hK : K.Ok) {np : Nat} {args : List SV} {vals : List Value} {e : ET} (hl : RL X ρ args vals) (hn : np ≤ K.n) (he : initE ((List.range' 0 np).map K.pa) args .nil = some e) :
    RE' X ρ K ⟨[], e⟩ (vals.toArray ++ Array.replicate (K.n - vals.toArray.size) undef) := by
  have hlen := hl.len
  obtain ⟨hle, hg⟩ := initE_get hK args 0 np .nil e he
  have hsz : (vals.toArray ++ Array.replicate (K.n - vals.toArray.size) undef).size = K.n := by simp; omega
  refine ⟨hsz, hK, fun t p ht => ?_, fun i d hi => by rw [hσ] at hi; cases hi⟩
  show R X ρ ((ET.get p e).getD .u) _
  rw [hg t p ht]
  by_cases c : t < args.length
  · rw [if_pos (by omega)]
    obtain ⟨u, h1, h2⟩ := hl.get (List.getElem?_eq_getElem c)
    simp only [Nat.sub_zero]
    rw [List.getElem?_eq_getElem c]
    have e1 : (vals.toArray ++ Array.replicate (K.n - vals.toArray.size) undef).getD t undef = u := by
      rw [Array.getD_eq_getD_getElem?, Array.getElem?_append_left (by simp; omega)]
      simp [h1]
    rw [e1]
    exact h2
  · rw [if_neg (by omega), ET.get_nil]
    have e1 : (vals.toArray ++ Array.replicate (K.n - vals.toArray.size) undef).getD t undef = undef := by
      rw [Array.getD_eq_getD_getElem?, Array.getElem?_append_right (by simp; omega)]
      simp only [Array.getElem?_replicate]
      split <;> rfl
    rw [e1]
    rfl
theorem load_ok {ρ : List Loc} {m : Mem} {W : World} (hm : RH X ρ base m W) {ty : TypeId} {g : Bool} {s : Nat} (hg : aggOf P ty = some g) (hs : szOf P ty = some s) {id off : Nat} {b : Blk} {r : List S0} (hb : HT.get m.t id = some b) (hr : ldrop off b.cells = some r)
    {v : SV} (h : pickR g s r = some v) {u : Value} (hu : R X ρ (.v (.ptr id off)) u) : ∃ x, R X ρ v x ∧ (do loadVar ty (← asAddr u) : Sem Value).run P W = .ok x W := by
  have he : evE ⟨[], .lf (.v (.ptr id off))⟩ m (.ld g s (.t [])) = some (v, m) := by
    simp only [evE, Opd.ev, ET.get, hb, hr]
    unfold pickR at h
    cases g with
    | true =>
      simp only at h ⊢
      split at h
      · rename_i cs hcs
        rw [hcs, ← Option.some.inj h]
      · cases h
    | false =>
      simp only at h ⊢
      split at h
      · rw [← Option.some.inj h]
      · cases h
  have hE : RE' X ρ ⟨1, 0, [0], []⟩ ⟨[], .lf (.v (.ptr id off))⟩ (#[u] : Array Value) := ⟨rfl, ⟨by simp, fun t ht => by
    obtain rfl : t = 0 := by simpa using ht
    exact Nat.one_pos⟩, fun t p ht => by
    obtain ⟨i, hi, rfl⟩ := Kx.pa_inv ht
    have hi : ([0] : List Nat)[i]? = some t := hi
    cases i with
    | zero =>
      obtain rfl := Option.some.inj hi
      exact hu
    | succ i => simp at hi, fun i d hi => by cases hi⟩
  obtain ⟨_, x, h1, h2⟩ := e_ld (a := ⟨#[u], []⟩) (x := .tmp 0) (P := P) hE hm hg hs (by rfl) he
  refine ⟨x, h1, ?_⟩
  obtain ⟨l, hl, rfl⟩ := hu
  have h3 : (Instr.loadAt ty (.pointer (some ⟨l.blk, l.off + off, none⟩))).run P W = .ok x W := by
    have h4 : (do pure (Next.value (← Instr.loadAt ty (.pointer (some ⟨l.blk, l.off + off, none⟩)))) : Sem Next).run P W = .ok (.value x) W := h2
    rw [Sem.run_bind] at h4
    cases hh : (Instr.loadAt ty (.pointer (some ⟨l.blk, l.off + off, none⟩))).run P W with
    | ok y W2 =>
      rw [hh] at h4
      simp only [Result.andThen_ok, Sem.run_pure] at h4
      injection h4 with h5 h6
      injection h5 with h5
      rw [h5, h6]
    | halt y W2 => rw [hh] at h4; cases h4
  rw [← h3]
  rfl
def resOne (tmps : Array Value) : ResultVar → Sem Value
  | .tmp t => pure (tmps.getD t undef)
  | .cell c t => do loadVar t (← asAddr (tmps.getD c undef))
theorem evRs_ok {K : Kx} {ρ : List Loc} {e : ET} {m : Mem} {a : Act} {W : World} {w0 : World} (hS : St X base w0 K ρ ⟨[], e⟩ m a W) : ∀ (rs : List ResultVar) (crs : List CR) (l : List SV), cRes P K rs = some crs → evRs e m crs = some l →
    ∃ vs : List Value, (rs.mapM (resOne a.tmps)).run P W = .ok vs W ∧ RL X ρ l vs
  | [], crs, l, hc, he => by
    obtain rfl := Option.some.inj hc
    obtain rfl := Option.some.inj he
    exact ⟨[], by simp, trivial⟩
  | r :: rs, crs, l, hc, he => by
    have key : ∀ (cr : CR) (crs' : List CR), crs = cr :: crs' → cRes P K rs = some crs' → (∀ v, evR e m cr = some v → ∃ x, R X ρ v x ∧ (resOne a.tmps r).run P W = .ok x W) →
      ∃ vs : List Value, ((r :: rs).mapM (resOne a.tmps)).run P W = .ok vs W ∧ RL X ρ l vs := by
      rintro cr crs' rfl hc' hv
      unfold evRs at he
      split at he
      · rename_i v h1
        split at he
        · rename_i t h2
          obtain rfl := Option.some.inj he
          obtain ⟨x, hx1, hx2⟩ := hv v h1
          obtain ⟨vs, q1, q2⟩ := evRs_ok hS rs crs' t hc' h2
          refine ⟨x :: vs, ?_, hx1, q2⟩
          rw [List.mapM_cons, Sem.run_bind, hx2, Result.andThen_ok, Sem.run_bind, q1]
          rfl
        · cases he
      · cases he
    cases r with
    | tmp t =>
      simp only [cRes] at hc
      obtain ⟨pt, ht, hc⟩ := Option.bind_eq_some_iff.1 hc
      obtain ⟨crs', h1, rfl⟩ := Option.map_eq_some_iff.1 hc
      refine key _ crs' rfl h1 fun v hv => ?_
      have hr := hS.e.2.2.1 t pt ht
      refine ⟨a.tmps.getD t undef, ?_, rfl⟩
      simp only [evR] at hv
      split at hv
      · rename_i y hy
        rw [hy] at hr
        obtain rfl := Option.some.inj hv
        exact hr
      · rename_i hy
        rw [hy] at hr
        obtain rfl := Option.some.inj hv
        exact hr
    | cell t ty =>
      simp only [cRes] at hc
      obtain ⟨pt, ht, hc⟩ := Option.bind_eq_some_iff.1 hc
      obtain ⟨g, hg, hc⟩ := Option.bind_eq_some_iff.1 hc
      obtain ⟨s, hs, hc⟩ := Option.bind_eq_some_iff.1 hc
      obtain ⟨crs', h1, rfl⟩ := Option.map_eq_some_iff.1 hc
      refine key _ crs' rfl h1 fun v hv => ?_
      have hr := hS.e.2.2.1 t pt ht
      simp only [evR] at hv
      split at hv
      · rename_i id off hy
        rw [hy] at hr
        split at hv
        · rename_i b hb
          split at hv
          · rename_i rr hrr
            exact load_ok hS.m hg hs hb hrr hv hr
          · cases hv
        · cases hv
      · cases hv
theorem toT_ok {ρ : List Loc} : ∀ {l : List SV} {xs : List T1} {vs : List Value}, toT l = some xs → RL X ρ l vs → RT X ρ xs vs
  | [], xs, [], h, _ => by obtain rfl := Option.some.inj h; trivial
  | [], _, _ :: _, _, hl => hl.elim
  | x :: l, xs, [], h, hl => hl.elim
  | x :: l, xs, v :: vs, h, hl => by
    unfold toT at h
    split at h
    · split at h
      · rename_i t ht
        obtain rfl := Option.some.inj h
        exact ⟨hl.1, toT_ok ht hl.2⟩
      · cases h
    · split at h
      · rename_i t ht
        obtain rfl := Option.some.inj h
        exact ⟨hl.1, toT_ok ht hl.2⟩
      · cases h
    · cases h
theorem runF_ok (hC : COk C X.σ) {w0 : World} (hb0 : ∀ k, base k → k < w0.heap.size) (hJ : X.J base w0) {ih : Fs} (hih : IHA X P ih.call) (hlp : LH X P base w0 ih.loop) {f : FuncId} {F : Func} {cf : CF} (hF : P.funcs[f]? = some F) {w : Nat} {ix : List Nat} {np : Nat} (hc : cFunc P w ix np F = some cf) {args : List SV} {m m' : Mem} {v : SV} (h : runF C ih cf args m = some (v, m')) :
    (∀ ays W, (callFunc f ays).run P W = .ok (.enter f ays) W) ∧ ∀ ρ W (vals : List Value), RL X ρ args vals → RH X ρ base m W → Fz base w0 W → Calls P f vals.toArray W (Post X ρ base w0 m' v) := by
  unfold cFunc at hc
  split at hc
  · rename_i b hb
    split at hc
    · cases hc
    · rename_i hnm
      split at hc
      · rename_i hw
        obtain ⟨crs, hr, hc⟩ := Option.bind_eq_some_iff.1 hc
        obtain ⟨c, hcc, rfl⟩ := Option.map_eq_some_iff.1 hc
        refine ⟨fun ays W => by simp [callFunc, hF, hb, show ¬ F.name = "runtime.NumGoroutine" from fun q => hnm (by rw [q]; rfl)], fun ρ W vals hl hm hB => ?_⟩
        unfold runF at h
        have hK : (⟨F.ntmps, w, ix, []⟩ : Kx).Ok := ⟨hw.1, fun t ht => by
          have := List.all_eq_true.1 hw.2.1 t ht
          exact of_decide_eq_true this⟩
        · split at h
          · rename_i e he
            split at h
            · rename_i x e' m1 hv
              have hS : St X base w0 ⟨F.ntmps, w, ix, []⟩ ρ ⟨[], e⟩ m { tmps := vals.toArray ++ Array.replicate (F.ntmps - vals.toArray.size) undef, defers := [] } W := ⟨init_ok (K := ⟨F.ntmps, w, ix, []⟩) rfl hK hl hw.2.2 he, rfl, hm, hB⟩
              refine calls_of_wp hF hb (evCode_ok hC hb0 hJ hih hlp rfl b c hcc ρ e e' m m1 x _ W _ hS hv fun ρ' a' W' q1 q2 => ?_)
              have fin : (match evRs e' m1 crs with
                  | some l => match resOf l with
                    | some v => some (v, m1)
                    | none => none
                  | none => none) = some (v, m') → a'.defers = [] ∧ ∃ v', (results F a'.tmps).run P W' = .ok v' W' ∧ Post X ρ base w0 m' v (.returned v') W' := by
                intro h
                refine ⟨q2.d, ?_⟩
                split at h
                · rename_i l hl2
                  split at h
                  · rename_i v1 hv1
                    obtain ⟨rfl, rfl⟩ := Prod.mk.inj (Option.some.inj h)
                    obtain ⟨vs, p1, p2⟩ := evRs_ok (P := P) q2 F.results.toList crs l hr hl2
                    have hres : (results F a'.tmps).run P W' = .ok (if h : vs.toArray.size = 1 then vs.toArray[0] else .tuple vs.toArray) W' := by
                      have e1 : results F a'.tmps = (do
                        let vs ← F.results.mapM (resOne a'.tmps)
                        pure (if h : vs.size = 1 then vs[0] else .tuple vs)) := by
                        unfold results
                        congr 1
                      rw [e1, Sem.run_bind, Array.mapM_eq_mapM_toList, Sem.run_map, p1]
                      rfl
                    refine ⟨_, hres, ρ', _, rfl, q1, ?_, q2.m, q2.b⟩
                    have hlen := p2.len
                    unfold resOf at hv1
                    split at hv1
                    · obtain rfl := Option.some.inj hv1
                      have hv0 : vs = [] := List.eq_nil_of_length_eq_zero (by simpa using hlen.symm)
                      subst hv0
                      rfl
                    · rename_i x1 r1
                      split at hv1
                      · obtain rfl := Option.some.inj hv1
                        cases vs with
                        | nil => simp at hlen
                        | cons u us => cases us with
                          | nil => exact p2.1
                          | cons _ _ => simp at hlen
                      · rename_i y1 t1
                        split at hv1
                        · rename_i xs hxs
                          obtain rfl := Option.some.inj hv1
                          have hne : ¬ vs.toArray.size = 1 := by simp at hlen ⊢; omega
                          rw [dif_neg hne]
                          exact ⟨_, rfl, by simpa using toT_ok hxs p2⟩
                        · cases hv1
                  · cases h
                · cases h
              cases x with
              | norm => exact fin h
              | ret => exact fin h
              | ex i => cases h
            · cases h
          · cases h
      · cases hc
  · cases hc
/-- The oracles are true. -/
def OrcOk (X : Env) (P : Program) (orc : Orc) : Prop :=
  ∀ f g, orc f = some g → ∀ args m v m', g args m = some (v, m') → (∀ ays W, (callFunc f ays).run P W = .ok (.enter f ays) W) ∧
    ∀ (base : Nat → Prop) (w0 : World), (∀ k, base k → k < w0.heap.size) → X.J base w0 → ∀ ρ W (vals : List Value), RL X ρ args vals → RH X ρ base m W → Fz base w0 W → Calls P f vals.toArray W (Post X ρ base w0 m' v)
def PgOk (P : Program) (pg : Nat → Option CF) : Prop := ∀ f cf, pg f = some cf → ∃ F w ix np, P.funcs[f]? = some F ∧ cFunc P w ix np F = some cf
theorem ev_ok' (hC : COk C X.σ) {pg : Nat → Option CF} {orc : Orc} (hp : PgOk P pg) (ho : OrcOk X P orc) : ∀ k, IHA X P (ev C pg orc k).call ∧ ∀ (base : Nat → Prop) (w0 : World), (∀ k, base k → k < w0.heap.size) → X.J base w0 → LH X P base w0 (ev C pg orc k).loop
  | 0 => ⟨(fun base w0 hb hJ f args m v m' h => by cases h), (fun base w0 hb hJ K hσ code c hc ρ e e' m m' x a W Q hS h => by cases h)⟩
  | k + 1 => by
    obtain ⟨ih1, ih2⟩ := ev_ok' hC hp ho k
    constructor
    · intro base w0 hb0 hJ f args m v m' h
      have h : (match orc f with
        | some g => g args m
        | none => match pg f with
          | some cf => runF C (ev C pg orc k) cf args m
          | none => none) = some (v, m') := h
      split at h
      · rename_i g hg
        exact ⟨(ho f g hg args m v m' h).1, (ho f g hg args m v m' h).2 base w0 hb0 hJ⟩
      · split at h
        · rename_i cf hcf
          obtain ⟨F, w, ix, np, hF, hcF⟩ := hp f cf hcf
          exact runF_ok hC hb0 hJ ih1 (ih2 base w0 hb0 hJ) hF hcF h
        · cases h
    · intro base w0 hb0 hJ K hσ code c hc ρ e e' m m' x a W Q hS h hQ
      have h : (match evCode C (ev C pg orc k).call (ev C pg orc k).loop c e m with
        | some (x, e', m') => match x with
          | .norm => (ev C pg orc k).loop c e' m'
          | .ex i => some (.ex i, e', m')
          | .ret => some (.ret, e', m')
        | none => none) = some (x, e', m') := h
      refine loop_round ?_
      split at h
      · rename_i x1 e1 m1 hv
        refine evCode_ok hC hb0 hJ ih1 (ih2 base w0 hb0 hJ) hσ code c hc ρ e e1 m m1 x1 a W _ hS hv fun ρ' a' W' q1 q2 => ?_
        split at h
        · exact ih2 base w0 hb0 hJ K hσ code c hc ρ' e1 e' m1 m' x a' W' Q q2 h fun ρ2 a2 W2 p1 p2 => hQ ρ2 a2 W2 (q1.trans p1) p2
        · injection (Option.some.inj h) with p1 p2
          injection p2 with p2 p3
          subst p1 p2 p3
          exact hQ ρ' a' W' q1 q2
        · injection (Option.some.inj h) with p1 p2
          injection p2 with p2 p3
          subst p1 p2 p3
          exact hQ ρ' a' W' q1 q2
      · cases h
end
/-- The functions by their numbers. -/
inductive PT where
  | lf (k : Nat) (c : CF)
  | nd (k : Nat) (l r : PT)
def PT.get : PT → Nat → Option CF
  | .lf k c, f => match Nat.beq f k with
    | true => some c
    | false => none
  | .nd k l r, f => match Nat.blt f k with
    | true => l.get f
    | false => r.get f
def PT.Ok (P : Program) : PT → Prop
  | .lf k c => ∃ F w ix np, P.funcs[k]? = some F ∧ cFunc P w ix np F = some c
  | .nd _ l r => l.Ok P ∧ r.Ok P
theorem PT.ok_get {P : Program} : ∀ {t : PT}, t.Ok P → PgOk P t.get
  | .lf k c, h, f, cf, hg => by
    unfold PT.get at hg
    split at hg
    · rename_i e
      obtain rfl := Option.some.inj hg
      rw [Nat.eq_of_beq_eq_true e]
      exact h
    · cases hg
  | .nd k l r, h, f, cf, hg => by
    unfold PT.get at hg
    split at hg
    · exact PT.ok_get h.1 f cf hg
    · exact PT.ok_get h.2 f cf hg
end Go.Proofs.YtekkoodlnaapeaaGreatDoor.SX

namespace Go.Proofs.YtekkoodlnaapeaaGreatDoor.SX
def f_mv (C : Ctx) (e : EV) (x : Opd) : Option SV := some (x.ev e)
def f_pick (C : Ctx) (e : EV) (c : Opd) (a : Opd) (b : Opd) : Option SV := match c.ev e with
    | .v (.b t) => match t with
      | true => some (a.ev e)
      | false => some (b.ev e)
    | _ => none
def f_bld (C : Ctx) (e : EV) (z : List S0) (ps : List (Nat × Nat × Opd)) : Option SV := match fillA e z ps with
    | some cs => some (.a cs)
    | none => none
def f_nilc (C : Ctx) (e : EV) (x : Opd) : Option SV := match x.ev e with
    | .v (.ptr i o) => some (.v (.ptr i o))
    | .f fn a b => some (.f fn a b)
    | _ => none
def f_bin (C : Ctx) (e : EV) (op : BinOp) (x : Opd) (y : Opd) : Option SV := evBin C op (x.ev e) (y.ev e)
def f_eqv (C : Ctx) (e : EV) (neg : Bool) (k : EK) (x : Opd) (y : Opd) : Option SV := match neg with
    | true => nb (evEq C k (x.ev e) (y.ev e))
    | false => bb (evEq C k (x.ev e) (y.ev e))
def f_not (C : Ctx) (e : EV) (x : Opd) : Option SV := match x.ev e with
    | .v (.b t) => match t with
      | true => some (.v (.b false))
      | false => some (.v (.b true))
    | _ => none
def f_conv (C : Ctx) (e : EV) (k : IntKind) (x : Opd) : Option SV := match x.ev e with
    | .v (.i _ s) => arith C k s
    | _ => none
def f_convS (C : Ctx) (e : EV) (x : Opd) : Option SV := match x.ev e with
    | .v (.s q) => some (.v (.s q))
    | _ => none
def f_slS (C : Ctx) (e : EV) (x : Opd) (lo : Option Opd) (hi : Option Opd) : Option SV := match x.ev e with
    | .v (.s q) => match (match hi with
        | none => some q
        | some h => match h.ev e with
          | .v (.i _ n) => stake C.R C.D q n
          | _ => none) with
      | some q1 => match lo with
        | none => some (.v (.s q1))
        | some l => match l.ev e with
          | .v (.i _ n) => match sdrop C.R C.D q1 n with
            | some q2 => some (.v (.s q2))
            | none => none
          | _ => none
      | none => none
    | _ => none
def f_slL (C : Ctx) (e : EV) (sz : Nat) (x : Opd) (lo : Option Opd) (hi : Option Opd) (mx : Option Opd) : Option SV := match x.ev e with
    | .v (.sl id off len s1 cap) => match Nat.beq s1 sz with
     | false => none
     | true => match boundO e 0 lo, boundO e len hi with
      | some l, some h => if Nat.ble l h then (if Nat.ble h len then (match mx with
        | none => match fzN (off + l * sz), fzN (h - l) with
          | some o', some n' => match cap with
            | none => some (.v (.sl id o' n' sz none))
            | some c => match fzN (c - l) with
              | some c' => some (.v (.sl id o' n' sz (some c')))
              | none => none
          | _, _ => none
        | some m => match hi, natOf (m.ev e) with
          | some _, some m => if Nat.ble h m then (if Nat.ble m len then (match fzN (off + l * sz), fzN (h - l), fzN (m - l) with
            | some o', some n', some c' => some (.v (.sl id o' n' sz (some c')))
            | _, _, _ => none) else none) else none
          | _, _ => none) else none) else none
      | _, _ => none
    | .v .nils => match boundO e 0 lo, boundO e 0 hi, mx with
      | some 0, some 0, none => some (.v .nils)
      | _, _, _ => none
    | _ => none
def f_fa (C : Ctx) (e : EV) (off : Nat) (x : Opd) : Option SV := match x.ev e with
    | .v (.ptr i o) => match fzN (o + off) with
      | some o' => some (.v (.ptr i o'))
      | none => none
    | _ => none
def f_fld (C : Ctx) (e : EV) (agg : Bool) (off : Nat) (n : Nat) (x : Opd) : Option SV := match x.ev e with
    | .a cs => match ldrop off cs with
      | some r => match agg with
        | true => match ltake n r with
          | some t => some (.a t)
          | none => none
        | false => match r with
          | c :: _ => some (.v c)
          | [] => none
      | none => none
    | _ => none
def f_ixA (C : Ctx) (e : EV) (sz : Nat) (x : Opd) (i : Opd) : Option SV := match x.ev e with
    | .v (.sl id off len _ _) => match natOf (i.ev e) with
      | some j => if Nat.blt j len then (match fzN (off + j * sz) with
        | some o' => some (.v (.ptr id o'))
        | none => none) else none
      | none => none
    | _ => none
def f_ixS (C : Ctx) (e : EV) (x : Opd) (i : Opd) : Option SV := match x.ev e with
    | .v (.s q) => match i.ev e with
      | .v (.i _ n) => match sdrop C.R C.D q n with
        | some r => match shead C.D r with
          | some s => some (.v (.i .u8 s))
          | none => none
        | none => none
      | _ => none
    | _ => none
def f_mkF (C : Ctx) (e : EV) (f : Nat) (first : List Opd) (cap : List Opd) : Option SV := match s0s e first, s0s e cap with
    | some a, some b => some (.f f a b)
    | _, _ => none
def f_ext (C : Ctx) (e : EV) (i : Nat) (x : Opd) : Option SV := match x.ev e with
    | .t xs => match nthT xs i with
      | some (.x v) => some (.v v)
      | some (.g cs) => some (.a cs)
      | none => none
    | _ => none
def f_lenS (C : Ctx) (e : EV) (x : Opd) : Option SV := match x.ev e with
    | .v (.s q) => match slen C.D q with
      | some n => match frc n with
        | some r => some (.v (.i .i64 r))
        | none => none
      | none => none
    | _ => none
def f_lenL (C : Ctx) (e : EV) (x : Opd) : Option SV := match x.ev e with
    | .v (.sl _ _ len _ _) => some (.v (.i .i64 (.c (.ofNat len))))
    | .v .nils => some (.v (.i .i64 (.c 0)))
    | _ => none
def f_mx (C : Ctx) (e : EV) (x : Opd) (y : Opd) : Option SV := match x.ev e, y.ev e with
    | .v (.i k a), .v (.i _ b) => match SI.lt? C.R a b with
      | some t => match t with
        | true => some (.v (.i k b))
        | false => some (.v (.i k a))
      | none => none
    | _, _ => none
def f_mn (C : Ctx) (e : EV) (x : Opd) (y : Opd) : Option SV := match x.ev e, y.ev e with
    | .v (.i k a), .v (.i _ b) => match SI.lt? C.R b a with
      | some t => match t with
        | true => some (.v (.i k b))
        | false => some (.v (.i k a))
      | none => none
    | _, _ => none
def evPf (C : Ctx) (e : EV) : CO → Option SV
  | .mv x => f_mv C e x
  | .pick c a b => f_pick C e c a b
  | .bld z ps => f_bld C e z ps
  | .nilc x => f_nilc C e x
  | .bin op x y => f_bin C e op x y
  | .eqv neg k x y => f_eqv C e neg k x y
  | .not x => f_not C e x
  | .conv k x => f_conv C e k x
  | .convS x => f_convS C e x
  | .slS x lo hi => f_slS C e x lo hi
  | .slL sz x lo hi mx => f_slL C e sz x lo hi mx
  | .fa off x => f_fa C e off x
  | .fld agg off n x => f_fld C e agg off n x
  | .ixA sz x i => f_ixA C e sz x i
  | .ixS x i => f_ixS C e x i
  | .mkF f first cap => f_mkF C e f first cap
  | .ext i x => f_ext C e i x
  | .lenS x => f_lenS C e x
  | .lenL x => f_lenL C e x
  | .mx x y => f_mx C e x y
  | .mn x y => f_mn C e x y
  | _ => none
theorem evPf_eq (C : Ctx) (e : EV) (op : CO) : evPf C e op = evP C e op := by cases op <;> rfl
def g_alloc (e : EV) (m : Mem) (ty : Nat) (z : List S0) : Option (SV × Mem) := match newRowM m ty z with
    | some m' => some (.v (.ptr m.nx 0), m')
    | none => none
def g_box (e : EV) (m : Mem) (ty : Nat) (x : Opd) : Option (SV × Mem) := match cellsO (x.ev e) with
    | some cs => match newRowM m ty cs with
      | some m' => some (.v (.ptr m.nx 0), m')
      | none => none
    | none => none
def g_bldS (e : EV) (m : Mem) (ty : Nat) (len : Nat) (z : List S0) (q : List (Nat × Nat × Opd)) (sz : Nat) : Option (SV × Mem) := match fillA e z q with
    | some cs => match newRowM m ty cs with
      | some m' => some (.v (.sl m.nx 0 len sz (some len)), m')
      | none => none
    | none => none
def g_ld (e : EV) (m : Mem) (agg : Bool) (n : Nat) (x : Opd) : Option (SV × Mem) := match x.ev e with
    | .v (.ptr id off) => match HT.get m.t id with
      | some b => match ldrop off b.cells with
        | some r => match agg with
          | true => match ltake n r with
            | some cs => some (.a cs, m)
            | none => none
          | false => match r with
            | c :: _ => some (.v c, m)
            | [] => none
        | none => none
      | none => none
    | _ => none
def g_st (e : EV) (m : Mem) (n : Nat) (x : Opd) (y : Opd) : Option (SV × Mem) := match x.ev e with
    | .v (.ptr id off) => match cellsO (y.ev e) with
      | some cs => match Nat.beq cs.length n with
        | true => match HT.get m.t id with
          | some b => match lover cs off b.cells with
            | some c' => match HT.put (some ⟨b.ty, c'⟩) m.t id with
              | some t => some (.u, ⟨t, m.nx⟩)
              | none => none
            | none => none
          | none => none
        | false => none
      | none => none
    | _ => none
def g_mark (e : EV) (m : Mem) (x : Opd) : Option (SV × Mem) := match x.ev e with
    | .v (.sl id off (Nat.succ k) sz cap) => match HT.get m.t id with
      | some _ => some (.v (.sl id off (Nat.succ k) sz cap), m)
      | none => none
    | _ => none
def g_mkS (e : EV) (m : Mem) (ty : Nat) (_s : Nat) (bytes : Nat) (z : List S0) (l : Opd) (c : Opd) : Option (SV × Mem) := match natOf (l.ev e), natOf (c.ev e) with
    | some l, some c => match Nat.beq l c with
      | true => match Nat.ble c 4096 with
        | true => match Nat.ble bytes 4096 with
          | true => match repO z c with
            | some cs => match newRowM m ty cs with
              | some m' => some (.v (.sl m.nx 0 l 1 (some c)), m')
              | none => none
            | none => none
          | false => none
        | false => none
      | false => none
    | _, _ => none
def g_app (e : EV) (m : Mem) (ty : Nat) (sz : Nat) (bytes : Nat) (s : Opd) (x : Opd) : Option (SV × Mem) := match rowOf m sz (x.ev e) with
    | some new => match lenOf' (x.ev e) with
      | 0 => match s.ev e with
        | .v (.sl a b c d f) => some (.v (.sl a b c d f), m)
        | .v .nils => some (.v .nils, m)
        | _ => none
      | Nat.succ k => match rowOf m sz (s.ev e) with
        | some old => match fzN (lenOf' (s.ev e) + Nat.succ k) with
          | some need => match Nat.ble need 100000 with
            | true => match Nat.ble bytes 10000 with
              | true => match appO old new with
                | some cs => match dropRow m ty need (s.ev e) with
                  | some t => match newRowM ⟨t, m.nx⟩ ty cs with
                    | some m' => some (.v (.sl m.nx 0 need sz none), m')
                    | none => none
                  | none => none
                | none => none
              | false => none
            | false => none
          | none => none
        | none => none
    | none => none
def evEf (e : EV) (m : Mem) : CO → Option (SV × Mem)
  | .alloc ty z => g_alloc e m ty z
  | .box ty x => g_box e m ty x
  | .bldS ty len z q sz => g_bldS e m ty len z q sz
  | .ld agg n x => g_ld e m agg n x
  | .st n x y => g_st e m n x y
  | .mark x => g_mark e m x
  | .mkS ty _s bytes z l c => g_mkS e m ty _s bytes z l c
  | .app ty sz bytes s x => g_app e m ty sz bytes s x
  | _ => none
theorem evEf_eq (e : EV) (m : Mem) (op : CO) : evEf e m op = evE e m op := by cases op <;> rfl

def ev1f (C : Ctx) (ih : CallF) (e : EV) (m : Mem) (op : CO) : Option (SV × Mem) :=
  match op with
  | .call f args => ih f (evs e args) m
  | .callv x args => match x.ev e with
    | .f f first cap => ih f (toSV first ++ (evs e args ++ toSV cap)) m
    | _ => none
  | op => match isE op with
    | true => evEf e m op
    | false => match evPf C e op with
      | some v => some (v, m)
      | none => none
theorem ev1f_eq (C : Ctx) (ih : CallF) (e : EV) (m : Mem) (op : CO) : ev1f C ih e m op = ev1 C ih e m op := by
  cases op <;> first | rfl | (simp only [ev1f, ev1, evEf_eq, evPf_eq])
end Go.Proofs.YtekkoodlnaapeaaGreatDoor.SX

/- Fast words for numbers that are known. -/
namespace Go.Proofs.YtekkoodlnaapeaaGreatDoor.SX
theorem frc_c (n : Int) : frc (.c n) = some (.c n) := by
  unfold frc fzI
  cases n with
  | ofNat a => cases a <;> rfl
  | negSucc a => cases a <;> rfl
theorem inB_c {R : List (Int × Int)} {lo hi n : Int} (h1 : lo ≤ n) (h2 : n ≤ hi) : SI.inB R lo hi (.c n) = true := by
  unfold SI.inB SI.br
  simp only [ilt_iff]
  rw [if_neg (by simp; omega), if_neg (by simp; omega)]
theorem arith_c {C : Ctx} {k : IntKind} {n : Int} (h1 : kmin k ≤ n) (h2 : n ≤ kmax k) : arith C k (.c n) = some (.v (.i k (.c n))) := by
  unfold arith
  rw [if_pos (inB_c h1 h2), frc_c]
noncomputable section
abbrev F1 := (IntKind → Nat → Option SV) → Option SV → Option SV
def nN : F1 := fun _ d => d
def nI (n : Int) : IntKind → F1 := Int.rec (motive := fun _ => IntKind → F1) (fun a kd k _ => k kd a) (fun _ _ _ d => d) n
def nSI (s : SI) : IntKind → F1 := SI.rec (motive := fun _ => IntKind → F1) nI (fun _ _ _ => nN) s
def nS0 (x : S0) : F1 := S0.rec (motive := fun _ => F1) (fun _ => nN) (fun kd s => nSI s kd) (fun _ => nN) (fun _ _ => nN) nN (fun _ _ _ _ _ => nN) nN (fun _ => nN) x
def nV (v : SV) : F1 := SV.rec (motive := fun _ => F1) nS0 (fun _ _ _ => nN) (fun _ => nN) (fun _ => nN) nN nN v
theorem nV_eq (v : SV) (k : IntKind → Nat → Option SV) (d : Option SV) (h : ∀ kd n, v = .v (.i kd (.c (.ofNat n))) → k kd n = d) : nV v k d = d := by
  cases v with
  | v x => cases x with
    | i kd s => cases s with
      | c n => cases n with
        | ofNat a => exact h kd a rfl
        | negSucc a => rfl
      | p ts c => rfl
    | _ => rfl
  | _ => rfl
def is64 (k : IntKind) : Bool := IntKind.rec (motive := fun _ => Bool) false false false true false false false false k
theorem is64_eq {k : IntKind} (h : is64 k = true) : k = .i64 := by cases k <;> first | rfl | cases h
abbrev FB := IntKind → Nat → IntKind → Nat → Option SV → Option SV
def iff_ (b : Bool) (x d : Option SV) : Option SV := Bool.rec (motive := fun _ => Option SV) d x b
def both (b c : Bool) : Bool := Bool.rec (motive := fun _ => Bool) false c b
theorem iff_eq {b : Bool} {x d : Option SV} (h : b = true → x = d) : iff_ b x d = d := by cases b with
  | true => exact h rfl
  | false => rfl
theorem both_eq {b c : Bool} (h : both b c = true) : b = true ∧ c = true := by cases b <;> cases c <;> first | exact ⟨rfl, rfl⟩ | cases h
def rI (n : Nat) : Option SV := some (.v (.i .i64 (.c (.ofNat n))))
def b_add : FB := fun k a k' b d => iff_ (both (is64 k) (both (is64 k') (Nat.ble (Nat.add a b) 4611686018427387904))) (rI (Nat.add a b)) d
def b_sub : FB := fun k a k' b d => iff_ (both (is64 k) (both (is64 k') (both (Nat.ble b a) (Nat.ble a 4611686018427387904)))) (rI (Nat.sub a b)) d
def b_cmp (f : Nat → Nat → Bool) : FB := fun k a k' b d => iff_ (Nat.beq (kn k) (kn k')) (some (.v (.b (f a b)))) d
def b_no : FB := fun _ _ _ _ d => d
def lss (a b : Nat) : Bool := Nat.ble (Nat.succ a) b
def nlss (a b : Nat) : Bool := !(Nat.ble (Nat.succ b) a)
def gtr (a b : Nat) : Bool := Nat.ble (Nat.succ b) a
def ngtr (a b : Nat) : Bool := !(Nat.ble (Nat.succ a) b)
def nbeq (a b : Nat) : Bool := !(Nat.beq a b)
def bF (op : BinOp) : FB := match op with
  | .add => b_add
  | .sub => b_sub
  | .lss => b_cmp lss
  | .leq => b_cmp nlss
  | .gtr => b_cmp gtr
  | .geq => b_cmp ngtr
  | .eql => b_cmp Nat.beq
  | .neq => b_cmp nbeq
  | _ => b_no
def binF (C : Ctx) (op : BinOp) (x y : SV) : Option SV := nV x (fun k a => nV y (fun k' b => bF op k a k' b (evBin C op x y)) (evBin C op x y)) (evBin C op x y)
theorem bF_eq (C : Ctx) (op : BinOp) (k : IntKind) (a : Nat) (k' : IntKind) (b : Nat) : bF op k a k' b (evBin C op (.v (.i k (.c (.ofNat a)))) (.v (.i k' (.c (.ofNat b))))) = evBin C op (.v (.i k (.c (.ofNat a)))) (.v (.i k' (.c (.ofNat b)))) := by
  have cmp : ∀ (f : Nat → Nat → Bool), (Nat.beq (kn k) (kn k') = true → some (.v (.b (f a b))) = evBin C op (.v (.i k (.c (.ofNat a)))) (.v (.i k' (.c (.ofNat b))))) → b_cmp f k a k' b (evBin C op (.v (.i k (.c (.ofNat a)))) (.v (.i k' (.c (.ofNat b))))) = evBin C op (.v (.i k (.c (.ofNat a)))) (.v (.i k' (.c (.ofNat b)))) := fun f h => iff_eq h
  cases op
  case add =>
    refine iff_eq fun h => ?_
    obtain ⟨h1, h⟩ := both_eq h
    obtain ⟨h2, h3⟩ := both_eq h
    obtain rfl := is64_eq h1
    obtain rfl := is64_eq h2
    have h3 := Nat.le_of_ble_eq_true h3
    have h3 : a + b ≤ 4611686018427387904 := h3
    show _ = arith C .i64 (SI.c (Int.ofNat a + Int.ofNat b))
    have e : (Int.ofNat a + Int.ofNat b) = Int.ofNat (a + b) := rfl
    rw [e, arith_c (by simp only [kmin, Int.ofNat_eq_natCast]; omega) (by simp only [kmax, Int.ofNat_eq_natCast]; omega)]
    rfl
  case sub =>
    refine iff_eq fun h => ?_
    obtain ⟨h1, h⟩ := both_eq h
    obtain ⟨h2, h⟩ := both_eq h
    obtain ⟨h3, h4⟩ := both_eq h
    obtain rfl := is64_eq h1
    obtain rfl := is64_eq h2
    have h3 := Nat.le_of_ble_eq_true h3
    have h4 := Nat.le_of_ble_eq_true h4
    show _ = arith C .i64 (SI.c (Int.ofNat a - Int.ofNat b))
    have e : (Int.ofNat a - Int.ofNat b) = Int.ofNat (a - b) := by simp; omega
    rw [e, arith_c (by simp only [kmin, Int.ofNat_eq_natCast]; omega) (by simp only [kmax, Int.ofNat_eq_natCast]; omega)]
    rfl
  case lss => exact cmp _ fun h => by unfold evBin; simp only [h, if_pos]; rfl
  case leq => exact cmp _ fun h => by unfold evBin; simp only [h, if_pos]; rfl
  case gtr => exact cmp _ fun h => by unfold evBin; simp only [h, if_pos]; rfl
  case geq => exact cmp _ fun h => by unfold evBin; simp only [h, if_pos]; rfl
  case eql => exact cmp _ fun h => by unfold evBin; simp only [h, if_pos]; rfl
  case neq => exact cmp _ fun h => by unfold evBin; simp only [h, if_pos]; rfl
  all_goals rfl
theorem binF_eq (C : Ctx) (op : BinOp) (x y : SV) : binF C op x y = evBin C op x y :=
  nV_eq x _ _ fun k a hx => nV_eq y _ _ fun k' b hy => by subst hx hy; exact bF_eq C op k a k' b
/-! ### Texts -/
def ixB (x : Nat) (d : Option SV) : Option SV := iff_ (Nat.blt x 256) (some (.v (.i .u8 (.c (.ofNat x))))) d
def ixL (q : List Pc) : Nat → Option SV → Option SV := List.rec (motive := fun _ => Nat → Option SV → Option SV) (fun _ d => d) (fun p _ ih n d => Pc.rec (motive := fun _ => Option SV) (fun x => Nat.rec (motive := fun _ => Option SV) (ixB x d) (fun j _ => ih j d) n) (fun _ => d) p) q
def ixV (C : Ctx) (q : List Pc) (s : SI) : Option SV := match sdrop C.R C.D q s with
  | some r => match shead C.D r with
    | some s => some (.v (.i .u8 s))
    | none => none
  | none => none
theorem ixL_eq (C : Ctx) : ∀ (q : List Pc) (n : Nat) (d : Option SV), ixV C q (.c (.ofNat n)) = d → ixL q n d = d
  | [], _, _, _ => rfl
  | .d s :: r, n, d, _ => rfl
  | .b x :: r, 0, d, h => by
    refine iff_eq (d := d) fun hx => ?_
    rw [← h]
    unfold ixV
    simp only [sdrop, shead, hx, if_pos]
  | .b x :: r, n + 1, d, h => ixL_eq C r n d (by rw [← h]; rfl)
def ixS0 (C : Ctx) (q : List Pc) (s : SI) : Option SV := SI.rec (motive := fun _ => Option SV) (fun n => Int.rec (motive := fun _ => Option SV) (fun a => ixL q a (ixV C q (.c (.ofNat a)))) (fun a => ixV C q (.c (.negSucc a))) n) (fun ts k => ixV C q (.p ts k)) s
theorem ixS0_eq (C : Ctx) (q : List Pc) (s : SI) : ixS0 C q s = ixV C q s := by
  cases s with
  | c n => cases n with
    | ofNat a => exact ixL_eq C q a _ rfl
    | negSucc a => rfl
  | p ts k => rfl
def lenL (q : List Pc) : Nat → Option SV → Option SV := List.rec (motive := fun _ => Nat → Option SV → Option SV) (fun n _ => rI n) (fun p _ ih n d => Pc.rec (motive := fun _ => Option SV) (fun _ => ih (Nat.succ n) d) (fun _ => d) p) q
def lenV (C : Ctx) (q : List Pc) (n : Nat) : Option SV := match slenF C.D q n (.c 0) with
  | some n => match frc n with
    | some r => some (.v (.i .i64 r))
    | none => none
  | none => none
theorem lenL_eq (C : Ctx) : ∀ (q : List Pc) (n : Nat) (d : Option SV), lenV C q n = d → lenL q n d = d
  | [], n, d, h => by
    rw [← h]
    unfold lenV
    have e : (SI.c 0).add (.c (Int.ofNat n)) = .c (Int.ofNat n) := by show SI.c (0 + Int.ofNat n) = _; rw [Int.zero_add]
    simp only [slenF, e, frc_c]
    rfl
  | .d s :: r, n, d, _ => rfl
  | .b x :: r, n, d, h => lenL_eq C r (n + 1) d (by rw [← h]; rfl)
def drL (q : List Pc) : Nat → Option (List Pc) → Option (List Pc) := List.rec (motive := fun _ => Nat → Option (List Pc) → Option (List Pc)) (fun _ d => d) (fun p r ih n d => Pc.rec (motive := fun _ => Option (List Pc)) (fun _ => Nat.rec (motive := fun _ => Option (List Pc)) (some (p :: r)) (fun j _ => ih j d) n) (fun _ => d) p) q
theorem drL_eq (R : List (Int × Int)) (D : List (SI × Nat × Nat)) : ∀ (q : List Pc) (n : Nat) (d : Option (List Pc)), sdrop R D q (.c (.ofNat n)) = d → drL q n d = d
  | [], _, _, _ => rfl
  | .d s :: r, _, _, _ => rfl
  | .b x :: r, 0, d, h => h
  | .b x :: r, n + 1, d, h => drL_eq R D r n d h
def sdropF (R : List (Int × Int)) (D : List (SI × Nat × Nat)) (q : List Pc) (s : SI) : Option (List Pc) := SI.rec (motive := fun _ => Option (List Pc)) (fun n => Int.rec (motive := fun _ => Option (List Pc)) (fun a => drL q a (sdrop R D q (.c (.ofNat a)))) (fun a => sdrop R D q (.c (.negSucc a))) n) (fun ts k => sdrop R D q (.p ts k)) s
theorem sdropF_eq (R : List (Int × Int)) (D : List (SI × Nat × Nat)) (q : List Pc) (s : SI) : sdropF R D q s = sdrop R D q s := by
  cases s with
  | c n => cases n with
    | ofNat a => exact drL_eq R D q a _ rfl
    | negSucc a => rfl
  | p ts k => rfl
def tkC (x : Nat) (o : Option (List Pc)) : Option (List Pc) := Option.rec (motive := fun _ => Option (List Pc)) none (fun t => some (.b x :: t)) o
def tkL (q : List Pc) : Nat → Option (List Pc) := List.rec (motive := fun _ => Nat → Option (List Pc)) (fun n => Nat.rec (motive := fun _ => Option (List Pc)) (some []) (fun _ _ => none) n) (fun p _ ih n => Pc.rec (motive := fun _ => Option (List Pc)) (fun x => Nat.rec (motive := fun _ => Option (List Pc)) (some []) (fun j _ => tkC x (ih j)) n) (fun _ => none) p) q
theorem tkL_eq (R : List (Int × Int)) (D : List (SI × Nat × Nat)) : ∀ (q : List Pc) (n : Nat) (t : List Pc), tkL q n = some t → stake R D q (.c (.ofNat n)) = some t
  | [], 0, t, h => h
  | [], n + 1, t, h => by cases h
  | .d s :: r, n, t, h => by cases h
  | .b x :: r, 0, t, h => h
  | .b x :: r, n + 1, t, h => by
    have h : tkC x (tkL r n) = some t := h
    cases h2 : tkL r n with
    | none => rw [h2] at h; cases h
    | some u =>
      rw [h2] at h
      have ih := tkL_eq R D r n u h2
      show (match stake R D r (.c (.ofNat n)) with
        | some t => some (Pc.b x :: t)
        | none => none) = some t
      rw [ih]
      exact h
def tkF (R : List (Int × Int)) (D : List (SI × Nat × Nat)) (q : List Pc) (a : Nat) : Option (List Pc) := Option.rec (motive := fun _ => Option (List Pc)) (stake R D q (.c (.ofNat a))) (fun t => some t) (tkL q a)
def stakeF (R : List (Int × Int)) (D : List (SI × Nat × Nat)) (q : List Pc) (s : SI) : Option (List Pc) := SI.rec (motive := fun _ => Option (List Pc)) (fun n => Int.rec (motive := fun _ => Option (List Pc)) (tkF R D q) (fun a => stake R D q (.c (.negSucc a))) n) (fun ts k => stake R D q (.p ts k)) s
theorem stakeF_eq (R : List (Int × Int)) (D : List (SI × Nat × Nat)) (q : List Pc) (s : SI) : stakeF R D q s = stake R D q s := by
  cases s with
  | c n => cases n with
    | ofNat a =>
      show tkF R D q a = _
      unfold tkF
      cases h : tkL q a with
      | none => rfl
      | some t => exact (tkL_eq R D q a t h).symm
    | negSucc a => rfl
  | p ts k => rfl
/-! ### Memory -/
def hgN (v : Option Blk) (_ _ : HT) (il ir : Nat → Option Blk) (n : Nat) : Option Blk := Nat.rec (motive := fun _ => Option Blk) v (fun m _ => Bool.rec (motive := fun _ => Option Blk) (ir (Nat.div m 2)) (il (Nat.div m 2)) (Nat.beq (Nat.mod m 2) 0)) n
def getH (h : HT) : Nat → Option Blk := HT.rec (motive := fun _ => Nat → Option Blk) (fun _ => none) hgN h
theorem getH_eq : ∀ (h : HT) (n : Nat), getH h n = HT.get h n
  | .nil, _ => rfl
  | .nd v l r, 0 => rfl
  | .nd v l r, m + 1 => by
    show Bool.rec (motive := fun _ => Option Blk) (getH r (m / 2)) (getH l (m / 2)) (Nat.beq (m % 2) 0) = _
    rw [getH_eq l, getH_eq r]
    simp only [HT.get]
    cases Nat.beq (m % 2) 0 <;> rfl
def hL (v : Option Blk) (r : HT) (o : Option HT) : Option HT := Option.rec (motive := fun _ => Option HT) none (fun t => some (.nd v t r)) o
def hR (v : Option Blk) (l : HT) (o : Option HT) : Option HT := Option.rec (motive := fun _ => Option HT) none (fun t => some (.nd v l t)) o
def hpN (b : Option Blk) (v : Option Blk) (l r : HT) (il ir : Nat → Option HT) (n : Nat) : Option HT := Nat.rec (motive := fun _ => Option HT) (some (.nd b l r)) (fun m _ => Bool.rec (motive := fun _ => Option HT) (hR v l (ir (Nat.div m 2))) (hL v r (il (Nat.div m 2))) (Nat.beq (Nat.mod m 2) 0)) n
def hp0 (b : Option Blk) (n : Nat) : Option HT := Nat.rec (motive := fun _ => Option HT) (some (.nd b .nil .nil)) (fun _ _ => none) n
def putH (b : Option Blk) (h : HT) : Nat → Option HT := HT.rec (motive := fun _ => Nat → Option HT) (hp0 b) (hpN b) h
theorem putH_eq (b : Option Blk) : ∀ (h : HT) (n : Nat), putH b h n = HT.put b h n
  | .nil, 0 => rfl
  | .nil, _ + 1 => rfl
  | .nd v l r, 0 => rfl
  | .nd v l r, m + 1 => by
    show Bool.rec (motive := fun _ => Option HT) (hR v l (putH b r (m / 2))) (hL v r (putH b l (m / 2))) (Nat.beq (m % 2) 0) = _
    rw [putH_eq b l, putH_eq b r]
    simp only [HT.put]
    cases Nat.beq (m % 2) 0
    · show hR v l (HT.put b r (m / 2)) = _
      unfold hR
      generalize HT.put b r (m / 2) = o
      cases o <;> rfl
    · show hL v r (HT.put b l (m / 2)) = _
      unfold hL
      generalize HT.put b l (m / 2) = o
      cases o <;> rfl
def newRowF (m : Mem) (ty : Nat) (cs : List S0) : Option Mem := match putH (some ⟨ty, cs⟩) m.t m.nx with
  | some t => match fzN (Nat.succ m.nx) with
    | some k => some ⟨t, k⟩
    | none => none
  | none => none
theorem newRowF_eq (m : Mem) (ty : Nat) (cs : List S0) : newRowF m ty cs = newRowM m ty cs := by
  unfold newRowF newRowM
  rw [putH_eq]
  rfl
end
end Go.Proofs.YtekkoodlnaapeaaGreatDoor.SX

/- The same, written for the kernel: recursors, and small words. -/
namespace Go.Proofs.YtekkoodlnaapeaaGreatDoor.SX
noncomputable section
def gNil (t : ET) : SV := ET.rec (motive := fun _ => SV) .u (fun v => v) (fun _ _ _ _ => .u) .w t
def gCons (b : Bool) (_ : List Bool) (ih : ET → SV) (t : ET) : SV := ET.rec (motive := fun _ => SV) .u (fun _ => .u) (fun l r _ _ => Bool.rec (motive := fun _ => SV) (ih l) (ih r) b) .w t
def getF (p : List Bool) : ET → SV := List.rec (motive := fun _ => ET → SV) gNil gCons p
theorem getF_eq : ∀ (p : List Bool) (t : ET), getF p t = (match ET.get p t with
    | some v => v
    | none => .u)
  | [], t => by cases t <;> rfl
  | b :: p, t => by
    show gCons b p (getF p) t = _
    cases t with
    | nd l r => cases b <;> exact getF_eq p _
    | _ => rfl
def sT (l : ET) (o : Option ET) : Option ET := Option.rec (motive := fun _ => Option ET) none (fun t => some (.nd l t)) o
def sF (r : ET) (o : Option ET) : Option ET := Option.rec (motive := fun _ => Option ET) none (fun t => some (.nd t r)) o
def sB (b : Bool) (ih : ET → Option ET) (l r : ET) : Option ET := Bool.rec (motive := fun _ => Option ET) (sF r (ih l)) (sT l (ih r)) b
def sCons (b : Bool) (_ : List Bool) (ih : ET → Option ET) (t : ET) : Option ET := ET.rec (motive := fun _ => Option ET) (sB b ih .nil .nil) (fun _ => sB b ih .nil .nil) (fun l r _ _ => sB b ih l r) (Bool.rec (motive := fun _ => Option ET) (sF .w (ih .w)) (sT .w (ih .w)) b) t
def setF (v : SV) (p : List Bool) : ET → Option ET := List.rec (motive := fun _ => ET → Option ET) (fun _ => some (.lf v)) sCons p
theorem setF_eq (v : SV) : ∀ (p : List Bool) (t : ET), setF v p t = ET.set v p t
  | [], t => by cases t <;> rfl
  | b :: p, t => by
    have ih := setF_eq v p
    show sCons b p (setF v p) t = _
    cases t <;> cases b <;> simp only [sCons, sB, sF, sT, ET.set, ih] <;> (generalize ET.set v p _ = o; cases o <;> rfl)
def n0 (s : List SV) : SV := List.rec (motive := fun _ => SV) .w (fun v _ _ => v) s
def nS (_ : Nat) (ih : List SV → SV) (s : List SV) : SV := List.rec (motive := fun _ => SV) .w (fun _ r _ => ih r) s
def nthF (i : Nat) : List SV → SV := Nat.rec (motive := fun _ => List SV → SV) n0 nS i
theorem nthF_eq : ∀ (i : Nat) (s : List SV), nthF i s = lnth i s
  | 0, [] => rfl
  | 0, _ :: _ => rfl
  | i + 1, [] => rfl
  | i + 1, _ :: r => nthF_eq i r
def oT (p : List Bool) (_ : List SV) (t : ET) : SV := getF p t
def oK (v : SV) (_ : List SV) (_ : ET) : SV := v
def oL (i : Nat) (s : List SV) (_ : ET) : SV := nthF i s
def opdF (o : Opd) : List SV → ET → SV := Opd.rec (motive := fun _ => List SV → ET → SV) oT oK oL o
theorem opdF_eq (o : Opd) (s : List SV) (t : ET) : opdF o s t = o.ev ⟨s, t⟩ := by
  cases o with
  | t p => exact getF_eq p t
  | k v => rfl
  | l i => exact nthF_eq i s
abbrev MB := Bool → Option Bool
def gb (t : Bool) : MB := fun want => Bool.rec (motive := fun _ => Option Bool) (Bool.rec (motive := fun _ => Option Bool) (some true) (some false) want) (Bool.rec (motive := fun _ => Option Bool) (some false) (some true) want) t
def gN : MB := fun _ => none
def gU : MB := fun _ => some false
def gd0 (x : S0) : MB := S0.rec (motive := fun _ => MB) gb (fun _ _ => gN) (fun _ => gN) (fun _ _ => gN) gN (fun _ _ _ _ _ => gN) gN (fun _ => gN) x
def gdV (v : SV) : MB := SV.rec (motive := fun _ => MB) gd0 (fun _ _ _ => gN) (fun _ => gN) (fun _ => gN) gU gN v
def gdF (g : Opd × Bool) (s : List SV) (t : ET) : Option Bool := Prod.rec (motive := fun _ => Option Bool) (fun o want => gdV (opdF o s t) want) g
theorem gdF_eq (g : Opd × Bool) (s : List SV) (t : ET) : gdF g s t = gdO ⟨s, t⟩ (some g) := by
  obtain ⟨o, want⟩ := g
  show gdV (opdF o s t) want = _
  rw [opdF_eq]
  simp only [gdO]
  generalize o.ev ⟨s, t⟩ = v
  cases v with
  | v x => cases x with
    | b b => cases b <;> cases want <;> rfl
    | _ => rfl
  | _ => rfl
/-! ### Operations -/
abbrev Ret := Option (SV × Mem)
abbrev MO := Ctx → CallF → List SV → ET → Mem → Ret
def retV (m : Mem) (o : Option SV) : Ret := Option.rec (motive := fun _ => Ret) none (fun v => some (v, m)) o
def h_mv (x : Opd) : MO := fun _ _ s t m => some (opdF x s t, m)
def pkB (b : Bool) : Opd → Opd → List SV → ET → Mem → Ret := Bool.rec (motive := fun _ => Opd → Opd → List SV → ET → Mem → Ret) (fun _ y s t m => some (opdF y s t, m)) (fun x _ s t m => some (opdF x s t, m)) b
def pkN : Opd → Opd → List SV → ET → Mem → Ret := fun _ _ _ _ _ => none
def pk0 (x : S0) : Opd → Opd → List SV → ET → Mem → Ret := S0.rec (motive := fun _ => Opd → Opd → List SV → ET → Mem → Ret) pkB (fun _ _ => pkN) (fun _ => pkN) (fun _ _ => pkN) pkN (fun _ _ _ _ _ => pkN) pkN (fun _ => pkN) x
def pkV (v : SV) : Opd → Opd → List SV → ET → Mem → Ret := SV.rec (motive := fun _ => Opd → Opd → List SV → ET → Mem → Ret) pk0 (fun _ _ _ => pkN) (fun _ => pkN) (fun _ => pkN) pkN pkN v
def h_pick (c a b : Opd) : MO := fun _ _ s t m => pkV (opdF c s t) a b s t m
def ntB (b : Bool) (m : Mem) : Ret := Bool.rec (motive := fun _ => Ret) (some (.v (.b true), m)) (some (.v (.b false), m)) b
def ntN (_ : Mem) : Ret := none
def nt0 (x : S0) : Mem → Ret := S0.rec (motive := fun _ => Mem → Ret) ntB (fun _ _ => ntN) (fun _ => ntN) (fun _ _ => ntN) ntN (fun _ _ _ _ _ => ntN) ntN (fun _ => ntN) x
def ntV (v : SV) : Mem → Ret := SV.rec (motive := fun _ => Mem → Ret) nt0 (fun _ _ _ => ntN) (fun _ => ntN) (fun _ => ntN) ntN ntN v
def h_not (x : Opd) : MO := fun _ _ s t m => ntV (opdF x s t) m
def h_bin (op : BinOp) (x y : Opd) : MO := fun C _ s t m => retV m (binF C op (opdF x s t) (opdF y s t))
def evsF (os : List Opd) : List SV → ET → List SV := List.rec (motive := fun _ => List SV → ET → List SV) (fun _ _ => []) (fun o _ ih s t => opdF o s t :: ih s t) os
theorem evsF_eq : ∀ (os : List Opd) (s : List SV) (t : ET), evsF os s t = evs ⟨s, t⟩ os
  | [], _, _ => rfl
  | o :: os, s, t => by
    show opdF o s t :: evsF os s t = _
    rw [opdF_eq, evsF_eq os s t]; rfl
def h_call (f : Nat) (args : List Opd) : MO := fun _ ih s t m => ih f (evsF args s t) m
def h_ixS (x i : Opd) : MO := fun C _ s t m => retV m (match opdF x s t with
    | .v (.s q) => match opdF i s t with
      | .v (.i _ n) => ixS0 C q n
      | _ => none
    | _ => none)
def h_lenS (x : Opd) : MO := fun C _ s t m => retV m (match opdF x s t with
    | .v (.s q) => lenL q 0 (lenV C q 0)
    | _ => none)
def h_slS (x : Opd) (lo hi : Option Opd) : MO := fun C _ s t m => retV m (match opdF x s t with
    | .v (.s q) => match (match hi with
        | none => some q
        | some h => match opdF h s t with
          | .v (.i _ n) => stakeF C.R C.D q n
          | _ => none) with
      | some q1 => match lo with
        | none => some (.v (.s q1))
        | some l => match opdF l s t with
          | .v (.i _ n) => match sdropF C.R C.D q1 n with
            | some q2 => some (.v (.s q2))
            | none => none
          | _ => none
      | none => none
    | _ => none)
def h_ld (agg : Bool) (n : Nat) (x : Opd) : MO := fun _ _ s t m => match opdF x s t with
    | .v (.ptr id off) => match getH m.t id with
      | some b => match ldrop off b.cells with
        | some r => match agg with
          | true => match ltake n r with
            | some cs => some (.a cs, m)
            | none => none
          | false => match r with
            | c :: _ => some (.v c, m)
            | [] => none
        | none => none
      | none => none
    | _ => none
def h_st (n : Nat) (x y : Opd) : MO := fun _ _ s t m => match opdF x s t with
    | .v (.ptr id off) => match cellsO (opdF y s t) with
      | some cs => match Nat.beq cs.length n with
        | true => match getH m.t id with
          | some b => match lover cs off b.cells with
            | some c' => match putH (some ⟨b.ty, c'⟩) m.t id with
              | some t => some (.u, ⟨t, m.nx⟩)
              | none => none
            | none => none
          | none => none
        | false => none
      | none => none
    | _ => none
def h_alloc (ty : Nat) (z : List S0) : MO := fun _ _ _ _ m => match newRowF m ty z with
    | some m' => some (.v (.ptr m.nx 0), m')
    | none => none
def h_box (ty : Nat) (x : Opd) : MO := fun _ _ s t m => match cellsO (opdF x s t) with
    | some cs => match newRowF m ty cs with
      | some m' => some (.v (.ptr m.nx 0), m')
      | none => none
    | none => none
def h_p (op : CO) : MO := fun C _ s t m => retV m (evPf C ⟨s, t⟩ op)
def h_e (op : CO) : MO := fun _ _ s t m => evEf ⟨s, t⟩ m op
def h_callv (x : Opd) (args : List Opd) : MO := fun C ih s t m => ev1 C ih ⟨s, t⟩ m (.callv x args)
def ev1F (op : CO) : MO := CO.rec (motive := fun _ => MO)
  h_mv h_pick h_alloc h_box (fun a b => h_p (.bld a b)) (fun a b c d f => h_e (.bldS a b c d f)) h_ld h_st (fun a => h_p (.nilc a))
  h_bin (fun a b c d => h_p (.eqv a b c d)) h_not (fun a b => h_p (.conv a b)) (fun a => h_p (.convS a)) (fun a => h_e (.mark a)) h_slS (fun a b c d f => h_p (.slL a b c d f)) (fun a b => h_p (.fa a b)) (fun a b c d => h_p (.fld a b c d))
  (fun a b c => h_p (.ixA a b c)) h_ixS (fun a b c d f g => h_e (.mkS a b c d f g)) (fun a b c => h_p (.mkF a b c)) (fun a b => h_p (.ext a b)) h_lenS (fun a => h_p (.lenL a)) (fun a b => h_p (.mx a b)) (fun a b => h_p (.mn a b))
  (fun a b c d f => h_e (.app a b c d f)) h_call h_callv op
theorem retV_eq (m : Mem) (o : Option SV) : retV m o = (match o with
    | some v => some (v, m)
    | none => none) := by cases o <;> rfl
theorem ev1F_eq (C : Ctx) (ih : CallF) (s : List SV) (t : ET) (m : Mem) (op : CO) : ev1F op C ih s t m = ev1 C ih ⟨s, t⟩ m op := by
  cases op
  case mv x => show some (opdF x s t, m) = _; rw [opdF_eq]; rfl
  case pick c a b =>
    show pkV (opdF c s t) a b s t m = _
    rw [opdF_eq]
    simp only [ev1, isE, evP]
    generalize c.ev ⟨s, t⟩ = v
    cases v with
    | v x => cases x with
      | b b =>
        cases b
        · show some (opdF _ s t, m) = _; rw [opdF_eq]
        · show some (opdF _ s t, m) = _; rw [opdF_eq]
      | _ => rfl
    | _ => rfl
  case not x =>
    show ntV (opdF x s t) m = _
    rw [opdF_eq]
    simp only [ev1, isE, evP]
    generalize x.ev ⟨s, t⟩ = v
    cases v with
    | v x => cases x with
      | b b => cases b <;> rfl
      | _ => rfl
    | _ => rfl
  case bin op x y =>
    show retV m (binF C op (opdF x s t) (opdF y s t)) = _
    rw [opdF_eq, opdF_eq, retV_eq, binF_eq]; rfl
  case alloc a b => show h_alloc a b C ih s t m = _; unfold h_alloc; rw [newRowF_eq]; rfl
  case box a b => show h_box a b C ih s t m = _; unfold h_box; rw [opdF_eq]; simp only [newRowF_eq]; rfl
  case ld a b c => show h_ld a b c C ih s t m = _; unfold h_ld; rw [opdF_eq]; simp only [getH_eq]; rfl
  case st a b c => show h_st a b c C ih s t m = _; unfold h_st; rw [opdF_eq]; simp only [opdF_eq, getH_eq, putH_eq]; rfl
  case ixS a b => show h_ixS a b C ih s t m = _; unfold h_ixS; rw [retV_eq, opdF_eq]; simp only [opdF_eq, ixS0_eq]; rfl
  case lenS a => show h_lenS a C ih s t m = _; unfold h_lenS; rw [retV_eq, opdF_eq]; simp only [lenL_eq C _ 0 _ rfl]; rfl
  case slS a b c => show h_slS a b c C ih s t m = _; unfold h_slS; rw [retV_eq, opdF_eq]; simp only [opdF_eq, stakeF_eq, sdropF_eq]; rfl
  case call f args => show ih f (evsF args s t) m = _; rw [evsF_eq]; rfl
  case callv x args => rfl
  case bldS a b c d f => exact evEf_eq ⟨s, t⟩ m (.bldS a b c d f)
  case mark a => exact evEf_eq ⟨s, t⟩ m (.mark a)
  case mkS a b c d f g => exact evEf_eq ⟨s, t⟩ m (.mkS a b c d f g)
  case app a b c d f => exact evEf_eq ⟨s, t⟩ m (.app a b c d f)
  all_goals first
    | (refine (retV_eq m (evPf C ⟨s, t⟩ _)).trans ?_; rw [evPf_eq]; rfl)
/-! ### Regions -/
abbrev RetE := Option (ET × Mem)
abbrev Rest := List SV → ET → Mem → RetE
def stPut (d : Option (List Bool)) : SV → Rest → List SV → ET → Mem → RetE := Option.rec (motive := fun _ => SV → Rest → List SV → ET → Mem → RetE) (fun v rest s t m => rest (v :: s) t m) (fun p v rest s t m => Option.rec (motive := fun _ => RetE) none (fun t' => rest (v :: s) t' m) (setF v p t)) d
def stOn (C : Ctx) (ih : CallF) (p : CP) (rest : Rest) (s : List SV) (t : ET) (m : Mem) : RetE :=
  Option.rec (motive := fun _ => RetE) none (fun r => Prod.rec (motive := fun _ => RetE) (fun v m' => stPut p.dst v rest s t m') r) (ev1F p.op C ih s t m)
def stG (C : Ctx) (ih : CallF) (p : CP) (rest : Rest) (s : List SV) (t : ET) (m : Mem) (g : Opd × Bool) : RetE :=
  Option.rec (motive := fun _ => RetE) none (fun b => Bool.rec (motive := fun _ => RetE) (stPut p.dst .u rest s t m) (stOn C ih p rest s t m) b) (gdF g s t)
def opsStep (C : Ctx) (ih : CallF) (p : CP) (_ : List CP) (rest : Rest) (s : List SV) (t : ET) (m : Mem) : RetE :=
  Option.rec (motive := fun _ => RetE) (stOn C ih p rest s t m) (stG C ih p rest s t m) p.gd
def evOpsF (C : Ctx) (ih : CallF) (ops : List CP) : Rest := List.rec (motive := fun _ => Rest) (fun _ t m => some (t, m)) (opsStep C ih) ops
theorem stPut_eq (d : Option (List Bool)) (v : SV) (rest : Rest) (s : List SV) (t : ET) (m : Mem) : stPut d v rest s t m = (match setD d v t with
    | some t' => rest (v :: s) t' m
    | none => none) := by
  cases d with
  | none => rfl
  | some p =>
    show Option.rec (motive := fun _ => RetE) none (fun t' => rest (v :: s) t' m) (setF v p t) = (match ET.set v p t with
    | some t' => rest (v :: s) t' m
    | none => none)
    rw [setF_eq]
    cases ET.set v p t <;> rfl
theorem evOpsF_eq (C : Ctx) (ih : CallF) : ∀ (ops : List CP) (s : List SV) (t : ET) (m : Mem), evOpsF C ih ops s t m = evOps C ih ops ⟨s, t⟩ m
  | [], _, _, _ => rfl
  | p :: ops, s, t, m => by
    have hr := evOpsF_eq C ih ops
    have on_ : stOn C ih p (evOpsF C ih ops) s t m = (match ev1 C ih ⟨s, t⟩ m p.op with
        | some (v, m') => match setD p.dst v t with
          | some t => evOps C ih ops ⟨v :: s, t⟩ m'
          | none => none
        | none => none) := by
      unfold stOn
      rw [ev1F_eq]
      cases ev1 C ih ⟨s, t⟩ m p.op with
      | none => rfl
      | some r =>
        obtain ⟨v, m'⟩ := r
        show stPut p.dst v (evOpsF C ih ops) s t m' = _
        rw [stPut_eq]
        simp only [hr]
    show opsStep C ih p ops (evOpsF C ih ops) s t m = _
    unfold opsStep evOps
    cases hg : p.gd with
    | none => simp only [gdO]; exact on_
    | some g =>
      show stG C ih p (evOpsF C ih ops) s t m g = _
      unfold stG
      rw [gdF_eq]
      cases gdO ⟨s, t⟩ (some g) with
      | none => rfl
      | some b =>
        cases b with
        | true => exact on_
        | false =>
          show stPut p.dst .u (evOpsF C ih ops) s t m = _
          rw [stPut_eq]
          simp only [hr]
          rfl
/-! ### Statements -/
abbrev RetX := Option (Ex × ET × Mem)
abbrev MC := Ctx → CallF → LoopF → ET → Mem → RetX
def rE (o : RetE) : RetX := Option.rec (motive := fun _ => RetX) none (fun r => Prod.rec (motive := fun _ => RetX) (fun e m => some (.norm, e, m)) r) o
def c_skip : MC := fun _ _ _ e m => some (.norm, e, m)
def c_rg (ops : List CP) : MC := fun C ih _ e m => rE (evOpsF C ih ops [] e m)
def c_rgD (ops : List DP) : MC := fun C ih _ e m => rE (evD C ih ops e m)
def exS (k : ET → Mem → RetX) (x : Ex) (e : ET) (m : Mem) : RetX := Ex.rec (motive := fun _ => RetX) (k e m) (fun i => some (.ex i, e, m)) (some (.ret, e, m)) x
def onX (f : Ex → ET → Mem → RetX) (o : RetX) : RetX := Option.rec (motive := fun _ => RetX) none (fun r => Prod.rec (motive := fun _ => RetX) (fun x r => Prod.rec (motive := fun _ => RetX) (fun e m => f x e m) r) r) o
def c_seq (_ _ : CC) (ha hb : MC) : MC := fun C ih lp e m => onX (exS (hb C ih lp)) (ha C ih lp e m)
def cdB (b : Bool) : MC → MC → MC := Bool.rec (motive := fun _ => MC → MC → MC) (fun _ y => y) (fun x _ => x) b
def cdN : MC → MC → MC := fun _ _ _ _ _ _ _ => none
def cd0 (x : S0) : MC → MC → MC := S0.rec (motive := fun _ => MC → MC → MC) cdB (fun _ _ => cdN) (fun _ => cdN) (fun _ _ => cdN) cdN (fun _ _ _ _ _ => cdN) cdN (fun _ => cdN) x
def cdV (v : SV) : MC → MC → MC := SV.rec (motive := fun _ => MC → MC → MC) cd0 (fun _ _ _ => cdN) (fun _ => cdN) (fun _ => cdN) cdN cdN v
def c_cond (c : Opd) (_ _ : CC) (ha hb : MC) : MC := fun C ih lp e m => cdV (opdF c [] e) ha hb C ih lp e m
def exB (id : Nat) (x : Ex) (e : ET) (m : Mem) : RetX := Ex.rec (motive := fun _ => RetX) (some (.norm, e, m)) (fun i => Bool.rec (motive := fun _ => RetX) (some (.ex i, e, m)) (some (.norm, e, m)) (Nat.beq i id)) (some (.ret, e, m)) x
def c_blk (id : Nat) (_ : CC) (ha : MC) : MC := fun C ih lp e m => onX (exB id) (ha C ih lp e m)
def c_lp (c : CC) (_ : MC) : MC := fun _ _ lp e m => lp c e m
def c_ex (id : Nat) : MC := fun _ _ _ e m => some (.ex id, e, m)
def c_ret : MC := fun _ _ _ e m => some (.ret, e, m)
def evCodeF (c : CC) : MC := CC.rec (motive := fun _ => MC) c_skip c_rg c_rgD c_seq c_cond c_blk c_lp c_ex c_ret c
theorem evCodeF_eq (C : Ctx) (ih : CallF) (lp : LoopF) : ∀ (c : CC) (e : ET) (m : Mem), evCodeF c C ih lp e m = evCode C ih lp c e m := by
  intro c
  induction c with
  | skip => intro e m; rfl
  | rg ops =>
    intro e m
    show rE (evOpsF C ih ops [] e m) = _
    rw [evOpsF_eq]
    simp only [evCode]
    cases evOps C ih ops ⟨[], e⟩ m <;> rfl
  | rgD ops =>
    intro e m
    show rE (evD C ih ops e m) = _
    simp only [evCode]
    cases evD C ih ops e m <;> rfl
  | seq a b iha ihb =>
    intro e m
    show onX (exS (evCodeF b C ih lp)) (evCodeF a C ih lp e m) = _
    rw [iha]
    simp only [evCode]
    cases evCode C ih lp a e m with
    | none => rfl
    | some r =>
      obtain ⟨x, e', m'⟩ := r
      cases x with
      | norm => exact ihb e' m'
      | _ => rfl
  | cond c a b iha ihb =>
    intro e m
    show cdV (opdF c [] e) (evCodeF a) (evCodeF b) C ih lp e m = _
    rw [opdF_eq]
    simp only [evCode]
    generalize c.ev ⟨[], e⟩ = v
    cases v with
    | v x => cases x with
      | b b =>
        cases b
        · exact ihb e m
        · exact iha e m
      | _ => rfl
    | _ => rfl
  | blk id a iha =>
    intro e m
    show onX (exB id) (evCodeF a C ih lp e m) = _
    rw [iha]
    simp only [evCode]
    cases evCode C ih lp a e m with
    | none => rfl
    | some r =>
      obtain ⟨x, e', m'⟩ := r
      cases x with
      | ex i =>
        show Bool.rec (motive := fun _ => RetX) (some (.ex i, e', m')) (some (.norm, e', m')) (Nat.beq i id) = _
        dsimp only
        cases Nat.beq i id <;> rfl
      | _ => rfl
  | lp c _ => intro e m; rfl
  | ex id => intro e m; rfl
  | ret => intro e m; rfl
/-! ### Functions -/
def retR (cf : CF) (x : Ex) (e : ET) (m : Mem) : Ret := Ex.rec (motive := fun _ => Ret) (retV m (Option.rec (motive := fun _ => Option SV) none resOf (evRs e m cf.res))) (fun _ => none) (retV m (Option.rec (motive := fun _ => Option SV) none resOf (evRs e m cf.res))) x
def onR (f : Ex → ET → Mem → Ret) (o : RetX) : Ret := Option.rec (motive := fun _ => Ret) none (fun r => Prod.rec (motive := fun _ => Ret) (fun x r => Prod.rec (motive := fun _ => Ret) (fun e m => f x e m) r) r) o
def runFF (C : Ctx) (ih : Fs) (cf : CF) (args : List SV) (m : Mem) : Ret :=
  Option.rec (motive := fun _ => Ret) none (fun e => onR (retR cf) (evCodeF cf.body C ih.call ih.loop e m)) (initE cf.ps args .nil)
theorem runFF_eq (C : Ctx) (ih : Fs) (cf : CF) (args : List SV) (m : Mem) : runFF C ih cf args m = runF C ih cf args m := by
  unfold runFF runF
  cases initE cf.ps args .nil with
  | none => rfl
  | some e =>
    show onR (retR cf) (evCodeF cf.body C ih.call ih.loop e m) = _
    rw [evCodeF_eq]
    simp only
    cases evCode C ih.call ih.loop cf.body e m with
    | none => rfl
    | some r =>
      obtain ⟨x, e', m'⟩ := r
      have key : retV m' (Option.rec (motive := fun _ => Option SV) none resOf (evRs e' m' cf.res)) = (match evRs e' m' cf.res with
          | some l => match resOf l with
            | some v => some (v, m')
            | none => none
          | none => none) := by
        rw [retV_eq]
        cases evRs e' m' cf.res with
        | none => rfl
        | some l => rfl
      cases x with
      | norm => exact key
      | ret => exact key
      | ex i => rfl
def pgF (t : PT) : Nat → Option CF := PT.rec (motive := fun _ => Nat → Option CF) (fun k c f => Bool.rec (motive := fun _ => Option CF) none (some c) (Nat.beq f k)) (fun k _ _ hl hr f => Bool.rec (motive := fun _ => Option CF) (hr f) (hl f) (Nat.blt f k)) t
theorem pgF_eq : ∀ (t : PT) (f : Nat), pgF t f = t.get f
  | .lf k c, f => by
    show Bool.rec (motive := fun _ => Option CF) none (some c) (Nat.beq f k) = _
    unfold PT.get
    cases Nat.beq f k <;> rfl
  | .nd k l r, f => by
    show Bool.rec (motive := fun _ => Option CF) (pgF r f) (pgF l f) (Nat.blt f k) = _
    unfold PT.get
    rw [pgF_eq l f, pgF_eq r f]
    cases Nat.blt f k <;> rfl
def exL (ih : Fs) (c : CC) (x : Ex) (e : ET) (m : Mem) : RetX := Ex.rec (motive := fun _ => RetX) (ih.loop c e m) (fun i => some (.ex i, e, m)) (some (.ret, e, m)) x
def callFF (C : Ctx) (pg : PT) (orc : Orc) (ih : Fs) : CallF := fun f args m =>
  Option.rec (motive := fun _ => Ret) (Option.rec (motive := fun _ => Ret) none (fun cf => runFF C ih cf args m) (pgF pg f)) (fun g => g args m) (orc f)
def stepFF (C : Ctx) (pg : PT) (orc : Orc) (_ : Nat) (ih : Fs) : Fs :=
  ⟨callFF C pg orc ih, fun c e m => onX (exL ih c) (evCodeF c C ih.call ih.loop e m)⟩
def evF (C : Ctx) (pg : PT) (orc : Orc) (k : Nat) : Fs := Nat.rec (motive := fun _ => Fs) ⟨fun _ _ _ => none, fun _ _ _ => none⟩ (stepFF C pg orc) k
theorem evF_eq (C : Ctx) (pg : PT) (orc : Orc) : ∀ k, evF C pg orc k = ev C pg.get orc k
  | 0 => rfl
  | k + 1 => by
    have ih := evF_eq C pg orc k
    show stepFF C pg orc k (evF C pg orc k) = stepF C pg.get orc (ev C pg.get orc k)
    rw [ih]
    generalize ev C pg.get orc k = ih'
    unfold stepFF stepF
    congr 1
    · funext f args m
      unfold callFF
      cases orc f with
      | some g => rfl
      | none =>
        show Option.rec (motive := fun _ => Ret) none (fun cf => runFF C ih' cf args m) (pgF pg f) = _
        rw [pgF_eq]
        cases pg.get f with
        | none => rfl
        | some cf => exact runFF_eq C ih' cf args m
    · funext c e m
      rw [evCodeF_eq]
      cases evCode C ih'.call ih'.loop c e m with
      | none => rfl
      | some r =>
        obtain ⟨x, e', m'⟩ := r
        cases x <;> rfl
end
end Go.Proofs.YtekkoodlnaapeaaGreatDoor.SX

/- A call that is reckoned by itself, in empty memory. -/
namespace Go.Proofs.YtekkoodlnaapeaaGreatDoor.SX
open Go.RowKit
def ren0 (g : Nat → Nat) : S0 → S0
  | .ptr i o => .ptr (g i) o
  | .sl i o l s c => .sl (g i) o l s c
  | x => x
def rens (g : Nat → Nat) : List S0 → List S0
  | [] => []
  | x :: r => ren0 g x :: rens g r
def ren1 (g : Nat → Nat) : T1 → T1
  | .x v => .x (ren0 g v)
  | .g cs => .g (rens g cs)
def renT (g : Nat → Nat) : List T1 → List T1
  | [] => []
  | x :: r => ren1 g x :: renT g r
def renV (g : Nat → Nat) : SV → SV
  | .v x => .v (ren0 g x)
  | .f fn a b => .f fn (rens g a) (rens g b)
  | .a cs => .a (rens g cs)
  | .t xs => .t (renT g xs)
  | .u => .u
  | .w => .w
section
variable {X : Env} {ρ ρ2 : List Loc} {g h : Nat → Nat}
theorem R0.ren (hg : ∀ i l, ρ[g i]? = some l → ρ2[h i]? = some l) {x : S0} {u : Value} (hr : R0 X ρ (ren0 g x) u) : R0 X ρ2 (ren0 h x) u := by
  cases x <;> simp only [ren0, R0] at hr ⊢ <;> first
    | exact hr
    | (obtain ⟨l, h1, h2⟩ := hr; exact ⟨l, hg _ _ h1, h2⟩)
    | (obtain ⟨l, a, c, h1, h2⟩ := hr; exact ⟨l, a, c, hg _ _ h1, h2⟩)
theorem Rs.ren (hg : ∀ i l, ρ[g i]? = some l → ρ2[h i]? = some l) : ∀ {x : List S0} {u : List Value}, Rs X ρ (rens g x) u → Rs X ρ2 (rens h x) u
  | [], [], _ => trivial
  | _ :: _, _ :: _, hr => ⟨hr.1.ren hg, Rs.ren hg hr.2⟩
  | [], _ :: _, hr => hr.elim
  | _ :: _, [], hr => hr.elim
theorem R1.ren (hg : ∀ i l, ρ[g i]? = some l → ρ2[h i]? = some l) {x : T1} {u : Value} (hr : R1 X ρ (ren1 g x) u) : R1 X ρ2 (ren1 h x) u := by
  cases x with
  | x v => exact R0.ren hg hr
  | g cs => obtain ⟨vs, h1, h2⟩ := hr; exact ⟨vs, h1, h2.ren hg⟩
theorem RT.ren (hg : ∀ i l, ρ[g i]? = some l → ρ2[h i]? = some l) : ∀ {x : List T1} {u : List Value}, RT X ρ (renT g x) u → RT X ρ2 (renT h x) u
  | [], [], _ => trivial
  | _ :: _, _ :: _, hr => ⟨hr.1.ren hg, RT.ren hg hr.2⟩
  | [], _ :: _, hr => hr.elim
  | _ :: _, [], hr => hr.elim
theorem R.ren (hg : ∀ i l, ρ[g i]? = some l → ρ2[h i]? = some l) {x : SV} {u : Value} (hr : R X ρ (renV g x) u) : R X ρ2 (renV h x) u := by
  cases x with
  | v y => exact R0.ren hg hr
  | f fn a b => obtain ⟨fs, cs, h1, h2, h3⟩ := hr; exact ⟨fs, cs, h1, h2.ren hg, h3.ren hg⟩
  | a cs => obtain ⟨vs, h1, h2⟩ := hr; exact ⟨vs, h1, h2.ren hg⟩
  | t xs => obtain ⟨vs, h1, h2⟩ := hr; exact ⟨vs, h1, h2.ren hg⟩
  | u => exact hr
  | w => trivial
end
/-- A text, a number, a truth value: no reference in it. -/
def plain : SV → Bool
  | .v x => match x with
    | .ptr .. => false
    | .sl .. => false
    | _ => true
  | _ => false
theorem plain_ok {X : Env} {ρ ρ2 : List Loc} {x : SV} {u : Value} (hp : plain x = true) (hr : R X ρ x u) : R X ρ2 x u := by
  cases x with
  | v y => cases y <;> first | exact hr | cases hp
  | _ => cases hp
def plains : List SV → Bool
  | [] => true
  | x :: r => match plain x with
    | true => plains r
    | false => false
theorem plains_ok {X : Env} {ρ ρ2 : List Loc} : ∀ {x : List SV} {u : List Value}, plains x = true → RL X ρ x u → RL X ρ2 x u
  | [], [], _, _ => trivial
  | x :: r, v :: t, hp, hr => by
    unfold plains at hp
    split at hp
    · rename_i h
      exact ⟨plain_ok h hr.1, plains_ok hp hr.2⟩
    · cases hp
  | [], _ :: _, _, hr => hr.elim
  | _ :: _, [], _, hr => hr.elim
def t1Eq : T1 → T1 → Bool
  | .x a, .x b => s0eq a b
  | .g a, .g b => s0sEq a b
  | _, _ => false
theorem t1Eq_eq {a b : T1} (h : t1Eq a b = true) : a = b := by
  cases a <;> cases b <;> simp only [t1Eq] at h
  · rw [s0eq_eq h]
  · cases h
  · cases h
  · rw [s0sEq_eq h]
def tsEq : List T1 → List T1 → Bool
  | [], [] => true
  | x :: r, y :: t => match t1Eq x y with
    | true => tsEq r t
    | false => false
  | _, _ => false
theorem tsEq_eq : ∀ {a b : List T1}, tsEq a b = true → a = b
  | [], [], _ => rfl
  | x :: r, y :: t, h => by
    simp only [tsEq] at h
    split at h
    · rename_i e; rw [t1Eq_eq e, tsEq_eq h]
    · cases h
  | [], _ :: _, h => by simp [tsEq] at h
  | _ :: _, [], h => by simp [tsEq] at h
def vEq : SV → SV → Bool
  | .t a, .t b => tsEq a b
  | a, b => svEq a b
theorem vEq_eq {a b : SV} (h : vEq a b = true) : a = b := by
  unfold vEq at h
  split at h
  · rw [tsEq_eq h]
  · exact svEq_eq h
structure Memo where
  f : Nat
  args : List SV
  v : SV
  js : List Nat
  rows : List Blk
def jg (js : List Nat) (i : Nat) : Nat := js.getD i 1000000000000
/-- Behind the call. -/
def MemoPost (X : Env) (M : Memo) (W : World) : Ending → World → Prop := fun e W' =>
  ∃ (ρ' : List Loc) (u : Value), e = .returned u ∧ ρ'.length = M.rows.length ∧ R X ρ' M.v u ∧ (∀ (j : Nat) (b : Blk), M.rows[j]? = some b → ∃ l : Loc, ρ'[j]? = some l ∧ RowAt X ρ' (· < W.heap.size) W' b l) ∧
    (∀ (i j : Nat) (l l' : Loc), ρ'[i]? = some l → ρ'[j]? = some l' → l.blk = l'.blk → i = j) ∧ Fz (· < W.heap.size) W W'
def MemoOk (X : Env) (P : Program) (M : Memo) : Prop :=
  (∀ ays W, (callFunc M.f ays).run P W = .ok (.enter M.f ays) W) ∧ ∀ W (vals : List Value), X.J (· < W.heap.size) W → RL X [] M.args vals → Calls P M.f vals.toArray W (MemoPost X M W)
/-- The rows are those that were reckoned. -/
def rowsEq (js : List Nat) (t : HT) : List Nat → List Blk → Bool
  | [], [] => true
  | j :: r, b :: bs => match HT.get t j with
    | some c => match Nat.beq c.ty b.ty with
      | true => match s0sEq (rens (jg js) b.cells) c.cells with
        | true => rowsEq js t r bs
        | false => false
      | false => false
    | none => false
  | _, _ => false
theorem rowsEq_get {js : List Nat} {t : HT} : ∀ {l : List Nat} {bs : List Blk}, rowsEq js t l bs = true → l.length = bs.length ∧ ∀ (j : Nat) (b : Blk), bs[j]? = some b → ∃ i c, l[j]? = some i ∧ HT.get t i = some c ∧ c.ty = b.ty ∧ rens (jg js) b.cells = c.cells
  | [], [], _ => ⟨rfl, fun j b hb => by simp at hb⟩
  | [], _ :: _, h => by simp [rowsEq] at h
  | _ :: _, [], h => by simp [rowsEq] at h
  | i :: l, b :: bs, h => by
    unfold rowsEq at h
    split at h
    · rename_i c hc
      split at h
      · rename_i h1
        split at h
        · rename_i h2
          obtain ⟨q1, q2⟩ := rowsEq_get h
          refine ⟨by simp [q1], fun j b' hb => ?_⟩
          cases j with
          | zero =>
            obtain rfl := Option.some.inj hb
            exact ⟨i, c, rfl, hc, Nat.eq_of_beq_eq_true h1, s0sEq_eq h2⟩
          | succ j => exact q2 j b' (by simpa using hb)
        · cases h
      · cases h
    · cases h
def memNo (x : Nat) : List Nat → Bool
  | [] => true
  | y :: r => match Nat.beq x y with
    | true => false
    | false => memNo x r
def dist : List Nat → Bool
  | [] => true
  | x :: r => match memNo x r with
    | true => dist r
    | false => false
theorem memNo_ok {x : Nat} : ∀ {l : List Nat}, memNo x l = true → x ∉ l
  | [], _ => by simp
  | y :: r, h => by
    unfold memNo at h
    split at h
    · cases h
    · rename_i h1
      have := Nat.ne_of_beq_eq_false h1
      simp [this, memNo_ok h]
theorem dist_ok : ∀ {l : List Nat}, dist l = true → ∀ (i j x : Nat), l[i]? = some x → l[j]? = some x → i = j
  | [], _, i, j, x, h, _ => by simp at h
  | y :: r, h, i, j, x, hi, hj => by
    unfold dist at h
    split at h
    · rename_i h1
      have hn := memNo_ok h1
      cases i with
      | zero => cases j with
        | zero => rfl
        | succ j =>
          obtain rfl := Option.some.inj hi
          exact (hn (List.mem_of_getElem? (by simpa using hj))).elim
      | succ i => cases j with
        | zero =>
          obtain rfl := Option.some.inj hj
          exact (hn (List.mem_of_getElem? (by simpa using hi))).elim
        | succ j => rw [dist_ok h i j x (by simpa using hi) (by simpa using hj)]
    · cases h
def memoChk (M : Memo) (r : Option (SV × Mem)) : Bool := match r with
  | some (v, m) => match vEq (renV (jg M.js) M.v) v with
    | true => match rowsEq M.js m.t M.js M.rows with
      | true => match dist M.js with
        | true => Nat.ble m.nx 1000000000000
        | false => false
      | false => false
    | false => false
  | none => false
theorem ren0_id (x : S0) : ren0 id x = x := by cases x <;> rfl
theorem rens_id : ∀ x, rens id x = x
  | [] => rfl
  | x :: r => by rw [rens, ren0_id, rens_id r]
theorem ren1_id (x : T1) : ren1 id x = x := by cases x <;> simp [ren1, ren0_id, rens_id]
theorem renT_id : ∀ x, renT id x = x
  | [] => rfl
  | x :: r => by rw [renT, ren1_id, renT_id r]
theorem renV_id (x : SV) : renV id x = x := by cases x <;> simp [renV, ren0_id, rens_id, renT_id]
theorem rens_len (g : Nat → Nat) : ∀ x, (rens g x).length = x.length
  | [] => rfl
  | x :: r => by simp [rens, rens_len g r]
theorem memo_of {X : Env} {P : Program} {M : Memo} {ih : CallF} (hih : IHA X P ih) {b1 : Nat → Prop} {w1 : World} (hb1 : ∀ k, b1 k → k < w1.heap.size) (hJ1 : X.J b1 w1) (h : memoChk M (ih M.f M.args ⟨.nil, 0⟩) = true) : MemoOk X P M := by
  unfold memoChk at h
  split at h
  · rename_i v m hv
    split at h
    · rename_i h1
      split at h
      · rename_i h2
        split at h
        · rename_i h3
          obtain ⟨q1, q2⟩ := rowsEq_get h2
          have h1 := vEq_eq h1
          have hd := dist_ok h3
          have hnx := Nat.le_of_ble_eq_true h
          refine ⟨(hih b1 w1 hb1 hJ1 M.f M.args _ v m hv).1, fun W vals hJ hl => ?_⟩
          have hc := (hih (· < W.heap.size) W (fun k q => q) hJ M.f M.args _ v m hv).2 [] W vals hl ⟨rfl, ⟨(fun id b hb => by cases hb), (fun id id' b b' l l' hb => by cases hb)⟩⟩ (Fz.refl _ _)
          refine hc.mono ?_
          rintro en W' ⟨ρ1, u, rfl, p1, p2, p3, p4⟩
          have hget : ∀ (j i : Nat), M.js[j]? = some i → ∃ (b c : Blk) (l : Loc), M.rows[j]? = some b ∧ HT.get m.t i = some c ∧ c.ty = b.ty ∧ rens (jg M.js) b.cells = c.cells ∧ ρ1[i]? = some l ∧ RowAt X ρ1 (· < W.heap.size) W' c l := fun j i hj => by
            have hlt : j < M.rows.length := by rw [← q1]; exact (List.getElem?_eq_some_iff.1 hj).1
            obtain ⟨i', c, e1, e2, e3, e4⟩ := q2 j _ (List.getElem?_eq_getElem hlt)
            rw [hj] at e1
            obtain rfl := Option.some.inj e1
            obtain ⟨l, l1, l2⟩ := p3.g.row i c e2
            exact ⟨_, c, l, List.getElem?_eq_getElem hlt, e2, e3, e4, l1, l2⟩
          have hρ : ∀ j i l, M.js[j]? = some i → ρ1[i]? = some l → (M.js.map fun i => ρ1.getD i ⟨0, 0, 0⟩)[j]? = some l := fun j i l h1 h2 => by
            rw [List.getElem?_map, h1, Option.map_some, List.getD_eq_getElem?_getD, h2]
            rfl
          have hg : ∀ i l, ρ1[jg M.js i]? = some l → (M.js.map fun i => ρ1.getD i ⟨0, 0, 0⟩)[id i]? = some l := fun i l hi => by
            unfold jg at hi
            rw [List.getD_eq_getElem?_getD] at hi
            cases hji : M.js[i]? with
            | none =>
              rw [hji] at hi
              have := (List.getElem?_eq_some_iff.1 hi).1
              have := p3.nx
              simp at *
              omega
            | some k =>
              rw [hji] at hi
              exact hρ i k l hji hi
          refine ⟨M.js.map fun i => ρ1.getD i ⟨0, 0, 0⟩, u, rfl, by rw [List.length_map, q1], ?_, fun j b hb => ?_, fun i j l l' hi hj hbl => ?_, p4⟩
          · have := R.ren (ρ2 := M.js.map fun i => ρ1.getD i ⟨0, 0, 0⟩) (g := jg M.js) (h := id) hg (x := M.v) (u := u) (by rw [h1]; exact p2)
            rw [renV_id] at this
            exact this
          · have hlt : j < M.js.length := by rw [q1]; exact (List.getElem?_eq_some_iff.1 hb).1
            obtain ⟨b', c, l, e1, e2, e3, e4, e5, e6⟩ := hget j _ (List.getElem?_eq_getElem hlt)
            rw [hb] at e1
            obtain rfl := Option.some.inj e1
            refine ⟨l, hρ j _ l (List.getElem?_eq_getElem hlt) e5, e6.low, ?_⟩
            obtain ⟨cs, fr, g1, g2, g3, g4, g5⟩ := e6.at_
            have hlen : c.cells.length = b.cells.length := by rw [← e4, rens_len]
            refine ⟨cs, fr, by rw [← e3]; exact g1, g2, g3, by rw [← hlen]; exact g4, ?_⟩
            rw [← e4] at g5
            have := Rs.ren (ρ2 := M.js.map fun i => ρ1.getD i ⟨0, 0, 0⟩) (h := id) hg g5
            rw [rens_id, rens_len] at this
            exact this
          · rw [List.getElem?_map] at hi hj
            obtain ⟨a, ha, ha2⟩ := Option.map_eq_some_iff.1 hi
            obtain ⟨b, hb, hb2⟩ := Option.map_eq_some_iff.1 hj
            obtain ⟨ba, ca, la, a1, a2, a3, a4, a5, a6⟩ := hget i a ha
            obtain ⟨bb, cb, lb, b1, b2, b3, b4, b5, b6⟩ := hget j b hb
            rw [List.getD_eq_getElem?_getD, a5] at ha2
            rw [List.getD_eq_getElem?_getD, b5] at hb2
            have ha2 : la = l := ha2
            have hb2 : lb = l' := hb2
            subst ha2 hb2
            have := p3.g.inj a b ca cb la lb a2 b2 a5 b5 hbl
            subst this
            exact hd i j a ha hb
        · cases h
      · cases h
    · cases h
  · cases h
end Go.Proofs.YtekkoodlnaapeaaGreatDoor.SX

/- What was reckoned by itself stands as an oracle. -/
namespace Go.Proofs.YtekkoodlnaapeaaGreatDoor.SX
open Go.RowKit
def addRows (sh : Nat) : List Blk → Mem → Option Mem
  | [], m => some m
  | b :: r, m => match newRowM m b.ty (rens (Nat.add sh) b.cells) with
    | some m' => addRows sh r m'
    | none => none
theorem addRows_ok {sh : Nat} : ∀ {bs : List Blk} {m m' : Mem}, addRows sh bs m = some m' → m'.nx = m.nx + bs.length ∧ ∀ id, m'.t.get id = if id < m.nx then m.t.get id else match bs[id - m.nx]? with
      | some b => some ⟨b.ty, rens (Nat.add sh) b.cells⟩
      | none => m.t.get id
  | [], m, m', h => by
    obtain rfl := Option.some.inj h
    refine ⟨rfl, fun id => ?_⟩
    simp
  | b :: bs, m, m', h => by
    unfold addRows at h
    split at h
    · rename_i m1 h1
      obtain ⟨q1, q2⟩ := newRowM_ok h1
      obtain ⟨p1, p2⟩ := addRows_ok h
      refine ⟨by rw [p1, q2]; simp; omega, fun id => ?_⟩
      rw [p2 id, q1, q2]
      by_cases c : id < m.nx
      · rw [if_pos (by omega), if_pos c, upd, if_neg (by omega)]
      · rw [if_neg c]
        by_cases c2 : id = m.nx
        · subst c2
          rw [if_pos (by omega), upd, if_pos rfl]
          simp
        · rw [if_neg (by omega)]
          have e : id - m.nx = (id - (m.nx + 1)) + 1 := by omega
          rw [e, List.getElem?_cons_succ]
          unfold upd
          rw [if_neg c2]
    · cases h
def argsEq : List SV → List SV → Bool
  | [], [] => true
  | x :: r, y :: t => match svEq x y with
    | true => argsEq r t
    | false => false
  | _, _ => false
theorem argsEq_eq : ∀ {a b : List SV}, argsEq a b = true → a = b
  | [], [], _ => rfl
  | x :: r, y :: t, h => by
    simp only [argsEq] at h
    split at h
    · rename_i e; rw [svEq_eq e, argsEq_eq h]
    · cases h
  | [], _ :: _, h => by simp [argsEq] at h
  | _ :: _, [], h => by simp [argsEq] at h
def memoF (M : Memo) (m : Mem) : Option (SV × Mem) := match addRows m.nx M.rows m with
  | some m' => some (renV (Nat.add m.nx) M.v, m')
  | none => none
theorem memoF_ok {X : Env} {P : Program} {M : Memo} (hM : MemoOk X P M) (hp : plains M.args = true) {m m' : Mem} {v : SV} (h : memoF M m = some (v, m')) (base : Nat → Prop) (w0 : World) (hb : ∀ k, base k → k < w0.heap.size) (hJ : X.J base w0) (ρ : List Loc) (W : World) (vals : List Value)
    (hl : RL X ρ M.args vals) (hm : RH X ρ base m W) (hB : Fz base w0 W) : Calls P M.f vals.toArray W (Post X ρ base w0 m' v) := by
  refine (hM.2 W vals (X.Jm hJ hB fun k hk => Nat.lt_of_lt_of_le (hb k hk) hB.size) (plains_ok hp hl)).mono ?_
  rintro en W' ⟨ρ1, u, rfl, p1, p2, p3, p4, p5⟩
  unfold memoF at h
  split at h
  · rename_i m1 h1
    obtain ⟨rfl, rfl⟩ := Prod.mk.inj (Option.some.inj h)
    obtain ⟨q1, q2⟩ := addRows_ok h1
    have hbW : ∀ k, base k → k < W.heap.size := fun k hk => Nat.lt_of_lt_of_le (hb k hk) hB.size
    have hsh : ∀ i l, ρ1[id i]? = some l → (ρ ++ ρ1)[Nat.add m.nx i]? = some l := fun i l hi => by
      have e : Nat.add m.nx i = ρ.length + i := by rw [hm.nx]; rfl
      rw [e, List.getElem?_append_right (by omega)]
      simpa using hi
    have hold : ∀ {id : Nat} {b : Blk}, m.t.get id = some b → id < m.nx := fun {id b} hb' => by
      obtain ⟨l, hl, _⟩ := hm.g.row id b hb'
      rw [← hm.nx]
      exact (List.getElem?_eq_some_iff.1 hl).1
    have hcase : ∀ {id : Nat} {b : Blk}, m1.t.get id = some b → (id < m.nx ∧ m.t.get id = some b) ∨ (∃ b0, m.nx ≤ id ∧ M.rows[id - m.nx]? = some b0 ∧ b = ⟨b0.ty, rens (Nat.add m.nx) b0.cells⟩) := fun {id b} hid => by
      rw [q2 id] at hid
      by_cases c : id < m.nx
      · rw [if_pos c] at hid
        exact .inl ⟨c, hid⟩
      · rw [if_neg c] at hid
        cases hr : M.rows[id - m.nx]? with
        | none =>
          rw [hr] at hid
          exact absurd (hold hid) c
        | some b0 =>
          rw [hr] at hid
          exact .inr ⟨b0, by omega, rfl, (Option.some.inj hid).symm⟩
    have hx : Ext ρ (ρ ++ ρ1) := ⟨ρ1, rfl⟩
    have hblk : ∀ {id : Nat} {b : Blk} {l : Loc}, m1.t.get id = some b → (ρ ++ ρ1)[id]? = some l → (id < m.nx ∧ m.t.get id = some b ∧ ρ[id]? = some l ∧ l.blk < W.heap.size) ∨ (m.nx ≤ id ∧ ρ1[id - m.nx]? = some l ∧ ¬ l.blk < W.heap.size) := fun {id b l} hid hl => by
      rcases hcase hid with ⟨c, c1⟩ | ⟨b0, c, c1, c2⟩
      · obtain ⟨l', hl', hr⟩ := hm.g.row id b c1
        rw [hx.get hl'] at hl
        obtain rfl := Option.some.inj hl
        exact .inl ⟨c, c1, hl', hr.blk_lt⟩
      · rw [List.getElem?_append_right (by rw [hm.nx]; exact c), hm.nx] at hl
        obtain ⟨l', hl', hr⟩ := p3 _ _ c1
        rw [hl] at hl'
        obtain rfl := Option.some.inj hl'
        exact .inr ⟨c, hl, hr.low⟩
    refine ⟨ρ ++ ρ1, u, rfl, hx, ?_, ⟨by rw [List.length_append, p1, q1, hm.nx], ⟨fun id b hid => ?_, fun id id' b b' l l' h1 h2 h3 h4 h5 => ?_⟩⟩, hB.trans (p5.mono hbW)⟩
    · refine R.ren (g := id) hsh ?_
      rw [renV_id]
      exact p2
    · rcases hcase hid with ⟨c, c1⟩ | ⟨b0, c, c1, rfl⟩
      · obtain ⟨l', hl', hr⟩ := hm.g.row id b c1
        exact ⟨l', hx.get hl', (hr.ext hx).same (p5.block _ hr.blk_lt)⟩
      · obtain ⟨l', hl', hr⟩ := p3 _ _ c1
        refine ⟨l', ?_, fun q => hr.low (hbW _ q), ?_⟩
        · rw [List.getElem?_append_right (by rw [hm.nx]; exact c), hm.nx]
          exact hl'
        · obtain ⟨cs, fr, g1, g2, g3, g4, g5⟩ := hr.at_
          refine ⟨cs, fr, g1, g2, g3, by simpa [rens_len] using g4, ?_⟩
          show Rs X (ρ ++ ρ1) (rens (Nat.add m.nx) b0.cells) ((cs.toList.drop l'.off).take (rens (Nat.add m.nx) b0.cells).length)
          rw [rens_len]
          refine Rs.ren (g := fun i => i) hsh ?_
          rw [show rens (fun i => i) b0.cells = b0.cells from rens_id _]
          exact g5
    · rcases hblk h1 h3 with ⟨a1, a2, a3, a4⟩ | ⟨a1, a2, a3⟩ <;> rcases hblk h2 h4 with ⟨b1, b2, b3, b4⟩ | ⟨b1, b2, b3⟩
      · exact hm.g.inj id id' b b' l l' a2 b2 a3 b3 h5
      · rw [h5] at a4; exact absurd a4 b3
      · rw [← h5] at b4; exact absurd b4 a3
      · have := p4 _ _ l l' a2 b2 h5
        omega
  · cases h
def tabF : List Memo → Nat → List SV → Mem → Option (SV × Mem)
  | [], _, _, _ => none
  | M :: r, f, args, m => match Nat.beq M.f f with
    | true => match argsEq M.args args with
      | true => memoF M m
      | false => tabF r f args m
    | false => tabF r f args m
def orcM (fs : List Nat) (Ms : List Memo) (o : Orc) : Orc := fun f => match memNo f fs with
  | false => some (tabF Ms f)
  | true => o f
theorem tabF_get : ∀ {Ms : List Memo} {f : Nat} {args : List SV} {m : Mem} {r : SV × Mem}, tabF Ms f args m = some r → ∃ M ∈ Ms, M.f = f ∧ M.args = args ∧ memoF M m = some r
  | [], _, _, _, _, h => by cases h
  | M :: Ms, f, args, m, r, h => by
    have rc : tabF Ms f args m = some r → ∃ N ∈ M :: Ms, N.f = f ∧ N.args = args ∧ memoF N m = some r := fun h => by
      obtain ⟨N, h1, h2⟩ := tabF_get h
      exact ⟨N, List.mem_cons_of_mem _ h1, h2⟩
    unfold tabF at h
    split at h
    · rename_i h1
      split at h
      · rename_i h2
        exact ⟨M, List.mem_cons_self .., Nat.eq_of_beq_eq_true h1, argsEq_eq h2, h⟩
      · exact rc h
    · exact rc h
theorem orcM_ok {X : Env} {P : Program} {fs : List Nat} {Ms : List Memo} {o : Orc} (ho : OrcOk X P o) (hM : ∀ M ∈ Ms, MemoOk X P M ∧ plains M.args = true) : OrcOk X P (orcM fs Ms o) := by
  intro f g hg args m v m' h
  unfold orcM at hg
  split at hg
  · obtain rfl := Option.some.inj hg
    obtain ⟨M, h1, rfl, rfl, h2⟩ := tabF_get h
    obtain ⟨hm, hp⟩ := hM M h1
    exact ⟨hm.1, fun base w0 hb hJ ρ W vals hl hR hB => memoF_ok hm hp h2 base w0 hb hJ ρ W vals hl hR hB⟩
  · exact ho f g hg args m v m' h
end Go.Proofs.YtekkoodlnaapeaaGreatDoor.SX

/- Oracles: what is known of some functions by contracts. -/
namespace Go.Proofs.YtekkoodlnaapeaaGreatDoor.SX
def isDig (x : Nat) : Bool := match Nat.ble 48 x with | true => Nat.ble x 57 | false => false
def isLet (x : Nat) (script : Bool) : Bool :=
  match Nat.ble 97 x with
  | true => Nat.ble x 122
  | false => match Nat.ble 65 x with
    | true => match Nat.ble x 90 with
      | true => true
      | false => Nat.beq x 95
    | false => match script with
      | true => Nat.beq x 36
      | false => false
def endOk (script : Bool) : List Pc → Bool
  | [] => true
  | .b x :: _ => match isDig x with
    | true => false
    | false => match isLet x script with
      | true => false
      | false => Nat.blt x 256
  | .d _ :: _ => false
def digRun (script : Bool) : List Pc → Nat → Nat → Option (Nat × Nat)
  | .b x :: r, v, n => match isDig x with
    | true => digRun script r (v * 10 + (x - 48)) (Nat.succ n)
    | false => match isLet x script with
      | true => none
      | false => match Nat.blt x 256 with
        | true => some (v, n)
        | false => none
  | .d _ :: _, _, _ => none
  | [], v, n => some (v, n)
def tokNum (s n : SI) : SV := .t [.g [.i .i64 (.c 2), .s [], .i .i64 s, .i .i64 (.c 0)], .x (.i .i64 n), .x (.b true)]
def orcNumber (C : Ctx) (args : List SV) (m : Mem) : Option (SV × Mem) :=
  match args with
  | [.v (.s q), .v (.b script)] => match q with
    | .d s :: r => match dfind C.D s with
      | some p => match endOk script r with
        | true => match s.inB C.R 0 1000000 with
          | true => match Nat.ble r.length 1000000 with
            | true => some (tokNum s (lvar p.1), m)
            | false => none
          | false => none
        | false => none
      | none => none
    | .b x :: r => match digRun script (.b x :: r) 0 0 with
      | some (v, n) => match (match Nat.ble v 1000000 with
        | true => Nat.ble r.length 1000000
        | false => false) with
        | true => match fzN v, fzN n with
          | some v, some n => match n with
            | 0 => none
            | Nat.succ 0 => some (tokNum (.c (.ofNat v)) (.c (.ofNat n)), m)
            | _ => match Nat.beq x 48 with
              | true => none
              | false => some (tokNum (.c (.ofNat v)) (.c (.ofNat n)), m)
          | _, _ => none
        | false => none
      | none => none
    | [] => none
  | _ => none
/-- Decimals of a known number. -/
def digs : Nat → Nat → List Pc → List Pc
  | 0, _, acc => acc
  | Nat.succ k, n, acc => match Nat.ble n 9 with
    | true => .b (48 + n) :: acc
    | false => digs k (n / 10) (.b (48 + n % 10) :: acc)
def orcDec (C : Ctx) (args : List SV) (m : Mem) : Option (SV × Mem) :=
  match args with
  | [.v (.i .i64 s)] => match s with
    | .c (.ofNat n) => match Nat.ble n 1000000000000 with
      | true => some (.v (.s (digs 20 n [])), m)
      | false => none
    | .c (.negSucc n) => match Nat.ble n 1000000000000 with
      | true => some (.v (.s (.b 45 :: digs 20 (Nat.succ n) [])), m)
      | false => none
    | .p ts k => match (SI.p ts k).inB C.R (-1000000000000) 1000000000000 with
      | true => some (.v (.s [.d (.p ts k)]), m)
      | false => none
  | _ => none
end Go.Proofs.YtekkoodlnaapeaaGreatDoor.SX
namespace Go.Proofs.YtekkoodlnaapeaaGreatDoor.SX
/-! ### Texts -/
def preP : List Pc → List Pc → Option Bool
  | _, [] => some true
  | [], _ :: _ => some false
  | .b x :: r, .b y :: t => match Nat.beq x y with
    | true => preP r t
    | false => match Nat.blt x 256 with
      | true => match Nat.blt y 256 with
        | true => some false
        | false => none
      | false => none
  | .d _ :: _, .b y :: _ => match noDig y with
    | true => some false
    | false => none
  | _, _ => none
def orcPre (args : List SV) (m : Mem) : Option (SV × Mem) := match args with
  | [.v (.s q), .v (.s p)] => match preP q p with
    | some b => some (.v (.b b), m)
    | none => none
  | _ => none
end Go.Proofs.YtekkoodlnaapeaaGreatDoor.SX

/- Oracles, more. -/
namespace Go.Proofs.YtekkoodlnaapeaaGreatDoor.SX
def joinP (sep : List Pc) : List S0 → Option (List Pc)
  | [] => some []
  | x :: r => match x with
    | .s q => match r with
      | [] => some q
      | _ :: _ => match joinP sep r with
        | some t => match appO sep t with
          | some u => appO q u
          | none => none
        | none => none
    | _ => none
def orcJoin (args : List SV) (m : Mem) : Option (SV × Mem) := match args with
  | [x, .v (.s sep)] => match rowOf m 1 x with
    | some cs => match Nat.ble cs.length 1000000 with
      | true => match joinP sep cs with
        | some q => match Nat.ble q.length 1000000 with
          | true => some (.v (.s q), m)
          | false => none
        | none => none
      | false => none
    | none => none
  | _ => none
def consP (x : Pc) : List S0 → Option (List S0)
  | .s q :: r => some (.s (x :: q) :: r)
  | _ => none
def splitP (c : Nat) : List Pc → Option (List S0)
  | [] => some [.s []]
  | .b x :: r => match Nat.blt x 256 with
    | true => match splitP c r with
      | some l => match Nat.beq x c with
        | true => some (.s [] :: l)
        | false => consP (.b x) l
      | none => none
    | false => none
  | .d _ :: _ => none
def fzL (l : List S0) : Option Nat := fzN l.length
def orcSplit (ty : Nat) (args : List SV) (m : Mem) : Option (SV × Mem) := match args with
  | [.v (.s q), .v (.s [.b c])] => match Nat.blt c 256 with
    | true => match Nat.ble q.length 1000000 with
      | true => match splitP c q with
        | some l => match newRowM m ty l with
          | some m' => match fzL l with
            | some n => some (.v (.sl m.nx 0 n 1 none), m')
            | none => none
          | none => none
        | none => none
      | false => none
    | false => none
  | _ => none
def lastP (c : Nat) : List Pc → Nat → Int → Option Int
  | [], _, a => some a
  | .b x :: r, i, a => match Nat.blt x 256 with
    | true => match Nat.beq x c with
      | true => lastP c r (Nat.succ i) (.ofNat i)
      | false => lastP c r (Nat.succ i) a
    | false => none
  | .d _ :: _, _, _ => none
def orcLast (args : List SV) (m : Mem) : Option (SV × Mem) := match args with
  | [.v (.s q), .v (.i .u8 (.c (.ofNat c)))] => match Nat.ble q.length 1000000 with
    | true => match lastP c q 0 (.negSucc 0) with
      | some i => match fzI i with
        | some i => some (.v (.i .i64 (.c i)), m)
        | none => none
      | none => none
    | false => none
  | _ => none
/-- at(code, i): by a table. -/
def atT : List SI → Nat → Option SI
  | [], _ => none
  | x :: r, n => match n with
    | 0 => some x
    | Nat.succ j => atT r j
def orcAt (T : List SI) (args : List SV) (m : Mem) : Option (SV × Mem) := match args with
  | [.v (.op 0), .v (.i .i64 (.c (.ofNat n)))] => match atT T n with
    | some s => some (.v (.i .i64 s), m)
    | none => none
  | _ => none
def orcBig (args : List SV) (m : Mem) : Option (SV × Mem) := match args with
  | [.v (.op 0)] => some (.v (.b false), m)
  | _ => none
noncomputable def orcA (C : Ctx) (T : List SI) (f : Nat) : Option (List SV → Mem → Option (SV × Mem)) := match Nat.beq f 141 with
  | true => some (orcNumber C)
  | false => match Nat.beq f 136 with
    | true => some orcPre
    | false => match Nat.beq f 35 with
      | true => some (orcDec C)
      | false => match Nat.beq f 12 with
        | true => some (orcDec C)
        | false => match Nat.beq f 45 with
          | true => some orcJoin
          | false => match Nat.beq f 180 with
            | true => some (orcSplit 9)
            | false => match Nat.beq f 179 with
              | true => some orcLast
              | false => match Nat.beq f 10 with
                | true => some (orcAt T)
                | false => match Nat.beq f 9 with
                  | true => some orcBig
                  | false => none
def orcT (args : List SV) (m : Mem) : Option (SV × Mem) := match args with
  | [.v (.op 0)] => some (.v (.b true), m)
  | _ => none
def orcBT (f : Nat) : Option (List SV → Mem → Option (SV × Mem)) := match Nat.beq f 9 with
  | true => some orcT
  | false => none
/-- It says yes. -/
def isT (r : Option (SV × Mem)) : Bool := match r with
  | some (v, _) => svEq v (.v (.b true))
  | none => false
end Go.Proofs.YtekkoodlnaapeaaGreatDoor.SX

/- Oracles: words for their proofs. -/
namespace Go.Proofs.YtekkoodlnaapeaaGreatDoor.SX
open Go.RowKit
theorem post_kept {X : Env} {ρ : List Loc} {base : Nat → Prop} {w0 W W' : World} {m : Mem} {v : SV} {u : Value} (hR : R X ρ v u) (hm : RH X ρ base m W) (hB : Fz base w0 W) (h1 : W'.heap = W.heap) (h2 : W'.os = W.os) (h3 : W'.tape = W.tape) (h4 : W'.output = W.output) :
    Post X ρ base w0 m v (.returned u) W' :=
  ⟨ρ, u, rfl, Ext.refl _, hR, ⟨hm.nx, hm.g.world h1⟩, hB.trans ⟨h2, h3, h4, by rw [h1]; exact Nat.le_refl _, fun k _ => by rw [h1]⟩⟩
theorem post_below {X : Env} {ρ : List Loc} {base : Nat → Prop} {w0 W W' : World} {m : Mem} {v : SV} {u : Value} (hb : ∀ k, base k → k < w0.heap.size) (hR : R X ρ v u) (hm : RH X ρ base m W) (hB : Fz base w0 W) (h : Below W.heap.size W W') :
    Post X ρ base w0 m v (.returned u) W' := by
  have hbW : ∀ k, base k → k < W.heap.size := fun k hk => Nat.lt_of_lt_of_le (hb k hk) hB.size
  refine ⟨ρ, u, rfl, Ext.refl _, hR, ⟨hm.nx, ⟨fun id b hid => ?_, hm.g.inj⟩⟩, hB.trans ⟨h.os, h.tape, h.output, h.size, fun k hk => h.block k (hbW k hk)⟩⟩
  obtain ⟨l, hl, hr⟩ := hm.g.row id b hid
  exact ⟨l, hl, hr.same (h.block _ hr.blk_lt)⟩
end Go.Proofs.YtekkoodlnaapeaaGreatDoor.SX

/- Oracles: plain lists. -/
namespace Go.Proofs.YtekkoodlnaapeaaGreatDoor.SX
open Go.RowKit
theorem blt_lt {a b : Nat} (h : Nat.blt a b = true) : a < b := Nat.le_of_ble_eq_true h
theorem ofNat_inj {x y : Nat} (hx : x < 256) (hy : y < 256) (h : UInt8.ofNat x = UInt8.ofNat y) : x = y := by
  have := congrArg UInt8.toNat h
  rwa [u8_nat hx, u8_nat hy] at this
/-- Does a text begin with another one? -/
theorem preP_ok {σ : Nat → Int} : ∀ (q p : List Pc) (b : Bool), preP q p = some b → (sval σ p).isPrefixOf (sval σ q) = b
  | q, [], b, h => by
    have : b = true := by cases q <;> exact (Option.some.inj h).symm
    simp [sval, this]
  | [], y :: t, b, h => by
    obtain rfl : b = false := by cases y <;> exact (Option.some.inj h).symm
    have := pcval_ne σ y
    cases hv : y.val σ with
    | nil => rw [hv] at this; simp at this
    | cons c r => simp [sval, hv]
  | .b x :: r, .b y :: t, b, h => by
    simp only [preP] at h
    split at h
    · rename_i hx
      obtain rfl := Nat.eq_of_beq_eq_true hx
      rw [← preP_ok (σ := σ) r t b h]
      simp [sval, Pc.val]
    · rename_i hx
      split at h
      · rename_i h1
        split at h
        · rename_i h2
          obtain rfl := Option.some.inj h
          have hne : UInt8.ofNat y ≠ UInt8.ofNat x := fun e => by
            have := ofNat_inj (blt_lt h2) (blt_lt h1) e
            rw [this, show Nat.beq x x = true from Nat.beq_refl x] at hx
            cases hx
          simp [sval, Pc.val, List.isPrefixOf, hne]
        · cases h
      · cases h
  | .d s :: r, .b y :: t, b, h => by
    simp only [preP] at h
    split at h
    · rename_i hd
      obtain rfl := Option.some.inj h
      have h1 := itoa_ne (s.val σ)
      cases hi : Lib.itoa (s.val σ) with
      | nil => rw [hi] at h1; simp at h1
      | cons x u =>
        have hx := itoa_byte (n := s.val σ) (x := x) (by rw [hi]; exact List.mem_cons_self ..)
        have hn := noDig_ok hd
        have hne : UInt8.ofNat y ≠ x := fun e => by
          rw [← e, u8_nat hn.1] at hx
          exact hn.2 hx
        simp [sval, Pc.val, hi, List.isPrefixOf, hne]
    · cases h
  | .b x :: r, .d s :: t, b, h => by simp [preP] at h
  | .d x :: r, .d s :: t, b, h => by simp [preP] at h
/-- Texts joined. -/
theorem joinP_ok {X : Env} {ρ : List Loc} {sep : List Pc} (hs : POk X.σ sep) : ∀ {cs : List S0} {q : List Pc} {vs : List Value}, joinP sep cs = some q → Rs X ρ cs vs → POk X.σ q ∧ ∃ l : List ByteArray, vs = l.map Value.string ∧ Lib.join (l.map (·.data.toList)) (sval X.σ sep) = sval X.σ q
  | [], q, vs, h, hr => by
    obtain rfl := Option.some.inj h
    cases vs with
    | nil => exact ⟨trivial, [], rfl, rfl⟩
    | cons _ _ => exact hr.elim
  | x :: r, q, vs, h, hr => by
    cases vs with
    | nil => exact hr.elim
    | cons v vs =>
      obtain ⟨h1, h2⟩ := hr
      unfold joinP at h
      split at h
      · rename_i p
        obtain ⟨bs, rfl, e, hp⟩ := h1
        split at h
        · obtain rfl := Option.some.inj h
          cases vs with
          | nil => exact ⟨hp, [bs], rfl, by simp [Lib.join_one, e]⟩
          | cons _ _ => exact h2.elim
        · rename_i y z
          split at h
          · rename_i t ht
            split at h
            · rename_i u hu
              obtain ⟨g1, l, rfl, g2⟩ := joinP_ok hs ht h2
              obtain rfl := appO_eq hu
              obtain rfl := appO_eq h
              refine ⟨hp.app (hs.app g1), bs :: l, rfl, ?_⟩
              cases l with
              | nil => exact h2.elim
              | cons c l =>
                rw [sval_app, sval_app, ← g2, ← e]
                simp [Lib.join, List.intercalate, List.intersperse]
            · cases h
          · cases h
      · cases h
end Go.Proofs.YtekkoodlnaapeaaGreatDoor.SX

/- Oracles: plain lists, more. -/
namespace Go.Proofs.YtekkoodlnaapeaaGreatDoor.SX
open Go.RowKit
/-- A text cut at a byte. -/
def spB (c : UInt8) : List UInt8 → List (List UInt8)
  | [] => [[]]
  | x :: r => if x = c then [] :: spB c r else match spB c r with
    | h :: t => (x :: h) :: t
    | [] => [[x]]
theorem spB_app {c : UInt8} (a b : List UInt8) (ha : ∀ x ∈ a, x ≠ c) : spB c (a ++ c :: b) = a :: spB c b := by
  induction a with
  | nil => simp [spB]
  | cons x a ih => rw [List.cons_append, spB, if_neg (ha x (.head _)), ih (fun y hy => ha y (.tail _ hy))]
theorem spB_no {c : UInt8} (a : List UInt8) (ha : ∀ x ∈ a, x ≠ c) : spB c a = [a] := by
  induction a with
  | nil => rfl
  | cons x a ih => rw [spB, if_neg (ha x (.head _)), ih (fun y hy => ha y (.tail _ hy))]
theorem splitK_spB (c : UInt8) (k : Nat) : ∀ (l : List UInt8), Lib.count l [c] = k → Lib.splitK [c] 0 k l = spB c l := by
  induction k with
  | zero =>
    intro l hk
    have hm : Lib.index l [c] = -1 := by
      rcases Lib.index_spec l [c] with ⟨h, _⟩ | ⟨i, h, _⟩
      · exact h
      · have := Lib.count_hit (s := l) (sub := [c]) (by simp) h; omega
    have hn := Lib.indexByte_none ((Lib.index_one l c).symm.trans hm)
    rw [spB_no l (fun x hx e => by
      obtain ⟨n, hl, e1⟩ := List.getElem_of_mem hx
      exact hn n (by rw [List.getElem?_eq_getElem hl, e1, e]))]
    rfl
  | succ k ih =>
    intro l hk
    rcases Lib.index_spec l [c] with ⟨h, _⟩ | ⟨i, h, _⟩
    · have := Lib.count_miss h; omega
    · have hc := Lib.count_hit (s := l) (sub := [c]) (by simp) h
      obtain ⟨h1, h2⟩ := Lib.indexByte_some ((Lib.index_one l c).symm.trans h)
      obtain ⟨hi, e⟩ := List.getElem?_eq_some_iff.1 h1
      have hl : l = l.take i ++ c :: l.drop (i + 1) := by
        conv => lhs; rw [← List.take_append_drop i l]
        rw [List.drop_eq_getElem_cons hi, e]
      have hz : (Lib.index l [c] == -1) = false := by rw [h]; simp
      rw [Lib.splitK, hz, if_neg (by simp), h, Int.toNat_natCast, Nat.add_zero, List.length_singleton, ih _ (by simp at hc; omega)]
      conv => rhs; rw [hl]
      rw [spB_app _ _ (fun x hx ex => by
        obtain ⟨n, hn, e1⟩ := List.getElem_of_mem hx
        have hn' : n < i := by simp at hn; omega
        rw [List.getElem_take] at e1
        exact h2 n hn' (by rw [List.getElem?_eq_getElem (by omega), e1, ex]))]
theorem splitB_spB (c : UInt8) (s : ByteArray) : (Lib.splitB ⟨#[c]⟩ 0 (Lib.countB s ⟨#[c]⟩) s).map (·.data.toList) = spB c s.data.toList := by
  have h := Lib.splitB_data ⟨#[c]⟩ 0 (Lib.countB s ⟨#[c]⟩) s
  exact h.trans (splitK_spB c (Lib.countB s ⟨#[c]⟩) s.data.toList rfl)
/-- Strings of known bytes. -/
def isS (X : Env) (x : S0) (l : List UInt8) : Prop := ∃ q, x = .s q ∧ sval X.σ q = l ∧ POk X.σ q
def isSs (X : Env) : List S0 → List (List UInt8) → Prop
  | [], [] => True
  | x :: r, l :: t => isS X x l ∧ isSs X r t
  | _, _ => False
theorem isSs_len {X : Env} : ∀ {a : List S0} {b : List (List UInt8)}, isSs X a b → a.length = b.length
  | [], [], _ => rfl
  | _ :: _, _ :: _, h => by simp [isSs_len h.2]
  | [], _ :: _, h => h.elim
  | _ :: _, [], h => h.elim
theorem isSs_ok {X : Env} {ρ : List Loc} : ∀ {a : List S0} {b : List ByteArray}, isSs X a (b.map (·.data.toList)) → Rs X ρ a (b.map Value.string)
  | [], [], _ => trivial
  | _ :: _, b :: _, h => by
    obtain ⟨⟨q, rfl, h1, h2⟩, h3⟩ := h
    exact ⟨⟨b, rfl, h1.symm, h2⟩, isSs_ok h3⟩
  | [], _ :: _, h => h.elim
  | _ :: _, [], h => h.elim
theorem splitP_ok {X : Env} {c : Nat} (hc : c < 256) : ∀ {q : List Pc} {l : List S0}, splitP c q = some l → isSs X l (spB (UInt8.ofNat c) (sval X.σ q))
  | [], l, h => by
    obtain rfl := Option.some.inj h
    exact ⟨⟨[], rfl, rfl, trivial⟩, trivial⟩
  | .d _ :: _, l, h => by cases h
  | .b x :: r, l, h => by
    unfold splitP at h
    split at h
    · rename_i hx
      have hx := blt_lt hx
      split at h
      · rename_i t ht
        have ih := splitP_ok (X := X) hc ht
        split at h
        · rename_i e
          obtain rfl := Nat.eq_of_beq_eq_true e
          obtain rfl := Option.some.inj h
          simp only [sval, Pc.val, List.cons_append, List.nil_append, spB, if_true]
          exact ⟨⟨[], rfl, rfl, trivial⟩, ih⟩
        · rename_i e
          have hne : UInt8.ofNat x ≠ UInt8.ofNat c := fun e2 => by
            have := ofNat_inj hx hc e2
            rw [this, show Nat.beq c c = true from Nat.beq_refl c] at e
            cases e
          simp only [sval, Pc.val, List.cons_append, List.nil_append, spB, if_neg hne]
          unfold consP at h
          split at h
          · rename_i q u
            obtain rfl := Option.some.inj h
            cases hs : spB (UInt8.ofNat c) (sval X.σ r) with
            | nil => rw [hs] at ih; exact ih.elim
            | cons y z =>
              rw [hs] at ih
              obtain ⟨⟨q', e1, h1, h2⟩, h3⟩ := ih
              obtain rfl := S0.s.inj e1
              exact ⟨⟨_, rfl, by simp [sval, Pc.val, h1], ⟨by simp [Pc.val], h2⟩⟩, h3⟩
          · cases h
      · cases h
    · cases h
/-- The last place of a byte. -/
def lastL (c : Int) : List UInt8 → Nat → Int → Int
  | [], _, a => a
  | x :: r, i, a => lastL c r (i + 1) (if (x.toNat : Int) = c then (i : Int) else a)
theorem lastL_idx (s : ByteArray) (c : Int) : ∀ (k i : Nat), i + k = s.size → lastL c (s.data.toList.drop i) i (Lib.lastIdx s c i) = Lib.lastIdx s c (i + k)
  | 0, i, h => by
    rw [List.drop_eq_nil_of_le (by simp; have : s.data.size = s.size := rfl; omega)]
    rfl
  | k + 1, i, h => by
    have hi : i < s.data.size := by have : s.data.size = s.size := rfl; omega
    rw [List.drop_eq_getElem_cons (by simpa using hi)]
    have h2 := lastL_idx s c k (i + 1) (by omega)
    rw [lastL, show i + (k + 1) = i + 1 + k by omega, ← h2, Lib.lastIdx]
    rw [getElem!_pos s.data i hi]; simp
theorem lastIndexByte_L (s : ByteArray) (c : Int) : Lib.lastIndexByte s c = lastL c s.data.toList 0 (-1) := by
  have := lastL_idx s c s.size 0 (by omega)
  simpa [Lib.lastIndexByte, Lib.lastIdx] using this.symm
theorem lastP_ok {σ : Nat → Int} {c : Nat} : ∀ {q : List Pc} {i : Nat} {a r : Int}, lastP c q i a = some r → lastL (c : Int) (sval σ q) i a = r
  | [], i, a, r, h => by obtain rfl := Option.some.inj h; rfl
  | .d _ :: _, i, a, r, h => by cases h
  | .b x :: t, i, a, r, h => by
    unfold lastP at h
    split at h
    · rename_i hx
      have hx := blt_lt hx
      simp only [sval, Pc.val, List.cons_append, List.nil_append, lastL, u8_nat hx]
      split at h
      · rename_i e
        obtain rfl := Nat.eq_of_beq_eq_true e
        rw [if_pos rfl]
        exact lastP_ok h
      · rename_i e
        have : ¬ ((x : Int) = (c : Int)) := fun e2 => by
          obtain rfl : x = c := by omega
          rw [show Nat.beq x x = true from Nat.beq_refl x] at e
          cases e
        rw [if_neg this]
        exact lastP_ok h
    · cases h
/-- A known number's decimals. -/
theorem digs_ok {σ : Nat → Int} : ∀ (k n : Nat) (acc : List Pc), n < 10 ^ (k + 1) → sval σ (digs (k + 1) n acc) = Lib.decDigits n ++ sval σ acc ∧ (POk σ acc → POk σ (digs (k + 1) n acc))
  | k, n, acc, h => by
    unfold digs
    split
    · rename_i hn
      have hn : n ≤ 9 := Nat.le_of_ble_eq_true hn
      rw [Lib.decDigits_one (by omega)]
      exact ⟨by simp [sval, Pc.val], fun hp => ⟨by simp [Pc.val], hp⟩⟩
    · rename_i hn
      have hn : ¬ n < 10 := fun h => by rw [Nat.ble_eq_true_of_le (by omega)] at hn; cases hn
      cases k with
      | zero => rw [Nat.zero_add, Nat.pow_one] at h; exact absurd h hn
      | succ k =>
        have := digs_ok (σ := σ) k (n / 10) (.b (48 + n % 10) :: acc) (by rw [Nat.pow_succ] at h; omega)
        rw [Lib.decDigits, dif_neg hn]
        exact ⟨by rw [this.1]; simp [sval, Pc.val], fun hp => this.2 ⟨by simp [Pc.val], hp⟩⟩
end Go.Proofs.YtekkoodlnaapeaaGreatDoor.SX

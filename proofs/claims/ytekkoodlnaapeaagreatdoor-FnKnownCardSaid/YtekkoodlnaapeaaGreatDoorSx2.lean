import Derived.Test.YtekkoodlnaapeaaGreatDoorSx1
import Derived.Laws.StructEq
import Derived.Laws.Tables
import Derived.Laws.Slices
import Derived.Laws.MakeOwn
import Derived.Laws.OwnMore
/- The evaluator: operations on slots and on memory. -/
set_option linter.unusedVariables false
set_option linter.unusedSimpArgs false
set_option linter.constructorNameAsVariable false
/- What the operations yield that look at slots alone: all of them. -/
namespace Go.Proofs.YtekkoodlnaapeaaGreatDoor.SX
open Go.RowKit

theorem R0.one {X : Env} {ρ : List Loc} {x : S0} {v : Value} (h : R0 X ρ x v) : v.oneCell' = true := by
  cases x <;> simp only [R0] at h
  case b => rw [h]; rfl
  case i => rw [h]; rfl
  case s => obtain ⟨_, h1, _⟩ := h; rw [h1]; rfl
  case ptr => obtain ⟨_, _, h1⟩ := h; rw [h1]; rfl
  case nilp => rw [h]; rfl
  case sl => obtain ⟨_, _, _, _, h1, _⟩ := h; rw [h1]; rfl
  case nils => rw [h]; rfl
  case op => rw [h]; exact X.one _
theorem cells_one {v : Value} (h : v.oneCell' = true) : v.cells = #[v] := by cases v <;> first | rfl | cases h
theorem Rs.one {X : Env} {ρ : List Loc} : ∀ {x : List S0} {v : List Value}, Rs X ρ x v → ∀ u ∈ v, u.oneCell' = true
  | [], [], _, _, h => by cases h
  | _ :: _, _ :: _, h, u, hu => by
    rcases List.mem_cons.1 hu with rfl | hu
    · exact h.1.one
    · exact Rs.one h.2 u hu
  | [], _ :: _, h, _, _ => h.elim
  | _ :: _, [], h, _, _ => h.elim
def cellsO : SV → Option (List S0)
  | .v x => some [x]
  | .a cs => some cs
  | _ => none
theorem cellsO_ok {X : Env} {ρ : List Loc} {x : SV} {cs : List S0} {v : Value} (h : cellsO x = some cs) (hv : R X ρ x v) : Rs X ρ cs v.cells.toList := by
  cases x with
  | v y =>
    obtain rfl := Option.some.inj h
    rw [cells_one (R0.one hv)]
    exact ⟨hv, trivial⟩
  | a ds =>
    obtain rfl := Option.some.inj h
    obtain ⟨vs, rfl, hvs⟩ := hv
    exact hvs
  | f _ _ _ => cases h
  | t _ => cases h
  | u => cases h
  | w => cases h
/-! ### A struct out of its parts -/
def leqN : Nat → Nat → Bool := Nat.beq
def fillA (e : EV) (z : List S0) : List (Nat × Nat × Opd) → Option (List S0)
  | [] => some z
  | p :: r => match cellsO (p.2.2.ev e) with
    | some cs => if Nat.beq cs.length p.2.1 then (match lover cs p.1 z with
      | some z' => fillA e z' r
      | none => none) else none
    | none => none
theorem foldl_set (off : Nat) : ∀ (vs : List Value) (k : Nat) (cells : Array Value), off + k + vs.length ≤ cells.size →
    ((vs.zipIdx k).foldl (fun cs (x : Value × Nat) => cs.setIfInBounds (off + x.2) x.1) cells).toList = cells.toList.take (off + k) ++ vs ++ cells.toList.drop (off + k + vs.length)
  | [], k, cells, _ => by simp
  | v :: r, k, cells, h => by
    simp only [List.length_cons] at h
    rw [List.zipIdx_cons, List.foldl_cons, foldl_set off r (k + 1) _ (by simp; omega), Array.toList_setIfInBounds]
    have e1 : off + (k + 1) = off + k + 1 := by omega
    rw [e1, List.length_cons]
    exact list_seg_step cells.toList (off + k) v r (by rw [Array.length_toList]; omega)
theorem Rs.over {X : Env} {ρ : List Loc} {z z' cs : List S0} {off : Nat} {vz vs : List Value} (hz : Rs X ρ z vz) (hc : Rs X ρ cs vs) (h : lover cs off z = some z') :
    Rs X ρ z' (vz.take off ++ vs ++ vz.drop (off + vs.length)) := by
  have ho := lover_ok h
  rw [ho.1, List.append_assoc, ← hc.len]
  exact (hz.take off).app (hc.app (hz.drop _))
theorem fillA_ok {X : Env} {ρ : List Loc} {K : Kx} {e : EV} {a : Act} (hE : RE' X ρ K e a.tmps) (pl : Nat → Option (Nat × Nat))
    : ∀ (ps : List (Nat × Operand)) (q : List (Nat × Nat × Opd)) (z z' : List S0) (vz : Array Value),
      (List.length q = ps.length ∧ ∀ (i : Nat) (p : Nat × Operand) (o : Nat × Nat × Opd), ps[i]? = some p → q[i]? = some o → pl p.1 = some (o.1, o.2.1) ∧ cX K p.2 = some o.2.2) → Rs X ρ z vz.toList → fillA e z q = some z' →
      ∃ vz', Instr.fill pl vz (ps.map fun p => (p.1, a.eval p.2)) = some vz' ∧ Rs X ρ z' vz'.toList
  | [], q, z, z', vz, hq, hz, h => by
    obtain rfl : q = [] := List.eq_nil_of_length_eq_zero (by simpa using hq.1)
    obtain rfl := Option.some.inj h
    exact ⟨vz, rfl, hz⟩
  | p :: ps, [], z, z', vz, hq, hz, h => by simp at hq
  | p :: ps, o :: q, z, z', vz, hq, hz, h => by
    have h0 := hq.2 0 p o rfl rfl
    have hr : List.length q = ps.length ∧ ∀ (i : Nat) (p : Nat × Operand) (o : Nat × Nat × Opd), ps[i]? = some p → q[i]? = some o → pl p.1 = some (o.1, o.2.1) ∧ cX K p.2 = some o.2.2 :=
      ⟨by simpa using hq.1, fun i p o hp ho => hq.2 (i + 1) p o (by simpa using hp) (by simpa using ho)⟩
    unfold fillA at h
    split at h
    · rename_i cs hcs
      split at h
      · rename_i hl
        split at h
        · rename_i z1 hz1
          have hv := cellsO_ok hcs (ev_ok hE h0.2)
          have hlen := hv.len
          have hl := Nat.eq_of_beq_eq_true hl
          have hz2 := hz.over hv hz1
          have hb := (lover_ok hz1).2
          have hzl := hz.len
          have e1 : vz.toList.length = vz.size := Array.length_toList
          have e2 : (a.eval p.2).cells.toList.length = (a.eval p.2).cells.size := Array.length_toList
          have hfit : o.1 + (a.eval p.2).cells.size ≤ vz.size := by omega
          have hset := foldl_set o.1 (a.eval p.2).cells.toList 0 vz (by rw [Array.length_toList]; omega)
          obtain ⟨vz', h1, h2⟩ := fillA_ok hE pl ps q z1 z' ((a.eval p.2).cells.zipIdx.foldl (fun cs (x : Value × Nat) => cs.setIfInBounds (o.1 + x.2) x.1) vz) hr
            (by rw [← Array.foldl_toList, Array.toList_zipIdx, hset]; exact hz2) h
          refine ⟨vz', ?_, h2⟩
          simp only [List.map_cons, Instr.fill, h0.1]
          have hc : (decide ((a.eval p.2).cells.size ≠ o.2.1) || decide (o.1 + (a.eval p.2).cells.size > vz.size)) = false := by
            rw [decide_eq_false (by omega), decide_eq_false (by omega)]; rfl
          rw [if_neg (by rw [hc]; simp)]
          exact h1
        · cases h
      · cases h
    · cases h

/-! ### Comparing structs -/
def eq0 (C : Ctx) : Nat → S0 → S0 → Option Bool
  | 0, .b x, .b y => match x, y with
    | true, true => some true
    | false, false => some true
    | _, _ => some false
  | 1, .i k a, .i k' b => if Nat.beq (kn k) (kn k') then SI.eq? C.R a b else none
  | 2, .s a, .s b => seq a b
  | _, _, _ => none
def eqCs (C : Ctx) : List Nat → List S0 → List S0 → Option Bool
  | [], [], [] => some true
  | k :: ks, x :: r, y :: t => match eq0 C k x y with
    | some b => match b with
      | true => eqCs C ks r t
      | false => some false
    | none => none
  | _, _, _ => none
theorem seq_list {X : Env} {a b : List Pc} {t : Bool} (h : seq a b = some t) {bs cs : ByteArray} (hb : bs.data.toList = sval X.σ a) (hc : cs.data.toList = sval X.σ b) : (bs.toList == cs.toList) = t := by
  rw [blist, blist, hb, hc, ← seq_ok (σ := X.σ) a b t h]
  by_cases c : sval X.σ a = sval X.σ b <;> simp [c]
theorem eq0_b {C : Ctx} {X : Env} {ρ : List Loc} {x y : S0} {u v : Value} {t : Bool} (hx : R0 X ρ x u) (hy : R0 X ρ y v) (h : eq0 C 0 x y = some t) {P : Program} {ty : TypeId} (hu : P.underlying ty = some .bool) (d : Nat) (w : World) :
    (Op.equalIn (d + 1) ty u v).run P w = .ok t w := by
  cases x <;> cases y <;> simp only [eq0] at h <;> try (cases h; done)
  case b.b p q =>
    obtain rfl := (show u = .bool p from hx)
    obtain rfl := (show v = .bool q from hy)
    rw [run_equalIn_bool' w d ty p q hu]
    cases p <;> cases q <;> simp at h <;> subst h <;> rfl
theorem eq0_i {C : Ctx} {X : Env} {ρ : List Loc} (hC : COk C X.σ) {x y : S0} {u v : Value} {t : Bool} (hx : R0 X ρ x u) (hy : R0 X ρ y v) (h : eq0 C 1 x y = some t) {P : Program} {ty : TypeId} {kk : IntKind} (hu : P.underlying ty = some (.int kk)) (d : Nat) (w : World) :
    (Op.equalIn (d + 1) ty u v).run P w = .ok t w := by
  cases x <;> cases y <;> simp only [eq0] at h <;> try (cases h; done)
  case i.i k a k' b =>
    split at h
    · rename_i hk
      obtain rfl := kn_inj hk
      obtain rfl := (show u = .int k (a.val X.σ) from hx)
      obtain rfl := (show v = .int k (b.val X.σ) from hy)
      rw [run_equalIn_int w d ty k kk _ _ hu, ← SI.eq?_ok hC.1 h]
      rfl
    · cases h
theorem eq0_s {C : Ctx} {X : Env} {ρ : List Loc} {x y : S0} {u v : Value} {t : Bool} (hx : R0 X ρ x u) (hy : R0 X ρ y v) (h : eq0 C 2 x y = some t) {P : Program} {ty : TypeId} (hu : P.underlying ty = some .string) (d : Nat) (w : World) :
    (Op.equalIn (d + 1) ty u v).run P w = .ok t w := by
  cases x <;> cases y <;> simp only [eq0] at h <;> try (cases h; done)
  case s.s a b =>
    obtain ⟨bs, rfl, hbs, _⟩ := hx
    obtain ⟨cs, rfl, hcs, _⟩ := hy
    rw [run_equalIn_string w d ty bs cs hu, seq_list h hbs hcs]
theorem part_one {P : Program} {ty : TypeId} (hag : ∀ d, P.underlying ty = some d → (match d with | .struct _ => False | .array _ _ => False | _ => True)) (hs : (P.underlying ty).isSome = true) {cs : Array Value} {off : Nat} {v : Value} (h : cs[off]? = some v) (w : World) :
    (part ty cs off).run P w = .ok v w := by
  cases hu : P.underlying ty with
  | none => rw [hu] at hs; cases hs
  | some d =>
    have := hag d hu
    cases d <;> simp only at this <;> first | exact this.elim | simp [part, isAgg, run_underlying hu, h]
theorem eqCs_ok {C : Ctx} {X : Env} {ρ : List Loc} (hC : COk C X.σ) {P : Program} (d : Nat) (xs ys : Array Value) (w : World) : ∀ (fs : List Field) (i : Nat) (ks : List Nat) (x y : List S0) (t : Bool),
    plainFields P fs i = some ks → Rs X ρ x (xs.toList.drop i) → Rs X ρ y (ys.toList.drop i) → eqCs C ks x y = some t → (Op.eqFields (d + 1) xs ys fs).run P w = .ok t w
  | [], i, ks, x, y, t, hf, hx, hy, h => by
    obtain rfl := Option.some.inj hf
    cases x with
    | nil => cases y with
      | nil => obtain rfl := Option.some.inj h; rfl
      | cons _ _ => cases h
    | cons _ _ => cases h
  | f :: fs, i, ks, x, y, t, hf, hx, hy, h => by
    unfold plainFields at hf
    split at hf
    · rename_i hc
      simp only [Bool.and_eq_true, bne_iff_ne, beq_iff_eq] at hc
      obtain ⟨hn, hoff⟩ := hc
      have key : ∀ (k : Nat), (plainFields P fs (i + 1)).map (k :: ·) = some ks →
          (∀ {a b : S0} {u v : Value} {t : Bool}, R0 X ρ a u → R0 X ρ b v → eq0 C k a b = some t → (Op.equalIn (d + 1) f.type u v).run P w = .ok t w) →
          (∀ d, P.underlying f.type = some d → (match d with | .struct _ => False | .array _ _ => False | _ => True)) → (P.underlying f.type).isSome = true →
          (Op.eqFields (d + 1) xs ys (f :: fs)).run P w = .ok t w := by
        intro k hk heq hag his
        obtain ⟨ks', hks, rfl⟩ := Option.map_eq_some_iff.1 hk
        cases x with
        | nil => cases h
        | cons a x => cases y with
          | nil => cases h
          | cons b y =>
            simp only [eqCs] at h
            have hx' : ∃ u r, xs.toList.drop i = u :: r := by
              cases hd : xs.toList.drop i with
              | nil => rw [hd] at hx; exact hx.elim
              | cons u r => exact ⟨u, r, rfl⟩
            have hy' : ∃ u r, ys.toList.drop i = u :: r := by
              cases hd : ys.toList.drop i with
              | nil => rw [hd] at hy; exact hy.elim
              | cons u r => exact ⟨u, r, rfl⟩
            obtain ⟨u, r, hu⟩ := hx'
            obtain ⟨v, s, hv⟩ := hy'
            have gx : xs[i]? = some u := by
              rw [← Array.getElem?_toList, ← List.head?_drop, hu]; rfl
            have gy : ys[i]? = some v := by
              rw [← Array.getElem?_toList, ← List.head?_drop, hv]; rfl
            have dx : xs.toList.drop (i + 1) = r := by rw [← List.drop_drop, hu]; rfl
            have dy : ys.toList.drop (i + 1) = s := by rw [← List.drop_drop, hv]; rfl
            rw [hu] at hx
            rw [hv] at hy
            have pa := part_one hag his gx w
            have pb := part_one hag his gy w
            simp only [Op.eqFields]
            rw [if_pos hn, Sem.run_bind, hoff, pa, Result.andThen_ok, Sem.run_bind, pb, Result.andThen_ok, Sem.run_bind]
            split at h
            · rename_i t1 ht1
              rw [heq hx.1 hy.1 ht1, Result.andThen_ok]
              cases t1 with
              | true =>
                simp only at h
                rw [if_neg (by simp)]
                exact eqCs_ok hC d xs ys w fs (i + 1) ks' x y t hks (by rw [dx]; exact hx.2) (by rw [dy]; exact hy.2) h
              | false =>
                obtain rfl := Option.some.inj h
                rw [if_pos (by simp)]
                rfl
            · cases h
      split at hf
      · rename_i hu
        exact key 0 hf (fun hx hy h => eq0_b hx hy h hu d w) (fun d hd => by rw [hu] at hd; obtain rfl := Option.some.inj hd; trivial) (by rw [hu]; rfl)
      · rename_i hu
        exact key 1 hf (fun hx hy h => eq0_i hC hx hy h hu d w) (fun d hd => by rw [hu] at hd; obtain rfl := Option.some.inj hd; trivial) (by rw [hu]; rfl)
      · rename_i hu
        exact key 2 hf (fun hx hy h => eq0_s hx hy h hu d w) (fun d hd => by rw [hu] at hd; obtain rfl := Option.some.inj hd; trivial) (by rw [hu]; rfl)
      · cases hf
    · cases hf
end Go.Proofs.YtekkoodlnaapeaaGreatDoor.SX

/- The operations that look at slots alone. -/
namespace Go.Proofs.YtekkoodlnaapeaaGreatDoor.SX
open Go.RowKit

def evEq (C : Ctx) : EK → SV → SV → Option Bool
  | .b, .v (.b x), .v (.b y) => match x, y with
    | true, true => some true
    | false, false => some true
    | _, _ => some false
  | .g ks, .a xs, .a ys => eqCs C ks xs ys
  | .p, .v .nilp, .v .nilp => some true
  | .p, .v (.ptr _ _), .v .nilp => some false
  | .p, .v .nilp, .v (.ptr _ _) => some false
  | .l, .v .nils, .v .nils => some true
  | .l, .v (.sl _ _ _ _ _), .v .nils => some false
  | .l, .v .nils, .v (.sl _ _ _ _ _) => some false
  | _, _, _ => none
def s0s (e : EV) : List Opd → Option (List S0)
  | [] => some []
  | o :: r => match o.ev e with
    | .v x => match s0s e r with
      | some t => some (x :: t)
      | none => none
    | _ => none
def natOf : SV → Option Nat
  | .v (.i _ (.c (.ofNat n))) => some n
  | _ => none
/-- The bounds of a slice: low, high, and the bound behind, if one is given. -/
def boundO (e : EV) (d : Nat) : Option Opd → Option Nat
  | none => some d
  | some o => natOf (o.ev e)
def nthT : List T1 → Nat → Option T1
  | [], _ => none
  | x :: r, n => match n with
    | 0 => some x
    | Nat.succ m => nthT r m
def evP (C : Ctx) (e : EV) : CO → Option SV
  | .mv x => some (x.ev e)
  | .pick c a b => match c.ev e with
    | .v (.b t) => match t with
      | true => some (a.ev e)
      | false => some (b.ev e)
    | _ => none
  | .bld z ps => match fillA e z ps with
    | some cs => some (.a cs)
    | none => none
  | .nilc x => match x.ev e with
    | .v (.ptr i o) => some (.v (.ptr i o))
    | .f fn a b => some (.f fn a b)
    | _ => none
  | .bin op x y => evBin C op (x.ev e) (y.ev e)
  | .eqv neg k x y => match neg with
    | true => nb (evEq C k (x.ev e) (y.ev e))
    | false => bb (evEq C k (x.ev e) (y.ev e))
  | .not x => match x.ev e with
    | .v (.b t) => match t with
      | true => some (.v (.b false))
      | false => some (.v (.b true))
    | _ => none
  | .conv k x => match x.ev e with
    | .v (.i _ s) => arith C k s
    | _ => none
  | .convS x => match x.ev e with
    | .v (.s q) => some (.v (.s q))
    | _ => none
  | .slS x lo hi => match x.ev e with
    | .v (.s q) => match (match hi with
        | none => some q
        | some h => match h.ev e with
          | .v (.i _ n) => stake C.R C.D q n
          | _ => none) with
      | some q1 => match lo with
        | none => some (.v (.s q1))
        | some l => match l.ev e with
          | .v (.i _ n) => match sdrop C.R C.D q1 n with
            | some q2 => some (.v (.s q2))
            | none => none
          | _ => none
      | none => none
    | _ => none
  | .slL sz x lo hi mx => match x.ev e with
    | .v (.sl id off len s1 cap) => match Nat.beq s1 sz with
     | false => none
     | true => match boundO e 0 lo, boundO e len hi with
      | some l, some h => if Nat.ble l h then (if Nat.ble h len then (match mx with
        | none => match fzN (off + l * sz), fzN (h - l) with
          | some o', some n' => match cap with
            | none => some (.v (.sl id o' n' sz none))
            | some c => match fzN (c - l) with
              | some c' => some (.v (.sl id o' n' sz (some c')))
              | none => none
          | _, _ => none
        | some m => match hi, natOf (m.ev e) with
          | some _, some m => if Nat.ble h m then (if Nat.ble m len then (match fzN (off + l * sz), fzN (h - l), fzN (m - l) with
            | some o', some n', some c' => some (.v (.sl id o' n' sz (some c')))
            | _, _, _ => none) else none) else none
          | _, _ => none) else none) else none
      | _, _ => none
    | .v .nils => match boundO e 0 lo, boundO e 0 hi, mx with
      | some 0, some 0, none => some (.v .nils)
      | _, _, _ => none
    | _ => none
  | .fa off x => match x.ev e with
    | .v (.ptr i o) => match fzN (o + off) with
      | some o' => some (.v (.ptr i o'))
      | none => none
    | _ => none
  | .fld agg off n x => match x.ev e with
    | .a cs => match ldrop off cs with
      | some r => match agg with
        | true => match ltake n r with
          | some t => some (.a t)
          | none => none
        | false => match r with
          | c :: _ => some (.v c)
          | [] => none
      | none => none
    | _ => none
  | .ixA sz x i => match x.ev e with
    | .v (.sl id off len _ _) => match natOf (i.ev e) with
      | some j => if Nat.blt j len then (match fzN (off + j * sz) with
        | some o' => some (.v (.ptr id o'))
        | none => none) else none
      | none => none
    | _ => none
  | .ixS x i => match x.ev e with
    | .v (.s q) => match i.ev e with
      | .v (.i _ n) => match sdrop C.R C.D q n with
        | some r => match shead C.D r with
          | some s => some (.v (.i .u8 s))
          | none => none
        | none => none
      | _ => none
    | _ => none
  | .mkF f first cap => match s0s e first, s0s e cap with
    | some a, some b => some (.f f a b)
    | _, _ => none
  | .ext i x => match x.ev e with
    | .t xs => match nthT xs i with
      | some (.x v) => some (.v v)
      | some (.g cs) => some (.a cs)
      | none => none
    | _ => none
  | .lenS x => match x.ev e with
    | .v (.s q) => match slen C.D q with
      | some n => match frc n with
        | some r => some (.v (.i .i64 r))
        | none => none
      | none => none
    | _ => none
  | .lenL x => match x.ev e with
    | .v (.sl _ _ len _ _) => some (.v (.i .i64 (.c (.ofNat len))))
    | .v .nils => some (.v (.i .i64 (.c 0)))
    | _ => none
  | .mx x y => match x.ev e, y.ev e with
    | .v (.i k a), .v (.i _ b) => match SI.lt? C.R a b with
      | some t => match t with
        | true => some (.v (.i k b))
        | false => some (.v (.i k a))
      | none => none
    | _, _ => none
  | .mn x y => match x.ev e, y.ev e with
    | .v (.i k a), .v (.i _ b) => match SI.lt? C.R b a with
      | some t => match t with
        | true => some (.v (.i k b))
        | false => some (.v (.i k a))
      | none => none
    | _, _ => none
  | _ => none

/-- What an operation that looks at slots alone yields, in every world. -/
def Yld (X : Env) (ρ : List Loc) (P : Program) (v : SV) (s : Sem Value) : Prop := ∃ u, R X ρ v u ∧ ∀ w, s.run P w = .ok u w
theorem Yld.next {X : Env} {ρ : List Loc} {P : Program} {v : SV} {s : Sem Value} (h : Yld X ρ P v s) :
    ∃ u, R X ρ v u ∧ ∀ w, (do pure (Next.value (← s)) : Sem Next).run P w = .ok (.value u) w := by
  obtain ⟨u, h1, h2⟩ := h
  exact ⟨u, h1, fun w => by rw [Sem.run_bind, h2 w]; rfl⟩
section
variable {X : Env} {ρ : List Loc} {P : Program} {C : Ctx}
theorem run_nil_eq {t e : TypeId} (hu : P.underlying t = some (.pointer e)) (d : Nat) (b : Option Addr) (w : World) : (Op.equalIn (d + 1) t (.pointer none) (.pointer b)).run P w = .ok b.isNone w := by
  simp only [Op.equalIn, Sem.run_bind, run_underlying hu, Result.andThen_ok]
  rfl
theorem run_eq_nil {t e : TypeId} (hu : P.underlying t = some (.pointer e)) (d : Nat) (a : Addr) (w : World) : (Op.equalIn (d + 1) t (.pointer (some a)) (.pointer none)).run P w = .ok false w := by
  simp only [Op.equalIn, Sem.run_bind, run_underlying hu, Result.andThen_ok]
  rfl
theorem run_peq {t : TypeId} {a b : Option Addr} {r : Bool} {w : World} {xo yo : Operand} (h : (Op.equalIn 10000 t (.pointer a) (.pointer b)).run P w = .ok r w) :
    (do eqGuard .eql t xo yo (.pointer a) (.pointer b); binOp .eql t (.pointer a) (.pointer b) : Sem Value).run P w = .ok (.bool r) w ∧
    (do eqGuard .neq t xo yo (.pointer a) (.pointer b); binOp .neq t (.pointer a) (.pointer b) : Sem Value).run P w = .ok (.bool (!r)) w := by
  have e1 : binOp .eql t (.pointer a) (.pointer b) = (do pure (.bool (← Op.equal t (.pointer a) (.pointer b)))) := rfl
  have e2 : binOp .neq t (.pointer a) (.pointer b) = (do pure (.bool (!(← Op.equal t (.pointer a) (.pointer b))))) := rfl
  have e3 : (Op.equal t (.pointer a) (.pointer b)).run P w = .ok r w := h
  constructor
  · rw [Sem.run_bind, eqGuard_at_pointer, Sem.run_pure, Result.andThen_ok, e1, Sem.run_bind, e3]; rfl
  · rw [Sem.run_bind, eqGuard_at_pointer, Sem.run_pure, Result.andThen_ok, e2, Sem.run_bind, e3]; rfl
theorem run_nil_eqs {t e : TypeId} (hu : P.underlying t = some (.slice e)) (d : Nat) (b : Option Addr) (i j : Nat) (w : World) : (Op.equalIn (d + 1) t (.slice none 0 0) (.slice b i j)).run P w = .ok b.isNone w := by
  simp only [Op.equalIn, Sem.run_bind, run_underlying hu, Result.andThen_ok]
  rfl
theorem run_eqs_nil {t e : TypeId} (hu : P.underlying t = some (.slice e)) (d : Nat) (a : Addr) (i j : Nat) (w : World) : (Op.equalIn (d + 1) t (.slice (some a) i j) (.slice none 0 0)).run P w = .ok false w := by
  simp only [Op.equalIn, Sem.run_bind, run_underlying hu, Result.andThen_ok]
  rfl
theorem run_seqs {t : TypeId} {a b : Option Addr} {i j k l : Nat} {r : Bool} {w : World} {xo yo : Operand} (h : (Op.equalIn 10000 t (.slice a i j) (.slice b k l)).run P w = .ok r w) :
    (do eqGuard .eql t xo yo (.slice a i j) (.slice b k l); binOp .eql t (.slice a i j) (.slice b k l) : Sem Value).run P w = .ok (.bool r) w ∧
    (do eqGuard .neq t xo yo (.slice a i j) (.slice b k l); binOp .neq t (.slice a i j) (.slice b k l) : Sem Value).run P w = .ok (.bool (!r)) w := by
  have e1 : binOp .eql t (.slice a i j) (.slice b k l) = (do pure (.bool (← Op.equal t (.slice a i j) (.slice b k l)))) := rfl
  have e2 : binOp .neq t (.slice a i j) (.slice b k l) = (do pure (.bool (!(← Op.equal t (.slice a i j) (.slice b k l))))) := rfl
  have e3 : (Op.equal t (.slice a i j) (.slice b k l)).run P w = .ok r w := h
  constructor
  · rw [Sem.run_bind, eqGuard_at_slice, Sem.run_pure, Result.andThen_ok, e1, Sem.run_bind, e3]; rfl
  · rw [Sem.run_bind, eqGuard_at_slice, Sem.run_pure, Result.andThen_ok, e2, Sem.run_bind, e3]; rfl
theorem eqK_l {t : TypeId} (h : eqK P t = some .l) : ∃ e, P.underlying t = some (.slice e) := by
  unfold eqK at h
  split at h
  · cases h
  · cases h
  · rename_i e hu; exact ⟨e, hu⟩
  · split at h
    · obtain ⟨_, _, h2⟩ := Option.map_eq_some_iff.1 h
      cases h2
    · cases h
  · cases h
theorem eqK_p {t : TypeId} (h : eqK P t = some .p) : ∃ e, P.underlying t = some (.pointer e) := by
  unfold eqK at h
  split at h
  · cases h
  · rename_i e hu; exact ⟨e, hu⟩
  · cases h
  · split at h
    · obtain ⟨_, _, h2⟩ := Option.map_eq_some_iff.1 h
      cases h2
    · cases h
  · cases h
theorem y_eq (hC : COk C X.σ) {t : TypeId} {neg : Bool} {k : EK} {x y : SV} {p q : Value} {v : SV} {xo yo : Operand} (hx : R X ρ x p) (hy : R X ρ y q) (hk : eqK P t = some k)
    (h : (match neg with
      | true => nb (evEq C k x y)
      | false => bb (evEq C k x y)) = some v) : Yld X ρ P v (do eqGuard (if neg then .neq else .eql) t xo yo p q; binOp (if neg then .neq else .eql) t p q) := by
  have key : ∀ b, (∀ w, (do eqGuard .eql t xo yo p q; binOp .eql t p q : Sem Value).run P w = .ok (.bool b) w) → (∀ w, (do eqGuard .neq t xo yo p q; binOp .neq t p q : Sem Value).run P w = .ok (.bool (!b)) w) →
      (∀ r, evEq C k x y = some r → b = r) → Yld X ρ P v (do eqGuard (if neg then .neq else .eql) t xo yo p q; binOp (if neg then .neq else .eql) t p q) := by
    intro b h1 h2 h3
    cases neg with
    | true => exact ⟨_, nb_ok h (fun r hr => by rw [h3 r hr]), h2⟩
    | false => exact ⟨_, bb_ok h h3, h1⟩
  have hsome : ∃ r, evEq C k x y = some r := by
    cases he : evEq C k x y with
    | none => rw [he] at h; cases neg <;> cases h
    | some r => exact ⟨r, rfl⟩
  obtain ⟨r, hr⟩ := hsome
  have kr := key r
  have fin : ∀ r', evEq C k x y = some r' → r = r' := fun r' h' => Option.some.inj (hr.symm.trans h')
  clear key
  have fin2 := fin
  unfold evEq at hr
  split at hr
  · rename_i a b
    obtain rfl := (show p = .bool a from hx)
    obtain rfl := (show q = .bool b from hy)
    unfold eqK at hk
    split at hk <;> try (cases hk; done)
    · rename_i hu
      refine kr (fun w => ?_) (fun w => ?_) fin
      · rw [Sem.run_bind, eqGuard_at_bool]
        simp only [Sem.run_pure, Result.andThen_ok, binOp, Op.equal, Op.maxDepth, Sem.run_bind, run_equalIn_bool' w 9999 t a b hu]
        cases a <;> cases b <;> simp at hr <;> subst hr <;> rfl
      · rw [Sem.run_bind, eqGuard_at_bool]
        simp only [Sem.run_pure, Result.andThen_ok, binOp, Op.equal, Op.maxDepth, Sem.run_bind, run_equalIn_bool' w 9999 t a b hu]
        cases a <;> cases b <;> simp at hr <;> subst hr <;> rfl
    · split at hk
      · obtain ⟨_, _, h2⟩ := Option.map_eq_some_iff.1 hk
        cases h2
      · cases hk
  · rename_i ks xs ys
    obtain ⟨vx, rfl, hvx⟩ := hx
    obtain ⟨vy, rfl, hvy⟩ := hy
    unfold eqK at hk
    split at hk <;> try (cases hk; done)
    rename_i fs hu
    split at hk
    · rename_i hc
      obtain ⟨ks', hks, h2⟩ := Option.map_eq_some_iff.1 hk
      injection h2 with h2
      subst h2
      simp only [Bool.and_eq_true, Bool.not_eq_true'] at hc
      have hf : P.fieldsOf t = fs := by simp [Program.fieldsOf, hu]
      have hcs : ∀ w, (Op.equalIn 10000 t (.agg vx) (.agg vy)).run P w = .ok r w := fun w => by
        rw [run_equalIn_struct w 9999 t vx vy (by rw [hf]; exact hu) hc.1.2, hf]
        exact eqCs_ok hC 9998 vx vy w fs.toList 0 ks' xs ys r hks (by simpa using hvx) (by simpa using hvy) hr
      refine kr (fun w => ?_) (fun w => ?_) fin
      · rw [Sem.run_bind, run_eqGuard_agg w _ t xo yo vx vy hc.2, Result.andThen_ok, run_eql_struct, hcs w]; rfl
      · rw [Sem.run_bind, run_eqGuard_agg w _ t xo yo vx vy hc.2, Result.andThen_ok, run_neq_struct, hcs w]; rfl
    · cases hk
  · obtain ⟨e, hu⟩ := eqK_p hk
    obtain rfl := (show p = .pointer none from hx)
    obtain rfl := (show q = .pointer none from hy)
    obtain rfl := Option.some.inj hr
    exact kr (fun w => (run_peq (run_nil_eq hu 9999 none w)).1) (fun w => (run_peq (run_nil_eq hu 9999 none w)).2) fin
  · obtain ⟨e, hu⟩ := eqK_p hk
    obtain ⟨l1, hl1, rfl⟩ := hx
    obtain rfl := (show q = .pointer none from hy)
    obtain rfl := Option.some.inj hr
    exact kr (fun w => (run_peq (run_eq_nil hu 9999 _ w)).1) (fun w => (run_peq (run_eq_nil hu 9999 _ w)).2) fin
  · obtain ⟨e, hu⟩ := eqK_p hk
    obtain ⟨l1, hl1, rfl⟩ := hy
    obtain rfl := (show p = .pointer none from hx)
    obtain rfl := Option.some.inj hr
    exact kr (fun w => (run_peq (run_nil_eq hu 9999 (some _) w)).1) (fun w => (run_peq (run_nil_eq hu 9999 (some _) w)).2) fin
  · obtain ⟨e, hu⟩ := eqK_l hk
    obtain rfl := (show p = .slice none 0 0 from hx)
    obtain rfl := (show q = .slice none 0 0 from hy)
    obtain rfl := Option.some.inj hr
    exact kr (fun w => (run_seqs (run_nil_eqs hu 9999 none 0 0 w)).1) (fun w => (run_seqs (run_nil_eqs hu 9999 none 0 0 w)).2) fin
  · obtain ⟨e, hu⟩ := eqK_l hk
    obtain ⟨l1, ad, cp, hl1, rfl, _⟩ := hx
    obtain rfl := (show q = .slice none 0 0 from hy)
    obtain rfl := Option.some.inj hr
    exact kr (fun w => (run_seqs (run_eqs_nil hu 9999 _ _ _ w)).1) (fun w => (run_seqs (run_eqs_nil hu 9999 _ _ _ w)).2) fin
  · obtain ⟨e, hu⟩ := eqK_l hk
    obtain ⟨l1, ad, cp, hl1, rfl, _⟩ := hy
    obtain rfl := (show p = .slice none 0 0 from hx)
    obtain rfl := Option.some.inj hr
    exact kr (fun w => (run_seqs (run_nil_eqs hu 9999 (some _) _ _ w)).1) (fun w => (run_seqs (run_nil_eqs hu 9999 (some _) _ _ w)).2) fin
  · cases hr
end
end Go.Proofs.YtekkoodlnaapeaaGreatDoor.SX

/- The operations that look at slots alone: they yield what was reckoned. -/
namespace Go.Proofs.YtekkoodlnaapeaaGreatDoor.SX
open Go.RowKit
section
variable {X : Env} {ρ : List Loc} {P : Program} {C : Ctx} {K : Kx} {e : EV} {a : Act}
def Yl (X : Env) (ρ : List Loc) (P : Program) (v : SV) (s : Sem Next) : Prop := ∃ u, R X ρ v u ∧ ∀ W, s.run P W = .ok (.value u) W
theorem Yl.of {v : SV} {s : Sem Value} (h : Yld X ρ P v s) : Yl X ρ P v (do pure (Next.value (← s))) := h.next
theorem addr_add (b o j : Nat) : (⟨b, o, none⟩ : Addr).add j = ⟨b, o + j, none⟩ := by unfold Addr.add; split <;> simp_all
theorem y_pick {c p q : Operand} {co ca cb : Opd} (hE : RE' X ρ K e a.tmps) (h1 : cX K c = some co) (h2 : cX K p = some ca) (h3 : cX K q = some cb) {v : SV}
    (h : evP C e (.pick co ca cb) = some v) : Yl X ρ P v (do pure (.value (if ← asBool (a.eval c) then a.eval p else a.eval q))) := by
  have hb := ev_ok hE h1
  simp only [evP] at h
  split at h
  · rename_i t ht
    rw [ht] at hb
    have hb : a.eval c = .bool t := hb
    cases t with
    | true =>
      obtain rfl := Option.some.inj h
      exact ⟨a.eval p, ev_ok hE h2, fun W => by rw [hb]; rfl⟩
    | false =>
      obtain rfl := Option.some.inj h
      exact ⟨a.eval q, ev_ok hE h3, fun W => by rw [hb]; rfl⟩
  · cases h
theorem partsOf_ok {places : List (Nat × Nat)} : ∀ {ps : List (Nat × Operand)} {q : List (Nat × Nat × Opd)}, partsOf places K ps = some q →
    (q.length = ps.length ∧ ∀ (i : Nat) (p : Nat × Operand) (o : Nat × Nat × Opd), ps[i]? = some p → q[i]? = some o → places.toArray[p.1]? = some (o.1, o.2.1) ∧ cX K p.2 = some o.2.2)
  | [], q, h => by obtain rfl := Option.some.inj h; simp
  | x :: r, q, h => by
    unfold partsOf at h
    split at h
    · rename_i pl o t h1 h2 h3
      obtain rfl := Option.some.inj h
      have ih := partsOf_ok h3
      refine ⟨by simp [ih.1], fun i p o' hp ho => ?_⟩
      cases i with
      | zero =>
        obtain rfl := Option.some.inj hp
        obtain rfl := Option.some.inj ho
        exact ⟨by simpa using h1, h2⟩
      | succ i => exact ih.2 i p o' (by simpa using hp) (by simpa using ho)
    · cases h
theorem zeroOf_ok {t : TypeId} {z : List S0} (h : zeroOf P t = some z) : ∃ i v, P.info? t = some i ∧ i.zero = some v ∧ Rs X ρ z v.cells.toList := by
  unfold zeroOf at h
  obtain ⟨v, hv, hz⟩ := Option.bind_eq_some_iff.1 h
  obtain ⟨i, hi, hiv⟩ := Option.bind_eq_some_iff.1 hv
  exact ⟨i, v, hi, hiv, cVs_ok X ρ hz⟩
theorem y_bld {t : TypeId} {ps : Array (Nat × Operand)} {fs : Array Field} {z : List S0} {pl : List (Nat × Nat)} {q : List (Nat × Nat × Opd)} (hE : RE' X ρ K e a.tmps) (hu : P.underlying t = some (.struct fs))
    (hz : zeroOf P t = some z) (hp : fs.toList.mapM (fun f => (P.info? f.type).map fun i => (f.offset, i.size)) = some pl) (hq : partsOf pl K ps.toList = some q) {v : SV} (h : evP C e (.bld z q) = some v) :
    Yld X ρ P v (Instr.build t (ps.map fun (i, x) => (i, a.eval x))) := by
  simp only [evP] at h
  split at h
  · rename_i cs hcs
    obtain rfl := Option.some.inj h
    obtain ⟨it, vz, hit, hvz, hr⟩ := zeroOf_ok (X := X) (ρ := ρ) hz
    obtain ⟨vz', h1, h2⟩ := fillA_ok hE (pl.toArray[·]?) ps.toList q z cs vz.cells (partsOf_ok hq) hr hcs
    refine ⟨.agg vz', ⟨vz', rfl, h2⟩, fun W => run_build W t _ vz' ?_⟩
    unfold Program.built
    simp only [hit, hu, hvz, hp]
    rw [← h1]
    congr 1
    simp
  · cases h
theorem y_nilc {x : Operand} {o : Opd} (hE : RE' X ρ K e a.tmps) (hx : cX K x = some o) {v : SV} (h : evP C e (.nilc o) = some v) (dst : Option Tmp) (type : TypeId) (pos : String) (after : Array Edge) (guard : Option (Nat × Bool)) :
    Yl X ρ P v (execOp a.eval { dst, op := .nilCheck x, type, pos, after, guard }) := by
  have hb := ev_ok hE hx
  simp only [evP] at h
  split at h
  · rename_i i j hv
    obtain rfl := Option.some.inj h
    rw [hv] at hb
    refine ⟨a.eval x, hb, fun W => ?_⟩
    obtain ⟨l, _, hl⟩ := hb
    simp only [execOp, hl]
    rfl
  · rename_i fn p q hv
    obtain rfl := Option.some.inj h
    rw [hv] at hb
    refine ⟨a.eval x, hb, fun W => ?_⟩
    obtain ⟨fs, cs, hl, _⟩ := hb
    simp only [execOp, hl]
    rfl
  · cases h
theorem y_not {x : Operand} {o : Opd} (hE : RE' X ρ K e a.tmps) (hx : cX K x = some o) {v : SV} (h : evP C e (.not o) = some v) : Yld X ρ P v (Op.unary .not (a.eval x)) := by
  have hb := ev_ok hE hx
  simp only [evP] at h
  split at h
  · rename_i t ht
    rw [ht] at hb
    have hb : a.eval x = .bool t := hb
    cases t <;> (obtain rfl := Option.some.inj h; exact ⟨_, rfl, fun W => by rw [hb]; rfl⟩)
  · cases h
theorem y_conv (hC : COk C X.σ) {x : Operand} {o : Opd} {s d : TypeId} {k0 k : IntKind} (hs : P.underlying s = some (.int k0)) (hd : P.underlying d = some (.int k)) (hE : RE' X ρ K e a.tmps) (hx : cX K x = some o) {v : SV} (h : evP C e (.conv k o) = some v) :
    Yld X ρ P v (convert s d (a.eval x)) := by
  have hb := ev_ok hE hx
  simp only [evP] at h
  split at h
  · rename_i k1 s1 ht
    rw [ht] at hb
    have hb : a.eval x = .int k1 (s1.val X.σ) := hb
    refine ⟨_, arith_ok hC h, fun W => ?_⟩
    rw [hb]
    simp [convert, run_underlying hs, run_underlying hd, Conv.intToInt]
  · cases h
theorem y_convS {x : Operand} {o : Opd} {s d : TypeId} (hs : P.underlying s = some .string) (hd : P.underlying d = some .string) (hE : RE' X ρ K e a.tmps) (hx : cX K x = some o) {v : SV} (h : evP C e (.convS o) = some v) :
    Yld X ρ P v (convert s d (a.eval x)) := by
  have hb := ev_ok hE hx
  simp only [evP] at h
  split at h
  · rename_i q ht
    obtain rfl := Option.some.inj h
    rw [ht] at hb
    obtain ⟨bs, hbs, h2⟩ := hb
    refine ⟨.string bs, ⟨bs, rfl, h2⟩, fun W => ?_⟩
    rw [hbs]
    simp [convert, run_underlying hs, run_underlying hd]
  · cases h
theorem y_fa {x : Operand} {o : Opd} {t : TypeId} {fs : Array Field} {f : Nat} {g : Field} {s : Nat} (hu : P.underlying t = some (.struct fs)) (hf : fs[f]? = some g) (hs : szOf P g.type = some (Nat.succ s)) (hE : RE' X ρ K e a.tmps) (hx : cX K x = some o)
    {v : SV} (h : evP C e (.fa g.offset o) = some v) : Yld X ρ P v (Instr.fieldAt t (a.eval x) f) := by
  have hb := ev_ok hE hx
  simp only [evP] at h
  split at h
  · rename_i i j ht
    split at h
    · rename_i o' ho
      obtain rfl := Option.some.inj h
      have := fzN_eq ho
      subst this
      rw [ht] at hb
      obtain ⟨l, hl, hv⟩ := hb
      unfold szOf at hs
      obtain ⟨it, hit, hsz⟩ := Option.map_eq_some_iff.1 hs
      refine ⟨_, ⟨l, hl, rfl⟩, fun W => ?_⟩
      rw [hv]
      simp [Instr.fieldAt, Instr.sureAddr, run_underlying hu, hf, fieldPlace, sizeOf, typeInfo, hit, hsz, addr_add, Nat.add_assoc]
    · cases h
  · cases h
theorem y_fld {x : Operand} {o : Opd} {t : TypeId} {fs : Array Field} {f : Nat} {g : Field} {s : Nat} {b : Bool} (hu : P.underlying t = some (.struct fs)) (hf : fs[f]? = some g) (hs : szOf P g.type = some s) (hg : aggOf P g.type = some b) (hE : RE' X ρ K e a.tmps) (hx : cX K x = some o)
    {v : SV} (h : evP C e (.fld b g.offset s o) = some v) : Yld X ρ P v (Instr.field t (a.eval x) f) := by
  have hb := ev_ok hE hx
  simp only [evP] at h
  split at h
  · rename_i cs ht
    rw [ht] at hb
    obtain ⟨vs, hv, hrs⟩ := hb
    split at h
    · rename_i r hr
      have hd := ldrop_ok hr
      have hrd := hrs.drop g.offset
      rw [← hd.1] at hrd
      unfold szOf at hs
      obtain ⟨it, hit, hsz⟩ := Option.map_eq_some_iff.1 hs
      unfold aggOf at hg
      obtain ⟨de, hde, hdb⟩ := Option.map_eq_some_iff.1 hg
      have hrun : ∀ W, (Instr.field t (a.eval x) f).run P W = (part g.type vs g.offset).run P W := fun W => by
        rw [hv]; simp [Instr.field, run_underlying hu, hf, asAgg]
      split at h
      · split at h
        · rename_i u hu2
          obtain rfl := Option.some.inj h
          have htk := ltake_ok hu2
          have hl := hrd.len
          refine ⟨.agg (vs.extract g.offset (g.offset + s)), ⟨_, rfl, ?_⟩, fun W => ?_⟩
          · rw [htk.1]
            have e2 : (vs.extract g.offset (g.offset + s)).toList = (vs.toList.drop g.offset).take s := by
              rw [Array.toList_extract, List.extract_eq_take_drop]
              congr 1
              omega
            rw [e2]
            exact hrd.take s
          · rw [hrun]
            have : (isAgg g.type).run P W = .ok true W := by
              cases de <;> simp at hdb <;> simp [isAgg, run_underlying hde]
            simp [part, this, sizeOf, typeInfo, hit, hsz]
        · cases h
      · cases r with
        | nil => cases h
        | cons c r =>
          obtain rfl := Option.some.inj h
          have hl := hrd
          cases hvd : vs.toList.drop g.offset with
          | nil => rw [hvd] at hl; exact hl.elim
          | cons u q =>
            rw [hvd] at hl
            refine ⟨u, hl.1, fun W => ?_⟩
            rw [hrun]
            have gx : vs[g.offset]? = some u := by rw [← Array.getElem?_toList, ← List.head?_drop, hvd]; rfl
            exact part_one (fun d hd => by
              rw [hde] at hd
              obtain rfl := Option.some.inj hd
              cases de <;> simp at hdb <;> trivial) (by rw [hde]; rfl) gx W
    · cases h
  · cases h
theorem natOf_ok {x : SV} {j : Nat} {v : Value} (h : natOf x = some j) (hv : R X ρ x v) : ∃ k, v = .int k (j : Int) := by
  unfold natOf at h
  split at h
  · rename_i k m
    obtain rfl := Option.some.inj h
    exact ⟨k, hv⟩
  · cases h
theorem y_ixA {x i : Operand} {o p : Opd} {t el : TypeId} {s : Nat} (hel : elemOf' P t = some el) (hs : szOf P el = some s) (hE : RE' X ρ K e a.tmps) (hx : cX K x = some o) (hi : cX K i = some p)
    {v : SV} (h : evP C e (.ixA s o p) = some v) : Yld X ρ P v (Instr.indexAt t (a.eval x) (a.eval i)) := by
  have hb := ev_ok hE hx
  have hj := ev_ok hE hi
  simp only [evP] at h
  split at h
  · rename_i id off len s1 cap ht
    split at h
    · rename_i j hjn
      split at h
      · rename_i hlt
        split at h
        · rename_i o' ho
          obtain rfl := Option.some.inj h
          have := fzN_eq ho
          subst this
          have hlt : j < len := Nat.le_of_ble_eq_true hlt
          rw [ht] at hb
          obtain ⟨l, ad, cp, hl, hv, hcp, _, hor⟩ := hb
          have hne : cp ≠ 0 := by omega
          obtain ⟨rfl, hfit⟩ := hor.resolve_left hne
          obtain ⟨k, hk⟩ := natOf_ok hjn hj
          have hue : P.underlying t = some (.slice el) := by
            unfold elemOf' at hel
            split at hel
            · rename_i e2 h2; rw [h2]; exact congrArg _ (congrArg _ (Option.some.inj hel))
            · cases hel
          have hpe : P.elem t = el := by simp [Program.elem, hue]
          unfold szOf at hs
          obtain ⟨it, hit, hsz⟩ := Option.map_eq_some_iff.1 hs
          refine ⟨_, ⟨l, hl, rfl⟩, fun W => ?_⟩
          rw [hv, hk, run_indexAt_slice W t _ len cp k (j : Int) (by rw [hpe]; exact hue), if_pos (by omega), hpe]
          simp [sizeOf, typeInfo, hit, hsz, addr_add, Nat.add_assoc]
        · cases h
      · cases h
    · cases h
  · cases h
theorem y_ixS (hC : COk C X.σ) {x i : Operand} {o p : Opd} {t : TypeId} (hu : P.underlying t = some .string) (hE : RE' X ρ K e a.tmps) (hx : cX K x = some o) (hi : cX K i = some p)
    {v : SV} (h : evP C e (.ixS o p) = some v) : Yld X ρ P v (Instr.index t (a.eval x) (a.eval i)) := by
  have hb := ev_ok hE hx
  have hj := ev_ok hE hi
  simp only [evP] at h
  split at h
  · rename_i q ht
    split at h
    · rename_i k nn hjn
      split at h
      · rename_i r hr
        split at h
        · rename_i s hs
          obtain rfl := Option.some.inj h
          rw [ht] at hb
          rw [hjn] at hj
          obtain ⟨bs, hv, hbs, _⟩ := hb
          have hj : a.eval i = .int k (nn.val X.σ) := hj
          have hd := sdrop_ok hC.1 hC.2.1 q nn r hr
          obtain ⟨y, u, hy, hsv⟩ := shead_ok hC.2.1 hs
          rw [hd.2.2.1] at hy
          refine ⟨.int .u8 (y.toNat : Int), ?_, fun W => ?_⟩
          · show _ = Value.int _ _
            rw [hsv]
          · rw [hv, hj]
            have hlt : (nn.val X.σ).toNat < bs.size := by
              have : (sval X.σ q).length = bs.size := by rw [← hbs, Array.length_toList]; rfl
              rw [← this]
              rcases Nat.lt_or_ge (nn.val X.σ).toNat (sval X.σ q).length with hh | hh
              · exact hh
              · rw [List.drop_eq_nil_of_le hh] at hy; cases hy
            have hget : bs[(nn.val X.σ).toNat]? = some y := by
              have h1 : bs.data.toList[(nn.val X.σ).toNat]? = some y := by rw [hbs, ← List.head?_drop, hy]; rfl
              have h2 : bs[(nn.val X.σ).toNat]'hlt = y := by
                have h3 := List.getElem?_eq_some_iff.1 h1
                obtain ⟨h4, h5⟩ := h3
                rw [← h5]
                rfl
              rw [getElem?_pos bs _ hlt, h2]
            simp [Instr.index, asIntOf, run_underlying hu, hd.1, hget]
        · cases h
      · cases h
    · cases h
  · cases h
theorem s0s_ok (hE : RE' X ρ K e a.tmps) : ∀ {xs : List Operand} {os : List Opd} {cs : List S0}, cXs K xs = some os → s0s e os = some cs → Rs X ρ cs (xs.map a.eval)
  | [], os, cs, h, h2 => by
    obtain rfl := Option.some.inj h
    obtain rfl := Option.some.inj h2
    trivial
  | x :: xs, os, cs, h, h2 => by
    unfold cXs at h
    split at h
    · rename_i o os' ho hos
      obtain rfl := Option.some.inj h
      unfold s0s at h2
      split at h2
      · rename_i y hy
        split at h2
        · rename_i t ht
          obtain rfl := Option.some.inj h2
          have := ev_ok hE ho
          rw [hy] at this
          exact ⟨this, s0s_ok hE hos ht⟩
        · cases h2
      · cases h2
    · cases h
theorem RT.nth : ∀ {xs : List T1} {vs : List Value} {i : Nat} {t : T1}, RT X ρ xs vs → nthT xs i = some t → ∃ v, vs[i]? = some v ∧ R1 X ρ t v
  | [], _, _, _, _, h => by cases h
  | x :: xs, [], _, _, h, _ => h.elim
  | x :: xs, v :: vs, 0, t, h, h2 => by
    obtain rfl := Option.some.inj h2
    exact ⟨v, rfl, h.1⟩
  | x :: xs, v :: vs, i + 1, t, h, h2 => by
    obtain ⟨u, h3, h4⟩ := RT.nth h.2 h2
    exact ⟨u, by simpa using h3, h4⟩
theorem y_ext {x : Operand} {o : Opd} {i : Nat} (hE : RE' X ρ K e a.tmps) (hx : cX K x = some o) {v : SV} (h : evP C e (.ext i o) = some v) : Yld X ρ P v (Instr.extract (a.eval x) i) := by
  have hb := ev_ok hE hx
  simp only [evP] at h
  split at h
  · rename_i xs ht
    rw [ht] at hb
    obtain ⟨vs, hv, hrt⟩ := hb
    split at h
    · rename_i y hy
      obtain rfl := Option.some.inj h
      obtain ⟨u, h3, h4⟩ := RT.nth hrt hy
      rw [Array.getElem?_toList] at h3
      exact ⟨u, h4, fun W => by rw [hv]; simp [Instr.extract, h3]⟩
    · rename_i y hy
      obtain rfl := Option.some.inj h
      obtain ⟨u, h3, h4⟩ := RT.nth hrt hy
      rw [Array.getElem?_toList] at h3
      exact ⟨u, h4, fun W => by rw [hv]; simp [Instr.extract, h3]⟩
    · cases h
  · cases h
theorem y_lenS (hC : COk C X.σ) {x : Operand} {o : Opd} {t ty : TypeId} (hu : P.underlying t = some .string) (hE : RE' X ρ K e a.tmps) (hx : cX K x = some o) {v : SV} (h : evP C e (.lenS o) = some v) : Yld X ρ P v (Builtin.len_ #[t] ty #[a.eval x]) := by
  have hb := ev_ok hE hx
  simp only [evP] at h
  split at h
  · rename_i q ht
    rw [ht] at hb
    obtain ⟨bs, hv, hbs, _⟩ := hb
    split at h
    · rename_i m hm
      split at h
      · rename_i r hr
        obtain rfl := Option.some.inj h
        obtain rfl := frc_eq hr
        have hl := slen_ok hC.2.1 hm
        have hsz : bs.size = (sval X.σ q).length := by rw [← hbs, Array.length_toList]; rfl
        refine ⟨.int .i64 (bs.size : Int), ?_, fun W => ?_⟩
        · show _ = Value.int _ _
          rw [hl, hsz]
        · rw [hv]; simp [Builtin.len_, run_underlying hu, goInt]
      · cases h
    · cases h
  · cases h
theorem y_lenL {x : Operand} {o : Opd} {t ty el : TypeId} (hu : P.underlying t = some (.slice el)) (hE : RE' X ρ K e a.tmps) (hx : cX K x = some o) {v : SV} (h : evP C e (.lenL o) = some v) : Yld X ρ P v (Builtin.len_ #[t] ty #[a.eval x]) := by
  have hb := ev_ok hE hx
  simp only [evP] at h
  split at h
  · rename_i id off len s1 cap ht
    obtain rfl := Option.some.inj h
    rw [ht] at hb
    obtain ⟨l, ad, cp, hl, hv, _⟩ := hb
    exact ⟨.int .i64 (len : Int), rfl, fun W => by rw [hv]; simp [Builtin.len_, run_underlying hu, goInt]⟩
  · rename_i ht
    obtain rfl := Option.some.inj h
    rw [ht] at hb
    have hb : a.eval x = .slice none 0 0 := hb
    exact ⟨.int .i64 0, rfl, fun W => by rw [hb]; simp [Builtin.len_, run_underlying hu, goInt]⟩
  · cases h
theorem y_mx (hC : COk C X.σ) {x y : Operand} {o p : Opd} {ts : Array TypeId} {ty : TypeId} (hE : RE' X ρ K e a.tmps) (hx : cX K x = some o) (hy : cX K y = some p) {v : SV} (h : evP C e (.mx o p) = some v) : Yld X ρ P v (Builtin.max_ ts ty #[a.eval x, a.eval y]) := by
  have h1 := ev_ok hE hx
  have h2 := ev_ok hE hy
  simp only [evP] at h
  split at h
  · rename_i k s k' s' e1 e2
    rw [e1] at h1
    rw [e2] at h2
    have h1 : a.eval x = .int k (s.val X.σ) := h1
    have h2 : a.eval y = .int k' (s'.val X.σ) := h2
    split at h
    · rename_i t ht
      have hlt := SI.lt?_ok hC.1 ht
      have hr : ∀ W, (Builtin.max_ ts ty #[a.eval x, a.eval y]).run P W = .ok (.int k (if s'.val X.σ > s.val X.σ then s'.val X.σ else s.val X.σ)) W := fun W => by
        rw [h1, h2]; simp [Builtin.max_, Builtin.max2]
      cases t with
      | true =>
        obtain rfl := Option.some.inj h
        refine ⟨_, ?_, hr⟩
        rw [if_pos (by have := of_decide_eq_true hlt; omega)]; rfl
      | false =>
        obtain rfl := Option.some.inj h
        refine ⟨_, ?_, hr⟩
        rw [if_neg (by have := of_decide_eq_false hlt; omega)]; rfl
    · cases h
  · cases h
theorem y_mn (hC : COk C X.σ) {x y : Operand} {o p : Opd} {ts : Array TypeId} {ty : TypeId} (hE : RE' X ρ K e a.tmps) (hx : cX K x = some o) (hy : cX K y = some p) {v : SV} (h : evP C e (.mn o p) = some v) : Yld X ρ P v (Builtin.min_ ts ty #[a.eval x, a.eval y]) := by
  have h1 := ev_ok hE hx
  have h2 := ev_ok hE hy
  simp only [evP] at h
  split at h
  · rename_i k s k' s' e1 e2
    rw [e1] at h1
    rw [e2] at h2
    have h1 : a.eval x = .int k (s.val X.σ) := h1
    have h2 : a.eval y = .int k' (s'.val X.σ) := h2
    split at h
    · rename_i t ht
      have hlt := SI.lt?_ok hC.1 ht
      have hr : ∀ W, (Builtin.min_ ts ty #[a.eval x, a.eval y]).run P W = .ok (.int k (if s'.val X.σ < s.val X.σ then s'.val X.σ else s.val X.σ)) W := fun W => by
        rw [h1, h2]; simp [Builtin.min_, Builtin.min2]
      cases t with
      | true =>
        obtain rfl := Option.some.inj h
        refine ⟨_, ?_, hr⟩
        rw [if_pos (by have := of_decide_eq_true hlt; omega)]; rfl
      | false =>
        obtain rfl := Option.some.inj h
        refine ⟨_, ?_, hr⟩
        rw [if_neg (by have := of_decide_eq_false hlt; omega)]; rfl
    · cases h
  · cases h
end
end Go.Proofs.YtekkoodlnaapeaaGreatDoor.SX

/- Parts of texts and of slices; and all operations that look at slots alone. -/
namespace Go.Proofs.YtekkoodlnaapeaaGreatDoor.SX
open Go.RowKit
section
variable {X : Env} {ρ : List Loc} {P : Program} {C : Ctx} {K : Kx} {e : EV} {a : Act}
theorem cXo_ok {x : Option Operand} {o : Option Opd} (h : cXo K x = some o) : (x = none ∧ o = none) ∨ ∃ y p, x = some y ∧ o = some p ∧ cX K y = some p := by
  cases x with
  | none => exact .inl ⟨rfl, (Option.some.inj h).symm⟩
  | some y =>
    obtain ⟨p, hp, rfl⟩ := Option.map_eq_some_iff.1 h
    exact .inr ⟨y, p, rfl, rfl, hp⟩
theorem extract_list (s : ByteArray) (l h : Nat) : (s.extract l h).data.toList = (s.data.toList.take h).drop l := by
  rw [ByteArray.data_extract, Array.toList_extract, List.extract_eq_take_drop, List.drop_take]
theorem y_slS (hC : COk C X.σ) {x : Operand} {lo hi : Option Operand} {o : Opd} {ol oh : Option Opd} {t : TypeId} (hu : P.underlying t = some .string) (hE : RE' X ρ K e a.tmps) (hx : cX K x = some o)
    (hlo : cXo K lo = some ol) (hhi : cXo K hi = some oh) {v : SV} (h : evP C e (.slS o ol oh) = some v) : Yld X ρ P v (Instr.sliceAt t (a.eval x) (lo.map a.eval) (hi.map a.eval) (none : Option Value)) := by
  have hb := ev_ok hE hx
  simp only [evP] at h
  split at h
  · rename_i q ht
    rw [ht] at hb
    obtain ⟨bs, hv, hbs, hpq⟩ := hb
    have hsz : (sval X.σ q).length = bs.size := by rw [← hbs, Array.length_toList]; rfl
    split at h
    · rename_i q1 hq1
      have H1 : ∃ hh : Nat, hh ≤ bs.size ∧ sval X.σ q1 = (sval X.σ q).take hh ∧ POk X.σ q1 ∧ (match (hi.map a.eval) with | some v => ∀ W, (Instr.sliceBound v bs.size .sliceAlen).run P W = .ok hh W | none => hh = bs.size) := by
        rcases cXo_ok hhi with ⟨rfl, rfl⟩ | ⟨y, p, rfl, rfl, hp⟩
        · obtain rfl := Option.some.inj hq1
          exact ⟨bs.size, Nat.le_refl _, by rw [← hsz, List.take_length], hpq, rfl⟩
        · simp only at hq1
          split at hq1
          · rename_i k m hm
            have hj := ev_ok hE hp
            rw [hm] at hj
            have hj : a.eval y = .int k (m.val X.σ) := hj
            have hs := stake_ok hC.1 hC.2.1 q m q1 hq1
            refine ⟨(m.val X.σ).toNat, by omega, hs.2.2.1, hs.2.2.2 hpq, ?_⟩
            show ∀ W, (Instr.sliceBound (a.eval y) bs.size .sliceAlen).run P W = _
            intro W
            rw [hj, run_sliceBound W k _ bs.size _ hs.1 (by omega)]
          · cases hq1
      obtain ⟨hh, hle, hq1v, hp1, hrun⟩ := H1
      have H2 : ∃ (ll : Nat) (q2 : List Pc), ll ≤ hh ∧ v = .v (.s q2) ∧ sval X.σ q2 = (sval X.σ q1).drop ll ∧ POk X.σ q2 ∧ (match (lo.map a.eval) with | some v => ∀ W, (Instr.sliceBound v hh .sliceB).run P W = .ok ll W | none => ll = 0) := by
        rcases cXo_ok hlo with ⟨rfl, rfl⟩ | ⟨y, p, rfl, rfl, hp⟩
        · obtain rfl := Option.some.inj h
          exact ⟨0, q1, Nat.zero_le _, rfl, by simp, hp1, rfl⟩
        · simp only at h
          split at h
          · rename_i k m hm
            split at h
            · rename_i q2 hq2
              obtain rfl := Option.some.inj h
              have hj := ev_ok hE hp
              rw [hm] at hj
              have hj : a.eval y = .int k (m.val X.σ) := hj
              have hs := sdrop_ok hC.1 hC.2.1 q1 m q2 hq2
              have hl1 : (sval X.σ q1).length = hh := by rw [hq1v, List.length_take]; omega
              refine ⟨(m.val X.σ).toNat, q2, by omega, rfl, hs.2.2.1, hs.2.2.2 hp1, ?_⟩
              show ∀ W, (Instr.sliceBound (a.eval y) hh .sliceB).run P W = _
              intro W
              rw [hj, run_sliceBound W k _ hh _ hs.1 (by omega)]
            · cases h
          · cases h
      obtain ⟨ll, q2, hll, rfl, hq2v, hp2, hrun2⟩ := H2
      refine ⟨.string (bs.extract ll hh), ⟨_, rfl, by rw [extract_list, hbs, hq2v, hq1v], hp2⟩, fun W => ?_⟩
      rw [run_sliceAt_string W t _ _ _ _ hu, hv]
      simp only [Instr.slice, Sem.run_bind, run_underlying hu, Result.andThen_ok, Option.isSome_none, Bool.false_eq_true, if_false, Instr.sliceBounds, Sem.run_pure]
      cases hhm : hi.map a.eval with
      | none =>
        rw [hhm] at hrun
        subst hrun
        cases hlm : lo.map a.eval with
        | none => rw [hlm] at hrun2; subst hrun2; simp
        | some lv => rw [hlm] at hrun2; simp [hrun2 W]
      | some hv' =>
        rw [hhm] at hrun
        cases hlm : lo.map a.eval with
        | none => rw [hlm] at hrun2; subst hrun2; simp [hrun W]
        | some lv => rw [hlm] at hrun2; simp [hrun W, hrun2 W]
    · cases h
  · cases h

theorem bound_ok (hE : RE' X ρ K e a.tmps) {x : Option Operand} {o : Option Opd} {d b : Nat} (hx : cXo K x = some o) (h : boundO e d o = some b) :
    (x = none ∧ o = none ∧ b = d) ∨ ∃ y k, x = some y ∧ o.isSome = true ∧ a.eval y = .int k (b : Int) := by
  rcases cXo_ok hx with ⟨rfl, rfl⟩ | ⟨y, p, rfl, rfl, hp⟩
  · exact .inl ⟨rfl, rfl, (Option.some.inj h).symm⟩
  · obtain ⟨k, hk⟩ := natOf_ok h (ev_ok hE hp)
    exact .inr ⟨y, k, rfl, rfl, hk⟩
theorem bounds_run (hE : RE' X ρ K e a.tmps) {lo hi mx : Option Operand} {ol oh om : Option Opd} (hlo : cXo K lo = some ol) (hhi : cXo K hi = some oh) (hmx : cXo K mx = some om) {len cp l h m : Nat}
    (h1 : boundO e 0 ol = some l) (h2 : boundO e len oh = some h) (h3 : (om = none ∧ m = cp) ∨ (∃ q, om = some q ∧ natOf (q.ev e) = some m ∧ oh.isSome = true)) (hl : l ≤ h) (hh : h ≤ m) (hm : m ≤ cp) (W : World) :
    (Instr.sliceBounds true len cp (lo.map a.eval) (hi.map a.eval) (mx.map a.eval)).run P W = .ok (l, h, m) W := by
  have L := bound_ok hE hlo h1
  have H := bound_ok hE hhi h2
  have M : (mx = none ∧ m = cp) ∨ ∃ y k, mx = some y ∧ a.eval y = .int k (m : Int) ∧ oh.isSome = true := by
    rcases cXo_ok hmx with ⟨rfl, rfl⟩ | ⟨y, p, rfl, rfl, hp⟩
    · rcases h3 with ⟨_, h3⟩ | ⟨q, hq, _⟩
      · exact .inl ⟨rfl, h3⟩
      · cases hq
    · rcases h3 with ⟨h3, _⟩ | ⟨q, hq, hn, hs⟩
      · cases h3
      · obtain rfl := Option.some.inj hq
        obtain ⟨k, hk⟩ := natOf_ok hn (ev_ok hE hp)
        exact .inr ⟨y, k, rfl, hk, hs⟩
  have sb : ∀ (k : IntKind) (i b : Nat) (code : BoundsCode), i ≤ b → (Instr.sliceBound (.int k (i : Int)) b code).run P W = .ok i W := fun k i b code hib => by
    rw [run_sliceBound W k (i : Int) b code (by omega) (by omega)]; simp
  rcases M with ⟨rfl, rfl⟩ | ⟨ym, km, rfl, hkm, hs⟩
  · rcases H with ⟨rfl, rfl, rfl⟩ | ⟨yh, kh, rfl, _, hkh⟩
    · rcases L with ⟨rfl, _, rfl⟩ | ⟨yl, kl, rfl, _, hkl⟩
      · simp [Instr.sliceBounds]
      · simp [Instr.sliceBounds, hkl, sb _ _ _ _ hl]
    · rcases L with ⟨rfl, _, rfl⟩ | ⟨yl, kl, rfl, _, hkl⟩
      · simp [Instr.sliceBounds, hkh, sb _ _ _ _ hh]
      · simp [Instr.sliceBounds, hkh, sb _ _ _ _ hh, hkl, sb _ _ _ _ hl]
  · rcases H with ⟨rfl, rfl, rfl⟩ | ⟨yh, kh, rfl, _, hkh⟩
    · cases hs
    · rcases L with ⟨rfl, _, rfl⟩ | ⟨yl, kl, rfl, _, hkl⟩
      · simp [Instr.sliceBounds, hkm, sb _ _ _ _ hm, hkh, sb _ _ _ _ hh]
      · simp [Instr.sliceBounds, hkm, sb _ _ _ _ hm, hkh, sb _ _ _ _ hh, hkl, sb _ _ _ _ hl]
theorem slL_run {t el : TypeId} (hel : elemOf' P t = some el) {s : Nat} (hs : szOf P el = some s) {x : Value} {lo hi mx : Option Value} {b : Option Addr} {len cp l h m : Nat} (hx : x = .slice b len cp)
    (hb : ∀ W, (Instr.sliceBounds true len cp lo hi mx).run P W = .ok (l, h, m) W) (W : World) :
    (Instr.sliceAt t x lo hi mx).run P W = .ok (.slice (if m = l then b else b.map (·.add (l * s))) (h - l) (m - l)) W := by
  have hue : P.underlying t = some (.slice el) := by
    unfold elemOf' at hel
    split at hel
    · rename_i e2 h2; rw [h2]; exact congrArg _ (congrArg _ (Option.some.inj hel))
    · cases hel
  have hpe : P.elem t = el := by simp [Program.elem, hue]
  unfold szOf at hs
  obtain ⟨it, hit, hsz⟩ := Option.map_eq_some_iff.1 hs
  subst hx
  rw [run_sliceAt_slice W t _ _ _ _ (by rw [hpe]; exact hue)]
  simp [Instr.slice, run_underlying hue, hb W, sizeOf, typeInfo, hit, hsz]
theorem y_slL {x : Operand} {lo hi mx : Option Operand} {o : Opd} {ol oh om : Option Opd} {t el : TypeId} (hel : elemOf' P t = some el) {s : Nat} (hs : szOf P el = some s) (hE : RE' X ρ K e a.tmps) (hx : cX K x = some o)
    (hlo : cXo K lo = some ol) (hhi : cXo K hi = some oh) (hmx : cXo K mx = some om) {v : SV} (h : evP C e (.slL s o ol oh om) = some v) : Yld X ρ P v (Instr.sliceAt t (a.eval x) (lo.map a.eval) (hi.map a.eval) (mx.map a.eval)) := by
  have hb := ev_ok hE hx
  simp only [evP] at h
  split at h
  · rename_i id off len s1 cap ht
    split at h
    · cases h
    · rename_i hsz
      obtain rfl := Nat.eq_of_beq_eq_true hsz
      rw [ht] at hb
      obtain ⟨l, ad, cp, hl, hv, hlc, hcap, hor⟩ := hb
      split at h
      · rename_i lb hb' h1 h2
        split at h
        · rename_i hlh
          split at h
          · rename_i hhl
            have hlh := Nat.le_of_ble_eq_true hlh
            have hhl := Nat.le_of_ble_eq_true hhl
            have fin : ∀ (m : Nat) (c' : Option Nat), hb' ≤ m → m ≤ cp → (∀ W, (Instr.sliceBounds true len cp (lo.map a.eval) (hi.map a.eval) (mx.map a.eval)).run P W = .ok (lb, hb', m) W) → (∀ c, c' = some c → m - lb = c) →
                Yld X ρ P (.v (.sl id (off + lb * s1) (hb' - lb) s1 c')) (Instr.sliceAt t (a.eval x) (lo.map a.eval) (hi.map a.eval) (mx.map a.eval)) := by
              intro m c' hm hmc hbr hc'
              refine ⟨_, ?_, fun W => slL_run hel hs hv hbr W⟩
              by_cases c0 : m - lb = 0
              · refine ⟨l, (if m = lb then some ad else (some ad).map (·.add (lb * s1))).getD ad, m - lb, hl, ?_, by omega, hc', .inl c0⟩
                rw [if_pos (by omega)]; rfl
              · obtain ⟨rfl, hfit⟩ := hor.resolve_left (by omega)
                refine ⟨l, ⟨l.blk, l.off + off + lb * s1, none⟩, m - lb, hl, ?_, by omega, hc', .inr ⟨by rw [Nat.add_assoc], ?_⟩⟩
                · rw [if_neg (by omega), Option.map_some, addr_add]
                · have e1 : lb * s1 + (m - lb) * s1 = m * s1 := by rw [← Nat.add_mul]; congr 1; omega
                  have e2 : m * s1 ≤ cp * s1 := Nat.mul_le_mul_right _ hmc
                  omega
            split at h
            · split at h
              · rename_i o' n' ho hn
                have e1 := fzN_eq ho
                have e2 := fzN_eq hn
                subst e1 e2
                have hbr := fun W => bounds_run (P := P) hE hlo hhi hmx (len := len) (cp := cp) (m := cp) h1 h2 (.inl ⟨rfl, rfl⟩) hlh (by omega) (Nat.le_refl _) W
                split at h
                · obtain rfl := Option.some.inj h
                  exact fin cp none (by omega) (Nat.le_refl _) hbr (fun c hc => by cases hc)
                · rename_i c
                  split at h
                  · rename_i c' hc'
                    obtain rfl := Option.some.inj h
                    have e3 := fzN_eq hc'
                    subst e3
                    exact fin cp _ (by omega) (Nat.le_refl _) hbr (fun c2 hc2 => by rw [hcap c rfl]; exact Option.some.inj hc2)
                  · cases h
              · cases h
            · rename_i m
              split at h
              · rename_i q vl m' hm
                split at h
                · rename_i hhm
                  split at h
                  · rename_i hml
                    have hhm := Nat.le_of_ble_eq_true hhm
                    have hml := Nat.le_of_ble_eq_true hml
                    split at h
                    · rename_i o' n' c' ho hn hc
                      have e1 := fzN_eq ho
                      have e2 := fzN_eq hn
                      have e3 := fzN_eq hc
                      subst e1 e2 e3
                      obtain rfl := Option.some.inj h
                      have hbr := fun W => bounds_run (P := P) hE hlo hhi hmx (len := len) (cp := cp) (m := m') h1 h2 (.inr ⟨m, rfl, hm, rfl⟩) hlh hhm (by omega) W
                      exact fin m' _ hhm (by omega) hbr (fun c2 hc2 => Option.some.inj hc2)
                    · cases h
                  · cases h
                · cases h
              · cases h
          · cases h
        · cases h
      · cases h
  · rename_i ht
    rw [ht] at hb
    have hb : a.eval x = .slice none 0 0 := hb
    split at h
    · rename_i h1 h2
      obtain rfl := Option.some.inj h
      have hbr := fun W => bounds_run (P := P) hE hlo hhi hmx (len := 0) (cp := 0) (m := 0) h1 h2 (.inl ⟨rfl, rfl⟩) (Nat.le_refl _) (Nat.le_refl _) (Nat.le_refl _) W
      exact ⟨.slice none 0 0, rfl, fun W => slL_run hel hs hb hbr W⟩
    · cases h
  · cases h
end
end Go.Proofs.YtekkoodlnaapeaaGreatDoor.SX

/- All operations that look at slots alone. -/
namespace Go.Proofs.YtekkoodlnaapeaaGreatDoor.SX
open Go.RowKit
section
variable {X : Env} {ρ : List Loc} {P : Program} {C : Ctx} {K : Kx} {e : EV} {a : Act}
theorem isIS_bin (hC : COk C X.σ) {op : BinOp} {t : TypeId} {x y : Operand} {ca cb : Opd} (hE : RE' X ρ K e a.tmps) (hx : cX K x = some ca) (hy : cX K y = some cb) {v : SV} (h : evP C e (.bin op ca cb) = some v) :
    Yld X ρ P v (do eqGuard op t x y (a.eval x) (a.eval y); binOp op t (a.eval x) (a.eval y)) :=
  evBin_ok hC (ev_ok hE hx) (ev_ok hE hy) h
theorem call1 {b : Builtin} {ts : Array TypeId} {x : Operand} {dst : Option Tmp} {type : TypeId} {pos : String} {after : Array Edge} {guard : Option (Nat × Bool)} {v : SV} (s : Sem Value)
    (hb : ∀ cs, builtin b ts type cs #[a.eval x] = (do pure (Next.value (← s)))) (h : Yld X ρ P v s) :
    Yl X ρ P v (execOp a.eval { dst, op := .call { callee := .builtin b, args := #[x], argTypes := ts }, type, pos, after, guard }) := by
  obtain ⟨u, h1, h2⟩ := h.next
  refine ⟨u, h1, fun W => ?_⟩
  rw [← h2 W]
  simp only [execOp, resolve, invoke, Sem.run_bind, Sem.run_pure, Result.andThen_ok, List.map_toArray, List.map_cons, List.map_nil, hb]
theorem call2 {b : Builtin} {ts : Array TypeId} {x y : Operand} {dst : Option Tmp} {type : TypeId} {pos : String} {after : Array Edge} {guard : Option (Nat × Bool)} {v : SV} (s : Sem Value)
    (hb : ∀ cs, builtin b ts type cs #[a.eval x, a.eval y] = (do pure (Next.value (← s)))) (h : Yld X ρ P v s) :
    Yl X ρ P v (execOp a.eval { dst, op := .call { callee := .builtin b, args := #[x, y], argTypes := ts }, type, pos, after, guard }) := by
  obtain ⟨u, h1, h2⟩ := h.next
  refine ⟨u, h1, fun W => ?_⟩
  rw [← h2 W]
  simp only [execOp, resolve, invoke, Sem.run_bind, Sem.run_pure, Result.andThen_ok, List.map_toArray, List.map_cons, List.map_nil, hb]
theorem evP_ok (hC : COk C X.σ) {o : Oper} (hE : RE' X ρ K e a.tmps) {co : CO} (hc : cOp P K o.op = some co) {v : SV} (h : evP C e co = some v) : Yl X ρ P v (execOp a.eval o) := by
  obtain ⟨dst, op, type, pos, after, guard⟩ := o
  cases op <;> simp only [cOp] at hc <;> try (cases hc; done)
  case move x =>
    obtain ⟨p, hp, rfl⟩ := Option.map_eq_some_iff.1 hc
    obtain rfl := Option.some.inj h
    exact ⟨a.eval x, ev_ok hE hp, fun W => rfl⟩
  case assign x =>
    obtain ⟨p, hp, rfl⟩ := Option.map_eq_some_iff.1 hc
    obtain rfl := Option.some.inj h
    exact ⟨a.eval x, ev_ok hE hp, fun W => rfl⟩
  case pick c x y =>
    obtain ⟨c1, h1, hc⟩ := Option.bind_eq_some_iff.1 hc
    obtain ⟨c2, h2, hc⟩ := Option.bind_eq_some_iff.1 hc
    obtain ⟨c3, h3, rfl⟩ := Option.map_eq_some_iff.1 hc
    exact y_pick hE h1 h2 h3 h
  case alloc t =>
    obtain ⟨z, _, rfl⟩ := Option.map_eq_some_iff.1 hc
    cases h
  case box t x =>
    obtain ⟨z, _, rfl⟩ := Option.map_eq_some_iff.1 hc
    cases h
  case build t ps =>
    split at hc
    · rename_i fs hu
      obtain ⟨z, hz, hc⟩ := Option.bind_eq_some_iff.1 hc
      obtain ⟨pl, hpl, hc⟩ := Option.bind_eq_some_iff.1 hc
      obtain ⟨q, hq, rfl⟩ := Option.map_eq_some_iff.1 hc
      exact (y_bld hE hu hz hpl hq h).next
    · cases hc
  case buildSlice t len ps =>
    obtain ⟨el, _, hc⟩ := Option.bind_eq_some_iff.1 hc
    obtain ⟨s, _, hc⟩ := Option.bind_eq_some_iff.1 hc
    obtain ⟨z, _, hc⟩ := Option.bind_eq_some_iff.1 hc
    obtain ⟨q, _, hc⟩ := Option.bind_eq_some_iff.1 hc
    split at hc
    · obtain rfl := Option.some.inj hc
      cases h
    · cases hc
  case load t x =>
    obtain ⟨g, _, hc⟩ := Option.bind_eq_some_iff.1 hc
    obtain ⟨s, _, hc⟩ := Option.bind_eq_some_iff.1 hc
    obtain ⟨q, _, rfl⟩ := Option.map_eq_some_iff.1 hc
    cases h
  case store t p x =>
    obtain ⟨g, _, hc⟩ := Option.bind_eq_some_iff.1 hc
    obtain ⟨s, _, hc⟩ := Option.bind_eq_some_iff.1 hc
    obtain ⟨q, _, rfl⟩ := Option.map_eq_some_iff.1 hc
    cases h
  case nilCheck x =>
    obtain ⟨p, hp, rfl⟩ := Option.map_eq_some_iff.1 hc
    exact y_nilc hE hp h dst type pos after guard
  case binOp op t x y yt =>
    obtain ⟨c1, h1, hc⟩ := Option.bind_eq_some_iff.1 hc
    obtain ⟨c2, h2, hc⟩ := Option.bind_eq_some_iff.1 hc
    have hb : ∀ {op : BinOp}, co = .bin op c1 c2 → Yl X ρ P v (execOp a.eval { dst, op := .binOp op t x y yt, type, pos, after, guard }) := by
      rintro op rfl
      exact (isIS_bin hC hE h1 h2 h).next
    cases op <;> simp only at hc <;> try (cases hc; done)
    case eql =>
      split at hc
      · exact hb (Option.some.inj hc).symm
      · obtain ⟨k, hk, rfl⟩ := Option.map_eq_some_iff.1 hc
        exact (y_eq (neg := false) hC (ev_ok hE h1) (ev_ok hE h2) hk h).next
    case neq =>
      split at hc
      · exact hb (Option.some.inj hc).symm
      · obtain ⟨k, hk, rfl⟩ := Option.map_eq_some_iff.1 hc
        exact (y_eq (neg := true) hC (ev_ok hE h1) (ev_ok hE h2) hk h).next
    all_goals exact hb (Option.some.inj hc).symm
  case unOp op t x =>
    cases op <;> simp only at hc <;> try (cases hc; done)
    obtain ⟨p, hp, rfl⟩ := Option.map_eq_some_iff.1 hc
    exact (y_not hE hp h).next
  case convert s d x =>
    split at hc
    · rename_i k0 k hs hd
      obtain ⟨p, hp, rfl⟩ := Option.map_eq_some_iff.1 hc
      exact (y_conv hC hs hd hE hp h).next
    · rename_i hs hd
      obtain ⟨p, hp, rfl⟩ := Option.map_eq_some_iff.1 hc
      exact (y_convS hs hd hE hp h).next
    · split at hc
      · split at hc
        · obtain ⟨p, hp, rfl⟩ := Option.map_eq_some_iff.1 hc
          cases h
        · cases hc
      · cases hc
    · cases hc
  case slice t x lo hi mx =>
    obtain ⟨c1, h1, hc⟩ := Option.bind_eq_some_iff.1 hc
    obtain ⟨c2, h2, hc⟩ := Option.bind_eq_some_iff.1 hc
    obtain ⟨c3, h3, hc⟩ := Option.bind_eq_some_iff.1 hc
    obtain ⟨c4, h4, hc⟩ := Option.bind_eq_some_iff.1 hc
    split at hc
    · rename_i hu
      split at hc
      · obtain rfl := Option.some.inj hc
        rcases cXo_ok h4 with ⟨rfl, _⟩ | ⟨_, _, _, hq, _⟩
        · exact (y_slS hC hu hE h1 h2 h3 h).next
        · cases hq
      · cases hc
    · rename_i el hu
      obtain ⟨s, hs, rfl⟩ := Option.map_eq_some_iff.1 hc
      exact (y_slL (by simp only [elemOf', hu]) hs hE h1 h2 h3 h4 h).next
    · cases hc
  case fieldAddr t x f =>
    split at hc
    · rename_i fs hu
      split at hc
      · rename_i g hg
        split at hc
        · rename_i s hs
          obtain ⟨p, hp, rfl⟩ := Option.map_eq_some_iff.1 hc
          exact (y_fa hu hg hs hE hp h).next
        · cases hc
      · cases hc
    · cases hc
  case field t x f =>
    split at hc
    · rename_i fs hu
      split at hc
      · rename_i g hg
        obtain ⟨b, hb, hc⟩ := Option.bind_eq_some_iff.1 hc
        obtain ⟨s, hs, hc⟩ := Option.bind_eq_some_iff.1 hc
        obtain ⟨p, hp, rfl⟩ := Option.map_eq_some_iff.1 hc
        exact (y_fld hu hg hs hb hE hp h).next
      · cases hc
    · cases hc
  case indexAddr t x i =>
    obtain ⟨el, h1, hc⟩ := Option.bind_eq_some_iff.1 hc
    obtain ⟨s, h2, hc⟩ := Option.bind_eq_some_iff.1 hc
    obtain ⟨p, h3, hc⟩ := Option.bind_eq_some_iff.1 hc
    obtain ⟨q, h4, rfl⟩ := Option.map_eq_some_iff.1 hc
    exact (y_ixA h1 h2 hE h3 h4 h).next
  case index t x i =>
    split at hc
    · rename_i hu
      obtain ⟨p, h3, hc⟩ := Option.bind_eq_some_iff.1 hc
      obtain ⟨q, h4, rfl⟩ := Option.map_eq_some_iff.1 hc
      exact (y_ixS hC hu hE h3 h4 h).next
    · cases hc
  case makeSlice t l c =>
    obtain ⟨_, _, hc⟩ := Option.bind_eq_some_iff.1 hc
    obtain ⟨_, _, hc⟩ := Option.bind_eq_some_iff.1 hc
    obtain ⟨_, _, hc⟩ := Option.bind_eq_some_iff.1 hc
    obtain ⟨_, _, hc⟩ := Option.bind_eq_some_iff.1 hc
    obtain ⟨_, _, hc⟩ := Option.bind_eq_some_iff.1 hc
    split at hc
    · obtain rfl := Option.some.inj hc
      cases h
    · cases hc
  case makeFunc f first cap =>
    split at hc
    · rename_i g
      obtain ⟨p, hp, hc⟩ := Option.bind_eq_some_iff.1 hc
      obtain ⟨q, hq, rfl⟩ := Option.map_eq_some_iff.1 hc
      simp only [evP] at h
      split at h
      · rename_i s1 s2 h1 h2
        obtain rfl := Option.some.inj h
        exact Yld.next ⟨.func (.func g) (first.map a.eval) (cap.map a.eval), ⟨_, _, rfl, by rw [Array.toList_map]; exact s0s_ok hE hp h1, by rw [Array.toList_map]; exact s0s_ok hE hq h2⟩, fun W => rfl⟩
      · cases h
    · cases hc
  case extract x i =>
    obtain ⟨p, hp, rfl⟩ := Option.map_eq_some_iff.1 hc
    exact (y_ext hE hp h).next
  case call c =>
    obtain ⟨callee, args, argTypes⟩ := c
    simp only at hc
    split at hc
    · split at hc
      · rename_i x t hxa hta
        have e1 : args = #[x] := by rw [← Array.toList_inj]; exact hxa
        have e2 : argTypes = #[t] := by rw [← Array.toList_inj]; exact hta
        subst e1 e2
        split at hc
        · rename_i hu
          obtain ⟨p, hp, rfl⟩ := Option.map_eq_some_iff.1 hc
          exact call1 _ (fun _ => rfl) (y_lenS hC hu hE hp h)
        · rename_i el hu
          obtain ⟨p, hp, rfl⟩ := Option.map_eq_some_iff.1 hc
          exact call1 _ (fun _ => rfl) (y_lenL hu hE hp h)
        · cases hc
      · cases hc
    · split at hc
      · split at hc
        · obtain ⟨_, _, hc⟩ := Option.bind_eq_some_iff.1 hc
          obtain ⟨_, _, hc⟩ := Option.bind_eq_some_iff.1 hc
          obtain ⟨_, _, hc⟩ := Option.bind_eq_some_iff.1 hc
          obtain ⟨_, _, hc⟩ := Option.bind_eq_some_iff.1 hc
          obtain ⟨_, _, hc⟩ := Option.bind_eq_some_iff.1 hc
          split at hc
          · obtain rfl := Option.some.inj hc
            cases h
          · cases hc
        · cases hc
      · cases hc
    · split at hc
      · rename_i x y hxa
        have e1 : args = #[x, y] := by rw [← Array.toList_inj]; exact hxa
        subst e1
        obtain ⟨p, hp, hc⟩ := Option.bind_eq_some_iff.1 hc
        obtain ⟨q, hq, rfl⟩ := Option.map_eq_some_iff.1 hc
        exact call2 _ (fun _ => rfl) (y_mx hC hE hp hq h)
      · cases hc
    · split at hc
      · rename_i x y hxa
        have e1 : args = #[x, y] := by rw [← Array.toList_inj]; exact hxa
        subst e1
        obtain ⟨p, hp, hc⟩ := Option.bind_eq_some_iff.1 hc
        obtain ⟨q, hq, rfl⟩ := Option.map_eq_some_iff.1 hc
        exact call2 _ (fun _ => rfl) (y_mn hC hE hp hq h)
      · cases hc
    · obtain ⟨_, _, rfl⟩ := Option.map_eq_some_iff.1 hc
      cases h
    · obtain ⟨_, _, hc⟩ := Option.bind_eq_some_iff.1 hc
      obtain ⟨_, _, rfl⟩ := Option.map_eq_some_iff.1 hc
      cases h
    · cases hc
end
end Go.Proofs.YtekkoodlnaapeaaGreatDoor.SX

/- Memory: read, written, grown. -/
namespace Go.Proofs.YtekkoodlnaapeaaGreatDoor.SX
open Go.RowKit
section
variable {X : Env} {ρ : List Loc} {P : Program} {base : Nat → Prop}
theorem Rs.get : ∀ {x : List S0} {v : List Value} {i : Nat} {c : S0}, Rs X ρ x v → x[i]? = some c → ∃ u, v[i]? = some u ∧ R0 X ρ c u
  | [], _, _, _, _, h => by simp at h
  | x :: r, [], _, _, h, _ => h.elim
  | x :: r, v :: t, 0, c, h, h2 => by
    obtain rfl := Option.some.inj h2
    exact ⟨v, rfl, h.1⟩
  | x :: r, v :: t, i + 1, c, h, h2 => by
    obtain ⟨u, h3, h4⟩ := Rs.get (i := i) h.2 (by simpa using h2)
    exact ⟨u, by simpa using h3, h4⟩
theorem Rs.set : ∀ {x : List S0} {v : List Value} (i : Nat) {c : S0} {u : Value}, Rs X ρ x v → R0 X ρ c u → Rs X ρ (x.set i c) (v.set i u)
  | [], [], _, _, _, _, _ => trivial
  | _ :: _, _ :: _, 0, _, _, h, hc => ⟨hc, h.2⟩
  | _ :: _, _ :: _, i + 1, _, _, h, hc => ⟨h.1, Rs.set i h.2 hc⟩
  | [], _ :: _, _, _, _, h, _ => h.elim
  | _ :: _, [], _, _, _, h, _ => h.elim
def upd (g : Nat → Option Blk) (i : Nat) (b : Option Blk) : Nat → Option Blk := fun j => if j = i then b else g j
theorem upd_put {h h' : HT} {i : Nat} {b : Option Blk} (e : HT.put b h i = some h') : HT.get h' = upd (HT.get h) i b := funext fun m => HT.put_ok e m
theorem RG.lt {g : Nat → Option Blk} {w : World} (h : RG X ρ base g w) {id : Nat} {b : Blk} (hb : g id = some b) : id < ρ.length := by
  obtain ⟨l, hl, _⟩ := h.row id b hb
  exact (List.getElem?_eq_some_iff.1 hl).1
theorem RowAt.blk_lt {w : World} {b : Blk} {l : Loc} (h : RowAt X ρ base w b l) : l.blk < w.heap.size := by
  obtain ⟨cs, fr, h1, _⟩ := h.at_
  exact (Array.getElem?_eq_some_iff.1 h1).1
theorem RowAt.ext {ρ' : List Loc} (e : Ext ρ ρ') {w : World} {b : Blk} {l : Loc} (h : RowAt X ρ base w b l) : RowAt X ρ' base w b l := by
  obtain ⟨hl, cs, fr, h1, h2, h3, h4, h5⟩ := h
  exact ⟨hl, cs, fr, h1, h2, h3, h4, h5.ext e⟩
theorem RowAt.same {w w' : World} {b : Blk} {l : Loc} (h : RowAt X ρ base w b l) (hw : w'.heap[l.blk]? = w.heap[l.blk]?) : RowAt X ρ base w' b l := by
  obtain ⟨hl, cs, fr, h1, h2, h3, h4, h5⟩ := h
  exact ⟨hl, cs, fr, by rw [hw]; exact h1, h2, h3, h4, h5⟩
theorem RG.world {g : Nat → Option Blk} {w w' : World} (h : RG X ρ base g w) (hw : w'.heap = w.heap) : RG X ρ base g w' :=
  ⟨fun id b hb => by obtain ⟨l, hl, hr⟩ := h.row id b hb; exact ⟨l, hl, hr.same (by rw [hw])⟩, h.inj⟩
theorem RG.erase {g : Nat → Option Blk} {w : World} (h : RG X ρ base g w) (i : Nat) : RG X ρ base (upd g i none) w := by
  have sub : ∀ id b, upd g i none id = some b → g id = some b := fun id b hb => by
    unfold upd at hb
    split at hb
    · cases hb
    · exact hb
  exact ⟨fun id b hb => h.row id b (sub id b hb), fun id id' b b' l l' hb hb' => h.inj id id' b b' l l' (sub id b hb) (sub id' b' hb')⟩
/-- A new row. -/
theorem RG.alloc {g : Nat → Option Blk} {w : World} (h : RG X ρ base g w) (hb : ∀ k, base k → k < w.heap.size) {ty : Nat} {zs : List S0} {cells : Array Value} (hz : Rs X ρ zs (cells.toList.take zs.length)) (hle : zs.length ≤ cells.size) :
    RG X (ρ ++ [⟨w.heap.size, 0, cells.size⟩]) base (upd g ρ.length (some ⟨ty, zs⟩)) (w.alloc (.cells cells ty)) := by
  have e := Ext.one ρ ⟨w.heap.size, 0, cells.size⟩
  have hnew : (ρ ++ [(⟨w.heap.size, 0, cells.size⟩ : Loc)])[ρ.length]? = some ⟨w.heap.size, 0, cells.size⟩ := by simp
  refine ⟨fun id b hb' => ?_, fun id id' b b' l l' h1 h2 h3 h4 h5 => ?_⟩
  · unfold upd at hb'
    split at hb'
    · rename_i hid
      subst hid
      obtain rfl := Option.some.inj hb'
      exact ⟨_, hnew, fun q => Nat.lt_irrefl _ (hb _ q), cells, (0, 0), heap_alloc_new w _, .inl rfl, by simp, hle, by simpa using hz.ext e⟩
    · obtain ⟨l, hl, hr⟩ := h.row id b hb'
      exact ⟨l, e.get hl, (hr.ext e).same (Below.heap_alloc w _ _ hr.blk_lt)⟩
  · have old : ∀ {i : Nat} {b : Blk} {l : Loc}, upd g ρ.length (some ⟨ty, zs⟩) i = some b → (ρ ++ [(⟨w.heap.size, 0, cells.size⟩ : Loc)])[i]? = some l → (i = ρ.length ∧ l.blk = w.heap.size) ∨ (i ≠ ρ.length ∧ g i = some b ∧ ρ[i]? = some l ∧ l.blk < w.heap.size) := by
      intro i b l hi hl
      unfold upd at hi
      split at hi
      · rename_i hid
        subst hid
        rw [hnew] at hl
        obtain rfl := Option.some.inj hl
        exact .inl ⟨rfl, rfl⟩
      · rename_i hid
        obtain ⟨l', hl', hr⟩ := h.row i b hi
        rw [e.get hl'] at hl
        obtain rfl := Option.some.inj hl
        exact .inr ⟨hid, hi, hl', hr.blk_lt⟩
    rcases old h1 h3 with ⟨a1, a2⟩ | ⟨a1, a2, a3, a4⟩ <;> rcases old h2 h4 with ⟨b1, b2⟩ | ⟨b1, b2, b3, b4⟩
    · rw [a1, b1]
    · omega
    · omega
    · exact h.inj _ _ _ _ _ _ a2 b2 a3 b3 h5
/-- What a cell of a known row holds. -/
theorem RG.cell {g : Nat → Option Blk} {w : World} (h : RG X ρ base g w) {id : Nat} {b : Blk} {l : Loc} (hb : g id = some b) (hl : ρ[id]? = some l) {j : Nat} {c : S0} (hc : b.cells[j]? = some c) :
    ∃ u, w.cell? ⟨l.blk, l.off + j, none⟩ = some u ∧ R0 X ρ c u ∧ w.frozen? ⟨l.blk, l.off + j, none⟩ = false := by
  obtain ⟨l', hl', hr⟩ := h.row id b hb
  rw [hl] at hl'
  obtain rfl := Option.some.inj hl'
  obtain ⟨hlow, cs, fr, h1, h2, h3, h4, h5⟩ := hr
  obtain ⟨u, hu, hr0⟩ := h5.get hc
  have hj : j < b.cells.length := (List.getElem?_eq_some_iff.1 hc).1
  rw [List.getElem?_take, if_pos hj, List.getElem?_drop, Array.getElem?_toList] at hu
  refine ⟨u, ?_, hr0, ?_⟩
  · simp [World.cell?, h1, hu]
  · have hlt : l.off + j < cs.size := by omega
    simp only [World.frozen?, h1]
    rcases h2 with h2 | h2
    · rw [← h2]; simp
    · simp; omega
/-- A cell of a known row written. -/
theorem RG.set {g : Nat → Option Blk} {w : World} (h : RG X ρ base g w) {id : Nat} {b : Blk} {l : Loc} (hb : g id = some b) (hl : ρ[id]? = some l) {j : Nat} (hj : j < b.cells.length) {c : S0} {u : Value} (hc : R0 X ρ c u) :
    RG X ρ base (upd g id (some ⟨b.ty, b.cells.set j c⟩)) (w.setCell ⟨l.blk, l.off + j, none⟩ u) := by
  refine ⟨fun id' b' hb' => ?_, fun id1 id2 b1 b2 l1 l2 h1 h2 h3 h4 h5 => ?_⟩
  · unfold upd at hb'
    split at hb'
    · rename_i hid
      subst hid
      obtain rfl := Option.some.inj hb'
      obtain ⟨l', hl', hr⟩ := h.row _ b hb
      rw [hl] at hl'
      obtain rfl := Option.some.inj hl'
      obtain ⟨hlow, cs, fr, h1, h2, h3, h4, h5⟩ := hr
      refine ⟨l, hl, hlow, cs.setIfInBounds (l.off + j) u, fr, ?_, by simpa using h2, by simpa using h3, by simpa using h4, ?_⟩
      · simp [World.setCell, Array.getElem?_modify, h1]
      · simp only [List.length_set]
        rw [Array.toList_setIfInBounds, List.drop_set]
        rw [if_neg (by omega)]
        have e1 : l.off + j - l.off = j := by omega
        rw [e1, List.take_set]
        exact h5.set j hc
    · rename_i hid
      obtain ⟨l', hl', hr⟩ := h.row id' b' hb'
      refine ⟨l', hl', hr.same ?_⟩
      have hne : l.blk ≠ l'.blk := fun e => hid (h.inj id' id b' b l' l hb' hb hl' hl e.symm)
      exact Below.heap_setCell w _ u _ (fun e => hne e.symm)
  · have sub : ∀ i b', upd g id (some ⟨b.ty, b.cells.set j c⟩) i = some b' → ∃ b'', g i = some b'' := fun i b' hi => by
      unfold upd at hi
      split at hi
      · rename_i hid; subst hid; exact ⟨b, hb⟩
      · exact ⟨b', hi⟩
    obtain ⟨b1', h1'⟩ := sub _ _ h1
    obtain ⟨b2', h2'⟩ := sub _ _ h2
    exact h.inj _ _ _ _ _ _ h1' h2' h3 h4 h5
theorem upd_upd (g : Nat → Option Blk) (i : Nat) (a b : Option Blk) : upd (upd g i a) i b = upd g i b := by
  funext j; unfold upd; split <;> rfl
theorem upd_same (g : Nat → Option Blk) (i : Nat) (b : Option Blk) (h : g i = b) : upd g i b = g := by
  funext j; unfold upd; split
  · rename_i e; rw [e, h]
  · rfl
/-- Some cells of a known row written, one behind the other. -/
theorem RG.stores (w0 : World) {id : Nat} {l : Loc} (hl : ρ[id]? = some l) (off : Nat) (hlow : ¬ base l.blk) : ∀ (vs : List Value) (xs : List S0) (i : Nat) (b : Blk) (g : Nat → Option Blk) (w : World),
    RG X ρ base g w → Fz base w0 w → g id = some b → Rs X ρ xs vs → off + i + xs.length ≤ b.cells.length →
    ∃ w', (storeCells ⟨l.blk, l.off + off, none⟩ vs i).run P w = .ok () w' ∧ RG X ρ base (upd g id (some ⟨b.ty, b.cells.take (off + i) ++ (xs ++ b.cells.drop (off + i + xs.length))⟩)) w' ∧ Fz base w0 w' ∧ w'.heap.size = w.heap.size
  | [], [], i, b, g, w, h, hB, hb, _, _ => by
    refine ⟨w, rfl, ?_, hB, rfl⟩
    rw [upd_same]
    · exact h
    · rw [hb]; simp
  | [], _ :: _, _, _, _, _, _, _, _, h, _ => h.elim
  | _ :: _, [], _, _, _, _, _, _, _, h, _ => h.elim
  | v :: vs, x :: xs, i, b, g, w, h, hB, hb, hx, hlen => by
    simp only [List.length_cons] at hlen
    obtain ⟨u, hu, _, hfr⟩ := h.cell hb hl (j := off + i) (c := b.cells[off + i]'(by omega)) (List.getElem?_eq_getElem (by omega))
    have hs := h.set hb hl (j := off + i) (by omega) hx.1
    have e1 : l.off + (off + i) = l.off + off + i := by omega
    rw [e1] at hs hu hfr
    have hB' : Fz base w0 (w.setCell ⟨l.blk, l.off + off + i, none⟩ v) := hB.setCell hlow v
    obtain ⟨w', h1, h2, h3, h4⟩ := RG.stores w0 hl off hlow vs xs (i + 1) ⟨b.ty, b.cells.set (off + i) x⟩ _ _ hs hB' (by simp [upd]) hx.2 (by simp; omega)
    refine ⟨w', ?_, ?_, h3, by rw [h4]; simp [World.setCell]⟩
    · simp only [storeCells, Sem.run_bind, addr_add]
      rw [run_store P w _ v _ hx.1.one, hu]
      simp only [hfr, Bool.false_eq_true, if_false, Result.andThen_ok]
      exact h1
    · rw [upd_upd] at h2
      have e3 : (b.cells.set (off + i) x).take (off + (i + 1)) ++ (xs ++ (b.cells.set (off + i) x).drop (off + (i + 1) + xs.length)) = b.cells.take (off + i) ++ (x :: xs ++ b.cells.drop (off + i + (x :: xs).length)) := by
        have e4 : off + (i + 1) = off + i + 1 := by omega
        rw [e4, List.length_cons]
        have hlt : off + i < b.cells.length := by omega
        rw [List.drop_set, if_pos (by omega), List.take_succ_eq_append_getElem (by simpa using hlt), List.take_set_of_le (by omega)]
        simp only [List.getElem_set_self, List.append_assoc, List.cons_append, List.nil_append]
        have e5 : off + i + 1 + xs.length = off + i + (xs.length + 1) := by omega
        rw [e5]
      simp only [e3] at h2
      exact h2
end
end Go.Proofs.YtekkoodlnaapeaaGreatDoor.SX

/- The operations that read, write or make memory. -/
namespace Go.Proofs.YtekkoodlnaapeaaGreatDoor.SX
open Go.RowKit

def repO (z : List S0) : Nat → Option (List S0)
  | 0 => some []
  | Nat.succ k => match repO z k with
    | some t => appO z t
    | none => none
theorem repO_eq {z : List S0} : ∀ {k : Nat} {t : List S0}, repO z k = some t → t = repZ z k
  | 0, t, h => (Option.some.inj h).symm
  | Nat.succ k, t, h => by
    unfold repO at h
    split at h
    · rename_i u hu
      rw [appO_eq h, repO_eq hu]; rfl
    · cases h
def newRowM (m : Mem) (ty : Nat) (cs : List S0) : Option Mem :=
  match HT.put (some ⟨ty, cs⟩) m.t m.nx with
  | some t => match fzN (Nat.succ m.nx) with
    | some k => some ⟨t, k⟩
    | none => none
  | none => none
/-- The cells that a slice leads to. -/
def rowOf (m : Mem) (sz : Nat) : SV → Option (List S0)
  | .v .nils => some []
  | .v (.sl id off len s1 _) => match Nat.beq s1 sz with
    | true => match len with
      | 0 => some []
      | Nat.succ k => match HT.get m.t id with
        | some b => match ldrop off b.cells with
          | some r => ltake (Nat.succ k * sz) r
          | none => none
        | none => none
    | false => none
  | _ => none
def lenOf' : SV → Nat
  | .v (.sl _ _ len _ _) => len
  | _ => 0
/-- A slice that is appended to may go on in its own place: its row is known no more. -/
def dropRow (m : Mem) (ty need : Nat) : SV → Option HT
  | .v (.sl id _ _ _ cap) => match cap with
    | some c => match Nat.blt c need with
      | true => some m.t
      | false => match HT.get m.t id with
        | some b => match Nat.beq b.ty ty with
          | true => HT.put none m.t id
          | false => none
        | none => none
    | none => match HT.get m.t id with
      | some b => match Nat.beq b.ty ty with
        | true => HT.put none m.t id
        | false => none
      | none => none
  | .v .nils => some m.t
  | _ => none
def evE (e : EV) (m : Mem) : CO → Option (SV × Mem)
  | .alloc ty z => match newRowM m ty z with
    | some m' => some (.v (.ptr m.nx 0), m')
    | none => none
  | .box ty x => match cellsO (x.ev e) with
    | some cs => match newRowM m ty cs with
      | some m' => some (.v (.ptr m.nx 0), m')
      | none => none
    | none => none
  | .bldS ty len z q sz => match fillA e z q with
    | some cs => match newRowM m ty cs with
      | some m' => some (.v (.sl m.nx 0 len sz (some len)), m')
      | none => none
    | none => none
  | .ld agg n x => match x.ev e with
    | .v (.ptr id off) => match HT.get m.t id with
      | some b => match ldrop off b.cells with
        | some r => match agg with
          | true => match ltake n r with
            | some cs => some (.a cs, m)
            | none => none
          | false => match r with
            | c :: _ => some (.v c, m)
            | [] => none
        | none => none
      | none => none
    | _ => none
  | .st n x y => match x.ev e with
    | .v (.ptr id off) => match cellsO (y.ev e) with
      | some cs => match Nat.beq cs.length n with
        | true => match HT.get m.t id with
          | some b => match lover cs off b.cells with
            | some c' => match HT.put (some ⟨b.ty, c'⟩) m.t id with
              | some t => some (.u, ⟨t, m.nx⟩)
              | none => none
            | none => none
          | none => none
        | false => none
      | none => none
    | _ => none
  | .mark x => match x.ev e with
    | .v (.sl id off (Nat.succ k) sz cap) => match HT.get m.t id with
      | some _ => some (.v (.sl id off (Nat.succ k) sz cap), m)
      | none => none
    | _ => none
  | .mkS ty _ bytes z l c => match natOf (l.ev e), natOf (c.ev e) with
    | some l, some c => match Nat.beq l c with
      | true => match Nat.ble c 4096 with
        | true => match Nat.ble bytes 4096 with
          | true => match repO z c with
            | some cs => match newRowM m ty cs with
              | some m' => some (.v (.sl m.nx 0 l 1 (some c)), m')
              | none => none
            | none => none
          | false => none
        | false => none
      | false => none
    | _, _ => none
  | .app ty sz bytes s x => match rowOf m sz (x.ev e) with
    | some new => match lenOf' (x.ev e) with
      | 0 => match s.ev e with
        | .v (.sl a b c d f) => some (.v (.sl a b c d f), m)
        | .v .nils => some (.v .nils, m)
        | _ => none
      | Nat.succ k => match rowOf m sz (s.ev e) with
        | some old => match fzN (lenOf' (s.ev e) + Nat.succ k) with
          | some need => match Nat.ble need 100000 with
            | true => match Nat.ble bytes 10000 with
              | true => match appO old new with
                | some cs => match dropRow m ty need (s.ev e) with
                  | some t => match newRowM ⟨t, m.nx⟩ ty cs with
                    | some m' => some (.v (.sl m.nx 0 need sz none), m')
                    | none => none
                  | none => none
                | none => none
              | false => none
            | false => none
          | none => none
        | none => none
    | none => none
  | _ => none
section
variable {X : Env} {ρ : List Loc} {P : Program} {base : Nat → Prop} {K : Kx} {e : EV} {a : Act} {m : Mem}
theorem newRowM_ok {ty : Nat} {cs : List S0} {m' : Mem} (h : newRowM m ty cs = some m') : m'.t.get = upd m.t.get m.nx (some ⟨ty, cs⟩) ∧ m'.nx = m.nx + 1 := by
  unfold newRowM at h
  split at h
  · rename_i t ht
    split at h
    · rename_i k hk
      obtain rfl := Option.some.inj h
      exact ⟨upd_put ht, fzN_eq hk⟩
    · cases h
  · cases h
/-- What an operation does to memory. -/
def Eff (X : Env) (ρ : List Loc) (P : Program) (base : Nat → Prop) (w0 W : World) (m' : Mem) (v : SV) (s : Sem Next) : Prop :=
  ∃ ρ' W' u, Ext ρ ρ' ∧ (s.run P W = .ok (.value u) W' ∨ (s.run P W = .ok .skip W' ∧ u = undef)) ∧ R X ρ' v u ∧ RH X ρ' base m' W' ∧ Fz base w0 W'
/-- A new row made. -/
theorem newRow_ok {w0 W : World} (hm : RH X ρ base m W) (hb : ∀ k, base k → k < W.heap.size) {ty : Nat} {cs : List S0} {m' : Mem} (h : newRowM m ty cs = some m') {cells : Array Value} (hz : Rs X ρ cs (cells.toList.take cs.length)) (hle : cs.length ≤ cells.size)
    (hB : Fz base w0 W) : Ext ρ (ρ ++ [⟨W.heap.size, 0, cells.size⟩]) ∧ RH X (ρ ++ [⟨W.heap.size, 0, cells.size⟩]) base m' (W.alloc (.cells cells ty)) ∧ Fz base w0 (W.alloc (.cells cells ty)) ∧ (ρ ++ [(⟨W.heap.size, 0, cells.size⟩ : Loc)])[m.nx]? = some ⟨W.heap.size, 0, cells.size⟩ := by
  have hn := newRowM_ok h
  have hal := hm.g.alloc hb (ty := ty) hz hle
  refine ⟨Ext.one _ _, ⟨by rw [hn.2, ← hm.nx]; simp, ?_⟩, hB.alloc hb _, by rw [← hm.nx]; simp⟩
  rw [hn.1, ← hm.nx]
  exact hal
theorem e_alloc {w0 W : World} (hm : RH X ρ base m W) (hb : ∀ k, base k → k < W.heap.size) (hB : Fz base w0 W) {t : TypeId} {z : List S0} (hz : zeroOf P t = some z) {v : SV} {m' : Mem} (h : evE e m (.alloc t z) = some (v, m')) :
    Eff X ρ P base w0 W m' v (do pure (Next.value (← Instr.alloc t true (.tuple #[])))) := by
  simp only [evE] at h
  split at h
  · rename_i m1 h1
    obtain ⟨rfl, rfl⟩ := Prod.mk.inj (Option.some.inj h)
    obtain ⟨i, zv, hi, hzv, hr⟩ := zeroOf_ok (X := X) (ρ := ρ) hz
    have hl : z.length = zv.cells.size := hr.len.trans Array.length_toList
    obtain ⟨he, hh, hb', hg⟩ := newRow_ok hm hb h1 (cells := zv.cells) (by rw [List.take_of_length_le (by rw [Array.length_toList]; omega)]; exact hr) (by omega) hB
    refine ⟨_, _, .pointer (some ⟨W.heap.size, 0, none⟩), he, .inl ?_, ⟨_, hg, rfl⟩, hh, hb'⟩
    simp [Instr.alloc, zeroValue, typeInfo, hi, hzv, newVar, newRow]
  · cases h
theorem e_box {w0 W : World} (hE : RE' X ρ K e a.tmps) (hm : RH X ρ base m W) (hb : ∀ k, base k → k < W.heap.size) (hB : Fz base w0 W) {t : TypeId} {x : Operand} {o : Opd} (hx : cX K x = some o) {v : SV} {m' : Mem} (h : evE e m (.box t o) = some (v, m')) :
    Eff X ρ P base w0 W m' v (do pure (Next.value (← Instr.box t (a.eval x)))) := by
  simp only [evE] at h
  split at h
  · rename_i cs hcs
    split at h
    · rename_i m1 h1
      obtain ⟨rfl, rfl⟩ := Prod.mk.inj (Option.some.inj h)
      have hr := cellsO_ok hcs (ev_ok hE hx)
      have hl : cs.length = (a.eval x).cells.size := hr.len.trans Array.length_toList
      obtain ⟨he, hh, hb', hg⟩ := newRow_ok hm hb h1 (cells := (a.eval x).cells) (by rw [List.take_of_length_le (by rw [Array.length_toList]; omega)]; exact hr) (by omega) hB
      refine ⟨_, _, .pointer (some ⟨W.heap.size, 0, none⟩), he, .inl ?_, ⟨_, hg, rfl⟩, hh, hb'⟩
      simp [Instr.box, newVar, newRow]
    · cases h
  · cases h
theorem e_ld {W : World} (hE : RE' X ρ K e a.tmps) (hm : RH X ρ base m W) {t : TypeId} {x : Operand} {o : Opd} {g : Bool} {s : Nat} (hg : aggOf P t = some g) (hs : szOf P t = some s) (hx : cX K x = some o) {v : SV} {m' : Mem} (h : evE e m (.ld g s o) = some (v, m')) :
    m' = m ∧ ∃ u, R X ρ v u ∧ (do pure (Next.value (← Instr.loadAt t (a.eval x))) : Sem Next).run P W = .ok (.value u) W := by
  have hb := ev_ok hE hx
  simp only [evE] at h
  split at h
  · rename_i id off hv
    rw [hv] at hb
    obtain ⟨l, hl, hv⟩ := hb
    split at h
    · rename_i b hbk
      split at h
      · rename_i r hr
        have hd := ldrop_ok hr
        unfold szOf at hs
        obtain ⟨it, hit, hsz⟩ := Option.map_eq_some_iff.1 hs
        unfold aggOf at hg
        obtain ⟨de, hde, hdb⟩ := Option.map_eq_some_iff.1 hg
        split at h
        · split at h
          · rename_i cs hcs
            obtain ⟨rfl, rfl⟩ := Prod.mk.inj (Option.some.inj h)
            have htk := ltake_ok hcs
            refine ⟨rfl, ?_⟩
            obtain ⟨l', hl', hlow, ar, fr, h1, h2, h3, h4, h5⟩ := hm.g.row id b hbk
            rw [hl] at hl'
            obtain rfl := Option.some.inj hl'
            have hR := (h5.drop off).take s
            rw [← hd.1, ← htk.1] at hR
            have hlen := hR.len
            have hlt : cs.length = s := by rw [htk.1, List.length_take]; omega
            refine ⟨.agg (((ar.toList.drop l.off).take b.cells.length).drop off |>.take s).toArray, ⟨_, rfl, by simpa using hR⟩, ?_⟩
            have hcell : ∀ j u, (((ar.toList.drop l.off).take b.cells.length).drop off |>.take s)[j]? = some u → W.cell? ((⟨l.blk, l.off + off, none⟩ : Addr).add j) = some u := by
              intro j u hu
              rw [List.getElem?_take] at hu
              split at hu
              · rw [List.getElem?_drop, List.getElem?_take] at hu
                split at hu
                · rw [List.getElem?_drop, Array.getElem?_toList] at hu
                  rw [addr_add]
                  simp only [World.cell?, h1]
                  rw [← hu]
                  have e1 : l.off + off + j = l.off + (off + j) := by omega
                  rw [e1]; rfl
                · cases hu
              · cases hu
            have hag : (isAgg t).run P W = .ok true W := by
              cases de <;> simp at hdb <;> simp [isAgg, run_underlying hde]
            have hlc := run_loadCells_list (P := P) W ⟨l.blk, l.off + off, none⟩ _ hcell
            rw [← hlen, hlt] at hlc
            rw [hv]
            simp [Instr.loadAt, Instr.sureAddr, loadVar, hag, sizeOf, typeInfo, hit, hsz, hlc]
          · cases h
        · cases r with
          | nil => cases h
          | cons c r =>
            obtain ⟨rfl, rfl⟩ := Prod.mk.inj (Option.some.inj h)
            refine ⟨rfl, ?_⟩
            have hc : b.cells[off]? = some c := by rw [← List.head?_drop, ← hd.1]; rfl
            obtain ⟨u, hu, hr0, _⟩ := hm.g.cell hbk hl hc
            refine ⟨u, hr0, ?_⟩
            have hag : (isAgg t).run P W = .ok false W := by
              cases de <;> simp at hdb <;> simp [isAgg, run_underlying hde]
            rw [hv]
            simp [Instr.loadAt, Instr.sureAddr, loadVar, hag, run_load, hu]
      · cases h
    · cases h
  · cases h
theorem e_st {w0 W : World} (hE : RE' X ρ K e a.tmps) (hm : RH X ρ base m W) (hB : Fz base w0 W) {t : TypeId} {x y : Operand} {o p : Opd} {s : Nat} (hs : szOf P t = some s) (hx : cX K x = some o) (hy : cX K y = some p) {v : SV} {m' : Mem} (h : evE e m (.st s o p) = some (v, m')) :
    Eff X ρ P base w0 W m' v (do Instr.storeAt t (a.eval x) (a.eval y); pure .skip) := by
  have hb := ev_ok hE hx
  simp only [evE] at h
  split at h
  · rename_i id off hv
    rw [hv] at hb
    obtain ⟨l, hl, hv⟩ := hb
    split at h
    · rename_i cs hcs
      split at h
      · rename_i hn
        have hn := Nat.eq_of_beq_eq_true hn
        split at h
        · rename_i b hbk
          split at h
          · rename_i c' hc'
            split at h
            · rename_i t' ht'
              obtain ⟨rfl, rfl⟩ := Prod.mk.inj (Option.some.inj h)
              have hlo := lover_ok hc'
              have hr := cellsO_ok hcs (ev_ok hE hy)
              have hlen : cs.length = (a.eval y).cells.size := hr.len.trans Array.length_toList
              unfold szOf at hs
              obtain ⟨it, hit, hsz⟩ := Option.map_eq_some_iff.1 hs
              obtain ⟨l', hl', hrow⟩ := hm.g.row id b hbk
              rw [hl] at hl'
              obtain rfl := Option.some.inj hl'
              obtain ⟨W', h1, h2, h3, h4⟩ := RG.stores (P := P) w0 hl off hrow.low (a.eval y).cells.toList cs 0 b m.t.get W hm.g hB hbk hr (by omega)
              refine ⟨ρ, W', undef, Ext.refl _, .inr ⟨?_, rfl⟩, rfl, ⟨hm.nx, ?_⟩, h3⟩
              · rw [hv]
                simp [Instr.storeAt, Instr.sureAddr, storeVar, sizeOf, typeInfo, hit, hsz, ← hlen, hn, h1]
              · show RG X ρ base (HT.get t') W'
                rw [upd_put ht', hlo.1]
                simpa using h2
            · cases h
          · cases h
        · cases h
      · cases h
    · cases h
  · cases h
end
end Go.Proofs.YtekkoodlnaapeaaGreatDoor.SX

/- Rows laid out, and rows that grow. -/
namespace Go.Proofs.YtekkoodlnaapeaaGreatDoor.SX
open Go.RowKit
section
variable {X : Env} {ρ : List Loc} {P : Program} {base : Nat → Prop} {K : Kx} {e : EV} {a : Act} {m : Mem}
theorem elemOf_u {t el : TypeId} (h : elemOf' P t = some el) : P.underlying t = some (.slice el) := by
  unfold elemOf' at h
  split at h
  · rename_i e2 h2; rw [h2]; exact congrArg _ (congrArg _ (Option.some.inj h))
  · cases h
theorem repZ_len (z : List S0) : ∀ k, (repZ z k).length = k * z.length
  | 0 => by simp [repZ]
  | k + 1 => by simp only [repZ, List.length_append, repZ_len z k, Nat.add_mul, Nat.one_mul]; omega
def repV (z : List Value) : Nat → List Value
  | 0 => []
  | k + 1 => z ++ repV z k
theorem repV_len (z : List Value) : ∀ k, (repV z k).length = k * z.length
  | 0 => by simp [repV]
  | k + 1 => by simp only [repV, List.length_append, repV_len z k, Nat.add_mul, Nat.one_mul]; omega
theorem Rs.rep {z : List S0} {v : List Value} (h : Rs X ρ z v) : ∀ k, Rs X ρ (repZ z k) (repV v k)
  | 0 => trivial
  | k + 1 => h.app (Rs.rep h k)
theorem repV_get (z : Array Value) (hz : 0 < z.size) : ∀ (k j : Nat), j < k * z.size → (repV z.toList k)[j]? = some z[j % z.size]!
  | 0, j, h => by simp at h
  | k + 1, j, h => by
    simp only [repV]
    by_cases c : j < z.size
    · rw [List.getElem?_append_left (by rw [Array.length_toList]; exact c), Nat.mod_eq_of_lt c, Array.getElem?_toList]
      simp [c]
    · rw [List.getElem?_append_right (by rw [Array.length_toList]; omega), Array.length_toList, repV_get z hz k (j - z.size) (by rw [Nat.add_mul] at h; omega)]
      congr 2
      have : j = j - z.size + z.size := by omega
      rw [this, Nat.add_mod_right]
      congr 1
      omega
theorem made_rep (z : Array Value) (hz : 0 < z.size) (k : Nat) : ((Array.range (k * z.size)).map (fun i => z[i % z.size]!)).toList = repV z.toList k := by
  apply List.ext_getElem?
  intro j
  by_cases h : j < k * z.size
  · rw [repV_get z hz k j h]
    simp [h]
  · rw [List.getElem?_eq_none (by simp; omega), List.getElem?_eq_none (by rw [repV_len, Array.length_toList]; omega)]
theorem partsOfS_ok {sz : Nat} : ∀ {ps : List (Nat × Operand)} {q : List (Nat × Nat × Opd)}, partsOfS sz K ps = some q →
    (q.length = ps.length ∧ ∀ (i : Nat) (p : Nat × Operand) (o : Nat × Nat × Opd), ps[i]? = some p → q[i]? = some o → (fun i => some (i * sz, sz)) p.1 = some (o.1, o.2.1) ∧ cX K p.2 = some o.2.2)
  | [], q, h => by obtain rfl := Option.some.inj h; simp
  | x :: r, q, h => by
    unfold partsOfS at h
    split at h
    · rename_i o t h2 h3
      obtain rfl := Option.some.inj h
      have ih := partsOfS_ok h3
      refine ⟨by simp [ih.1], fun i p o' hp ho => ?_⟩
      cases i with
      | zero =>
        obtain rfl := Option.some.inj hp
        obtain rfl := Option.some.inj ho
        exact ⟨rfl, h2⟩
      | succ i => exact ih.2 i p o' (by simpa using hp) (by simpa using ho)
    · cases h
theorem fillA_len {z z' : List S0} : ∀ {q : List (Nat × Nat × Opd)}, fillA e z q = some z' → z'.length = z.length := by
  intro q
  induction q generalizing z with
  | nil => intro h; rw [← Option.some.inj h]
  | cons p q ih =>
    intro h
    unfold fillA at h
    split at h
    · split at h
      · split at h
        · rename_i z1 hz1
          have := lover_ok hz1
          rw [ih h, this.1]
          simp
          omega
        · cases h
      · cases h
    · cases h
theorem e_bldS {w0 W : World} (hE : RE' X ρ K e a.tmps) (hm : RH X ρ base m W) (hb : ∀ k, base k → k < W.heap.size) (hB : Fz base w0 W) {t el : TypeId} {s len : Nat} {z : List S0} {ps : Array (Nat × Operand)} {q : List (Nat × Nat × Opd)}
    (hel : elemOf' P t = some el) (hs : szOf P el = some s) (hz : zeroOf P el = some z) (hq : partsOfS s K ps.toList = some q) (hlen : len * s ≤ 4096) (hzl : z.length = s) (hs0 : 0 < s)
    {v : SV} {m' : Mem} (h : evE e m (.bldS el len (repZ z len) q s) = some (v, m')) :
    Eff X ρ P base w0 W m' v (do pure (Next.value (← Instr.buildSlice t len (ps.map fun (i, x) => (i, a.eval x))))) := by
  simp only [evE] at h
  split at h
  · rename_i cs hcs
    split at h
    · rename_i m1 h1
      obtain ⟨rfl, rfl⟩ := Prod.mk.inj (Option.some.inj h)
      have hue := elemOf_u hel
      obtain ⟨i, zv, hi, hzv, hr⟩ := zeroOf_ok (X := X) (ρ := ρ) hz
      unfold szOf at hs
      obtain ⟨it, hit, hsz⟩ := Option.map_eq_some_iff.1 hs
      rw [hi] at hit
      obtain rfl := Option.some.inj hit
      have hzs : zv.cells.size = s := by rw [← Array.length_toList, ← hr.len, hzl]
      have hmade := made_rep zv.cells (by omega) len
      rw [hzs] at hmade
      have hR0 : Rs X ρ (repZ z len) ((Array.range (len * s)).map (fun i => zv.cells[i % zv.cells.size]!)).toList := by rw [hzs, hmade]; exact hr.rep len
      obtain ⟨vz', hf1, hf2⟩ := fillA_ok hE (fun i => some (i * s, s)) ps.toList q (repZ z len) cs _ (partsOfS_ok hq) hR0 hcs
      have hl : cs.length = vz'.size := hf2.len.trans Array.length_toList
      have hcl : cs.length = len * s := by rw [fillA_len hcs, repZ_len, hzl]
      obtain ⟨he, hh, hb', hg⟩ := newRow_ok hm hb h1 (cells := vz') (by rw [List.take_of_length_le (by rw [Array.length_toList]; omega)]; exact hf2) (by omega) hB
      refine ⟨_, _, .slice (some ⟨W.heap.size, 0, none⟩) len len, he, .inl ?_, ⟨_, _, len, hg, rfl, Nat.le_refl _, fun c hc => (Option.some.inj hc), .inr ⟨rfl, by simp; omega⟩⟩, hh, hb'⟩
      have hbig : ¬ (2 ^ 24 < len * s) := by omega
      have hparts : (ps.map fun (i, x) => (i, a.eval x)).toList = ps.toList.map fun p => (p.1, a.eval p.2) := by simp
      by_cases c0 : len * s = 0
      · have hl0 : len = 0 := by
          rcases Nat.mul_eq_zero.1 c0 with h | h
          · exact h
          · omega
        subst hl0
        have e0 : ((Array.range (0 * s)).map (fun i => zv.cells[i % zv.cells.size]!)) = #[] := by simp
        rw [e0] at hf1
        have e1 : ((Array.range (0 * s)).map (fun i => (#[] : Array Value)[i % (#[] : Array Value).size]!)) = #[] := by simp
        simp only [Instr.buildSlice, Sem.run_bind, run_underlying hue, Result.andThen_ok, sizeOf, typeInfo, run_program, hi, Sem.run_pure, hsz, Nat.zero_mul, gt_iff_lt]
        have e2 : Array.range 0 = #[] := rfl
        simp [hparts, hf1, newRow, e2]
      · simp [Instr.buildSlice, run_underlying hue, sizeOf, typeInfo, hi, hsz, hbig, c0, zeroValue, hzv, hparts, hf1, newRow]
    · cases h
  · cases h

theorem e_mkS {w0 W : World} (hE : RE' X ρ K e a.tmps) (hm : RH X ρ base m W) (hb : ∀ k, base k → k < W.heap.size) (hB : Fz base w0 W) {t el : TypeId} {i : TypeInfo} {z : List S0} {lo co : Operand} {ol oc : Opd}
    (hel : elemOf' P t = some el) (hi : P.info? el = some i) (hz : zeroOf P el = some z) (hl : cX K lo = some ol) (hc : cX K co = some oc) (hzl : z.length = 1) (hs1 : i.size = 1)
    {v : SV} {m' : Mem} (h : evE e m (.mkS el i.size i.bytes z ol oc) = some (v, m')) :
    Eff X ρ P base w0 W m' v (do pure (Next.value (← Instr.makeSlice t (a.eval lo) (a.eval co)))) := by
  simp only [evE] at h
  split at h
  · rename_i l c hln hcn
    split at h
    · rename_i hlc
      obtain rfl := Nat.eq_of_beq_eq_true hlc
      split at h
      · rename_i h1
        split at h
        · rename_i h2
          have h1 := Nat.le_of_ble_eq_true h1
          have h2 := Nat.le_of_ble_eq_true h2
          split at h
          · rename_i cs hcs
            split at h
            · rename_i m1 hm1
              obtain ⟨rfl, rfl⟩ := Prod.mk.inj (Option.some.inj h)
              obtain rfl := repO_eq hcs
              obtain ⟨it, zv, hit, hzv, hr⟩ := zeroOf_ok (X := X) (ρ := ρ) hz
              rw [hi] at hit
              obtain rfl := Option.some.inj hit
              obtain ⟨k1, hk1⟩ := natOf_ok hln (ev_ok hE hl)
              obtain ⟨k2, hk2⟩ := natOf_ok hcn (ev_ok hE hc)
              have hzs : zv.cells.size = 1 := by rw [← Array.length_toList, ← hr.len, hzl]
              have hmade : (madeCells zv.cells l).toList = repV zv.cells.toList l := by
                have := made_rep zv.cells (by omega) l
                rw [hzs, Nat.mul_one] at this
                rw [← this, madeCells, hzs]
              have hR : Rs X ρ (repZ z l) (madeCells zv.cells l).toList := by rw [hmade]; exact hr.rep l
              have hlen : (repZ z l).length = (madeCells zv.cells l).size := hR.len.trans Array.length_toList
              have hll : (repZ z l).length = l := by rw [repZ_len, hzl, Nat.mul_one]
              obtain ⟨he, hh, hb', hg⟩ := newRow_ok hm hb hm1 (cells := madeCells zv.cells l) (by rw [List.take_of_length_le (by rw [Array.length_toList]; omega)]; exact hR) (by omega) hB
              refine ⟨_, _, .slice (some ⟨W.heap.size, 0, none⟩) l l, he, .inl ?_, ⟨_, _, l, hg, rfl, Nat.le_refl _, fun c hc => (Option.some.inj hc), .inr ⟨rfl, by simp; omega⟩⟩, hh, hb'⟩
              have hbytes : (i.bytes : Int) * (l : Int) ≤ 281474976710656 := by
                have h3 : i.bytes * l ≤ 4096 * 4096 := Nat.mul_le_mul h2 h1
                have h4 : ((i.bytes * l : Nat) : Int) = (i.bytes : Int) * (l : Int) := by simp
                omega
              have hrun := run_make (P := P) W t el i zv (elemOf_u hel) hi hzv k1 k2 (l : Int) (l : Int) (by omega) (Int.le_refl _) hbytes (by omega)
              rw [hk1, hk2, Sem.run_bind, hrun]
              simp only [Int.toNat_natCast, hs1, Nat.mul_one, Result.andThen_ok]
              rfl
            · cases h
          · cases h
        · cases h
      · cases h
    · cases h
  · cases h
theorem e_mark {w0 W : World} (hE : RE' X ρ K e a.tmps) (hm : RH X ρ base m W) (hB : Fz base w0 W) {s d el : TypeId} {x : Operand} {o : Opd} (hus : P.underlying s = some (.slice el)) (hud : P.underlying d = some (.slice el)) (hu8 : P.underlying el = some (.int .u8)) (hsd : s = d) (hx : cX K x = some o)
    {v : SV} {m' : Mem} (h : evE e m (.mark o) = some (v, m')) : Eff X ρ P base w0 W m' v (do pure (Next.value (← convert s d (a.eval x)))) := by
  have hb := ev_ok hE hx
  simp only [evE] at h
  split at h
  · rename_i id off k sz cap hv
    split at h
    · rename_i b hbk
      obtain ⟨rfl, rfl⟩ := Prod.mk.inj (Option.some.inj h)
      rw [hv] at hb
      have hb0 := hb
      obtain ⟨l, ad, cp, hl, hve, hlc, hcap, hor⟩ := hb
      obtain ⟨rfl, hfit⟩ := hor.resolve_left (by omega)
      obtain ⟨l', hl', hrow⟩ := hm.g.row id b hbk
      rw [hl] at hl'
      obtain rfl := Option.some.inj hl'
      have hrow0 := hrow
      obtain ⟨hlow, cs, fr, h1, h2, h3, h4, h5⟩ := hrow
      have hheap : ∀ j, j ≠ l.blk → (W.freeze ⟨l.blk, cs.size, none⟩ 1).heap[j]? = W.heap[j]? := fun j hj => by
        simp [World.freeze, Array.getElem?_modify, Ne.symm hj]
      have hheap1 : (W.freeze ⟨l.blk, cs.size, none⟩ 1).heap[l.blk]? = some (.cells cs b.ty (if fr.1 == fr.2 then (cs.size, cs.size + 1) else (min fr.1 cs.size, max fr.2 (cs.size + 1)))) := by
        simp [World.freeze, Array.getElem?_modify, h1]
      have hBel : Fz base w0 (W.freeze ⟨l.blk, cs.size, none⟩ 1) := by
        refine hB.trans ⟨rfl, rfl, rfl, by simp [World.freeze], fun j hj => hheap j (fun q => hlow (q ▸ hj))⟩
      refine ⟨ρ, W.freeze ⟨l.blk, cs.size, none⟩ 1, a.eval x, Ext.refl _, .inl ?_, hb0, ⟨hm.nx, ⟨fun id' b' hb' => ?_, hm.g.inj⟩⟩, hBel⟩
      · subst hsd
        have hshape : W.shape? l.blk = some (b.ty, cs.size) := by simp [World.shape?, h1]
        rw [hve]
        simp [convert, run_underlying hus, run_underlying hu8, markStringish, hshape]
      · obtain ⟨l', hl', hr⟩ := hm.g.row id' b' hb'
        refine ⟨l', hl', ?_⟩
        by_cases c : l'.blk = l.blk
        · obtain ⟨hlow', cs', fr', g1, g2, g3, g4, g5⟩ := hr
          rw [c, h1] at g1
          obtain ⟨rfl, hty, rfl⟩ : cs = cs' ∧ b.ty = b'.ty ∧ fr = fr' := by
            have := Option.some.inj g1
            injection this with q1 q2 q3
            exact ⟨q1, q2, q3⟩
          refine ⟨hlow', cs, _, by rw [c, hheap1, hty], ?_, g3, g4, g5⟩
          right
          split
          · exact Nat.le_refl _
          · rename_i hne
            rcases g2 with g2 | g2
            · rw [g2] at hne; simp at hne
            · simp; omega
        · exact hr.same (hheap _ c)
    · cases h
  · cases h
end
end Go.Proofs.YtekkoodlnaapeaaGreatDoor.SX

import Derived.Test.YtekkoodlnaapeaaGreatDoorOrc
import Derived.Test.YtekkoodlnaapeaaGreatDoorFok
import Derived.Test.YtekkoodlnaapeaaGreatDoorSx4
/- A law that is reckoned is true. -/
set_option linter.unusedVariables false
set_option linter.unusedSimpArgs false
set_option linter.constructorNameAsVariable false
/- A law that is reckoned is true. -/
namespace Go.Proofs.YtekkoodlnaapeaaGreatDoor.SX
open Go.RowKit Go.Proofs Go.Proofs.YtekkoodlnaapeaaGreatDoor.Kit Go.Proofs.YtekkoodlnaapeaaGreatDoor Go.Proofs.YtekkoodlnaapeaaGreatDoorW.PrintWords
theorem isT_ok {r : Option (SV × Mem)} (h : isT r = true) : ∃ m, r = some (.v (.b true), m) := by
  unfold isT at h
  split at h
  · rename_i v m
    exact ⟨m, by rw [svEq_eq h]⟩
  · cases h
/-- The start of a law: where it is called, and with what. -/
structure LawAt (l : List Int) (A : Option Addr) (c : Nat) (W : World) : Prop where
  row : Kd.C (Kd.int .u8) W A l.length l
  cap : l.length ≤ c
  len : TabsL W
  err : TabsE W
  u8 : ∀ x ∈ l, (Lit.int .u8 x).wf = true
variable {l : List Int} {A : Option Addr} {c : Nat} {W : World}
def LawAt.env (_ : LawAt l A c W) (σ : Nat → Int) : Env := envOf σ W (.slice A l.length c) rfl
theorem LawAt.tab (h : LawAt l A c W) (σ : Nat → Int) : TabJ (h.env σ) := tabJ h.len h.err
theorem LawAt.code (h : LawAt l A c W) (σ : Nat → Int) : CodeJ (h.env σ) l := fun _ _ hJ => ⟨A, c, rfl, h.cap, Kd.C_below h.row hJ.2⟩
theorem LawAt.start (h : LawAt l A c W) (σ : Nat → Int) : (h.env σ).J (· < W.heap.size) W := ⟨fun _ hk => hk, Below.refl _ _⟩
theorem LawAt.iha (h : LawAt l A c W) {σ : Nat → Int} {C : Ctx} {orc : Orc} (hC : COk C σ) (ho : OrcOk (h.env σ) Tryz.prog orc) (k : Nat) : IHA (h.env σ) Tryz.prog (evF C pgT orc k).call := by
  rw [evF_eq]
  exact (ev_ok' (X := h.env σ) hC pgOk ho k).1
theorem LawAt.run (h : LawAt l A c W) {σ : Nat → Int} {C : Ctx} {orc : Orc} (hC : COk C σ) (ho : OrcOk (h.env σ) Tryz.prog orc) {f k : Nat} (hr : isT ((evF C pgT orc k).call f [.v (.op 0)] ⟨.nil, 0⟩) = true) :
    Calls Tryz.prog f #[.slice A l.length c] W fun e w' => e = .returned (.bool true) ∧ Below W.heap.size W w' := by
  obtain ⟨m, hm⟩ := isT_ok hr
  refine ((h.iha hC ho k (· < W.heap.size) W (fun _ hk => hk) (h.start σ) f _ _ _ _ hm).2 [] W [.slice A l.length c] ⟨rfl, trivial⟩ ⟨rfl, ⟨fun id b hid => ?_, fun id id' b b' l l' h1 => ?_⟩⟩ (Fz.refl _ _)).mono ?_
  · cases hid
  · cases h1
  · rintro e w' ⟨ρ', u, rfl, -, hu, -, hB⟩
    obtain rfl : u = .bool true := hu
    exact ⟨rfl, hB.below⟩
/-- Memos are true. -/
theorem LawAt.memos (h : LawAt l A c W) {σ : Nat → Int} {C : Ctx} (hC : COk C σ) (hl : l.length ≤ 1048576) {k : Nat} {Ms : List Memo} (hm : ∀ M ∈ Ms, memoChk M ((evF C pgT (orcA C []) k).call M.f M.args ⟨.nil, 0⟩) = true) (hp : Ms.all (fun M => plains M.args) = true) :
    ∀ M ∈ Ms, MemoOk (h.env σ) Tryz.prog M ∧ plains M.args = true := fun M hM =>
  ⟨memo_of (h.iha hC (orcA_ok (X := h.env σ) hC (h.tab σ) (h.code σ) (fun n s hs => by cases hs) hl) k) (fun _ hk => hk) (h.start σ) (hm M hM), List.all_eq_true.1 hp M hM⟩
/-- The law's run, with memos. -/
theorem LawAt.law (h : LawAt l A c W) {σ : Nat → Int} {C CP : Ctx} {T : List SI} (hl : l.length ≤ 1048576) (hC : COk C σ) (hP : COk CP σ) (hT : ∀ n s, atT T n = some s → s.val σ = atV l n) {fs : List Nat} {Ms : List Memo} {kp : Nat}
    (hm : ∀ M ∈ Ms, memoChk M ((evF CP pgT (orcA CP []) kp).call M.f M.args ⟨.nil, 0⟩) = true) (hp : Ms.all (fun M => plains M.args) = true) {f k : Nat}
    (hr : isT ((evF C pgT (orcM fs Ms (orcA C T)) k).call f [.v (.op 0)] ⟨.nil, 0⟩) = true) :
    Calls Tryz.prog f #[.slice A l.length c] W fun e w' => e = .returned (.bool true) ∧ Below W.heap.size W w' :=
  h.run hC (orcM_ok (orcA_ok (X := h.env σ) hC (h.tab σ) (h.code σ) hT hl) (h.memos hP hl hm hp)) hr
/-! Where the argument is big. -/
theorem LawAt.big (h : LawAt l A c W) (hl : ¬ l.length ≤ 1048576) {f k : Nat} (hr : isT ((evF ⟨[], [], []⟩ pgT orcBT k).call f [.v (.op 0)] ⟨.nil, 0⟩) = true) :
    Calls Tryz.prog f #[.slice A l.length c] W fun e w' => e = .returned (.bool true) ∧ Below W.heap.size W w' := by
  refine h.run (σ := fun _ => 0) (C := ⟨[], [], []⟩) (orc := orcBT) ⟨(fun i r hr => by cases hr), (fun e he => by cases he), (fun e he => by cases he)⟩ ?_ hr
  intro f g hg args m v m' hh
  unfold orcBT at hg
  split at hg
  · rename_i e
    obtain rfl := Nat.eq_of_beq_eq_true e
    obtain rfl := Option.some.inj hg
    refine OrcG.of ⟨enters_of Tryz.func9 (by kernel_rfl) rfl, ?_⟩ hh
    intro args m v m' h1 base w0 hb ρ W1 vals hJ hv hR hB
    unfold orcT at h1
    split at h1
    · obtain ⟨rfl, rfl⟩ := Prod.mk.inj (Option.some.inj h1)
      obtain ⟨a1, rfl, h2⟩ := RL.one hv
      obtain ⟨A1, c1, e1, hlc, hC⟩ := h.code _ _ _ hJ
      obtain rfl : a1 = .slice A1 l.length c1 := (show a1 = (h.env fun _ => 0).θ 0 from h2).trans e1
      refine (Low.laws_big.calls A1 c1 l true W1 hC hlc (by unfold Low.laws_big.f; rw [decide_eq_true (by omega)])).mono ?_
      rintro e w' ⟨rfl, hw⟩
      exact drawn_post hb rfl hR hB hw
    · cases h1
  · cases hg
/-! The tables. -/
def dLen (n : Int) : Int := (Lib.itoa n).length
def dHd (n : Int) : Int := match Lib.itoa n with
  | x :: _ => (x.toNat : Int)
  | [] => 0
theorem d_ok (n : Int) : ∃ x t, Lib.itoa n = x :: t ∧ dHd n = (x.toNat : Int) := by
  unfold dHd
  cases hi : Lib.itoa n with
  | nil => have := itoa_ne n; rw [hi] at this; simp at this
  | cons x t => exact ⟨x, t, rfl, rfl⟩
theorem d_range (n : Int) (h0 : 0 ≤ n) (h1 : n ≤ 999) : (1 ≤ dLen n ∧ dLen n ≤ 3) ∧ 48 ≤ dHd n ∧ dHd n ≤ 57 := by
  obtain ⟨u, rfl⟩ : ∃ u : Nat, n = (u : Int) := ⟨n.toNat, by omega⟩
  obtain ⟨x, t, e1, e2⟩ := d_ok (u : Int)
  unfold dLen
  rw [e2]
  rw [itoa_nat] at e1 ⊢
  have hx := (dec_digs u).1 x (by rw [e1]; exact List.mem_cons_self ..)
  have hx2 : 48 ≤ x.toNat ∧ x.toNat ≤ 57 := by simpa [lDigit] using hx
  rw [Lib.decDigits_length]
  have h3 : Lib.nDigits u ≤ 3 := by
    by_cases c1 : u < 10
    · rw [Lib.nDigits_small c1]; omega
    · rw [Lib.nDigits_big c1]
      by_cases c2 : u / 10 < 10
      · rw [Lib.nDigits_small c2]; omega
      · rw [Lib.nDigits_big c2, Lib.nDigits_small (by omega)]; omega
  have h4 := Lib.nDigits_pos u
  omega
def wAll : List (Int × Int) → List Int → Prop
  | [], _ => True
  | r :: R, v :: vs => (r.1 ≤ v ∧ v ≤ r.2) ∧ wAll R vs
  | _ :: _, [] => False
/-- The unknowns, out of a list. -/
def sg (vs : List Int) (i : Nat) : Int := vs.getD i 0
theorem within_of : ∀ {R : List (Int × Int)} {vs : List Int}, wAll R vs → Within R (sg vs)
  | [], _, _ => fun _ _ h => by cases h
  | _ :: _, [], h => h.elim
  | r :: R, v :: vs, h => fun i q hq => by
    cases i with
    | zero => obtain rfl := Option.some.inj hq; exact h.1
    | succ i => exact within_of h.2 i q hq
theorem dok_nil {σ : Nat → Int} : DOk σ [] := fun _ h => by cases h
theorem dok_cons {σ : Nat → Int} {e : SI × Nat × Nat} {D : List (SI × Nat × Nat)} (h1 : σ e.2.1 = dLen (e.1.val σ)) (h2 : σ e.2.2 = dHd (e.1.val σ)) (h : DOk σ D) : DOk σ (e :: D) := fun x hx => by
  rcases List.mem_cons.1 hx with rfl | hx
  · refine ⟨h1, ?_⟩
    obtain ⟨y, t, e1, e2⟩ := d_ok (x.1.val σ)
    exact ⟨y, t, e1, h2.trans e2⟩
  · exact h x hx
theorem mok_nil {σ : Nat → Int} : ∀ e ∈ ([] : List (SI × Int × SI)), (e.1.val σ).tmod e.2.1 = e.2.2.val σ := fun _ h => by cases h
theorem mok_one {σ : Nat → Int} {e : SI × Int × SI} (h : (e.1.val σ).tmod e.2.1 = e.2.2.val σ) : ∀ x ∈ [e], (x.1.val σ).tmod x.2.1 = x.2.2.val σ := fun x hx => by rw [List.mem_singleton.1 hx]; exact h
theorem tok_cons {l : List Int} {σ : Nat → Int} {T : List SI} {j : Nat} {s : SI} (h : s.val σ = atV l j) (ht : ∀ n s, atT T n = some s → s.val σ = atV l (j + 1 + n)) : ∀ n q, atT (s :: T) n = some q → q.val σ = atV l (j + n) := fun n q hq => by
  cases n with
  | zero => obtain rfl := Option.some.inj hq; exact h
  | succ n =>
    have := ht n q hq
    rwa [show j + 1 + n = j + (n + 1) by omega] at this
theorem tok_nil {l : List Int} {σ : Nat → Int} {j : Nat} : ∀ n s, atT [] n = some s → s.val σ = atV l (j + n) := fun n s h => by cases h
theorem tok_of {l : List Int} {σ : Nat → Int} {T : List SI} (h : ∀ n s, atT T n = some s → s.val σ = atV l (0 + n)) : ∀ n s, atT T n = some s → s.val σ = atV l n := fun n s hs => by
  have := h n s hs
  rwa [Nat.zero_add] at this
end Go.Proofs.YtekkoodlnaapeaaGreatDoor.SX

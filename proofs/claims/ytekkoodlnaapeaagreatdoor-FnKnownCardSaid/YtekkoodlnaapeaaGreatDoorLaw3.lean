import Derived.Test.YtekkoodlnaapeaaGreatDoorLaw
import Derived.Test.YtekkoodlnaapeaaGreatDoorOnum
import Derived.Test.YtekkoodlnaapeaaGreatDoorLowNumP
/- The oracle for spec.l3Num is true; laws with it. -/
set_option linter.unusedVariables false
set_option linter.unusedSimpArgs false
set_option linter.constructorNameAsVariable false
/- The oracle for spec.l3Num is true; laws with it. -/
namespace Go.Proofs.YtekkoodlnaapeaaGreatDoor.SX
open Go.RowKit Go.Proofs Go.Proofs.YtekkoodlnaapeaaGreatDoor.Kit Go.Proofs.YtekkoodlnaapeaaGreatDoor Go.Proofs.YtekkoodlnaapeaaGreatDoorW.PrintWords
variable {X : Env}
theorem RL.three {ρ : List Loc} {x y z : SV} {vals : List Value} (h : RL X ρ [x, y, z] vals) : ∃ a b c, vals = [a, b, c] ∧ R X ρ x a ∧ R X ρ y b ∧ R X ρ z c := by
  cases vals with
  | nil => exact h.elim
  | cons a r =>
    obtain ⟨b, c, rfl, hb, hc⟩ := RL.two h.2
    exact ⟨a, b, c, rfl, h.1, hb, hc⟩
theorem dig_front {σ : Nat → Int} {script : Bool} {x vv nn : Nat} {r : List Pc} (hd : digRun script (.b x :: r) 0 0 = some (vv, nn)) (hv : vv ≤ 1000000) (h0 : nn ≠ 0) (h1 : nn = 1 ∨ Nat.beq x 48 = false) :
    numL script (sval σ (.b x :: r)) = some (vv, nn) ∧ runL lDigit (sval σ (.b x :: r)) ≠ 0 := by
  obtain ⟨g1, g2, g3⟩ := digRun_ok (σ := σ) hd
  rw [Nat.zero_add] at g1
  refine ⟨?_, by omega⟩
  unfold numL
  have e4 : valN ((sval σ (.b x :: r)).take (runL lDigit (sval σ (.b x :: r)))) = vv := g2.symm
  rw [e4, g3, ← g1, if_pos]
  refine ⟨?_, hv, by simp⟩
  rcases h1 with h1 | h1
  · exact .inl h1
  · right
    intro e
    simp only [sval, Pc.val, List.cons_append, List.nil_append, List.head?_cons, Option.some.injEq] at e
    have hx : x < 256 := by
      rcases Nat.lt_or_ge x 256 with hx | hx
      · exact hx
      · exfalso
        unfold digRun at hd
        split at hd
        · rename_i hi; have := isDig_lt hi; omega
        · split at hd
          · cases hd
          · split at hd
            · rename_i hi; have := blt_lt hi; omega
            · cases hd
    have := ofNat_inj hx (show 48 < 256 by decide) e
    rw [this] at h1
    cases h1
theorem orcNum3_ok {C : Ctx} (hC : COk C X.σ) : OrcG X Tryz.prog 103 (orcNum3 C) := by
  refine ⟨enters_of Tryz.func103 (by kernel_rfl) rfl, ?_⟩
  intro args m v m' h base w0 hb ρ W vals hJ hl hR hB
  have key : ∃ (bs : ByteArray) (a : SI) (script : Bool) (s n : SI) (u k at_ : Nat), vals = [.string bs, .int .i64 (at_ : Int), .bool script] ∧ m' = m ∧ v = num3 s n ∧ s.val X.σ = (u : Int) ∧ n.val X.σ = ((at_ + k : Nat) : Int) ∧ numL script (bs.data.toList.drop at_) = some (u, k) ∧ runL lDigit (bs.data.toList.drop at_) ≠ 0 ∧ at_ ≤ bs.size ∧ bs.size ≤ 1099511627776 := by
    unfold orcNum3 at h
    split at h
    case h_2 => cases h
    rename_i q a script
    split at h
    case h_2 => cases h
    rename_i hq
    have hq := Nat.le_of_ble_eq_true hq
    obtain ⟨a1, a2, a3, rfl, ⟨bs, rfl, e1, p1⟩, h2, h3⟩ := RL.three hl
    obtain rfl : a2 = .int .i64 (a.val X.σ) := h2
    obtain rfl : a3 = .bool script := h3
    have hz := str_size e1 p1 (by omega)
    split at h
    case h_2 => cases h
    rename_i r hr
    obtain ⟨s1, s2, s3, -⟩ := sdrop_ok hC.1 hC.2.1 q a r hr
    obtain ⟨at_, hat⟩ : ∃ at_ : Nat, a.val X.σ = (at_ : Int) := ⟨(a.val X.σ).toNat, by omega⟩
    rw [hat, Int.toNat_natCast] at s3
    have hsz : (sval X.σ q).length = bs.size := by rw [← e1, Array.length_toList]; rfl
    rw [← e1] at s3
    split at h
    · rename_i s r
      split at h
      case h_2 => cases h
      rename_i p hp
      split at h
      case h_2 => cases h
      rename_i he
      split at h
      case h_2 => cases h
      rename_i hin
      split at h
      case h_2 => cases h
      rename_i e hfe
      obtain ⟨rfl, rfl⟩ := Prod.mk.inj (Option.some.inj h)
      obtain rfl := frc_eq hfe
      have hin := SI.inB_ok hC.1 hin
      obtain ⟨g1, g2⟩ := endOk_ok (σ := X.σ) he
      obtain ⟨u, hu⟩ : ∃ u : Nat, s.val X.σ = (u : Int) := ⟨(s.val X.σ).toNat, by omega⟩
      obtain ⟨g3, g4⟩ := numL_dec u (by omega) (sval X.σ r) g1 g2
      have e3 : bs.data.toList.drop at_ = Lib.decDigits u ++ sval X.σ r := by
        rw [← s3]
        simp only [sval, Pc.val, hu, itoa_nat]
      have hlen := (dfind_ok hC.2.1 hp).1
      rw [hu, itoa_nat] at hlen
      refine ⟨bs, a, script, s, _, u, _, at_, by rw [hat], rfl, rfl, hu, ?_, by rw [e3, g3], by rw [e3]; exact g4, by omega, by omega⟩
      rw [SI.val_add, lvar_val, hlen, hat]
      omega
    · rename_i x r
      split at h
      case h_2 => cases h
      rename_i vv nn hd
      split at h
      case h_2 => cases h
      rename_i hv
      have hv := Nat.le_of_ble_eq_true hv
      have fin : ∀ e : SI, frc (a.add (.c (.ofNat nn))) = some e → nn ≠ 0 → (nn = 1 ∨ Nat.beq x 48 = false) → v = num3 (.c (.ofNat vv)) e → m' = m → ∃ (bs' : ByteArray) (a' : SI) (script' : Bool) (s n : SI) (u k at' : Nat), [Value.string bs, .int .i64 (a.val X.σ), .bool script] = [.string bs', .int .i64 (at' : Int), .bool script'] ∧ m' = m ∧ v = num3 s n ∧ s.val X.σ = (u : Int) ∧ n.val X.σ = ((at' + k : Nat) : Int) ∧ numL script' (bs'.data.toList.drop at') = some (u, k) ∧ runL lDigit (bs'.data.toList.drop at') ≠ 0 ∧ at' ≤ bs'.size ∧ bs'.size ≤ 1099511627776 := fun e he c1 c2 c3 c4 => by
        obtain rfl := frc_eq he
        obtain ⟨g1, g2⟩ := dig_front (σ := X.σ) hd hv c1 c2
        refine ⟨bs, a, script, _, _, vv, nn, at_, by rw [hat], c4, c3, rfl, ?_, by rw [← s3]; exact g1, by rw [← s3]; exact g2, by omega, by omega⟩
        rw [SI.val_add, hat]
        show (at_ : Int) + (nn : Int) = _
        omega
      split at h
      · rename_i v1 n1 hv1 hn1
        obtain rfl := fzN_eq hv1
        obtain rfl := fzN_eq hn1
        split at h
        case h_2 => cases h
        rename_i e hfe
        split at h
        · cases h
        · obtain ⟨rfl, rfl⟩ := Prod.mk.inj (Option.some.inj h)
          exact fin _ hfe (by decide) (.inl rfl) rfl rfl
        · split at h
          · cases h
          · rename_i hx
            obtain ⟨rfl, rfl⟩ := Prod.mk.inj (Option.some.inj h)
            refine fin _ hfe ?_ (.inr hx) rfl rfl
            intro e
            simp_all
      · cases h
    · cases h
  obtain ⟨bs, a, script, s, n, u, k, at_, rfl, rfl, rfl, e1, e2, e3, e4, e5, e6⟩ := key
  obtain ⟨K, hK⟩ := LowNum.num_ev bs script e6 at_ u k e5 e3 e4
  refine (LowNum.spec_l3Num.calls K bs (at_ : Int) script _ _ W (hK K (Nat.le_refl _))).mono ?_
  rintro e w' ⟨rfl, hw⟩
  refine drawn_post hb ?_ hR hB hw
  refine ⟨_, rfl, ?_, ?_, trivial⟩
  · show _ = _
    rw [e1]
  · show _ = _
    rw [e2]
theorem orcN_ok {C : Ctx} {l : List Int} {T : List SI} (hC : COk C X.σ) (hT : TabJ X) (hc : CodeJ X l) (ht : TOk X l T) (hl1 : l.length ≤ 1048576) : OrcOk X Tryz.prog (orcN C T) := by
  intro f g hg args m v m' h
  unfold orcN at hg
  split at hg
  · rename_i e
    obtain rfl := Nat.eq_of_beq_eq_true e
    obtain rfl := Option.some.inj hg
    exact (orcNum3_ok hC).of h
  · exact orcA_ok hC hT hc ht hl1 f g hg args m v m' h
variable {l : List Int} {A : Option Addr} {c : Nat} {W : World}
/-- The law's run, with memos. -/
theorem LawAt.law3 (h : LawAt l A c W) {σ : Nat → Int} {C CP : Ctx} {T : List SI} (hl : l.length ≤ 1048576) (hC : COk C σ) (hP : COk CP σ) (hT : ∀ n s, atT T n = some s → s.val σ = atV l n) {fs : List Nat} {Ms : List Memo} {kp : Nat}
    (hm : ∀ M ∈ Ms, memoChk M ((evF CP pgT (orcA CP []) kp).call M.f M.args ⟨.nil, 0⟩) = true) (hp : Ms.all (fun M => plains M.args) = true) {f k : Nat}
    (hr : isT ((evF C pgT (orcM fs Ms (orcN C T)) k).call f [.v (.op 0)] ⟨.nil, 0⟩) = true) :
    Calls Tryz.prog f #[.slice A l.length c] W fun e w' => e = .returned (.bool true) ∧ Below W.heap.size W w' :=
  h.run hC (orcM_ok (orcN_ok (X := h.env σ) hC (h.tab σ) (h.code σ) hT hl) (h.memos hP hl hm hp)) hr
end Go.Proofs.YtekkoodlnaapeaaGreatDoor.SX

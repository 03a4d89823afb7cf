import Derived.Test.YtekkoodlnaapeaaGreatDoorRunL
/- The bytes' tests, the closures, impl.passed. -/
namespace Go.Proofs.YtekkoodlnaapeaaGreatDoor.TokL
open Go.RowKit Go.Proofs.YtekkoodlnaapeaaGreatDoor.Kit Go.Proofs.YtekkoodlnaapeaaGreatDoor.RunL Go.Proofs.YtekkoodlnaapeaaGreatDoorW.PrintWords
set_option linter.unusedSimpArgs false
set_option linter.unusedVariables false
theorem u8_eq (x : UInt8) (n : Nat) (h : n < 256) : (x == UInt8.ofNat n) = ((x.toNat : Int) == (n : Int)) := by
  rw [Bool.eq_iff_iff, beq_iff_eq, beq_iff_eq]
  constructor
  · rintro rfl
    rw [UInt8.toNat_ofNat_of_lt' (by simpa using h)]
  · intro e
    apply UInt8.toNat_inj.1
    rw [UInt8.toNat_ofNat_of_lt' (by simpa using h)]
    omega
theorem isBlank (w : World) : FnU8 135 #[] lBlank w := by
  intro W x _
  show Calls Tryz.prog 135 #[.int .u8 (x.toNat : Int)] W _
  have e : lBlank x = ((((x.toNat : Int) == 9) || ((x.toNat : Int) == 10)) || ((x.toNat : Int) == 13) || ((x.toNat : Int) == 32)) := by
    have e9 : (x == 9) = ((x.toNat : Int) == 9) := u8_eq x 9 (by decide)
    have e10 : (x == 10) = ((x.toNat : Int) == 10) := u8_eq x 10 (by decide)
    have e13 : (x == 13) = ((x.toNat : Int) == 13) := u8_eq x 13 (by decide)
    have e32 : (x == 32) = ((x.toNat : Int) == 32) := u8_eq x 32 (by decide)
    unfold lBlank
    rw [e9, e10, e13, e32]
  rw [e]
  generalize (x.toNat : Int) = a
  cases h9 : a == 9 <;> cases h10 : a == 10 <;> cases h13 : a == 13 <;> cases h32 : a == 32 <;>
    (go_enter Tryz.func135, Tryz.ntmps135
     go_wp2
     go_ret
     exact ⟨by first | rfl | (simp [*]; done), 0, rfl⟩)
theorem passed1 (w : World) : FnU8 137 #[] lNotNl w := by
  intro W x _
  show Calls Tryz.prog 137 #[.int .u8 (x.toNat : Int)] W _
  have e : lNotNl x = !((x.toNat : Int) == 10) := by
    have e10 : (x == 10) = ((x.toNat : Int) == 10) := u8_eq x 10 (by decide)
    unfold lNotNl; rw [e10]
  rw [e]
  generalize (x.toNat : Int) = a
  cases h10 : a == 10 <;>
    (go_enter Tryz.func137, Tryz.ntmps137
     go_wp2
     go_ret
     exact ⟨by first | rfl | (simp [*, bne]; done), 0, rfl⟩)
theorem isDigit (w : World) : FnU8 140 #[] lDigit w := by
  intro W x _
  show Calls Tryz.prog 140 #[.int .u8 (x.toNat : Int)] W _
  have e : lDigit x = (decide ((x.toNat : Int) ≥ 48) && decide ((x.toNat : Int) ≤ 57)) := by unfold lDigit; congr 1 <;> exact decide_eq_decide.2 (by omega)
  rw [e]
  generalize (x.toNat : Int) = a
  by_cases h1 : a ≥ 48 <;> by_cases h2 : a ≤ 57 <;>
    (go_enter Tryz.func140, Tryz.ntmps140
     go_wp2
     go_ret
     exact ⟨by first | rfl | (simp [*]; done), 0, rfl⟩)
def slash (l : List UInt8) : Bool := l.take 2 == [47, 47]
theorem extract_drop (s : ByteArray) (k : Nat) : (s.extract k s.size).data.toList = s.data.toList.drop k := by
  rw [ByteArray.data_extract, Array.toList_extract, List.extract_eq_take_drop]
  exact List.take_of_length_le (by rw [List.length_drop, Array.length_toList]; exact Nat.le_refl _)
theorem slash_iff (l : List UInt8) : slash l = true ↔ ∃ r, l = 47 :: 47 :: r := by
  unfold slash
  match l with
  | [] => simp
  | [a] => simp
  | a :: b :: r => simp
theorem HasPrefix (a : ByteArray) (hs : a.size ≤ 140737488355328) (w : World) : Calls Tryz.prog 136 #[.string a, .string ⟨#[47, 47]⟩] w fun e w' => e = .returned (.bool (slash a.data.toList)) ∧ ∃ q, w' = w.drewN q := by
  have hlen : a.data.toList.length = a.size := by rw [Array.length_toList]; rfl
  have hcall : Calls Tryz.prog 188 #[.string a, .string ⟨#[47, 47]⟩] w fun e w' => e = .returned (.bool (slash a.data.toList)) ∧ ∃ q, w' = w.drewN q := by
    by_cases c : 2 ≤ a.size
    · have e2 : slash a.data.toList = ((a.extract 0 2).toList == [47, 47]) := by
        unfold slash
        rw [ByteArray.toList_eq, ByteArray.data_extract, Array.toList_extract, List.extract_eq_take_drop]; rfl
      have c1 : (2 : Int) ≤ (a.size : Int) := by omega
      rw [e2]
      go_enter Tryz.func188, Tryz.ntmps188
      go_wp2
      skip
      go_ret
      exact ⟨by first | rfl | (simp [*]; done), 0, rfl⟩
    · have e2 : slash a.data.toList = false := by
        rw [Bool.eq_false_iff]
        intro h
        obtain ⟨r, hr⟩ := (slash_iff _).1 h
        rw [hr] at hlen
        simp only [List.length_cons] at hlen
        omega
      have c1 : ¬ (2 : Int) ≤ (a.size : Int) := by omega
      rw [e2]
      go_enter Tryz.func188, Tryz.ntmps188
      go_wp2
      go_ret
      exact ⟨by first | rfl | (simp [*]; done), 0, rfl⟩
  go_enter Tryz.func136, Tryz.ntmps136
  go_wp2_with (go_at_call 188; refine hcall.mono ?_; rintro e w' ⟨rfl, q, rfl⟩)
  go_ret
  exact ⟨rfl, _, rfl⟩
set_option maxHeartbeats 1000000 in
theorem passed (s : ByteArray) (hs : s.size ≤ 140737488355328) (w : World) :
    Calls Tryz.prog 77 #[.string s] w fun e w' => e = .returned (.int .i64 (skipS false s.data.toList)) ∧ ∃ q, w' = w.drewN q := by
  have eB : ∀ args w, (callFunc 135 args).run Tryz.prog w = .ok (.enter 135 args) w := enters_of Tryz.func135 (by kernel_rfl) rfl
  have eN : ∀ args w, (callFunc 137 args).run Tryz.prog w = .ok (.enter 137 args) w := enters_of Tryz.func137 (by kernel_rfl) rfl
  have hlen : s.data.toList.length = s.size := by rw [Array.length_toList]; rfl
  go_enter Tryz.func77, Tryz.ntmps77
  go_wp2
  go_loopg [3] s.size (fun gg s3 wr => ∃ (kk : Nat) (q : Nat), kk ≤ s.size ∧ s.size - kk ≤ gg ∧ s3 = .int .i64 kk ∧ wr = w.drewN q ∧ Aside (kk + skipS false (s.data.toList.drop kk) = skipS false s.data.toList))
  case atStart => exact ⟨0, 0, Nat.zero_le _, by omega, rfl, rfl, (show (0 + skipS false (s.data.toList.drop 0) = skipS false s.data.toList) by rw [List.drop_zero, Nat.zero_add])⟩
  case round =>
    obtain ⟨kk, q, hkk, hg, rfl, rfl, A⟩ := hrel
    have hA : kk + skipS false (s.data.toList.drop kk) = skipS false s.data.toList := A
    clear A
    have hz1 : (s.extract kk s.size).size = s.size - kk := by rw [ByteArray.size_extract]; omega
    have b1 := RunL.calls 135 #[] eB lBlank (s.extract kk s.size) (by omega) (w.drewN q) (isBlank _)
    rw [extract_drop] at b1
    have hn1 := runL_le lBlank (s.data.toList.drop kk)
    rw [List.length_drop, hlen] at hn1
    generalize hd1 : runL lBlank (s.data.toList.drop kk) = n1 at b1 hn1
    have hk1 : kk + n1 ≤ s.size := by omega
    have hz2 : (s.extract (kk + n1) s.size).size = s.size - (kk + n1) := by rw [ByteArray.size_extract]; omega
    have b2 := HasPrefix (s.extract (kk + n1) s.size) (by omega)
    have b3 := RunL.calls 137 #[] eN lNotNl (s.extract (kk + n1) s.size) (by omega)
    rw [extract_drop] at b2 b3
    have hn3 := runL_le lNotNl (s.data.toList.drop (kk + n1))
    rw [List.length_drop, hlen] at hn3
    cases hs2 : slash (s.data.toList.drop (kk + n1)) with
    | true =>
      rw [hs2] at b2
      have hn4 : 0 < runL lNotNl (s.data.toList.drop (kk + n1)) := by
        obtain ⟨r, hr⟩ := (slash_iff _).1 hs2
        rw [hr, runL, if_pos (by decide)]; omega
      generalize hd3 : runL lNotNl (s.data.toList.drop (kk + n1)) = n3 at b3 hn3 hn4
      go_wp2_with (first
        | (go_at_call 134; with_reducible refine b1.mono ?_; rintro e w' ⟨rfl, q1, rfl⟩)
        | (go_at_call 136; with_reducible refine (b2 _).mono ?_; rintro e w' ⟨rfl, q2, rfl⟩)
        | (go_at_call 134; with_reducible refine (b3 _ (passed1 _)).mono ?_; rintro e w' ⟨rfl, q3, rfl⟩))
      · rename_i hz
        go_roundg (s.size - (kk + (n1 + n3)))
        case measure => omega
        case rel =>
          refine ⟨kk + (n1 + n3), _, by omega, by omega, by go_num, rfl, (show kk + (n1 + n3) + skipS false (s.data.toList.drop (kk + (n1 + n3))) = skipS false s.data.toList from ?_)⟩
          rw [skip_blank, hd1, List.drop_drop, skip_note _ ((slash_iff _).1 hs2), hd3, List.drop_drop] at hA
          rw [← Nat.add_assoc kk n1 n3]
          omega
    | false =>
      rw [hs2] at b2
      go_wp2_with (first
        | (go_at_call 134; with_reducible refine b1.mono ?_; rintro e w' ⟨rfl, q1, rfl⟩)
        | (go_at_call 136; with_reducible refine (b2 _).mono ?_; rintro e w' ⟨rfl, q2, rfl⟩))
      · rename_i hz
        have h0 : n1 = 0 := by simpa using hz
        subst h0
        go_ret
        refine ⟨?_, _, rfl⟩
        rw [skip_none _ hd1 (fun hr => by rw [Nat.add_zero] at hs2; rw [(slash_iff _).2 hr] at hs2; cases hs2)] at hA
        rw [← hA, Nat.add_zero]
        rfl
      · rename_i hz
        have h0 : n1 ≠ 0 := by simpa using hz
        go_roundg (s.size - (kk + n1))
        case measure => omega
        case rel =>
          refine ⟨kk + n1, _, by omega, by omega, by go_num, rfl, (show kk + n1 + skipS false (s.data.toList.drop (kk + n1)) = skipS false s.data.toList from ?_)⟩
          rw [skip_blank, hd1, List.drop_drop] at hA
          omega
theorem isLetter (x : UInt8) (b : Bool) (w : World) : Calls Tryz.prog 138 #[.int .u8 (x.toNat : Int), .bool b] w fun e w' => e = .returned (.bool (lLetter b x)) ∧ ∃ q, w' = w.drewN q := by
  have e : lLetter b x = ((((decide ((x.toNat : Int) ≥ 97) && decide ((x.toNat : Int) ≤ 122)) || (decide ((x.toNat : Int) ≥ 65) && decide ((x.toNat : Int) ≤ 90))) || ((x.toNat : Int) == 95)) || (b && ((x.toNat : Int) == 36))) := by
    have e1 : (x == 95) = ((x.toNat : Int) == 95) := u8_eq x 95 (by decide)
    have e2 : (x == 36) = ((x.toNat : Int) == 36) := u8_eq x 36 (by decide)
    have d1 : decide (97 ≤ x.toNat) = decide ((x.toNat : Int) ≥ 97) := decide_eq_decide.2 (by omega)
    have d2 : decide (x.toNat ≤ 122) = decide ((x.toNat : Int) ≤ 122) := decide_eq_decide.2 (by omega)
    have d3 : decide (65 ≤ x.toNat) = decide ((x.toNat : Int) ≥ 65) := decide_eq_decide.2 (by omega)
    have d4 : decide (x.toNat ≤ 90) = decide ((x.toNat : Int) ≤ 90) := decide_eq_decide.2 (by omega)
    unfold lLetter; rw [e1, e2, d1, d2, d3, d4]
  rw [e]
  generalize (x.toNat : Int) = a
  by_cases h1 : a ≥ 97 <;> by_cases h2 : a ≤ 122 <;> by_cases h3 : a ≥ 65 <;> by_cases h4 : a ≤ 90 <;> (try (exfalso; omega)) <;> cases h5 : a == 95 <;> cases b <;> cases h6 : a == 36 <;>
    (try (exfalso; simp at h5 h6; omega)) <;>
    (go_enter Tryz.func138, Tryz.ntmps138
     go_wp2
     go_ret
     exact ⟨by first | rfl | (simp [*]; done), 0, rfl⟩)
theorem quoted1 (w : World) : FnU8 190 #[] lStr w := by
  intro W x _
  show Calls Tryz.prog 190 #[.int .u8 (x.toNat : Int)] W _
  have hx := x.toNat_lt
  have e : lStr x = (((decide ((x.toNat : Int) ≥ 32) && decide ((x.toNat : Int) ≤ 126)) && ((x.toNat : Int) != 34)) && ((x.toNat : Int) != 92)) := by
    have e1 : (x == 34) = ((x.toNat : Int) == 34) := u8_eq x 34 (by decide)
    have e2 : (x == 92) = ((x.toNat : Int) == 92) := u8_eq x 92 (by decide)
    have d1 : decide (32 ≤ x.toNat) = decide ((x.toNat : Int) ≥ 32) := decide_eq_decide.2 (by omega)
    have d2 : decide (x.toNat ≤ 126) = decide ((x.toNat : Int) ≤ 126) := decide_eq_decide.2 (by omega)
    unfold lStr; rw [e1, e2, d1, d2]; rfl
  have ha0 : (0 : Int) ≤ (x.toNat : Int) := Int.natCast_nonneg _
  have ha1 : (x.toNat : Int) < 256 := by omega
  rw [e]
  generalize (x.toNat : Int) = a at ha0 ha1 ⊢
  by_cases h1 : a ≥ 32 <;> by_cases h2 : a ≤ 126 <;> (try (exfalso; omega)) <;> cases h3 : a != 34 <;> cases h4 : a != 92 <;>
    (go_enter Tryz.func190, Tryz.ntmps190
     go_wp2
     go_ret
     exact ⟨by first | rfl | (simp [*]; done), 0, rfl⟩)
theorem token1 (b : Bool) (B : Nat) (w : World) (hB : B < w.heap.size) (hcell : w.cell? ⟨B, 0, none⟩ = some (.bool b)) : FnU8 139 #[.pointer (some ⟨B, 0, none⟩)] (lWord b) w := by
  intro W x hb
  have hc : W.cell? ⟨B, 0, none⟩ = some (.bool b) := (hb.cell (p := ⟨B, 0, none⟩) hB).trans hcell
  show Calls Tryz.prog 139 #[.int .u8 (x.toNat : Int), .pointer (some ⟨B, 0, none⟩)] W _
  have h1 := isLetter x b
  have h2 : ∀ W, Calls Tryz.prog 140 #[.int .u8 (x.toNat : Int)] W fun e w' => e = .returned (.bool (lDigit x)) ∧ ∃ q, w' = W.drewN q := fun W => isDigit W W x (Below.refl _ _)
  have e : lWord b x = (lLetter b x || lDigit x) := rfl
  rw [e]
  clear e hb hcell
  cases hl : lLetter b x with
  | true =>
    rw [hl] at h1
    go_enter Tryz.func139, Tryz.ntmps139
    go_wp2_with (first
      | (go_at_call 138; refine (h1 _).mono ?_; rintro e w' ⟨rfl, q1, rfl⟩))
    go_ret
    exact ⟨rfl, _, rfl⟩
  | false =>
    rw [hl] at h1
    go_enter Tryz.func139, Tryz.ntmps139
    go_wp2_with (first
      | (go_at_call 138; refine (h1 _).mono ?_; rintro e w' ⟨rfl, q1, rfl⟩)
      | (go_at_call 140; refine (h2 _).mono ?_; rintro e w' ⟨rfl, q2, rfl⟩))
    go_ret
    exact ⟨by first | rfl | simp, _, rfl⟩
/-- What number, quoted and token hand back. -/
def tokV : Option (Int × ByteArray × Int × Int) → Value
  | some (k, t, v, n) => .tuple #[.agg #[.int .i64 k, .string t, .int .i64 v, .int .i64 0], .int .i64 n, .bool true]
  | none => .tuple #[.agg #[.int .i64 0, .string ⟨#[]⟩, .int .i64 0, .int .i64 0], .int .i64 0, .bool false]
theorem extract_take (s : ByteArray) (n : Nat) : (s.extract 0 n).data.toList = s.data.toList.take n := by
  rw [ByteArray.data_extract, Array.toList_extract, List.extract_eq_take_drop]; rfl
theorem below_ends {w W : World} (h : Below w.heap.size w W) (a b c d : Value) : Below w.heap.size w ((((W.setCell ⟨w.heap.size, 0, none⟩ a).setCell ⟨w.heap.size, 1, none⟩ b).setCell ⟨w.heap.size, 2, none⟩ c).setCell ⟨w.heap.size, 3, none⟩ d) :=
  below_set (below_set (below_set (below_set h (Nat.le_refl _)) (Nat.le_refl _)) (Nat.le_refl _)) (Nat.le_refl _)
set_option maxRecDepth 100000 in
theorem quoted (s : ByteArray) (h1 : 1 ≤ s.size) (hs : s.size ≤ 140737488355328) (w : World) :
    Calls Tryz.prog 142 #[.string s] w fun e w' => e = .returned (tokV ((strL (s.data.toList.drop 1)).map fun n => (3, s.extract 1 (n + 1), 0, (n : Int) + 2))) ∧ Below w.heap.size w w' := by
  have hlen : s.data.toList.length = s.size := by rw [Array.length_toList]; rfl
  have hu := Tryz.underlying92
  have eQ : ∀ args w, (callFunc 190 args).run Tryz.prog w = .ok (.enter 190 args) w := enters_of Tryz.func190 (by kernel_rfl) rfl
  have hz1 : (s.extract 1 s.size).size = s.size - 1 := by rw [ByteArray.size_extract]; omega
  have b1 := fun W => RunL.calls 190 #[] eQ lStr (s.extract 1 s.size) (by omega) W (quoted1 _)
  rw [extract_drop] at b1
  have hn1 := runL_le lStr (s.data.toList.drop 1)
  rw [List.length_drop, hlen] at hn1
  unfold strL
  generalize hd1 : runL lStr (s.data.toList.drop 1) = n1 at b1 hn1
  have hdrop : ((s.data.toList.drop 1).drop n1).head? = s.data.toList[n1 + 1]? := by rw [List.drop_drop, List.head?_drop, Nat.add_comm 1 n1]
  rw [hdrop]
  by_cases c1 : n1 ≤ 40
  · by_cases c2 : n1 + 1 < s.size
    · have hat : s.data.toList[n1 + 1]? = some s[n1 + 1] := by
        rw [List.getElem?_eq_getElem (by omega)]
        simp only [Array.getElem_toList]; rfl
      rw [hat]
      have c2i : (n1 : Int) + 1 < (s.size : Int) := by omega
      have c1i : (n1 : Int) ≤ 40 := by omega
      have k1 : (1 : Int) ≤ (n1 : Int) + 1 := by omega
      have k2 : (n1 : Int) + 1 ≤ (s.size : Int) := by omega
      have k3 : (0 : Int) ≤ (n1 : Int) := by omega
      have k4 : ((n1 : Int) + 1).toNat = n1 + 1 := by omega
      have e34 : (s[n1 + 1] == 34) = ((s[n1 + 1].toNat : Int) == 34) := u8_eq _ 34 (by decide)
      cases c3 : (s[n1 + 1] == 34) with
      | true =>
        have c4 : s[n1 + 1] = 34 := by simpa using c3
        rw [c3] at e34
        have c5 : ((s[n1 + 1].toNat : Int) != 34) = false := by rw [bne, ← e34]; rfl
        have c6 : (s[n1 + 1].toNat : Int) = 34 := by rw [c4]; rfl
        rw [if_pos ⟨c1, by rw [c4]⟩]
        simp only [Option.map_some, tokV]
        clear hat e34 c3 c4 hd1 hdrop
        go_enter Tryz.func142, Tryz.ntmps142
        go_wp2_with (go_at_call 134; with_reducible refine (b1 _).mono ?_; rintro e w' ⟨rfl, q1, rfl⟩)
        refine bodyPost_ret (v := .tuple #[.agg #[.int .i64 3, .string (s.extract 1 (n1 + 1)), .int .i64 0, .int .i64 0], .int .i64 ((n1 : Int) + 2), .bool true]) (by simp [results, Tryz.results142, go_sem]) rfl ⟨rfl, ?_⟩
        exact below_ends (pw_below_drewN (below_alloc (Below.refl _ _) _) _) _ _ _ _
      | false =>
        have c4 : ¬ s[n1 + 1] = 34 := by simpa using c3
        rw [c3] at e34
        have c5 : ((s[n1 + 1].toNat : Int) != 34) = true := by rw [bne, ← e34]; rfl
        rw [if_neg (fun h => c4 (Option.some.inj h.2))]
        simp only [Option.map_none, tokV]
        clear hat e34 c3 c4 hd1 hdrop
        go_enter Tryz.func142, Tryz.ntmps142
        go_wp2_with (go_at_call 134; with_reducible refine (b1 _).mono ?_; rintro e w' ⟨rfl, q1, rfl⟩)
        refine bodyPost_ret (v := .tuple #[.agg #[.int .i64 0, .string ⟨#[]⟩, .int .i64 0, .int .i64 0], .int .i64 0, .bool false]) (by simp [results, Tryz.results142, go_sem]) rfl ⟨rfl, ?_⟩
        exact below_ends (pw_below_drewN (below_alloc (Below.refl _ _) _) _) _ _ _ _
    · have hat : s.data.toList[n1 + 1]? = none := List.getElem?_eq_none (by omega)
      rw [hat]
      have c2i : ¬ ((n1 : Int) + 1 < (s.size : Int)) := by omega
      have c1i : (n1 : Int) ≤ 40 := by omega
      rw [if_neg (fun h => by cases h.2)]
      simp only [Option.map_none, tokV]
      clear hat hd1 hdrop
      go_enter Tryz.func142, Tryz.ntmps142
      go_wp2_with (go_at_call 134; with_reducible refine (b1 _).mono ?_; rintro e w' ⟨rfl, q1, rfl⟩)
      refine bodyPost_ret (v := .tuple #[.agg #[.int .i64 0, .string ⟨#[]⟩, .int .i64 0, .int .i64 0], .int .i64 0, .bool false]) (by simp [results, Tryz.results142, go_sem]) rfl ⟨rfl, ?_⟩
      exact below_ends (pw_below_drewN (below_alloc (Below.refl _ _) _) _) _ _ _ _
  · have c1i : ¬ (n1 : Int) ≤ 40 := by omega
    rw [if_neg (fun h => c1 h.1)]
    simp only [Option.map_none, tokV]
    clear hd1 hdrop
    go_enter Tryz.func142, Tryz.ntmps142
    go_wp2_with (go_at_call 134; with_reducible refine (b1 _).mono ?_; rintro e w' ⟨rfl, q1, rfl⟩)
    refine bodyPost_ret (v := .tuple #[.agg #[.int .i64 0, .string ⟨#[]⟩, .int .i64 0, .int .i64 0], .int .i64 0, .bool false]) (by simp [results, Tryz.results142, go_sem]) rfl ⟨rfl, ?_⟩
    exact below_ends (pw_below_drewN (below_alloc (Below.refl _ _) _) _) _ _ _ _
end Go.Proofs.YtekkoodlnaapeaaGreatDoor.TokL

-- Out of the kit's print, with contracts of mine among it (myprint.py).
import Derived.Test.YtmpmfaaodjmpjaaDoorPFnNumbersx0
import Derived.Test.YtmpmfaaodjmpjaaDoorPFnNumbersx1
import Derived.Test.YtmpmfaaodjmpjaaDoorPFnNumbersx3
namespace Go.Proofs.YtmpmfaaodjmpjaaDoor.PFnNumbers
open Go.RowKit Go.Proofs.YtmpmfaaodjmpjaaDoorW.PrintWords Go.Proofs.YtmpmfaaodjmpjaaDoorW.PrintLast Go.Proofs.YtmpmfaaodjmpjaaDoorW.PrintMore
attribute [local go_sem] max2_int min2_int max_two min_two max_three min_three max_four min_four   -- for this text's walks alone
set_option linter.unusedVariables false
set_option linter.unusedSimpArgs false

/-! ### spec_l1Spoil: function 102 -/
def spec_l1Spoil.f (k : Nat) (s0_0 : List Int) (s0_1 : Int) (s0_2 : Int) (a1 : ByteArray) : Option (ByteArray × Int × Int) := if (a1.size : Int) = 0 then ((spec_l1Text.f k s0_0 s0_1 s0_2 3).bind fun bt230 => (some (bt230.1, bt230.2.1, bt230.2.2))) else ((spec_l1Below.f s0_0 s0_1 s0_2 (a1.size : Int)).bind fun bt233 => ((spec_l1Below.f s0_0 bt233.2.1 bt233.2.2 4).bind fun bt236 => (if bt236.1 = 0 then (if 0 ≤ bt233.1 then (if bt233.1 ≤ (a1.size : Int) then (if 0 ≤ (wrap64 (bt233.1 + 1)) then (if (wrap64 (bt233.1 + 1)) ≤ (a1.size : Int) then (if (a1.extract 0 (bt233.1 : Int).toNat).size + (a1.extract ((wrap64 (bt233.1 + 1)) : Int).toNat a1.size).size ≤ 9223372036854775807 then (some ((a1.extract 0 (bt233.1 : Int).toNat) ++ (a1.extract ((wrap64 (bt233.1 + 1)) : Int).toNat a1.size), bt236.2.1, bt236.2.2)) else (none)) else (none)) else (none)) else (none)) else (none)) else (if bt236.1 = 1 then (if 0 ≤ bt233.1 then (if bt233.1 ≤ (a1.size : Int) then ((spec_l1Byte.f s0_0 bt236.2.1 bt236.2.2).bind fun bt239 => ((some (([(bt239.1) % 256] : List Int) : List Int)).bind fun y242 => (if (a1.extract 0 (bt233.1 : Int).toNat).size + (strOfNums y242).size ≤ 9223372036854775807 then (if ((a1.extract 0 (bt233.1 : Int).toNat) ++ (strOfNums y242)).size + (a1.extract (bt233.1 : Int).toNat a1.size).size ≤ 9223372036854775807 then (some (((a1.extract 0 (bt233.1 : Int).toNat) ++ (strOfNums y242)) ++ (a1.extract (bt233.1 : Int).toNat a1.size), bt239.2.1, bt239.2.2)) else (none)) else (none)))) else (none)) else (none)) else (if bt236.1 = 2 then (if 0 ≤ bt233.1 then (if bt233.1 ≤ (a1.size : Int) then (some (a1.extract 0 (bt233.1 : Int).toNat, bt236.2.1, bt236.2.2)) else (none)) else (none)) else (if 0 ≤ bt233.1 then (if bt233.1 ≤ (a1.size : Int) then (if bt233.1 < (a1.size : Int) then ((spec_l1Below.f s0_0 bt236.2.1 bt236.2.2 255).bind fun bt245 => ((some (([(Go.bits .xor .i64 (wrap64 (bt a1 bt233.1)) (wrap64 (1 + bt245.1))) % 256] : List Int) : List Int)).bind fun y248 => (if (a1.extract 0 (bt233.1 : Int).toNat).size + (strOfNums y248).size ≤ 9223372036854775807 then (if 0 ≤ (wrap64 (bt233.1 + 1)) then (if (wrap64 (bt233.1 + 1)) ≤ (a1.size : Int) then (if ((a1.extract 0 (bt233.1 : Int).toNat) ++ (strOfNums y248)).size + (a1.extract ((wrap64 (bt233.1 + 1)) : Int).toNat a1.size).size ≤ 9223372036854775807 then (some (((a1.extract 0 (bt233.1 : Int).toNat) ++ (strOfNums y248)) ++ (a1.extract ((wrap64 (bt233.1 + 1)) : Int).toNat a1.size), bt245.2.1, bt245.2.2)) else (none)) else (none)) else (none)) else (none)))) else (none)) else (none)) else (none)))))))
theorem spec_l1Spoil.mono : ∀ a0 a1 a2 a3 k, LeO (spec_l1Spoil.f k a0 a1 a2 a3) (spec_l1Spoil.f (k + 1) a0 a1 a2 a3) := by
  intro a0 a1 a2 a3 k
  unfold spec_l1Spoil.f
  repeat' first
      | (with_reducible exact spec_l1Text.mono _ _ _ _ _)
      | (with_reducible exact LeO.refl _)
      | (with_reducible exact LeO.none _)
      | (with_reducible refine LeO.ite ?_ ?_)
      | (with_reducible refine LeO.bind ?_ (fun _ => ?_))
      | exact spec_l1Text.mono _ _ _ _ _
      | exact LeO.none _
      | refine LeO.ite ?_ ?_
      | refine LeO.bind ?_ (fun _ => ?_)
def spec_l1Spoil.T6 : Bool × List (List Nat × List Nat) := (true, [([], []), ([], []), ([0, 1], [0, 1]), ([], []), ([], []), ([4], [4]), ([3, 5], [3, 5]), ([2, 6], [2, 6]), ([7, 0, 1, 2, 3, 4, 5, 6, 7], [7])])
def spec_l1Spoil.B6 : List Nat := [0, 0, 3, 0, 0, 16, 56, 127, 255]
theorem spec_l1Spoil.tab6 : rtab .any (opsOf Tryd.f102 6) = spec_l1Spoil.T6 := by kernel_rfl
theorem spec_l1Spoil.bits6 : waitsOk spec_l1Spoil.T6.2 spec_l1Spoil.B6 = true := by kernel_rfl
def spec_l1Spoil.T8 : Bool × List (List Nat × List Nat) := (true, [([], []), ([], []), ([0, 1], [0, 1]), ([], []), ([3], [3]), ([4], [4]), ([5], [5]), ([6], [6]), ([2, 7], [2, 7]), ([], []), ([], []), ([9, 10], [9, 10]), ([8, 11], [8, 11]), ([12, 4, 0, 1, 2, 3, 4, 5, 6, 7, 8, 9, 10, 11, 12], [12])])
def spec_l1Spoil.B8 : List Nat := [0, 0, 3, 0, 8, 24, 56, 120, 255, 0, 0, 1536, 4095, 8191]
theorem spec_l1Spoil.tab8 : rtab .any (opsOf Tryd.f102 8) = spec_l1Spoil.T8 := by kernel_rfl
theorem spec_l1Spoil.bits8 : waitsOk spec_l1Spoil.T8.2 spec_l1Spoil.B8 = true := by kernel_rfl
def spec_l1Spoil.T11 : Bool × List (List Nat × List Nat) := (true, [([], []), ([], []), ([0, 1], [0, 1]), ([], []), ([], []), ([3, 4], [3, 4]), ([5], [5]), ([], []), ([7], [7]), ([8], [8]), ([6, 9], [6, 9]), ([10], [10]), ([11], [11]), ([12], [12]), ([2, 13], [2, 13]), ([], []), ([], []), ([16], [16]), ([15, 17], [15, 17]), ([14, 18], [14, 18]), ([19, 8, 0, 1, 2, 3, 4, 5, 6, 7, 8, 9, 10, 11, 12, 13, 14, 15, 16, 17, 18, 19], [19])])
def spec_l1Spoil.B11 : List Nat := [0, 0, 3, 0, 0, 24, 56, 0, 128, 384, 1016, 2040, 4088, 8184, 16383, 0, 0, 65536, 229376, 524287, 1048575]
theorem spec_l1Spoil.tab11 : rtab .any (opsOf Tryd.f102 11) = spec_l1Spoil.T11 := by kernel_rfl
theorem spec_l1Spoil.bits11 : waitsOk spec_l1Spoil.T11.2 spec_l1Spoil.B11 = true := by kernel_rfl
set_option maxHeartbeats 8000000 in
set_option maxRecDepth 100000 in
theorem spec_l1Spoil.calls (k : Nat) (g : Nat) (s0_0 : List Int) (s0_1 : Int) (s0_2 : Int) (a1 : ByteArray) (r1 : ByteArray) (r2 : Int) (r3 : Int) (w0 w : World) (hI : IsS163 w0 w g s0_0 s0_1 s0_2) (hB : Below w0.heap.size w0 w) (h : spec_l1Spoil.f k s0_0 s0_1 s0_2 a1 = some (r1, r2, r3)) :
    Calls Tryd.prog 102 #[.pointer (some ⟨g, 0, none⟩), .string a1] w fun e w' => e = .returned (.string r1) ∧ IsS163 w0 w' g s0_0 r2 r3 ∧ Below w0.heap.size w0 w' ∧ KeepBut w w' g none := by
  have HI0 := Aside0.mk hI
  have HK := Aside0.mk (KeepBut.refl w g none)
  have HL := Aside0.mk hB.size
  clear hI
  have HW0 := Aside0.mk hB.size
  have HB := Aside0.mk hB
  clear hB
  have H : (if (a1.size : Int) = 0 then ((spec_l1Text.f k s0_0 s0_1 s0_2 3).bind fun bt230 => (some (bt230.1, bt230.2.1, bt230.2.2))) else ((spec_l1Below.f s0_0 s0_1 s0_2 (a1.size : Int)).bind fun bt233 => ((spec_l1Below.f s0_0 bt233.2.1 bt233.2.2 4).bind fun bt236 => (if bt236.1 = 0 then (if 0 ≤ bt233.1 then (if bt233.1 ≤ (a1.size : Int) then (if 0 ≤ (wrap64 (bt233.1 + 1)) then (if (wrap64 (bt233.1 + 1)) ≤ (a1.size : Int) then (if (a1.extract 0 (bt233.1 : Int).toNat).size + (a1.extract ((wrap64 (bt233.1 + 1)) : Int).toNat a1.size).size ≤ 9223372036854775807 then (some ((a1.extract 0 (bt233.1 : Int).toNat) ++ (a1.extract ((wrap64 (bt233.1 + 1)) : Int).toNat a1.size), bt236.2.1, bt236.2.2)) else (none)) else (none)) else (none)) else (none)) else (none)) else (if bt236.1 = 1 then (if 0 ≤ bt233.1 then (if bt233.1 ≤ (a1.size : Int) then ((spec_l1Byte.f s0_0 bt236.2.1 bt236.2.2).bind fun bt239 => ((some (([(bt239.1) % 256] : List Int) : List Int)).bind fun y242 => (if (a1.extract 0 (bt233.1 : Int).toNat).size + (strOfNums y242).size ≤ 9223372036854775807 then (if ((a1.extract 0 (bt233.1 : Int).toNat) ++ (strOfNums y242)).size + (a1.extract (bt233.1 : Int).toNat a1.size).size ≤ 9223372036854775807 then (some (((a1.extract 0 (bt233.1 : Int).toNat) ++ (strOfNums y242)) ++ (a1.extract (bt233.1 : Int).toNat a1.size), bt239.2.1, bt239.2.2)) else (none)) else (none)))) else (none)) else (none)) else (if bt236.1 = 2 then (if 0 ≤ bt233.1 then (if bt233.1 ≤ (a1.size : Int) then (some (a1.extract 0 (bt233.1 : Int).toNat, bt236.2.1, bt236.2.2)) else (none)) else (none)) else (if 0 ≤ bt233.1 then (if bt233.1 ≤ (a1.size : Int) then (if bt233.1 < (a1.size : Int) then ((spec_l1Below.f s0_0 bt236.2.1 bt236.2.2 255).bind fun bt245 => ((some (([(Go.bits .xor .i64 (wrap64 (bt a1 bt233.1)) (wrap64 (1 + bt245.1))) % 256] : List Int) : List Int)).bind fun y248 => (if (a1.extract 0 (bt233.1 : Int).toNat).size + (strOfNums y248).size ≤ 9223372036854775807 then (if 0 ≤ (wrap64 (bt233.1 + 1)) then (if (wrap64 (bt233.1 + 1)) ≤ (a1.size : Int) then (if ((a1.extract 0 (bt233.1 : Int).toNat) ++ (strOfNums y248)).size + (a1.extract ((wrap64 (bt233.1 + 1)) : Int).toNat a1.size).size ≤ 9223372036854775807 then (some (((a1.extract 0 (bt233.1 : Int).toNat) ++ (strOfNums y248)) ++ (a1.extract ((wrap64 (bt233.1 + 1)) : Int).toNat a1.size), bt245.2.1, bt245.2.2)) else (none)) else (none)) else (none)) else (none)))) else (none)) else (none)) else (none)))))))) = some (r1, r2, r3) := h
  clear h
  by_cases c3 : (a1.size : Int) = 0
  · rw [if_pos c3] at H
    have c3b0 : ((a1.size : Int) == 0) = true := beq_iff_eq.mpr c3
    have c3b1 : ((a1.size : Int) != 0) = false := bne_eq_false_iff_eq.mpr c3
    clear c3
    replace H := Option.bind_eq_some_iff.mp H
    obtain ⟨⟨t230, t231, t232⟩, A40, H⟩ := H
    replace H : (some (t230, t231, t232)) = some (r1, r2, r3) := H
    have A4 := Aside0.mk A40
    clear A40
    simp only [Option.some.injEq, Prod.mk.injEq] at H
    obtain ⟨rfl, rfl, rfl⟩ := H
    go_enter Tryd.func102, Tryd.ntmps102
    go_wp2_with (first | ((with_reducible refine gate_callee (f := 96) rfl ?_); refine goesL_ (some 10) rfl rfl Tryd.func96 (by kernel_rfl) rfl #[.pointer (some ⟨g, 0, none⟩), .int .i64 3] rfl (by (try simp only [List.map_toArray, List.map_cons, List.map_nil]); first | done | rfl | (simp only [List.length_drop, List.length_take]; rfl)) ?_; (with_reducible refine (spec_l1Text.calls k g s0_0 s0_1 s0_2 3 t230 t231 t232 w0 _ ?side1 ?side2 A4.out).mono ?_); (case side1 => repeat (first | (with_reducible first | exact HI0.out | apply IsS163.alloc | apply IsS163.drewN | apply IsS163.drew | apply IsS163.set_1 | apply IsS163.set_2) | exact HI0.out)); (case side2 => repeat (first | (with_reducible first | exact HB.out | apply below_alloc | apply pw_below_drewN | apply below_drew1 | refine below_set ?_ (IsS163.ge HI0.out)) | exact HB.out)); rintro e w5 ⟨rfl, hi, hb, hk⟩; refine ⟨_, rfl, ?_⟩; have n0_ := Aside0.mk (KeepBut.trans (by repeat (first | (with_reducible first | exact HK.out | apply KeepBut.set_ | apply keep_drewN | apply keep_drew | apply keep_alloc) | exact HK.out)) hk (.inl rfl)); have n1_ := Aside0.mk (hb); have n2_ := Aside0.mk (hi); clear HK; clear HB; clear HI0; have HK := n0_; have HB := n1_; have HI0 := n2_; clear n0_ n1_ n2_; (try clear hb); (try clear hb2); (try clear hk); (try clear hi)))
    go_ret
    exact ⟨by first | rfl | (simp [errW_none, errW_some] <;> rfl) | (simp [*, errW_none, errW_some] <;> rfl), by repeat (first | (with_reducible first | exact HI0.out | apply IsS163.alloc | apply IsS163.drewN | apply IsS163.drew | apply IsS163.set_1 | apply IsS163.set_2) | exact HI0.out), by repeat (first | (with_reducible first | exact HB.out | apply below_alloc | apply pw_below_drewN | apply below_drew1 | refine below_set ?_ (IsS163.ge HI0.out)) | exact HB.out), by repeat (first | (with_reducible first | exact HK.out | apply KeepBut.set_ | apply keep_drewN | apply keep_drew | apply keep_alloc) | exact HK.out)⟩
  · rw [if_neg c3] at H
    have c3b0 : ((a1.size : Int) == 0) = false := beq_eq_false_iff_ne.mpr c3
    have c3b1 : ((a1.size : Int) != 0) = true := bne_iff_ne.mpr c3
    replace H := Option.bind_eq_some_iff.mp H
    obtain ⟨⟨t233, t234, t235⟩, A60, H⟩ := H
    replace H : ((spec_l1Below.f s0_0 t234 t235 4).bind fun bt236 => (if bt236.1 = 0 then (if 0 ≤ t233 then (if t233 ≤ (a1.size : Int) then (if 0 ≤ (wrap64 (t233 + 1)) then (if (wrap64 (t233 + 1)) ≤ (a1.size : Int) then (if (a1.extract 0 (t233 : Int).toNat).size + (a1.extract ((wrap64 (t233 + 1)) : Int).toNat a1.size).size ≤ 9223372036854775807 then (some ((a1.extract 0 (t233 : Int).toNat) ++ (a1.extract ((wrap64 (t233 + 1)) : Int).toNat a1.size), bt236.2.1, bt236.2.2)) else (none)) else (none)) else (none)) else (none)) else (none)) else (if bt236.1 = 1 then (if 0 ≤ t233 then (if t233 ≤ (a1.size : Int) then ((spec_l1Byte.f s0_0 bt236.2.1 bt236.2.2).bind fun bt239 => ((some (([(bt239.1) % 256] : List Int) : List Int)).bind fun y242 => (if (a1.extract 0 (t233 : Int).toNat).size + (strOfNums y242).size ≤ 9223372036854775807 then (if ((a1.extract 0 (t233 : Int).toNat) ++ (strOfNums y242)).size + (a1.extract (t233 : Int).toNat a1.size).size ≤ 9223372036854775807 then (some (((a1.extract 0 (t233 : Int).toNat) ++ (strOfNums y242)) ++ (a1.extract (t233 : Int).toNat a1.size), bt239.2.1, bt239.2.2)) else (none)) else (none)))) else (none)) else (none)) else (if bt236.1 = 2 then (if 0 ≤ t233 then (if t233 ≤ (a1.size : Int) then (some (a1.extract 0 (t233 : Int).toNat, bt236.2.1, bt236.2.2)) else (none)) else (none)) else (if 0 ≤ t233 then (if t233 ≤ (a1.size : Int) then (if t233 < (a1.size : Int) then ((spec_l1Below.f s0_0 bt236.2.1 bt236.2.2 255).bind fun bt245 => ((some (([(Go.bits .xor .i64 (wrap64 (bt a1 t233)) (wrap64 (1 + bt245.1))) % 256] : List Int) : List Int)).bind fun y248 => (if (a1.extract 0 (t233 : Int).toNat).size + (strOfNums y248).size ≤ 9223372036854775807 then (if 0 ≤ (wrap64 (t233 + 1)) then (if (wrap64 (t233 + 1)) ≤ (a1.size : Int) then (if ((a1.extract 0 (t233 : Int).toNat) ++ (strOfNums y248)).size + (a1.extract ((wrap64 (t233 + 1)) : Int).toNat a1.size).size ≤ 9223372036854775807 then (some (((a1.extract 0 (t233 : Int).toNat) ++ (strOfNums y248)) ++ (a1.extract ((wrap64 (t233 + 1)) : Int).toNat a1.size), bt245.2.1, bt245.2.2)) else (none)) else (none)) else (none)) else (none)))) else (none)) else (none)) else (none)))))) = some (r1, r2, r3) := H
    have A6 := Aside0.mk A60
    clear A60
    replace H := Option.bind_eq_some_iff.mp H
    obtain ⟨⟨t236, t237, t238⟩, A70, H⟩ := H
    replace H : (if t236 = 0 then (if 0 ≤ t233 then (if t233 ≤ (a1.size : Int) then (if 0 ≤ (wrap64 (t233 + 1)) then (if (wrap64 (t233 + 1)) ≤ (a1.size : Int) then (if (a1.extract 0 (t233 : Int).toNat).size + (a1.extract ((wrap64 (t233 + 1)) : Int).toNat a1.size).size ≤ 9223372036854775807 then (some ((a1.extract 0 (t233 : Int).toNat) ++ (a1.extract ((wrap64 (t233 + 1)) : Int).toNat a1.size), t237, t238)) else (none)) else (none)) else (none)) else (none)) else (none)) else (if t236 = 1 then (if 0 ≤ t233 then (if t233 ≤ (a1.size : Int) then ((spec_l1Byte.f s0_0 t237 t238).bind fun bt239 => ((some (([(bt239.1) % 256] : List Int) : List Int)).bind fun y242 => (if (a1.extract 0 (t233 : Int).toNat).size + (strOfNums y242).size ≤ 9223372036854775807 then (if ((a1.extract 0 (t233 : Int).toNat) ++ (strOfNums y242)).size + (a1.extract (t233 : Int).toNat a1.size).size ≤ 9223372036854775807 then (some (((a1.extract 0 (t233 : Int).toNat) ++ (strOfNums y242)) ++ (a1.extract (t233 : Int).toNat a1.size), bt239.2.1, bt239.2.2)) else (none)) else (none)))) else (none)) else (none)) else (if t236 = 2 then (if 0 ≤ t233 then (if t233 ≤ (a1.size : Int) then (some (a1.extract 0 (t233 : Int).toNat, t237, t238)) else (none)) else (none)) else (if 0 ≤ t233 then (if t233 ≤ (a1.size : Int) then (if t233 < (a1.size : Int) then ((spec_l1Below.f s0_0 t237 t238 255).bind fun bt245 => ((some (([(Go.bits .xor .i64 (wrap64 (bt a1 t233)) (wrap64 (1 + bt245.1))) % 256] : List Int) : List Int)).bind fun y248 => (if (a1.extract 0 (t233 : Int).toNat).size + (strOfNums y248).size ≤ 9223372036854775807 then (if 0 ≤ (wrap64 (t233 + 1)) then (if (wrap64 (t233 + 1)) ≤ (a1.size : Int) then (if ((a1.extract 0 (t233 : Int).toNat) ++ (strOfNums y248)).size + (a1.extract ((wrap64 (t233 + 1)) : Int).toNat a1.size).size ≤ 9223372036854775807 then (some (((a1.extract 0 (t233 : Int).toNat) ++ (strOfNums y248)) ++ (a1.extract ((wrap64 (t233 + 1)) : Int).toNat a1.size), bt245.2.1, bt245.2.2)) else (none)) else (none)) else (none)) else (none)))) else (none)) else (none)) else (none))))) = some (r1, r2, r3) := H
    have A7 := Aside0.mk A70
    clear A70
    by_cases c8 : t236 = 0
    · rw [if_pos c8] at H
      have c8b0 : (t236 == 0) = true := beq_iff_eq.mpr c8
      have c8b1 : (t236 != 0) = false := bne_eq_false_iff_eq.mpr c8
      clear c8
      by_cases c9 : 0 ≤ t233
      · rw [if_pos c9] at H
        have c9b0 := eq_true c9
        have c9b1 : decide (0 ≤ t233) = true := decide_eq_true c9
        clear c9
        by_cases c10 : t233 ≤ (a1.size : Int)
        · rw [if_pos c10] at H
          have c10b0 := eq_true c10
          have c10b1 : decide (t233 ≤ (a1.size : Int)) = true := decide_eq_true c10
          clear c10
          obtain ⟨ji11, hji11⟩ : ∃ j_ : Int, (wrap64 (t233 + 1)) = j_ := ⟨_, rfl⟩
          replace H : (if 0 ≤ (ji11) then (if (ji11) ≤ (a1.size : Int) then (if (a1.extract 0 (t233 : Int).toNat).size + (a1.extract ((ji11) : Int).toNat a1.size).size ≤ 9223372036854775807 then (some ((a1.extract 0 (t233 : Int).toNat) ++ (a1.extract ((ji11) : Int).toNat a1.size), t237, t238)) else (none)) else (none)) else (none)) = some (r1, r2, r3) := by first | (rw [hji11] at H; exact H) | (simp only [hji11] at H ⊢; exact H)
          (try rw [hji11] at A6)
          (try rw [hji11] at A7)
          have hji11w : (IntKind.i64.wrap (t233 + 1)) = ji11 := (i64_w _).trans hji11
          by_cases c12 : 0 ≤ (ji11)
          · rw [if_pos c12] at H
            have c12b0 := eq_true c12
            have c12b1 : decide (0 ≤ (ji11)) = true := decide_eq_true c12
            clear c12
            by_cases c13 : (ji11) ≤ (a1.size : Int)
            · rw [if_pos c13] at H
              have c13b0 := eq_true c13
              have c13b1 : decide ((ji11) ≤ (a1.size : Int)) = true := decide_eq_true c13
              clear c13
              by_cases c14 : (a1.extract 0 (t233 : Int).toNat).size + (a1.extract ((ji11) : Int).toNat a1.size).size ≤ 9223372036854775807
              · rw [if_pos c14] at H
                have c14b0 := eq_true c14
                have c14b1 : decide ((a1.extract 0 (t233 : Int).toNat).size + (a1.extract ((ji11) : Int).toNat a1.size).size ≤ 9223372036854775807) = true := decide_eq_true c14
                try have c14b2 : (9223372036854775807 < (a1.extract 0 (t233 : Int).toNat).size + (a1.extract ((ji11) : Int).toNat a1.size).size) = False := eq_false (Nat.not_lt.2 c14)
                try have c14b5 : (9223372036854775807 < (t233).toNat + (a1.size - (ji11).toNat)) = False := by have l0_ := of_decide_eq_true c10b1; have h_ := c14b2; simp only [ByteArray.size_append, ByteArray.size_extract, eq_iff_iff, iff_false] at h_ ⊢; omega
                simp only [Option.some.injEq, Prod.mk.injEq] at H
                obtain ⟨rfl, rfl, rfl⟩ := H
                go_enter Tryd.func102, Tryd.ntmps102
                try go_wp2_with (first | ((with_reducible refine gate_callee (f := 103) rfl ?_); refine goesL_ (some 14) rfl rfl Tryd.func103 (by kernel_rfl) rfl #[.pointer (some ⟨g, 0, none⟩), .int .i64 (a1.size : Int)] rfl (by (try simp only [List.map_toArray, List.map_cons, List.map_nil]); first | done | rfl | (simp only [List.length_drop, List.length_take]; rfl)) ?_; (with_reducible refine (spec_l1Below.calls g s0_0 s0_1 s0_2 (a1.size : Int) t233 t234 t235 w0 _ ?side1 ?side2 A6.out).mono ?_); (case side1 => repeat (first | (with_reducible first | exact HI0.out | apply IsS163.alloc | apply IsS163.drewN | apply IsS163.drew | apply IsS163.set_1 | apply IsS163.set_2) | exact HI0.out)); (case side2 => repeat (first | (with_reducible first | exact HB.out | apply below_alloc | apply pw_below_drewN | apply below_drew1 | refine below_set ?_ (IsS163.ge HI0.out)) | exact HB.out)); rintro e w15 ⟨rfl, hi, hb, hk⟩; refine ⟨_, rfl, ?_⟩; have n0_ := Aside0.mk (KeepBut.trans (by repeat (first | (with_reducible first | exact HK.out | apply KeepBut.set_ | apply keep_drewN | apply keep_drew | apply keep_alloc) | exact HK.out)) hk (.inl rfl)); have n1_ := Aside0.mk (hb); have n2_ := Aside0.mk (hi); clear HK; clear HB; clear HI0; have HK := n0_; have HB := n1_; have HI0 := n2_; clear n0_ n1_ n2_; (try clear hb); (try clear hb2); (try clear hk); (try clear hi)) | ((with_reducible refine gate_callee (f := 103) rfl ?_); refine goesL_ (some 16) rfl rfl Tryd.func103 (by kernel_rfl) rfl #[.pointer (some ⟨g, 0, none⟩), .int .i64 4] rfl (by (try simp only [List.map_toArray, List.map_cons, List.map_nil]); first | done | rfl | (simp only [List.length_drop, List.length_take]; rfl)) ?_; (with_reducible refine (spec_l1Below.calls g s0_0 t234 t235 4 t236 t237 t238 w0 _ ?side1 ?side2 A7.out).mono ?_); (case side1 => repeat (first | (with_reducible first | exact HI0.out | apply IsS163.alloc | apply IsS163.drewN | apply IsS163.drew | apply IsS163.set_1 | apply IsS163.set_2) | exact HI0.out)); (case side2 => repeat (first | (with_reducible first | exact HB.out | apply below_alloc | apply pw_below_drewN | apply below_drew1 | refine below_set ?_ (IsS163.ge HI0.out)) | exact HB.out)); rintro e w16 ⟨rfl, hi, hb, hk⟩; refine ⟨_, rfl, ?_⟩; have n0_ := Aside0.mk (KeepBut.trans (by repeat (first | (with_reducible first | exact HK.out | apply KeepBut.set_ | apply keep_drewN | apply keep_drew | apply keep_alloc) | exact HK.out)) hk (.inl rfl)); have n1_ := Aside0.mk (hb); have n2_ := Aside0.mk (hi); clear HK; clear HB; clear HI0; have HK := n0_; have HB := n1_; have HI0 := n2_; clear n0_ n1_ n2_; (try clear hb); (try clear hb2); (try clear hk); (try clear hi)))
                have n0_ := Aside0.mk (IsS163.drew HI0.out)
                have n1_ := Aside0.mk (keep_drew HK.out)
                have n2_ := Aside0.mk (below_drew1 HB.out)
                clear HI0
                clear HK
                clear HB
                have HI0 := n0_
                have HK := n1_
                have HB := n2_
                clear n0_ n1_ n2_
                refine start_ (n := 9) (S := fun w' => True) (ds := []) #[false, false, false, false, false, false, false, false, false] (by kernel_rfl) rfl rfl trivial (fun hHeld => ?_); refine with_tabW spec_l1Spoil.tab6 spec_l1Spoil.bits6 (fun HT_ HW_ => ?_)
                generalize w16.drew = w17 at HI0 HK HB hHeld ⊢
                refine pure_ (i := 0) (N := some 19) (v := ?_) (a' := ?_) #[true, false, false, false, false, false, false, false, false] rfl rfl (any_of HT_.out (by kernel_rfl)) (fun _ _ _ h => h) (Or.inl ⟨by rfl, ?_⟩) ?_ ?_
                rotate_left
                · intro w'
                  go_simp
                  with_reducible rfl
                rotate_left
                · simp only [Act.put, List.setIfInBounds_toArray, List.set_cons_zero, List.set_cons_succ, i64_w, i32_w]
                  rfl
                refine pure_ (i := 1) (N := some 20) (v := ?_) (a' := ?_) #[true, true, false, false, false, false, false, false, false] rfl rfl (any_of HT_.out (by kernel_rfl)) (fun _ _ _ h => h) (Or.inl ⟨by rfl, ?_⟩) ?_ ?_
                rotate_left
                · intro w'
                  go_simp
                  with_reducible rfl
                rotate_left
                · simp only [Act.put, List.setIfInBounds_toArray, List.set_cons_zero, List.set_cons_succ, i64_w, i32_w]
                  rfl
                refine pure_ (i := 2) (N := some 21) (v := ?_) (a' := ?_) #[true, true, true, false, false, false, false, false, false] rfl rfl (any_of HT_.out (by kernel_rfl)) (fun _ _ _ h => h) (Or.inl ⟨by rfl, ?_⟩) ?_ ?_
                rotate_left
                · intro w'
                  go_simp
                  with_reducible rfl
                rotate_left
                · simp only [Act.put, List.setIfInBounds_toArray, List.set_cons_zero, List.set_cons_succ, i64_w, i32_w]
                  rfl
                refine pure_ (i := 3) (N := some 22) (v := ?_) (a' := ?_) #[true, true, true, true, false, false, false, false, false] rfl rfl (any_of HT_.out (by kernel_rfl)) (fun _ _ _ h => h) (Or.inl ⟨by rfl, ?_⟩) ?_ ?_
                rotate_left
                · intro w'
                  go_simp
                  with_reducible rfl
                rotate_left
                · simp only [Act.put, List.setIfInBounds_toArray, List.set_cons_zero, List.set_cons_succ, i64_w, i32_w]
                  rfl
                refine pure_ (i := 4) (N := some 23) (v := ?_) (a' := ?_) #[true, true, true, true, true, false, false, false, false] rfl rfl (any_of HT_.out (by kernel_rfl)) (fun _ _ _ h => h) (Or.inl ⟨by rfl, ?_⟩) ?_ ?_
                rotate_left
                · intro w'
                  go_simp
                  with_reducible rfl
                rotate_left
                · simp only [Act.put, List.setIfInBounds_toArray, List.set_cons_zero, List.set_cons_succ, i64_w, i32_w]
                  rfl
                refine pure_ (i := 5) (N := some 24) (v := ?_) (a' := ?_) #[true, true, true, true, true, true, false, false, false] rfl rfl (any_of HT_.out (by kernel_rfl)) (fun _ _ _ h => h) (Or.inl ⟨by rfl, ?_⟩) ?_ ?_
                rotate_left
                · intro w'
                  go_simp
                  with_reducible rfl
                rotate_left
                · simp only [Act.put, List.setIfInBounds_toArray, List.set_cons_zero, List.set_cons_succ, i64_w, i32_w]
                  rfl
                refine pure_ (i := 6) (N := some 25) (v := ?_) (a' := ?_) #[true, true, true, true, true, true, true, false, false] rfl rfl (any_of HT_.out (by kernel_rfl)) (fun _ _ _ h => h) (Or.inl ⟨by rfl, ?_⟩) ?_ ?_
                rotate_left
                · intro w'
                  go_simp
                  with_reducible rfl
                rotate_left
                · simp only [Act.put, List.setIfInBounds_toArray, List.set_cons_zero, List.set_cons_succ, i64_w, i32_w]
                  rfl
                refine pure_ (i := 7) (N := some 26) (v := ?_) (a' := ?_) #[true, true, true, true, true, true, true, true, false] rfl rfl (any_of HT_.out (by kernel_rfl)) (fun _ _ _ h => h) (Or.inl ⟨by rfl, ?_⟩) ?_ ?_
                rotate_left
                · intro w'
                  go_simp
                  with_reducible rfl
                rotate_left
                · simp only [Act.put, List.setIfInBounds_toArray, List.set_cons_zero, List.set_cons_succ, i64_w, i32_w]
                  rfl
                refine pure_ (i := 8) (N := some 4) (v := ?_) (a' := ?_) #[true, true, true, true, true, true, true, true, true] rfl rfl (any_of HT_.out (by kernel_rfl)) (fun _ _ _ h => h) (Or.inl ⟨by rfl, ?_⟩) ?_ ?_
                rotate_left
                · intro w'
                  go_simp
                  with_reducible rfl
                rotate_left
                · simp only [Act.put, List.setIfInBounds_toArray, List.set_cons_zero, List.set_cons_succ, i64_w, i32_w]
                  rfl
                refine done_ (done_of HT_.out (by kernel_rfl)) ?_
                try go_wp2
                go_ret
                exact ⟨by first | rfl | (simp [errW_none, errW_some] <;> rfl) | (simp only [← hji11]; first | rfl | (simp [errW_none, errW_some] <;> rfl)) | (simp [*, errW_none, errW_some] <;> rfl), by repeat (first | (with_reducible first | exact HI0.out | apply IsS163.alloc | apply IsS163.drewN | apply IsS163.drew | apply IsS163.set_1 | apply IsS163.set_2) | exact HI0.out), by repeat (first | (with_reducible first | exact HB.out | apply below_alloc | apply pw_below_drewN | apply below_drew1 | refine below_set ?_ (IsS163.ge HI0.out)) | exact HB.out), by repeat (first | (with_reducible first | exact HK.out | apply KeepBut.set_ | apply keep_drewN | apply keep_drew | apply keep_alloc) | exact HK.out)⟩
              · rw [if_neg c14] at H
                exact absurd H (by simp)
            · rw [if_neg c13] at H
              exact absurd H (by simp)
          · rw [if_neg c12] at H
            exact absurd H (by simp)
        · rw [if_neg c10] at H
          exact absurd H (by simp)
      · rw [if_neg c9] at H
        exact absurd H (by simp)
    · rw [if_neg c8] at H
      have c8b0 : (t236 == 0) = false := beq_eq_false_iff_ne.mpr c8
      have c8b1 : (t236 != 0) = true := bne_iff_ne.mpr c8
      by_cases c18 : t236 = 1
      · rw [if_pos c18] at H
        have c18b0 : (t236 == 1) = true := beq_iff_eq.mpr c18
        have c18b1 : (t236 != 1) = false := bne_eq_false_iff_eq.mpr c18
        clear c18
        by_cases c19 : 0 ≤ t233
        · rw [if_pos c19] at H
          have c19b0 := eq_true c19
          have c19b1 : decide (0 ≤ t233) = true := decide_eq_true c19
          clear c19
          by_cases c20 : t233 ≤ (a1.size : Int)
          · rw [if_pos c20] at H
            have c20b0 := eq_true c20
            have c20b1 : decide (t233 ≤ (a1.size : Int)) = true := decide_eq_true c20
            clear c20
            replace H := Option.bind_eq_some_iff.mp H
            obtain ⟨⟨t239, t240, t241⟩, A210, H⟩ := H
            replace H : ((some (([(t239) % 256] : List Int) : List Int)).bind fun y242 => (if (a1.extract 0 (t233 : Int).toNat).size + (strOfNums y242).size ≤ 9223372036854775807 then (if ((a1.extract 0 (t233 : Int).toNat) ++ (strOfNums y242)).size + (a1.extract (t233 : Int).toNat a1.size).size ≤ 9223372036854775807 then (some (((a1.extract 0 (t233 : Int).toNat) ++ (strOfNums y242)) ++ (a1.extract (t233 : Int).toNat a1.size), t240, t241)) else (none)) else (none))) = some (r1, r2, r3) := H
            have A21 := Aside0.mk A210
            clear A210
            obtain ⟨y242, hy242⟩ : ∃ y_ : List Int, y_ = (([(t239) % 256] : List Int)) := ⟨_, rfl⟩
            replace H : (if (a1.extract 0 (t233 : Int).toNat).size + (strOfNums y242).size ≤ 9223372036854775807 then (if ((a1.extract 0 (t233 : Int).toNat) ++ (strOfNums y242)).size + (a1.extract (t233 : Int).toNat a1.size).size ≤ 9223372036854775807 then (some (((a1.extract 0 (t233 : Int).toNat) ++ (strOfNums y242)) ++ (a1.extract (t233 : Int).toNat a1.size), t240, t241)) else (none)) else (none)) = some (r1, r2, r3) := by first | (rw [hy242]; with_reducible exact H) | (have H2_ := (Option.bind_some _ _).symm.trans H; rw [hy242]; with_reducible exact H2_) | (have H2_ := (Option.bind_some _ _).symm.trans H; with_reducible exact H2_) | with_reducible exact H | (rw [hy242]; exact H) | exact H
            have Ny242 := Aside0.mk hy242
            clear hy242
            by_cases c22 : (a1.extract 0 (t233 : Int).toNat).size + (strOfNums y242).size ≤ 9223372036854775807
            · rw [if_pos c22] at H
              have c22b0 := eq_true c22
              have c22b1 : decide ((a1.extract 0 (t233 : Int).toNat).size + (strOfNums y242).size ≤ 9223372036854775807) = true := decide_eq_true c22
              try have c22b2 : (9223372036854775807 < (a1.extract 0 (t233 : Int).toNat).size + (strOfNums y242).size) = False := eq_false (Nat.not_lt.2 c22)
              try have c22b5 : (9223372036854775807 < (t233).toNat + (strOfNums y242).size) = False := by have l0_ := of_decide_eq_true c20b1; have h_ := c22b2; simp only [ByteArray.size_append, ByteArray.size_extract, eq_iff_iff, iff_false] at h_ ⊢; omega
              have c23b0 := eq_true (of_decide_eq_true (by first | (with_reducible assumption) | assumption) : 0 ≤ t233)
              have c24b0 := eq_true (of_decide_eq_true (by first | (with_reducible assumption) | assumption) : t233 ≤ (a1.size : Int))
              by_cases c25 : ((a1.extract 0 (t233 : Int).toNat) ++ (strOfNums y242)).size + (a1.extract (t233 : Int).toNat a1.size).size ≤ 9223372036854775807
              · rw [if_pos c25] at H
                have c25b0 := eq_true c25
                have c25b1 : decide (((a1.extract 0 (t233 : Int).toNat) ++ (strOfNums y242)).size + (a1.extract (t233 : Int).toNat a1.size).size ≤ 9223372036854775807) = true := decide_eq_true c25
                try have c25b2 : (9223372036854775807 < ((a1.extract 0 (t233 : Int).toNat) ++ (strOfNums y242)).size + (a1.extract (t233 : Int).toNat a1.size).size) = False := eq_false (Nat.not_lt.2 c25)
                try have c25b5 : (9223372036854775807 < ((t233).toNat + (strOfNums y242).size) + (a1.size - (t233).toNat)) = False := by have l0_ := of_decide_eq_true c20b1; have h_ := c25b2; simp only [ByteArray.size_append, ByteArray.size_extract, eq_iff_iff, iff_false] at h_ ⊢; omega
                simp only [Option.some.injEq, Prod.mk.injEq] at H
                obtain ⟨rfl, rfl, rfl⟩ := H
                go_enter Tryd.func102, Tryd.ntmps102
                try go_wp2_with (first | ((with_reducible refine gate_callee (f := 103) rfl ?_); refine goesL_ (some 14) rfl rfl Tryd.func103 (by kernel_rfl) rfl #[.pointer (some ⟨g, 0, none⟩), .int .i64 (a1.size : Int)] rfl (by (try simp only [List.map_toArray, List.map_cons, List.map_nil]); first | done | rfl | (simp only [List.length_drop, List.length_take]; rfl)) ?_; (with_reducible refine (spec_l1Below.calls g s0_0 s0_1 s0_2 (a1.size : Int) t233 t234 t235 w0 _ ?side1 ?side2 A6.out).mono ?_); (case side1 => repeat (first | (with_reducible first | exact HI0.out | apply IsS163.alloc | apply IsS163.drewN | apply IsS163.drew | apply IsS163.set_1 | apply IsS163.set_2) | exact HI0.out)); (case side2 => repeat (first | (with_reducible first | exact HB.out | apply below_alloc | apply pw_below_drewN | apply below_drew1 | refine below_set ?_ (IsS163.ge HI0.out)) | exact HB.out)); rintro e w26 ⟨rfl, hi, hb, hk⟩; refine ⟨_, rfl, ?_⟩; have n0_ := Aside0.mk (KeepBut.trans (by repeat (first | (with_reducible first | exact HK.out | apply KeepBut.set_ | apply keep_drewN | apply keep_drew | apply keep_alloc) | exact HK.out)) hk (.inl rfl)); have n1_ := Aside0.mk (hb); have n2_ := Aside0.mk (hi); clear HK; clear HB; clear HI0; have HK := n0_; have HB := n1_; have HI0 := n2_; clear n0_ n1_ n2_; (try clear hb); (try clear hb2); (try clear hk); (try clear hi)) | ((with_reducible refine gate_callee (f := 103) rfl ?_); refine goesL_ (some 16) rfl rfl Tryd.func103 (by kernel_rfl) rfl #[.pointer (some ⟨g, 0, none⟩), .int .i64 4] rfl (by (try simp only [List.map_toArray, List.map_cons, List.map_nil]); first | done | rfl | (simp only [List.length_drop, List.length_take]; rfl)) ?_; (with_reducible refine (spec_l1Below.calls g s0_0 t234 t235 4 t236 t237 t238 w0 _ ?side1 ?side2 A7.out).mono ?_); (case side1 => repeat (first | (with_reducible first | exact HI0.out | apply IsS163.alloc | apply IsS163.drewN | apply IsS163.drew | apply IsS163.set_1 | apply IsS163.set_2) | exact HI0.out)); (case side2 => repeat (first | (with_reducible first | exact HB.out | apply below_alloc | apply pw_below_drewN | apply below_drew1 | refine below_set ?_ (IsS163.ge HI0.out)) | exact HB.out)); rintro e w27 ⟨rfl, hi, hb, hk⟩; refine ⟨_, rfl, ?_⟩; have n0_ := Aside0.mk (KeepBut.trans (by repeat (first | (with_reducible first | exact HK.out | apply KeepBut.set_ | apply keep_drewN | apply keep_drew | apply keep_alloc) | exact HK.out)) hk (.inl rfl)); have n1_ := Aside0.mk (hb); have n2_ := Aside0.mk (hi); clear HK; clear HB; clear HI0; have HK := n0_; have HB := n1_; have HI0 := n2_; clear n0_ n1_ n2_; (try clear hb); (try clear hb2); (try clear hk); (try clear hi)))
                have n0_ := Aside0.mk (IsS163.drew HI0.out)
                have n1_ := Aside0.mk (keep_drew HK.out)
                have n2_ := Aside0.mk (below_drew1 HB.out)
                clear HI0
                clear HK
                clear HB
                have HI0 := n0_
                have HK := n1_
                have HB := n2_
                clear n0_ n1_ n2_
                refine start_ (n := 14) (S := fun w' => True) (ds := []) #[false, false, false, false, false, false, false, false, false, false, false, false, false, false] (by kernel_rfl) rfl rfl trivial (fun hHeld => ?_); refine with_tabW spec_l1Spoil.tab8 spec_l1Spoil.bits8 (fun HT_ HW_ => ?_)
                generalize w27.drew = w28 at HI0 HK HB hHeld ⊢
                refine pure_ (i := 0) (N := some 29) (v := ?_) (a' := ?_) #[true, false, false, false, false, false, false, false, false, false, false, false, false, false] rfl rfl (any_of HT_.out (by kernel_rfl)) (fun _ _ _ h => h) (Or.inl ⟨by rfl, ?_⟩) ?_ ?_
                rotate_left
                · intro w'
                  go_simp
                  with_reducible rfl
                rotate_left
                · simp only [Act.put, List.setIfInBounds_toArray, List.set_cons_zero, List.set_cons_succ, i64_w, i32_w]
                  rfl
                refine pure_ (i := 1) (N := some 30) (v := ?_) (a' := ?_) #[true, true, false, false, false, false, false, false, false, false, false, false, false, false] rfl rfl (any_of HT_.out (by kernel_rfl)) (fun _ _ _ h => h) (Or.inl ⟨by rfl, ?_⟩) ?_ ?_
                rotate_left
                · intro w'
                  go_simp
                  with_reducible rfl
                rotate_left
                · simp only [Act.put, List.setIfInBounds_toArray, List.set_cons_zero, List.set_cons_succ, i64_w, i32_w]
                  rfl
                refine pure_ (i := 2) (N := some 31) (v := ?_) (a' := ?_) #[true, true, true, false, false, false, false, false, false, false, false, false, false, false] rfl rfl (any_of HT_.out (by kernel_rfl)) (fun _ _ _ h => h) (Or.inl ⟨by rfl, ?_⟩) ?_ ?_
                rotate_left
                · intro w'
                  go_simp
                  with_reducible rfl
                rotate_left
                · simp only [Act.put, List.setIfInBounds_toArray, List.set_cons_zero, List.set_cons_succ, i64_w, i32_w]
                  rfl
                refine pure_ (i := 3) (N := some 32) (v := ?_) (a' := ?_) #[true, true, true, true, false, false, false, false, false, false, false, false, false, false] rfl rfl (any_of HT_.out (by kernel_rfl)) (fun _ _ _ h => h) (Or.inl ⟨by rfl, ?_⟩) ?_ ?_
                rotate_left
                · intro w'
                  go_simp
                  with_reducible rfl
                rotate_left
                · simp only [Act.put, List.setIfInBounds_toArray, List.set_cons_zero, List.set_cons_succ, i64_w, i32_w]
                  rfl
                refine pure_ (i := 9) (N := some 38) (v := ?_) (a' := ?_) #[true, true, true, true, false, false, false, false, false, true, false, false, false, false] rfl rfl (any_of HT_.out (by kernel_rfl)) (fun _ _ _ h => h) (Or.inl ⟨by rfl, ?_⟩) ?_ ?_
                rotate_left
                · intro w'
                  go_simp
                  with_reducible rfl
                rotate_left
                · simp only [Act.put, List.setIfInBounds_toArray, List.set_cons_zero, List.set_cons_succ, i64_w, i32_w]
                  rfl
                refine pure_ (i := 10) (N := some 39) (v := ?_) (a' := ?_) #[true, true, true, true, false, false, false, false, false, true, true, false, false, false] rfl rfl (any_of HT_.out (by kernel_rfl)) (fun _ _ _ h => h) (Or.inl ⟨by rfl, ?_⟩) ?_ ?_
                rotate_left
                · intro w'
                  go_simp
                  with_reducible rfl
                rotate_left
                · simp only [Act.put, List.setIfInBounds_toArray, List.set_cons_zero, List.set_cons_succ, i64_w, i32_w]
                  rfl
                refine pure_ (i := 11) (N := some 40) (v := ?_) (a' := ?_) #[true, true, true, true, false, false, false, false, false, true, true, true, false, false] rfl rfl (any_of HT_.out (by kernel_rfl)) (fun _ _ _ h => h) (Or.inl ⟨by rfl, ?_⟩) ?_ ?_
                rotate_left
                · intro w'
                  go_simp
                  with_reducible rfl
                rotate_left
                · simp only [Act.put, List.setIfInBounds_toArray, List.set_cons_zero, List.set_cons_succ, i64_w, i32_w]
                  rfl
                refine one_ (i := 4) (N := some 33) #[true, true, true, true, true, false, false, false, false, true, true, true, false, false] rfl rfl (one_of HT_.out (by kernel_rfl)) (by decide) (fun K hK => ?_)
                refine goes_ Tryd.func143 (by kernel_rfl) rfl #[.pointer (some ⟨g, 0, none⟩)] (by rfl) rfl rfl (by (try simp only [List.map_toArray, List.map_cons, List.map_nil]); first | done | rfl | (simp only [List.length_drop, List.length_take]; rfl)) ?_
                with_reducible refine (spec_l1Byte.calls g s0_0 t237 t238 t239 t240 t241 w0 _ ?side1 ?side2 A21.out).mono ?_
                (case side1 => repeat (first | (with_reducible first | exact HI0.out | apply IsS163.alloc | apply IsS163.drewN | apply IsS163.drew | apply IsS163.set_1 | apply IsS163.set_2) | exact HI0.out))
                (case side2 => repeat (first | (with_reducible first | exact HB.out | apply below_alloc | apply pw_below_drewN | apply below_drew1 | refine below_set ?_ (IsS163.ge HI0.out)) | exact HB.out))
                rintro e w29 ⟨rfl, hi, hb, hk⟩
                refine ⟨_, rfl, ?_⟩
                have n0_ := Aside0.mk (KeepBut.trans (by repeat (first | (with_reducible first | exact HK.out | apply KeepBut.set_ | apply keep_drewN | apply keep_drew | apply keep_alloc) | exact HK.out)) hk (.inl rfl))
                have n1_ := Aside0.mk (hb)
                have n2_ := Aside0.mk (hi)
                clear HK
                clear HB
                clear HI0
                have HK := n0_
                have HB := n1_
                have HI0 := n2_
                clear n0_ n1_ n2_
                (try clear hb)
                (try clear hb2)
                (try clear hk)
                (try clear hi)
                refine hK.out _ _ trivial (fun hHeld => ?_)
                clear hK K
                refine norm_ (a' := ?_) ?_ ?_
                rotate_left
                · show Act.put _ (some 33) _ = _
                  simp only [Act.put, List.setIfInBounds_toArray, List.set_cons_zero, List.set_cons_succ, i64_w, i32_w]
                  rfl
                refine pure_ (i := 5) (N := some 34) (v := ?_) (a' := ?_) #[true, true, true, true, true, true, false, false, false, true, true, true, false, false] rfl rfl (any_of HT_.out (by kernel_rfl)) (fun _ _ _ h => h) (Or.inl ⟨by rfl, ?_⟩) ?_ ?_
                rotate_left
                · intro w'
                  go_simp
                  with_reducible rfl
                rotate_left
                · simp only [Act.put, List.setIfInBounds_toArray, List.set_cons_zero, List.set_cons_succ, i64_w, i32_w]
                  rfl
                refine one_ (i := 6) (N := some 35) #[true, true, true, true, true, true, true, false, false, true, true, true, false, false] rfl rfl (one_of HT_.out (by kernel_rfl)) (by decide) (fun K hK => ?_)
                refine Kd.R_lit_step (Kd.int .u8) _ 5 ?hg (N := 35) ?hd (xs := ([(t239) % 256] : List Int)) (inner := [.int .u8 ((t239) % 256)]) (ok := fun _ => True) (okp := fun _ => True) ?hr ?hp (fun _ hk => hk) trivial (Below.refl _ _) (Nat.le_refl _) (by simp) ?_; (case hd => rfl); (case hg => rfl); (case hr => first | (go_simp; done) | (go_simp; rfl)); (case hp => exact (Reps.one (show Kd.M (Kd.int .u8) _ _ _ ((t239) % 256) [.int .u8 ((t239) % 256)] from rfl) (Reps.none _ _)))
                intro v243 w30 ho31 hb hg_ hnew_
                clear hg_ hnew_
                (first | rw [← Ny242.out] at ho31 | (simp only [Int.reduceToNat] at ho31; rw [← Ny242.out] at ho31))
                have n0_ := Aside0.mk (Kd.R_lower ho31 (keep_size (w := w) (g := g) (row := none) (by repeat (first | (with_reducible first | exact HK.out | apply KeepBut.set_ | apply keep_drewN | apply keep_drew | apply keep_alloc) | exact HK.out))))
                have n1_ := Aside0.mk (IsS163.below (by repeat (first | (with_reducible first | exact HI0.out | apply IsS163.alloc | apply IsS163.drewN | apply IsS163.drew | apply IsS163.set_1 | apply IsS163.set_2) | exact HI0.out)) hb)
                have n2_ := Aside0.mk (KeepBut.trans (by repeat (first | (with_reducible first | exact HK.out | apply KeepBut.set_ | apply keep_drewN | apply keep_drew | apply keep_alloc) | exact HK.out)) (KeepBut.of_below hb g none) (.inl rfl))
                have n3_ := Aside0.mk (below_step (by repeat (first | (with_reducible first | exact HB.out | apply below_alloc | apply pw_below_drewN | apply below_drew1 | refine below_set ?_ (IsS163.ge HI0.out)) | exact HB.out)) hb)
                clear HI0
                clear HK
                clear HB
                have HO244 := n0_
                have HI0 := n1_
                have HK := n2_
                have HB := n3_
                clear n0_ n1_ n2_ n3_
                clear hb ho31
                refine hK.out _ _ trivial (fun hHeld => ?_)
                clear hK K
                refine norm_ (a' := ?_) ?_ ?_
                rotate_left
                · show Act.put _ (some 35) _ = _
                  simp only [Act.put, List.setIfInBounds_toArray, List.set_cons_zero, List.set_cons_succ, i64_w, i32_w]
                  rfl
                refine one_ (i := 7) (N := some 36) #[true, true, true, true, true, true, true, true, false, true, true, true, false, false] rfl rfl (one_of HT_.out (by kernel_rfl)) (by decide) (fun K hK => ?_)
                have hcv32 := own_string (P := Tryd.prog) Tryd.underlying38 Tryd.underlying5 Tryd.underlying9 (Kd.own_of_R HO244.out)
                refine value_ (w1 := ?_) (v := ?_) (by rfl) rfl ?_ ?_
                rotate_left 2
                · go_simp
                  constructor
                  · rfl
                  · rfl
                clear hcv32
                refine hK.out _ _ trivial (fun hHeld => ?_)
                clear hK K
                refine norm_ (a' := ?_) ?_ ?_
                rotate_left
                · show Act.put _ (some 36) _ = _
                  simp only [Act.put, List.setIfInBounds_toArray, List.set_cons_zero, List.set_cons_succ, i64_w, i32_w]
                  rfl
                refine pure_ (i := 8) (N := some 37) (v := ?_) (a' := ?_) #[true, true, true, true, true, true, true, true, true, true, true, true, false, false] rfl rfl (any_of HT_.out (by kernel_rfl)) (fun _ _ _ h => h) (Or.inl ⟨by rfl, ?_⟩) ?_ ?_
                rotate_left
                · intro w'
                  go_simp
                  with_reducible rfl
                rotate_left
                · simp only [Act.put, List.setIfInBounds_toArray, List.set_cons_zero, List.set_cons_succ, i64_w, i32_w]
                  rfl
                refine pure_ (i := 12) (N := some 41) (v := ?_) (a' := ?_) #[true, true, true, true, true, true, true, true, true, true, true, true, true, false] rfl rfl (any_of HT_.out (by kernel_rfl)) (fun _ _ _ h => h) (Or.inl ⟨by rfl, ?_⟩) ?_ ?_
                rotate_left
                · intro w'
                  go_simp
                  with_reducible rfl
                rotate_left
                · simp only [Act.put, List.setIfInBounds_toArray, List.set_cons_zero, List.set_cons_succ, i64_w, i32_w]
                  rfl
                refine pure_ (i := 13) (N := some 4) (v := ?_) (a' := ?_) #[true, true, true, true, true, true, true, true, true, true, true, true, true, true] rfl rfl (any_of HT_.out (by kernel_rfl)) (fun _ _ _ h => h) (Or.inl ⟨by rfl, ?_⟩) ?_ ?_
                rotate_left
                · intro w'
                  go_simp
                  with_reducible rfl
                rotate_left
                · simp only [Act.put, List.setIfInBounds_toArray, List.set_cons_zero, List.set_cons_succ, i64_w, i32_w]
                  rfl
                refine done_ (done_of HT_.out (by kernel_rfl)) ?_
                try go_wp2
                go_ret
                exact ⟨by first | rfl | (simp [errW_none, errW_some] <;> rfl) | (simp [*, errW_none, errW_some] <;> rfl), by repeat (first | (with_reducible first | exact HI0.out | apply IsS163.alloc | apply IsS163.drewN | apply IsS163.drew | apply IsS163.set_1 | apply IsS163.set_2) | exact HI0.out), by repeat (first | (with_reducible first | exact HB.out | apply below_alloc | apply pw_below_drewN | apply below_drew1 | refine below_set ?_ (IsS163.ge HI0.out)) | exact HB.out), by repeat (first | (with_reducible first | exact HK.out | apply KeepBut.set_ | apply keep_drewN | apply keep_drew | apply keep_alloc) | exact HK.out)⟩
              · rw [if_neg c25] at H
                exact absurd H (by simp)
            · rw [if_neg c22] at H
              exact absurd H (by simp)
          · rw [if_neg c20] at H
            exact absurd H (by simp)
        · rw [if_neg c19] at H
          exact absurd H (by simp)
      · rw [if_neg c18] at H
        have c18b0 : (t236 == 1) = false := beq_eq_false_iff_ne.mpr c18
        have c18b1 : (t236 != 1) = true := bne_iff_ne.mpr c18
        by_cases c33 : t236 = 2
        · rw [if_pos c33] at H
          have c33b0 : (t236 == 2) = true := beq_iff_eq.mpr c33
          have c33b1 : (t236 != 2) = false := bne_eq_false_iff_eq.mpr c33
          clear c33
          by_cases c34 : 0 ≤ t233
          · rw [if_pos c34] at H
            have c34b0 := eq_true c34
            have c34b1 : decide (0 ≤ t233) = true := decide_eq_true c34
            clear c34
            by_cases c35 : t233 ≤ (a1.size : Int)
            · rw [if_pos c35] at H
              have c35b0 := eq_true c35
              have c35b1 : decide (t233 ≤ (a1.size : Int)) = true := decide_eq_true c35
              clear c35
              simp only [Option.some.injEq, Prod.mk.injEq] at H
              obtain ⟨rfl, rfl, rfl⟩ := H
              go_enter Tryd.func102, Tryd.ntmps102
              go_wp2_with (first | ((with_reducible refine gate_callee (f := 103) rfl ?_); refine goesL_ (some 14) rfl rfl Tryd.func103 (by kernel_rfl) rfl #[.pointer (some ⟨g, 0, none⟩), .int .i64 (a1.size : Int)] rfl (by (try simp only [List.map_toArray, List.map_cons, List.map_nil]); first | done | rfl | (simp only [List.length_drop, List.length_take]; rfl)) ?_; (with_reducible refine (spec_l1Below.calls g s0_0 s0_1 s0_2 (a1.size : Int) t233 t234 t235 w0 _ ?side1 ?side2 A6.out).mono ?_); (case side1 => repeat (first | (with_reducible first | exact HI0.out | apply IsS163.alloc | apply IsS163.drewN | apply IsS163.drew | apply IsS163.set_1 | apply IsS163.set_2) | exact HI0.out)); (case side2 => repeat (first | (with_reducible first | exact HB.out | apply below_alloc | apply pw_below_drewN | apply below_drew1 | refine below_set ?_ (IsS163.ge HI0.out)) | exact HB.out)); rintro e w36 ⟨rfl, hi, hb, hk⟩; refine ⟨_, rfl, ?_⟩; have n0_ := Aside0.mk (KeepBut.trans (by repeat (first | (with_reducible first | exact HK.out | apply KeepBut.set_ | apply keep_drewN | apply keep_drew | apply keep_alloc) | exact HK.out)) hk (.inl rfl)); have n1_ := Aside0.mk (hb); have n2_ := Aside0.mk (hi); clear HK; clear HB; clear HI0; have HK := n0_; have HB := n1_; have HI0 := n2_; clear n0_ n1_ n2_; (try clear hb); (try clear hb2); (try clear hk); (try clear hi)) | ((with_reducible refine gate_callee (f := 103) rfl ?_); refine goesL_ (some 16) rfl rfl Tryd.func103 (by kernel_rfl) rfl #[.pointer (some ⟨g, 0, none⟩), .int .i64 4] rfl (by (try simp only [List.map_toArray, List.map_cons, List.map_nil]); first | done | rfl | (simp only [List.length_drop, List.length_take]; rfl)) ?_; (with_reducible refine (spec_l1Below.calls g s0_0 t234 t235 4 t236 t237 t238 w0 _ ?side1 ?side2 A7.out).mono ?_); (case side1 => repeat (first | (with_reducible first | exact HI0.out | apply IsS163.alloc | apply IsS163.drewN | apply IsS163.drew | apply IsS163.set_1 | apply IsS163.set_2) | exact HI0.out)); (case side2 => repeat (first | (with_reducible first | exact HB.out | apply below_alloc | apply pw_below_drewN | apply below_drew1 | refine below_set ?_ (IsS163.ge HI0.out)) | exact HB.out)); rintro e w37 ⟨rfl, hi, hb, hk⟩; refine ⟨_, rfl, ?_⟩; have n0_ := Aside0.mk (KeepBut.trans (by repeat (first | (with_reducible first | exact HK.out | apply KeepBut.set_ | apply keep_drewN | apply keep_drew | apply keep_alloc) | exact HK.out)) hk (.inl rfl)); have n1_ := Aside0.mk (hb); have n2_ := Aside0.mk (hi); clear HK; clear HB; clear HI0; have HK := n0_; have HB := n1_; have HI0 := n2_; clear n0_ n1_ n2_; (try clear hb); (try clear hb2); (try clear hk); (try clear hi)))
              go_ret
              exact ⟨by first | rfl | (simp [errW_none, errW_some] <;> rfl) | (simp [*, errW_none, errW_some] <;> rfl), by repeat (first | (with_reducible first | exact HI0.out | apply IsS163.alloc | apply IsS163.drewN | apply IsS163.drew | apply IsS163.set_1 | apply IsS163.set_2) | exact HI0.out), by repeat (first | (with_reducible first | exact HB.out | apply below_alloc | apply pw_below_drewN | apply below_drew1 | refine below_set ?_ (IsS163.ge HI0.out)) | exact HB.out), by repeat (first | (with_reducible first | exact HK.out | apply KeepBut.set_ | apply keep_drewN | apply keep_drew | apply keep_alloc) | exact HK.out)⟩
            · rw [if_neg c35] at H
              exact absurd H (by simp)
          · rw [if_neg c34] at H
            exact absurd H (by simp)
        · rw [if_neg c33] at H
          have c33b0 : (t236 == 2) = false := beq_eq_false_iff_ne.mpr c33
          have c33b1 : (t236 != 2) = true := bne_iff_ne.mpr c33
          by_cases c38 : 0 ≤ t233
          · rw [if_pos c38] at H
            have c38b0 := eq_true c38
            have c38b1 : decide (0 ≤ t233) = true := decide_eq_true c38
            clear c38
            by_cases c39 : t233 ≤ (a1.size : Int)
            · rw [if_pos c39] at H
              have c39b0 := eq_true c39
              have c39b1 : decide (t233 ≤ (a1.size : Int)) = true := decide_eq_true c39
              clear c39
              by_cases c40 : t233 < (a1.size : Int)
              · rw [if_pos c40] at H
                have c40b0 : decide (t233 < (a1.size : Int)) = true := decide_eq_true c40
                clear c40
                replace H := Option.bind_eq_some_iff.mp H
                obtain ⟨⟨t245, t246, t247⟩, A420, H⟩ := H
                replace H : ((some (([(Go.bits .xor .i64 (wrap64 (bt a1 t233)) (wrap64 (1 + t245))) % 256] : List Int) : List Int)).bind fun y248 => (if (a1.extract 0 (t233 : Int).toNat).size + (strOfNums y248).size ≤ 9223372036854775807 then (if 0 ≤ (wrap64 (t233 + 1)) then (if (wrap64 (t233 + 1)) ≤ (a1.size : Int) then (if ((a1.extract 0 (t233 : Int).toNat) ++ (strOfNums y248)).size + (a1.extract ((wrap64 (t233 + 1)) : Int).toNat a1.size).size ≤ 9223372036854775807 then (some (((a1.extract 0 (t233 : Int).toNat) ++ (strOfNums y248)) ++ (a1.extract ((wrap64 (t233 + 1)) : Int).toNat a1.size), t246, t247)) else (none)) else (none)) else (none)) else (none))) = some (r1, r2, r3) := H
                have A42 := Aside0.mk A420
                clear A420
                obtain ⟨y248, hy248⟩ : ∃ y_ : List Int, y_ = (([(Go.bits .xor .i64 (wrap64 (bt a1 t233)) (wrap64 (1 + t245))) % 256] : List Int)) := ⟨_, rfl⟩
                replace H : (if (a1.extract 0 (t233 : Int).toNat).size + (strOfNums y248).size ≤ 9223372036854775807 then (if 0 ≤ (wrap64 (t233 + 1)) then (if (wrap64 (t233 + 1)) ≤ (a1.size : Int) then (if ((a1.extract 0 (t233 : Int).toNat) ++ (strOfNums y248)).size + (a1.extract ((wrap64 (t233 + 1)) : Int).toNat a1.size).size ≤ 9223372036854775807 then (some (((a1.extract 0 (t233 : Int).toNat) ++ (strOfNums y248)) ++ (a1.extract ((wrap64 (t233 + 1)) : Int).toNat a1.size), t246, t247)) else (none)) else (none)) else (none)) else (none)) = some (r1, r2, r3) := by first | (rw [hy248]; with_reducible exact H) | (have H2_ := (Option.bind_some _ _).symm.trans H; rw [hy248]; with_reducible exact H2_) | (have H2_ := (Option.bind_some _ _).symm.trans H; with_reducible exact H2_) | with_reducible exact H | (rw [hy248]; exact H) | exact H
                have Ny248 := Aside0.mk hy248
                clear hy248
                by_cases c43 : (a1.extract 0 (t233 : Int).toNat).size + (strOfNums y248).size ≤ 9223372036854775807
                · rw [if_pos c43] at H
                  have c43b0 := eq_true c43
                  have c43b1 : decide ((a1.extract 0 (t233 : Int).toNat).size + (strOfNums y248).size ≤ 9223372036854775807) = true := decide_eq_true c43
                  try have c43b2 : (9223372036854775807 < (a1.extract 0 (t233 : Int).toNat).size + (strOfNums y248).size) = False := eq_false (Nat.not_lt.2 c43)
                  try have c43b5 : (9223372036854775807 < (t233).toNat + (strOfNums y248).size) = False := by have l0_ := of_decide_eq_true c39b1; have h_ := c43b2; simp only [ByteArray.size_append, ByteArray.size_extract, eq_iff_iff, iff_false] at h_ ⊢; omega
                  obtain ⟨ji44, hji44⟩ : ∃ j_ : Int, (wrap64 (t233 + 1)) = j_ := ⟨_, rfl⟩
                  replace H : (if 0 ≤ (ji44) then (if (ji44) ≤ (a1.size : Int) then (if ((a1.extract 0 (t233 : Int).toNat) ++ (strOfNums y248)).size + (a1.extract ((ji44) : Int).toNat a1.size).size ≤ 9223372036854775807 then (some (((a1.extract 0 (t233 : Int).toNat) ++ (strOfNums y248)) ++ (a1.extract ((ji44) : Int).toNat a1.size), t246, t247)) else (none)) else (none)) else (none)) = some (r1, r2, r3) := by first | (rw [hji44] at H; exact H) | (simp only [hji44] at H ⊢; exact H)
                  (try rw [hji44] at A6)
                  (try rw [hji44] at A7)
                  (try rw [hji44] at A42)
                  have hji44w : (IntKind.i64.wrap (t233 + 1)) = ji44 := (i64_w _).trans hji44
                  by_cases c45 : 0 ≤ (ji44)
                  · rw [if_pos c45] at H
                    have c45b0 := eq_true c45
                    have c45b1 : decide (0 ≤ (ji44)) = true := decide_eq_true c45
                    clear c45
                    by_cases c46 : (ji44) ≤ (a1.size : Int)
                    · rw [if_pos c46] at H
                      have c46b0 := eq_true c46
                      have c46b1 : decide ((ji44) ≤ (a1.size : Int)) = true := decide_eq_true c46
                      clear c46
                      by_cases c47 : ((a1.extract 0 (t233 : Int).toNat) ++ (strOfNums y248)).size + (a1.extract ((ji44) : Int).toNat a1.size).size ≤ 9223372036854775807
                      · rw [if_pos c47] at H
                        have c47b0 := eq_true c47
                        have c47b1 : decide (((a1.extract 0 (t233 : Int).toNat) ++ (strOfNums y248)).size + (a1.extract ((ji44) : Int).toNat a1.size).size ≤ 9223372036854775807) = true := decide_eq_true c47
                        try have c47b2 : (9223372036854775807 < ((a1.extract 0 (t233 : Int).toNat) ++ (strOfNums y248)).size + (a1.extract ((ji44) : Int).toNat a1.size).size) = False := eq_false (Nat.not_lt.2 c47)
                        try have c47b5 : (9223372036854775807 < ((t233).toNat + (strOfNums y248).size) + (a1.size - (ji44).toNat)) = False := by have l0_ := of_decide_eq_true c39b1; have h_ := c47b2; simp only [ByteArray.size_append, ByteArray.size_extract, eq_iff_iff, iff_false] at h_ ⊢; omega
                        simp only [Option.some.injEq, Prod.mk.injEq] at H
                        obtain ⟨rfl, rfl, rfl⟩ := H
                        go_enter Tryd.func102, Tryd.ntmps102
                        try go_wp2_with (first | ((with_reducible refine gate_callee (f := 103) rfl ?_); refine goesL_ (some 14) rfl rfl Tryd.func103 (by kernel_rfl) rfl #[.pointer (some ⟨g, 0, none⟩), .int .i64 (a1.size : Int)] rfl (by (try simp only [List.map_toArray, List.map_cons, List.map_nil]); first | done | rfl | (simp only [List.length_drop, List.length_take]; rfl)) ?_; (with_reducible refine (spec_l1Below.calls g s0_0 s0_1 s0_2 (a1.size : Int) t233 t234 t235 w0 _ ?side1 ?side2 A6.out).mono ?_); (case side1 => repeat (first | (with_reducible first | exact HI0.out | apply IsS163.alloc | apply IsS163.drewN | apply IsS163.drew | apply IsS163.set_1 | apply IsS163.set_2) | exact HI0.out)); (case side2 => repeat (first | (with_reducible first | exact HB.out | apply below_alloc | apply pw_below_drewN | apply below_drew1 | refine below_set ?_ (IsS163.ge HI0.out)) | exact HB.out)); rintro e w48 ⟨rfl, hi, hb, hk⟩; refine ⟨_, rfl, ?_⟩; have n0_ := Aside0.mk (KeepBut.trans (by repeat (first | (with_reducible first | exact HK.out | apply KeepBut.set_ | apply keep_drewN | apply keep_drew | apply keep_alloc) | exact HK.out)) hk (.inl rfl)); have n1_ := Aside0.mk (hb); have n2_ := Aside0.mk (hi); clear HK; clear HB; clear HI0; have HK := n0_; have HB := n1_; have HI0 := n2_; clear n0_ n1_ n2_; (try clear hb); (try clear hb2); (try clear hk); (try clear hi)) | ((with_reducible refine gate_callee (f := 103) rfl ?_); refine goesL_ (some 16) rfl rfl Tryd.func103 (by kernel_rfl) rfl #[.pointer (some ⟨g, 0, none⟩), .int .i64 4] rfl (by (try simp only [List.map_toArray, List.map_cons, List.map_nil]); first | done | rfl | (simp only [List.length_drop, List.length_take]; rfl)) ?_; (with_reducible refine (spec_l1Below.calls g s0_0 t234 t235 4 t236 t237 t238 w0 _ ?side1 ?side2 A7.out).mono ?_); (case side1 => repeat (first | (with_reducible first | exact HI0.out | apply IsS163.alloc | apply IsS163.drewN | apply IsS163.drew | apply IsS163.set_1 | apply IsS163.set_2) | exact HI0.out)); (case side2 => repeat (first | (with_reducible first | exact HB.out | apply below_alloc | apply pw_below_drewN | apply below_drew1 | refine below_set ?_ (IsS163.ge HI0.out)) | exact HB.out)); rintro e w49 ⟨rfl, hi, hb, hk⟩; refine ⟨_, rfl, ?_⟩; have n0_ := Aside0.mk (KeepBut.trans (by repeat (first | (with_reducible first | exact HK.out | apply KeepBut.set_ | apply keep_drewN | apply keep_drew | apply keep_alloc) | exact HK.out)) hk (.inl rfl)); have n1_ := Aside0.mk (hb); have n2_ := Aside0.mk (hi); clear HK; clear HB; clear HI0; have HK := n0_; have HB := n1_; have HI0 := n2_; clear n0_ n1_ n2_; (try clear hb); (try clear hb2); (try clear hk); (try clear hi)))
                        have n0_ := Aside0.mk (IsS163.drew HI0.out)
                        have n1_ := Aside0.mk (keep_drew HK.out)
                        have n2_ := Aside0.mk (below_drew1 HB.out)
                        clear HI0
                        clear HK
                        clear HB
                        have HI0 := n0_
                        have HK := n1_
                        have HB := n2_
                        clear n0_ n1_ n2_
                        have p41 : 0 ≤ (t233 : Int) := of_decide_eq_true (by first | (with_reducible assumption) | assumption)
                        have q41 : t233 < (a1.size : Int) := of_decide_eq_true (by first | (with_reducible assumption) | assumption)
                        have hx41 := bt_at a1 t233
                        replace p41 := eq_true p41
                        replace q41 := eq_true q41
                        refine start_ (n := 21) (S := fun w' => True) (ds := []) #[false, false, false, false, false, false, false, false, false, false, false, false, false, false, false, false, false, false, false, false, false] (by kernel_rfl) rfl rfl trivial (fun hHeld => ?_); refine with_tabW spec_l1Spoil.tab11 spec_l1Spoil.bits11 (fun HT_ HW_ => ?_)
                        generalize w49.drew = w50 at HI0 HK HB hHeld ⊢
                        refine pure_ (i := 0) (N := some 47) (v := ?_) (a' := ?_) #[true, false, false, false, false, false, false, false, false, false, false, false, false, false, false, false, false, false, false, false, false] rfl rfl (any_of HT_.out (by kernel_rfl)) (fun _ _ _ h => h) (Or.inl ⟨by rfl, ?_⟩) ?_ ?_
                        rotate_left
                        · intro w'
                          go_simp
                          with_reducible rfl
                        rotate_left
                        · simp only [Act.put, List.setIfInBounds_toArray, List.set_cons_zero, List.set_cons_succ, i64_w, i32_w]
                          rfl
                        refine pure_ (i := 1) (N := some 48) (v := ?_) (a' := ?_) #[true, true, false, false, false, false, false, false, false, false, false, false, false, false, false, false, false, false, false, false, false] rfl rfl (any_of HT_.out (by kernel_rfl)) (fun _ _ _ h => h) (Or.inl ⟨by rfl, ?_⟩) ?_ ?_
                        rotate_left
                        · intro w'
                          go_simp
                          with_reducible rfl
                        rotate_left
                        · simp only [Act.put, List.setIfInBounds_toArray, List.set_cons_zero, List.set_cons_succ, i64_w, i32_w]
                          rfl
                        refine pure_ (i := 2) (N := some 49) (v := ?_) (a' := ?_) #[true, true, true, false, false, false, false, false, false, false, false, false, false, false, false, false, false, false, false, false, false] rfl rfl (any_of HT_.out (by kernel_rfl)) (fun _ _ _ h => h) (Or.inl ⟨by rfl, ?_⟩) ?_ ?_
                        rotate_left
                        · intro w'
                          go_simp
                          with_reducible rfl
                        rotate_left
                        · simp only [Act.put, List.setIfInBounds_toArray, List.set_cons_zero, List.set_cons_succ, i64_w, i32_w]
                          rfl
                        refine pure_ (i := 3) (N := some 50) (v := ?_) (a' := ?_) #[true, true, true, true, false, false, false, false, false, false, false, false, false, false, false, false, false, false, false, false, false] rfl rfl (any_of HT_.out (by kernel_rfl)) (fun _ _ _ h => h) (Or.inl ⟨by rfl, ?_⟩) ?_ ?_
                        rotate_left
                        · intro w'
                          go_simp
                          with_reducible rfl
                        rotate_left
                        · simp only [Act.put, List.setIfInBounds_toArray, List.set_cons_zero, List.set_cons_succ, i64_w, i32_w]
                          rfl
                        refine pure_ (i := 4) (N := some 51) (v := ?_) (a' := ?_) #[true, true, true, true, true, false, false, false, false, false, false, false, false, false, false, false, false, false, false, false, false] rfl rfl (any_of HT_.out (by kernel_rfl)) (fun _ _ _ h => h) (Or.inl ⟨by rfl, ?_⟩) ?_ ?_
                        rotate_left
                        · intro w'
                          go_simp
                          with_reducible rfl
                        rotate_left
                        · simp only [Act.put, List.setIfInBounds_toArray, List.set_cons_zero, List.set_cons_succ, i64_w, i32_w]
                          rfl
                        refine pure_ (i := 7) (N := some 54) (v := ?_) (a' := ?_) #[true, true, true, true, true, false, false, true, false, false, false, false, false, false, false, false, false, false, false, false, false] rfl rfl (any_of HT_.out (by kernel_rfl)) (fun _ _ _ h => h) (Or.inl ⟨by rfl, ?_⟩) ?_ ?_
                        rotate_left
                        · intro w'
                          go_simp
                          with_reducible rfl
                        rotate_left
                        · simp only [Act.put, List.setIfInBounds_toArray, List.set_cons_zero, List.set_cons_succ, i64_w, i32_w]
                          rfl
                        refine pure_ (i := 15) (N := some 62) (v := ?_) (a' := ?_) #[true, true, true, true, true, false, false, true, false, false, false, false, false, false, false, true, false, false, false, false, false] rfl rfl (any_of HT_.out (by kernel_rfl)) (fun _ _ _ h => h) (Or.inl ⟨by rfl, ?_⟩) ?_ ?_
                        rotate_left
                        · intro w'
                          go_simp
                          with_reducible rfl
                        rotate_left
                        · simp only [Act.put, List.setIfInBounds_toArray, List.set_cons_zero, List.set_cons_succ, i64_w, i32_w]
                          rfl
                        refine pure_ (i := 16) (N := some 63) (v := ?_) (a' := ?_) #[true, true, true, true, true, false, false, true, false, false, false, false, false, false, false, true, true, false, false, false, false] rfl rfl (any_of HT_.out (by kernel_rfl)) (fun _ _ _ h => h) (Or.inl ⟨by rfl, ?_⟩) ?_ ?_
                        rotate_left
                        · intro w'
                          go_simp
                          with_reducible rfl
                        rotate_left
                        · simp only [Act.put, List.setIfInBounds_toArray, List.set_cons_zero, List.set_cons_succ, i64_w, i32_w]
                          rfl
                        refine pure_ (i := 17) (N := some 64) (v := ?_) (a' := ?_) #[true, true, true, true, true, false, false, true, false, false, false, false, false, false, false, true, true, true, false, false, false] rfl rfl (any_of HT_.out (by kernel_rfl)) (fun _ _ _ h => h) (Or.inl ⟨by rfl, ?_⟩) ?_ ?_
                        rotate_left
                        · intro w'
                          go_simp
                          with_reducible rfl
                        rotate_left
                        · simp only [Act.put, List.setIfInBounds_toArray, List.set_cons_zero, List.set_cons_succ, i64_w, i32_w]
                          rfl
                        refine pure_ (i := 18) (N := some 65) (v := ?_) (a' := ?_) #[true, true, true, true, true, false, false, true, false, false, false, false, false, false, false, true, true, true, true, false, false] rfl rfl (any_of HT_.out (by kernel_rfl)) (fun _ _ _ h => h) (Or.inl ⟨by rfl, ?_⟩) ?_ ?_
                        rotate_left
                        · intro w'
                          go_simp
                          with_reducible rfl
                        rotate_left
                        · simp only [Act.put, List.setIfInBounds_toArray, List.set_cons_zero, List.set_cons_succ, i64_w, i32_w]
                          rfl
                        refine take_ (i := 5) (N := some 52) (v := ?_) (a' := ?_) #[true, true, true, true, true, true, false, true, false, false, false, false, false, false, false, true, true, true, true, false, false] rfl rfl (take_ofW HT_.out HW_.out (by kernel_rfl)) (fun _ _ _ h => h) (Or.inl ⟨by rfl, ?_⟩) hHeld ?_ ?_
                        rotate_left
                        · intro w' _
                          go_simp
                          with_reducible rfl
                        rotate_left
                        · simp only [Act.put, List.setIfInBounds_toArray, List.set_cons_zero, List.set_cons_succ, i64_w, i32_w]
                          rfl
                        refine pure_ (i := 6) (N := some 53) (v := ?_) (a' := ?_) #[true, true, true, true, true, true, true, true, false, false, false, false, false, false, false, true, true, true, true, false, false] rfl rfl (any_of HT_.out (by kernel_rfl)) (fun _ _ _ h => h) (Or.inl ⟨by rfl, ?_⟩) ?_ ?_
                        rotate_left
                        · intro w'
                          go_simp
                          with_reducible rfl
                        rotate_left
                        · simp only [Act.put, List.setIfInBounds_toArray, List.set_cons_zero, List.set_cons_succ, i64_w, i32_w]
                          rfl
                        refine one_ (i := 8) (N := some 55) #[true, true, true, true, true, true, true, true, true, false, false, false, false, false, false, true, true, true, true, false, false] rfl rfl (one_of HT_.out (by kernel_rfl)) (by decide) (fun K hK => ?_)
                        refine goes_ Tryd.func103 (by kernel_rfl) rfl #[.pointer (some ⟨g, 0, none⟩), .int .i64 255] (by rfl) rfl rfl (by (try simp only [List.map_toArray, List.map_cons, List.map_nil]); first | done | rfl | (simp only [List.length_drop, List.length_take]; rfl)) ?_
                        with_reducible refine (spec_l1Below.calls g s0_0 t237 t238 255 t245 t246 t247 w0 _ ?side1 ?side2 A42.out).mono ?_
                        (case side1 => repeat (first | (with_reducible first | exact HI0.out | apply IsS163.alloc | apply IsS163.drewN | apply IsS163.drew | apply IsS163.set_1 | apply IsS163.set_2) | exact HI0.out))
                        (case side2 => repeat (first | (with_reducible first | exact HB.out | apply below_alloc | apply pw_below_drewN | apply below_drew1 | refine below_set ?_ (IsS163.ge HI0.out)) | exact HB.out))
                        rintro e w51 ⟨rfl, hi, hb, hk⟩
                        refine ⟨_, rfl, ?_⟩
                        have n0_ := Aside0.mk (KeepBut.trans (by repeat (first | (with_reducible first | exact HK.out | apply KeepBut.set_ | apply keep_drewN | apply keep_drew | apply keep_alloc) | exact HK.out)) hk (.inl rfl))
                        have n1_ := Aside0.mk (hb)
                        have n2_ := Aside0.mk (hi)
                        clear HK
                        clear HB
                        clear HI0
                        have HK := n0_
                        have HB := n1_
                        have HI0 := n2_
                        clear n0_ n1_ n2_
                        (try clear hb)
                        (try clear hb2)
                        (try clear hk)
                        (try clear hi)
                        refine hK.out _ _ trivial (fun hHeld => ?_)
                        clear hK K
                        refine norm_ (a' := ?_) ?_ ?_
                        rotate_left
                        · show Act.put _ (some 55) _ = _
                          simp only [Act.put, List.setIfInBounds_toArray, List.set_cons_zero, List.set_cons_succ, i64_w, i32_w]
                          rfl
                        refine pure_ (i := 9) (N := some 56) (v := ?_) (a' := ?_) #[true, true, true, true, true, true, true, true, true, true, false, false, false, false, false, true, true, true, true, false, false] rfl rfl (any_of HT_.out (by kernel_rfl)) (fun _ _ _ h => h) (Or.inl ⟨by rfl, ?_⟩) ?_ ?_
                        rotate_left
                        · intro w'
                          go_simp
                          with_reducible rfl
                        rotate_left
                        · simp only [Act.put, List.setIfInBounds_toArray, List.set_cons_zero, List.set_cons_succ, i64_w, i32_w]
                          rfl
                        refine pure_ (i := 10) (N := some 57) (v := ?_) (a' := ?_) #[true, true, true, true, true, true, true, true, true, true, true, false, false, false, false, true, true, true, true, false, false] rfl rfl (any_of HT_.out (by kernel_rfl)) (fun _ _ _ h => h) (Or.inl ⟨by rfl, ?_⟩) ?_ ?_
                        rotate_left
                        · intro w'
                          go_simp
                          with_reducible rfl
                        rotate_left
                        · simp only [Act.put, List.setIfInBounds_toArray, List.set_cons_zero, List.set_cons_succ, i64_w, i32_w]
                          rfl
                        refine pure_ (i := 11) (N := some 58) (v := ?_) (a' := ?_) #[true, true, true, true, true, true, true, true, true, true, true, true, false, false, false, true, true, true, true, false, false] rfl rfl (any_of HT_.out (by kernel_rfl)) (fun _ _ _ h => h) (Or.inl ⟨by rfl, ?_⟩) ?_ ?_
                        rotate_left
                        · intro w'
                          go_simp
                          with_reducible rfl
                        rotate_left
                        · simp only [Act.put, List.setIfInBounds_toArray, List.set_cons_zero, List.set_cons_succ, i64_w, i32_w]
                          rfl
                        refine one_ (i := 12) (N := some 59) #[true, true, true, true, true, true, true, true, true, true, true, true, true, false, false, true, true, true, true, false, false] rfl rfl (one_of HT_.out (by kernel_rfl)) (by decide) (fun K hK => ?_)
                        refine Kd.R_lit_step (Kd.int .u8) _ 5 ?hg (N := 59) ?hd (xs := ([(Go.bits .xor .i64 (wrap64 (bt a1 t233)) (wrap64 (1 + t245))) % 256] : List Int)) (inner := [.int .u8 ((Go.bits .xor .i64 (wrap64 (bt a1 t233)) (wrap64 (1 + t245))) % 256)]) (ok := fun _ => True) (okp := fun _ => True) ?hr ?hp (fun _ hk => hk) trivial (Below.refl _ _) (Nat.le_refl _) (by simp) ?_; (case hd => rfl); (case hg => rfl); (case hr => first | (go_simp; done) | (go_simp; rfl)); (case hp => exact (Reps.one (show Kd.M (Kd.int .u8) _ _ _ ((Go.bits .xor .i64 (wrap64 (bt a1 t233)) (wrap64 (1 + t245))) % 256) [.int .u8 ((Go.bits .xor .i64 (wrap64 (bt a1 t233)) (wrap64 (1 + t245))) % 256)] from rfl) (Reps.none _ _)))
                        intro v249 w52 ho53 hb hg_ hnew_
                        clear hg_ hnew_
                        (first | rw [← Ny248.out] at ho53 | (simp only [Int.reduceToNat] at ho53; rw [← Ny248.out] at ho53))
                        have n0_ := Aside0.mk (Kd.R_lower ho53 (keep_size (w := w) (g := g) (row := none) (by repeat (first | (with_reducible first | exact HK.out | apply KeepBut.set_ | apply keep_drewN | apply keep_drew | apply keep_alloc) | exact HK.out))))
                        have n1_ := Aside0.mk (IsS163.below (by repeat (first | (with_reducible first | exact HI0.out | apply IsS163.alloc | apply IsS163.drewN | apply IsS163.drew | apply IsS163.set_1 | apply IsS163.set_2) | exact HI0.out)) hb)
                        have n2_ := Aside0.mk (KeepBut.trans (by repeat (first | (with_reducible first | exact HK.out | apply KeepBut.set_ | apply keep_drewN | apply keep_drew | apply keep_alloc) | exact HK.out)) (KeepBut.of_below hb g none) (.inl rfl))
                        have n3_ := Aside0.mk (below_step (by repeat (first | (with_reducible first | exact HB.out | apply below_alloc | apply pw_below_drewN | apply below_drew1 | refine below_set ?_ (IsS163.ge HI0.out)) | exact HB.out)) hb)
                        clear HI0
                        clear HK
                        clear HB
                        have HO250 := n0_
                        have HI0 := n1_
                        have HK := n2_
                        have HB := n3_
                        clear n0_ n1_ n2_ n3_
                        clear hb ho53
                        refine hK.out _ _ trivial (fun hHeld => ?_)
                        clear hK K
                        refine norm_ (a' := ?_) ?_ ?_
                        rotate_left
                        · show Act.put _ (some 59) _ = _
                          simp only [Act.put, List.setIfInBounds_toArray, List.set_cons_zero, List.set_cons_succ, i64_w, i32_w]
                          rfl
                        refine one_ (i := 13) (N := some 60) #[true, true, true, true, true, true, true, true, true, true, true, true, true, true, false, true, true, true, true, false, false] rfl rfl (one_of HT_.out (by kernel_rfl)) (by decide) (fun K hK => ?_)
                        have hcv54 := own_string (P := Tryd.prog) Tryd.underlying38 Tryd.underlying5 Tryd.underlying9 (Kd.own_of_R HO250.out)
                        refine value_ (w1 := ?_) (v := ?_) (by rfl) rfl ?_ ?_
                        rotate_left 2
                        · go_simp
                          constructor
                          · rfl
                          · rfl
                        clear hcv54
                        refine hK.out _ _ trivial (fun hHeld => ?_)
                        clear hK K
                        refine norm_ (a' := ?_) ?_ ?_
                        rotate_left
                        · show Act.put _ (some 60) _ = _
                          simp only [Act.put, List.setIfInBounds_toArray, List.set_cons_zero, List.set_cons_succ, i64_w, i32_w]
                          rfl
                        refine pure_ (i := 14) (N := some 61) (v := ?_) (a' := ?_) #[true, true, true, true, true, true, true, true, true, true, true, true, true, true, true, true, true, true, true, false, false] rfl rfl (any_of HT_.out (by kernel_rfl)) (fun _ _ _ h => h) (Or.inl ⟨by rfl, ?_⟩) ?_ ?_
                        rotate_left
                        · intro w'
                          go_simp
                          with_reducible rfl
                        rotate_left
                        · simp only [Act.put, List.setIfInBounds_toArray, List.set_cons_zero, List.set_cons_succ, i64_w, i32_w]
                          rfl
                        refine pure_ (i := 19) (N := some 66) (v := ?_) (a' := ?_) #[true, true, true, true, true, true, true, true, true, true, true, true, true, true, true, true, true, true, true, true, false] rfl rfl (any_of HT_.out (by kernel_rfl)) (fun _ _ _ h => h) (Or.inl ⟨by rfl, ?_⟩) ?_ ?_
                        rotate_left
                        · intro w'
                          go_simp
                          with_reducible rfl
                        rotate_left
                        · simp only [Act.put, List.setIfInBounds_toArray, List.set_cons_zero, List.set_cons_succ, i64_w, i32_w]
                          rfl
                        refine pure_ (i := 20) (N := some 4) (v := ?_) (a' := ?_) #[true, true, true, true, true, true, true, true, true, true, true, true, true, true, true, true, true, true, true, true, true] rfl rfl (any_of HT_.out (by kernel_rfl)) (fun _ _ _ h => h) (Or.inl ⟨by rfl, ?_⟩) ?_ ?_
                        rotate_left
                        · intro w'
                          go_simp
                          with_reducible rfl
                        rotate_left
                        · simp only [Act.put, List.setIfInBounds_toArray, List.set_cons_zero, List.set_cons_succ, i64_w, i32_w]
                          rfl
                        refine done_ (done_of HT_.out (by kernel_rfl)) ?_
                        try go_wp2
                        go_ret
                        exact ⟨by first | rfl | (simp [errW_none, errW_some] <;> rfl) | (simp only [← hji44]; first | rfl | (simp [errW_none, errW_some] <;> rfl)) | (simp [*, errW_none, errW_some] <;> rfl), by repeat (first | (with_reducible first | exact HI0.out | apply IsS163.alloc | apply IsS163.drewN | apply IsS163.drew | apply IsS163.set_1 | apply IsS163.set_2) | exact HI0.out), by repeat (first | (with_reducible first | exact HB.out | apply below_alloc | apply pw_below_drewN | apply below_drew1 | refine below_set ?_ (IsS163.ge HI0.out)) | exact HB.out), by repeat (first | (with_reducible first | exact HK.out | apply KeepBut.set_ | apply keep_drewN | apply keep_drew | apply keep_alloc) | exact HK.out)⟩
                      · rw [if_neg c47] at H
                        exact absurd H (by simp)
                    · rw [if_neg c46] at H
                      exact absurd H (by simp)
                  · rw [if_neg c45] at H
                    exact absurd H (by simp)
                · rw [if_neg c43] at H
                  exact absurd H (by simp)
              · rw [if_neg c40] at H
                exact absurd H (by simp)
            · rw [if_neg c39] at H
              exact absurd H (by simp)
          · rw [if_neg c38] at H
            exact absurd H (by simp)

/-! ### spec_DrawReadVar: function 49 -/
def spec_DrawReadVar.f (k : Nat) (l0 : List Int) : Option (ByteArray) := (spec_l1New.f k l0).bind fun bt251 => ((spec_l1Num.f bt251.1 bt251.2.1 bt251.2.2).bind fun bt255 => ((spec_Var.f k bt255.1).bind fun t258 => ((spec_l1Text.f k bt251.1 bt255.2.1 bt255.2.2 4).bind fun bt259 => (if t258.size + bt259.1.size ≤ 9223372036854775807 then ((spec_l1Once.f bt251.1 bt259.2.1 bt259.2.2 4).bind fun bt262 => (if bt262.1 = true then ((spec_l1Spoil.f k bt251.1 bt262.2.1 bt262.2.2 (t258 ++ bt259.1)).bind fun bt265 => (some bt265.1)) else (some (t258 ++ bt259.1)))) else (none)))))
theorem spec_DrawReadVar.mono : ∀ a0 k, LeO (spec_DrawReadVar.f k a0) (spec_DrawReadVar.f (k + 1) a0) := by
  intro a0 k
  unfold spec_DrawReadVar.f
  repeat' first
      | (with_reducible exact spec_Var.mono _ _)
      | (with_reducible exact spec_l1New.mono _ _)
      | (with_reducible exact spec_l1Spoil.mono _ _ _ _ _)
      | (with_reducible exact spec_l1Text.mono _ _ _ _ _)
      | (with_reducible exact LeO.refl _)
      | (with_reducible exact LeO.none _)
      | (with_reducible refine LeO.ite ?_ ?_)
      | (with_reducible refine LeO.bind ?_ (fun _ => ?_))
      | exact spec_Var.mono _ _
      | exact spec_l1New.mono _ _
      | exact spec_l1Spoil.mono _ _ _ _ _
      | exact spec_l1Text.mono _ _ _ _ _
      | exact LeO.none _
      | refine LeO.ite ?_ ?_
      | refine LeO.bind ?_ (fun _ => ?_)
set_option maxHeartbeats 8000000 in
set_option maxRecDepth 100000 in
theorem spec_DrawReadVar.calls (k : Nat) (A0 : Option Addr) (c0 : Nat) (l0 : List Int) (r : ByteArray) (w : World) (hr0 : Kd.C (Kd.int .u8) w A0 l0.length l0) (hc0 : l0.length ≤ c0) (h : spec_DrawReadVar.f k l0 = some r) :
    Calls Tryd.prog 49 #[.slice A0 l0.length c0] w fun e w' => e = .returned (.string r) ∧ Below w.heap.size w w' := by
  have HR0 := Aside0.mk hr0
  have HC0 := Aside0.mk hc0
  clear hr0 hc0
  have HB := Aside0.mk (Below.refl w.heap.size w)
  have H : ((spec_l1New.f k l0).bind fun bt251 => ((spec_l1Num.f bt251.1 bt251.2.1 bt251.2.2).bind fun bt255 => ((spec_Var.f k bt255.1).bind fun t258 => ((spec_l1Text.f k bt251.1 bt255.2.1 bt255.2.2 4).bind fun bt259 => (if t258.size + bt259.1.size ≤ 9223372036854775807 then ((spec_l1Once.f bt251.1 bt259.2.1 bt259.2.2 4).bind fun bt262 => (if bt262.1 = true then ((spec_l1Spoil.f k bt251.1 bt262.2.1 bt262.2.2 (t258 ++ bt259.1)).bind fun bt265 => (some bt265.1)) else (some (t258 ++ bt259.1)))) else (none)))))) = some r := h
  clear h
  replace H := Option.bind_eq_some_iff.mp H
  obtain ⟨⟨t251, t252, t253⟩, A20, H⟩ := H
  replace H : ((spec_l1Num.f t251 t252 t253).bind fun bt255 => ((spec_Var.f k bt255.1).bind fun t258 => ((spec_l1Text.f k t251 bt255.2.1 bt255.2.2 4).bind fun bt259 => (if t258.size + bt259.1.size ≤ 9223372036854775807 then ((spec_l1Once.f t251 bt259.2.1 bt259.2.2 4).bind fun bt262 => (if bt262.1 = true then ((spec_l1Spoil.f k t251 bt262.2.1 bt262.2.2 (t258 ++ bt259.1)).bind fun bt265 => (some bt265.1)) else (some (t258 ++ bt259.1)))) else (none))))) = some r := H
  have A2 := Aside0.mk A20
  clear A20
  replace H := Option.bind_eq_some_iff.mp H
  obtain ⟨⟨t255, t256, t257⟩, A30, H⟩ := H
  replace H : ((spec_Var.f k t255).bind fun t258 => ((spec_l1Text.f k t251 t256 t257 4).bind fun bt259 => (if t258.size + bt259.1.size ≤ 9223372036854775807 then ((spec_l1Once.f t251 bt259.2.1 bt259.2.2 4).bind fun bt262 => (if bt262.1 = true then ((spec_l1Spoil.f k t251 bt262.2.1 bt262.2.2 (t258 ++ bt259.1)).bind fun bt265 => (some bt265.1)) else (some (t258 ++ bt259.1)))) else (none)))) = some r := H
  have A3 := Aside0.mk A30
  clear A30
  replace H := Option.bind_eq_some_iff.mp H
  obtain ⟨t258, A40, H⟩ := H
  replace H : ((spec_l1Text.f k t251 t256 t257 4).bind fun bt259 => (if t258.size + bt259.1.size ≤ 9223372036854775807 then ((spec_l1Once.f t251 bt259.2.1 bt259.2.2 4).bind fun bt262 => (if bt262.1 = true then ((spec_l1Spoil.f k t251 bt262.2.1 bt262.2.2 (t258 ++ bt259.1)).bind fun bt265 => (some bt265.1)) else (some (t258 ++ bt259.1)))) else (none))) = some r := H
  have A4 := Aside0.mk A40
  clear A40
  replace H := Option.bind_eq_some_iff.mp H
  obtain ⟨⟨t259, t260, t261⟩, A50, H⟩ := H
  replace H : (if t258.size + t259.size ≤ 9223372036854775807 then ((spec_l1Once.f t251 t260 t261 4).bind fun bt262 => (if bt262.1 = true then ((spec_l1Spoil.f k t251 bt262.2.1 bt262.2.2 (t258 ++ t259)).bind fun bt265 => (some bt265.1)) else (some (t258 ++ t259)))) else (none)) = some r := H
  have A5 := Aside0.mk A50
  clear A50
  by_cases c6 : t258.size + t259.size ≤ 9223372036854775807
  · rw [if_pos c6] at H
    have c6b0 := eq_true c6
    have c6b1 : decide (t258.size + t259.size ≤ 9223372036854775807) = true := decide_eq_true c6
    try have c6b2 : (9223372036854775807 < t258.size + t259.size) = False := eq_false (Nat.not_lt.2 c6)
    replace H := Option.bind_eq_some_iff.mp H
    obtain ⟨⟨t262, t263, t264⟩, A70, H⟩ := H
    replace H : (if t262 = true then ((spec_l1Spoil.f k t251 t263 t264 (t258 ++ t259)).bind fun bt265 => (some bt265.1)) else (some (t258 ++ t259))) = some r := H
    have A7 := Aside0.mk A70
    clear A70
    by_cases c8 : t262 = true
    · subst c8
      have H1 : ((spec_l1Spoil.f k t251 t263 t264 (t258 ++ t259)).bind fun bt265 => (some bt265.1)) = some r := by rw [if_pos rfl] at H; exact H
      clear H
      have H := H1
      clear H1
      replace H := Option.bind_eq_some_iff.mp H
      obtain ⟨⟨t265, t266, t267⟩, A90, H⟩ := H
      replace H : (some t265) = some r := H
      have A9 := Aside0.mk A90
      clear A90
      obtain rfl := Option.some.inj H
      go_enter Tryd.func49, Tryd.ntmps49
      go_wp2_with (first | ((with_reducible refine gate_callee (f := 90) rfl ?_); refine goesL_ (some 6) rfl rfl Tryd.func90 (by kernel_rfl) rfl #[.slice A0 l0.length c0] rfl (by (try simp only [List.map_toArray, List.map_cons, List.map_nil]); first | done | rfl | (simp only [List.length_drop, List.length_take]; rfl)) ?_; (with_reducible refine (spec_l1New.calls k _ _ l0 t251 t252 t253 w _ ?side1 ?side2 ?side3 A2.out).mono ?_); (case side1 => repeat (first | (with_reducible first | exact HB.out | apply below_alloc | apply pw_below_drewN | apply below_drew1) | exact HB.out)); (case side2 => exact HR0.out); (case side3 => exact HC0.out); rintro e w10 ⟨g254, rfl, hi, hb, hb2⟩; refine ⟨_, rfl, ?_⟩; have n0_ := Aside0.mk (hb); have n1_ := Aside0.mk (hi); clear HB; have HB := n0_; have HI254 := n1_; clear n0_ n1_; (try clear hb); (try clear hb2); (try clear hk); (try clear hi)) | ((with_reducible refine gate_callee (f := 95) rfl ?_); refine goesL_ (some 8) rfl rfl Tryd.func95 (by kernel_rfl) rfl #[.pointer (some ⟨g254, 0, none⟩)] rfl (by (try simp only [List.map_toArray, List.map_cons, List.map_nil]); first | done | rfl | (simp only [List.length_drop, List.length_take]; rfl)) ?_; (with_reducible refine (spec_l1Num.calls g254 t251 t252 t253 t255 t256 t257 w _ ?side1 ?side2 A3.out).mono ?_); (case side1 => repeat (first | (with_reducible first | exact HI254.out | apply IsS163.alloc | apply IsS163.drewN | apply IsS163.drew | apply IsS163.set_1 | apply IsS163.set_2) | exact HI254.out)); (case side2 => repeat (first | (with_reducible first | exact HB.out | apply below_alloc | apply pw_below_drewN | apply below_drew1 | refine below_set ?_ (IsS163.ge HI254.out)) | exact HB.out)); rintro e w11 ⟨rfl, hi, hb, hk⟩; refine ⟨_, rfl, ?_⟩; have n0_ := Aside0.mk (hb); have n1_ := Aside0.mk (hi); clear HB; clear HI254; have HB := n0_; have HI254 := n1_; clear n0_ n1_; (try clear hb); (try clear hb2); (try clear hk); (try clear hi)) | ((with_reducible refine gate_callee (f := 101) rfl ?_); refine goesL_ (some 9) rfl rfl Tryd.func101 (by kernel_rfl) rfl #[.int .i64 t255] rfl (by (try simp only [List.map_toArray, List.map_cons, List.map_nil]); first | done | rfl | (simp only [List.length_drop, List.length_take]; rfl)) ?_; (with_reducible refine (spec_Var.calls k t255 t258 _ A4.out).mono ?_); rintro e w12 ⟨rfl, hb⟩; refine ⟨_, rfl, ?_⟩; have n0_ := Aside0.mk (IsS163.below (by repeat (first | (with_reducible first | exact HI254.out | apply IsS163.alloc | apply IsS163.drewN | apply IsS163.drew | apply IsS163.set_1 | apply IsS163.set_2) | exact HI254.out)) hb); have n1_ := Aside0.mk (below_step (by repeat (first | (with_reducible first | exact HB.out | apply below_alloc | apply pw_below_drewN | apply below_drew1 | refine below_set ?_ (IsS163.ge HI254.out)) | exact HB.out)) hb); clear HI254; clear HB; have HI254 := n0_; have HB := n1_; clear n0_ n1_; (try clear hb); (try clear hb2); (try clear hk); (try clear hi)) | ((with_reducible refine gate_callee (f := 96) rfl ?_); refine goesL_ (some 11) rfl rfl Tryd.func96 (by kernel_rfl) rfl #[.pointer (some ⟨g254, 0, none⟩), .int .i64 4] rfl (by (try simp only [List.map_toArray, List.map_cons, List.map_nil]); first | done | rfl | (simp only [List.length_drop, List.length_take]; rfl)) ?_; (with_reducible refine (spec_l1Text.calls k g254 t251 t256 t257 4 t259 t260 t261 w _ ?side1 ?side2 A5.out).mono ?_); (case side1 => repeat (first | (with_reducible first | exact HI254.out | apply IsS163.alloc | apply IsS163.drewN | apply IsS163.drew | apply IsS163.set_1 | apply IsS163.set_2) | exact HI254.out)); (case side2 => repeat (first | (with_reducible first | exact HB.out | apply below_alloc | apply pw_below_drewN | apply below_drew1 | refine below_set ?_ (IsS163.ge HI254.out)) | exact HB.out)); rintro e w13 ⟨rfl, hi, hb, hk⟩; refine ⟨_, rfl, ?_⟩; have n0_ := Aside0.mk (hb); have n1_ := Aside0.mk (hi); clear HB; clear HI254; have HB := n0_; have HI254 := n1_; clear n0_ n1_; (try clear hb); (try clear hb2); (try clear hk); (try clear hi)) | ((with_reducible refine gate_callee (f := 91) rfl ?_); refine goesL_ (some 14) rfl rfl Tryd.func91 (by kernel_rfl) rfl #[.pointer (some ⟨g254, 0, none⟩), .int .i64 4] rfl (by (try simp only [List.map_toArray, List.map_cons, List.map_nil]); first | done | rfl | (simp only [List.length_drop, List.length_take]; rfl)) ?_; (with_reducible refine (spec_l1Once.calls g254 t251 t260 t261 4 true t263 t264 w _ ?side1 ?side2 A7.out).mono ?_); (case side1 => repeat (first | (with_reducible first | exact HI254.out | apply IsS163.alloc | apply IsS163.drewN | apply IsS163.drew | apply IsS163.set_1 | apply IsS163.set_2) | exact HI254.out)); (case side2 => repeat (first | (with_reducible first | exact HB.out | apply below_alloc | apply pw_below_drewN | apply below_drew1 | refine below_set ?_ (IsS163.ge HI254.out)) | exact HB.out)); rintro e w14 ⟨rfl, hi, hb, hk⟩; refine ⟨_, rfl, ?_⟩; have n0_ := Aside0.mk (hb); have n1_ := Aside0.mk (hi); clear HB; clear HI254; have HB := n0_; have HI254 := n1_; clear n0_ n1_; (try clear hb); (try clear hb2); (try clear hk); (try clear hi)) | ((with_reducible refine gate_callee (f := 102) rfl ?_); refine goesL_ (some 17) rfl rfl Tryd.func102 (by kernel_rfl) rfl #[.pointer (some ⟨g254, 0, none⟩), .string (t258 ++ t259)] rfl (by (try simp only [List.map_toArray, List.map_cons, List.map_nil]); first | done | rfl | (simp only [List.length_drop, List.length_take]; rfl)) ?_; (with_reducible refine (spec_l1Spoil.calls k g254 t251 t263 t264 (t258 ++ t259) t265 t266 t267 w _ ?side1 ?side2 A9.out).mono ?_); (case side1 => repeat (first | (with_reducible first | exact HI254.out | apply IsS163.alloc | apply IsS163.drewN | apply IsS163.drew | apply IsS163.set_1 | apply IsS163.set_2) | exact HI254.out)); (case side2 => repeat (first | (with_reducible first | exact HB.out | apply below_alloc | apply pw_below_drewN | apply below_drew1 | refine below_set ?_ (IsS163.ge HI254.out)) | exact HB.out)); rintro e w15 ⟨rfl, hi, hb, hk⟩; refine ⟨_, rfl, ?_⟩; have n0_ := Aside0.mk (hb); have n1_ := Aside0.mk (hi); clear HB; clear HI254; have HB := n0_; have HI254 := n1_; clear n0_ n1_; (try clear hb); (try clear hb2); (try clear hk); (try clear hi)))
      go_ret
      exact ⟨by first | rfl | (simp [errW_none, errW_some] <;> rfl) | (simp [*, errW_none, errW_some] <;> rfl), by repeat (first | (with_reducible first | exact HB.out | apply below_alloc | apply pw_below_drewN | apply below_drew1 | refine below_set ?_ (IsS163.ge HI254.out)) | exact HB.out)⟩
    · replace c8 := Bool.eq_false_iff.mpr c8
      subst c8
      have H1 : (some (t258 ++ t259)) = some r := by rw [if_neg (show ¬ (false = true) by decide)] at H; exact H
      clear H
      have H := H1
      clear H1
      obtain rfl := Option.some.inj H
      go_enter Tryd.func49, Tryd.ntmps49
      go_wp2_with (first | ((with_reducible refine gate_callee (f := 90) rfl ?_); refine goesL_ (some 6) rfl rfl Tryd.func90 (by kernel_rfl) rfl #[.slice A0 l0.length c0] rfl (by (try simp only [List.map_toArray, List.map_cons, List.map_nil]); first | done | rfl | (simp only [List.length_drop, List.length_take]; rfl)) ?_; (with_reducible refine (spec_l1New.calls k _ _ l0 t251 t252 t253 w _ ?side1 ?side2 ?side3 A2.out).mono ?_); (case side1 => repeat (first | (with_reducible first | exact HB.out | apply below_alloc | apply pw_below_drewN | apply below_drew1) | exact HB.out)); (case side2 => exact HR0.out); (case side3 => exact HC0.out); rintro e w16 ⟨g254, rfl, hi, hb, hb2⟩; refine ⟨_, rfl, ?_⟩; have n0_ := Aside0.mk (hb); have n1_ := Aside0.mk (hi); clear HB; have HB := n0_; have HI254 := n1_; clear n0_ n1_; (try clear hb); (try clear hb2); (try clear hk); (try clear hi)) | ((with_reducible refine gate_callee (f := 95) rfl ?_); refine goesL_ (some 8) rfl rfl Tryd.func95 (by kernel_rfl) rfl #[.pointer (some ⟨g254, 0, none⟩)] rfl (by (try simp only [List.map_toArray, List.map_cons, List.map_nil]); first | done | rfl | (simp only [List.length_drop, List.length_take]; rfl)) ?_; (with_reducible refine (spec_l1Num.calls g254 t251 t252 t253 t255 t256 t257 w _ ?side1 ?side2 A3.out).mono ?_); (case side1 => repeat (first | (with_reducible first | exact HI254.out | apply IsS163.alloc | apply IsS163.drewN | apply IsS163.drew | apply IsS163.set_1 | apply IsS163.set_2) | exact HI254.out)); (case side2 => repeat (first | (with_reducible first | exact HB.out | apply below_alloc | apply pw_below_drewN | apply below_drew1 | refine below_set ?_ (IsS163.ge HI254.out)) | exact HB.out)); rintro e w17 ⟨rfl, hi, hb, hk⟩; refine ⟨_, rfl, ?_⟩; have n0_ := Aside0.mk (hb); have n1_ := Aside0.mk (hi); clear HB; clear HI254; have HB := n0_; have HI254 := n1_; clear n0_ n1_; (try clear hb); (try clear hb2); (try clear hk); (try clear hi)) | ((with_reducible refine gate_callee (f := 101) rfl ?_); refine goesL_ (some 9) rfl rfl Tryd.func101 (by kernel_rfl) rfl #[.int .i64 t255] rfl (by (try simp only [List.map_toArray, List.map_cons, List.map_nil]); first | done | rfl | (simp only [List.length_drop, List.length_take]; rfl)) ?_; (with_reducible refine (spec_Var.calls k t255 t258 _ A4.out).mono ?_); rintro e w18 ⟨rfl, hb⟩; refine ⟨_, rfl, ?_⟩; have n0_ := Aside0.mk (IsS163.below (by repeat (first | (with_reducible first | exact HI254.out | apply IsS163.alloc | apply IsS163.drewN | apply IsS163.drew | apply IsS163.set_1 | apply IsS163.set_2) | exact HI254.out)) hb); have n1_ := Aside0.mk (below_step (by repeat (first | (with_reducible first | exact HB.out | apply below_alloc | apply pw_below_drewN | apply below_drew1 | refine below_set ?_ (IsS163.ge HI254.out)) | exact HB.out)) hb); clear HI254; clear HB; have HI254 := n0_; have HB := n1_; clear n0_ n1_; (try clear hb); (try clear hb2); (try clear hk); (try clear hi)) | ((with_reducible refine gate_callee (f := 96) rfl ?_); refine goesL_ (some 11) rfl rfl Tryd.func96 (by kernel_rfl) rfl #[.pointer (some ⟨g254, 0, none⟩), .int .i64 4] rfl (by (try simp only [List.map_toArray, List.map_cons, List.map_nil]); first | done | rfl | (simp only [List.length_drop, List.length_take]; rfl)) ?_; (with_reducible refine (spec_l1Text.calls k g254 t251 t256 t257 4 t259 t260 t261 w _ ?side1 ?side2 A5.out).mono ?_); (case side1 => repeat (first | (with_reducible first | exact HI254.out | apply IsS163.alloc | apply IsS163.drewN | apply IsS163.drew | apply IsS163.set_1 | apply IsS163.set_2) | exact HI254.out)); (case side2 => repeat (first | (with_reducible first | exact HB.out | apply below_alloc | apply pw_below_drewN | apply below_drew1 | refine below_set ?_ (IsS163.ge HI254.out)) | exact HB.out)); rintro e w19 ⟨rfl, hi, hb, hk⟩; refine ⟨_, rfl, ?_⟩; have n0_ := Aside0.mk (hb); have n1_ := Aside0.mk (hi); clear HB; clear HI254; have HB := n0_; have HI254 := n1_; clear n0_ n1_; (try clear hb); (try clear hb2); (try clear hk); (try clear hi)) | ((with_reducible refine gate_callee (f := 91) rfl ?_); refine goesL_ (some 14) rfl rfl Tryd.func91 (by kernel_rfl) rfl #[.pointer (some ⟨g254, 0, none⟩), .int .i64 4] rfl (by (try simp only [List.map_toArray, List.map_cons, List.map_nil]); first | done | rfl | (simp only [List.length_drop, List.length_take]; rfl)) ?_; (with_reducible refine (spec_l1Once.calls g254 t251 t260 t261 4 false t263 t264 w _ ?side1 ?side2 A7.out).mono ?_); (case side1 => repeat (first | (with_reducible first | exact HI254.out | apply IsS163.alloc | apply IsS163.drewN | apply IsS163.drew | apply IsS163.set_1 | apply IsS163.set_2) | exact HI254.out)); (case side2 => repeat (first | (with_reducible first | exact HB.out | apply below_alloc | apply pw_below_drewN | apply below_drew1 | refine below_set ?_ (IsS163.ge HI254.out)) | exact HB.out)); rintro e w20 ⟨rfl, hi, hb, hk⟩; refine ⟨_, rfl, ?_⟩; have n0_ := Aside0.mk (hb); have n1_ := Aside0.mk (hi); clear HB; clear HI254; have HB := n0_; have HI254 := n1_; clear n0_ n1_; (try clear hb); (try clear hb2); (try clear hk); (try clear hi)))
      go_ret
      exact ⟨by first | rfl | (simp [errW_none, errW_some] <;> rfl) | (simp [*, errW_none, errW_some] <;> rfl), by repeat (first | (with_reducible first | exact HB.out | apply below_alloc | apply pw_below_drewN | apply below_drew1 | refine below_set ?_ (IsS163.ge HI254.out)) | exact HB.out)⟩
  · rw [if_neg c6] at H
    exact absurd H (by simp)

end Go.Proofs.YtmpmfaaodjmpjaaDoor.PFnNumbers

import Derived.Test.YtekkoodlnaapeaaGreatDoorTok2L
import Derived.Test.YtekkoodlnaapeaaGreatDoorNumL
import Derived.Test.YtekkoodlnaapeaaGreatDoorShelf
import Derived.Test.YtekkoodlnaapeaaGreatDoorTabs
import Derived.Lib.SmallJoins
import Derived.Lib.AppendIntMem
import Derived.Shelf.SlSortCmp.QuietGrown
import Derived.BigQuiet
/- impl.number, impl.token. -/
namespace Go.Proofs.YtekkoodlnaapeaaGreatDoor.TokL
open Go.RowKit Go.Proofs.YtekkoodlnaapeaaGreatDoor.Kit Go.Proofs.YtekkoodlnaapeaaGreatDoor.RunL Go.Proofs.YtekkoodlnaapeaaGreatDoorW.PrintWords
set_option linter.unusedSimpArgs false
set_option linter.unusedVariables false
theorem atoi_range {l : List UInt8} {v : Int} (h : Lib.atoiAll l = .ok v) : -9223372036854775808 ≤ v ∧ v ≤ 9223372036854775807 := by
  cases l with
  | nil => cases h
  | cons c r =>
    rw [Lib.atoiAll] at h
    split at h
    · cases h
    · cases h
    · next u _ =>
      split at h
      · cases h
      · split at h
        · cases h
        · injection h with h
          subst h
          split <;> omega
theorem Dec (v : Int) (h : -9223372036854775808 ≤ v ∧ v ≤ 9223372036854775807) (w : World) (HT : TabsE w) : Calls Tryz.prog 35 #[.int .i64 v] w fun e w' => e = .returned (.string ⟨(Lib.itoa v).toArray⟩) ∧ ∃ k os, w' = Sort.grow (w.drewN k) os := by
  go_enter Tryz.func35, Tryz.ntmps35
  go_wp2_with (go_at_call 90; refine (Tryz.strconv_Itoa v h.1 h.2 _ HT.pow).mono ?_; rintro e w2 ⟨rfl, k, os, rfl⟩)
  go_ret
  exact ⟨rfl, _, _, rfl⟩
theorem bcell {W w1 : World} (hb : Below W.heap.size W w1) : (∀ b o, b < W.heap.size → w1.cell? ⟨b, o, none⟩ = W.cell? ⟨b, o, none⟩) ∧ (∀ b o, b < W.heap.size → w1.frozen? ⟨b, o, none⟩ = W.frozen? ⟨b, o, none⟩) :=
  ⟨fun b o h => hb.cell (p := ⟨b, o, none⟩) h, fun b o h => hb.frozen (p := ⟨b, o, none⟩) h⟩
theorem put4 {W : World} {g : Nat} {T : TypeId} {x0 x1 x2 x3 : Value} (h : W.heap[g]? = some (.cells #[x0, x1, x2, x3] T (0, 0))) (a b c d : Value) :
    ((((W.setCell ⟨g, 0, none⟩ a).setCell ⟨g, 1, none⟩ b).setCell ⟨g, 2, none⟩ c).setCell ⟨g, 3, none⟩ d).heap[g]? = some (.cells #[a, b, c, d] T (0, 0)) :=
  blk_put (blk_put (blk_put (blk_put h 0 a rfl) 1 b rfl) 2 c rfl) 3 d rfl
def numV (b : Bool) (l : List UInt8) : Option (Int × ByteArray × Int × Int) := (numL b l).map fun p => (2, ⟨#[]⟩, (p.1 : Int), (p.2 : Int))
def numW (b : Bool) (s : ByteArray) (n1 : Nat) : Option (Int × ByteArray × Int × Int) :=
  (if ((s.data.toList.drop n1).head?.any (lLetter b)) = true then none else (atoN (s.extract 0 n1).data.toList).map fun v => (v, n1)).map fun p => (2, ⟨#[]⟩, (p.1 : Int), (p.2 : Int))
set_option maxRecDepth 100000 in
set_option maxHeartbeats 2000000 in
theorem number (s : ByteArray) (b : Bool) (h0 : runL lDigit s.data.toList ≠ 0) (hs : s.size ≤ 140737488355328) (w : World) (HT : TabsE w) :
    Calls Tryz.prog 141 #[.string s, .bool b] w fun e w' => e = .returned (tokV (numV b s.data.toList)) ∧ Below w.heap.size w w' := by
  have hlen : s.data.toList.length = s.size := by rw [Array.length_toList]; rfl
  have hu := Tryz.underlying92
  have eD : ∀ args w, (callFunc 140 args).run Tryz.prog w = .ok (.enter 140 args) w := enters_of Tryz.func140 (by kernel_rfl) rfl
  have b1 := fun W => RunL.calls 140 #[] eD lDigit s hs W (isDigit _)
  have hn1 := runL_le lDigit s.data.toList
  rw [hlen] at hn1
  have hV : numV b s.data.toList = numW b s (runL lDigit s.data.toList) := by
    unfold numV numW
    rw [numL_ato b _ h0, extract_take]
  rw [hV]
  clear hV
  generalize hd1 : runL lDigit s.data.toList = n1 at b1 hn1 h0
  have hDz : (s.extract 0 n1).size = n1 := by rw [ByteArray.size_extract]; omega
  have k1 : (0 : Int) ≤ (n1 : Int) := by omega
  have k2 : (n1 : Int) ≤ (s.size : Int) := by omega
  have mixed : Tryz.prog.follows .mixedOrders = true := by kernel_rfl
  obtain ⟨ts, ps, hsyn⟩ := HT.syn
  obtain ⟨tr, pr, hrng⟩ := HT.rng
  have hz : (s.extract 0 n1).size ≤ 281474976710655 := by omega
  have HB0 : Below w.heap.size w (w.alloc (.cells #[.int .i64 0, .string ⟨#[]⟩, .int .i64 0, .int .i64 0] 92)) := below_alloc (Below.refl _ _) _
  have HT0 : ∀ q, TabsE ((w.alloc (.cells #[.int .i64 0, .string ⟨#[]⟩, .int .i64 0, .int .i64 0] 92)).drewN q) := fun q => HT.below (pw_below_drewN HB0 q)
  cases ea : Lib.atoiAll (s.extract 0 n1).data.toList with
  | «syntax» =>
    have er : numW b s n1 = none := by unfold numW atoN; rw [ea]; split <;> rfl
    rw [er]
    simp only [tokV]
    have hA : ∀ q, Calls Tryz.prog 189 #[.string (s.extract 0 n1)] ((w.alloc (.cells #[.int .i64 0, .string ⟨#[]⟩, .int .i64 0, .int .i64 0] 92)).drewN q) fun e w' => ∃ N, e = .returned (.tuple #[.int .i64 0, .iface 267 (.pointer (some ⟨N, 0, none⟩))]) ∧ Below (((w.alloc (.cells #[.int .i64 0, .string ⟨#[]⟩, .int .i64 0, .int .i64 0] 92)).drewN q)).heap.size ((w.alloc (.cells #[.int .i64 0, .string ⟨#[]⟩, .int .i64 0, .int .i64 0] 92)).drewN q) w' := fun q => by
      obtain ⟨t1, p1, q1⟩ := (HT0 q).syn
      refine (Tryz.strconv_Atoi_syntax_var (s.extract 0 n1) (by omega) ea _ _ _ q1).mono ?_
      rintro e w1 ⟨N, rfl, -, -, hb⟩
      exact ⟨N, rfl, hb⟩
    clear ea er hsyn hrng HT HT0 hd1
    go_enter Tryz.func141, Tryz.ntmps141
    go_wp2_with (first
      | (go_at_call 134; with_reducible refine (b1 _).mono ?_; rintro e w' ⟨rfl, q1, rfl⟩)
      | (go_at_call 189; refine (hA q1).mono ?_; rintro e w1 ⟨N, rfl, hb⟩; clear hA; obtain ⟨hc1, hf1⟩ := bcell hb; have hz1 := hb.size; simp at hz1))
    go_quiet (fail)
    go_wp2
    refine bodyPost_ret (results_ctt rfl _ _ w.heap.size 92 #[.int .i64 0, .string ⟨#[]⟩, .int .i64 0, .int .i64 0] (0, 0) _ rfl (put4 (blk_drewN (blk_below (blk_drewN (blk_new w _) q1) hb) _) _ _ _ _) hu rfl (by kernel_rfl)) rfl ⟨rfl, ?_⟩
    exact below_ends (pw_below_drewN (below_then (pw_below_drewN HB0 _) (pw_below_drewN HB0 _).size hb) _) _ _ _ _
  | range =>
    have er : numW b s n1 = none := by unfold numW atoN; rw [ea]; split <;> rfl
    rw [er]
    simp only [tokV]
    have hA : ∀ q, Calls Tryz.prog 189 #[.string (s.extract 0 n1)] ((w.alloc (.cells #[.int .i64 0, .string ⟨#[]⟩, .int .i64 0, .int .i64 0] 92)).drewN q) fun e w' => ∃ N, e = .returned (.tuple #[.int .i64 (Lib.atoiSat (s.extract 0 n1).data.toList), .iface 267 (.pointer (some ⟨N, 0, none⟩))]) ∧ Below (((w.alloc (.cells #[.int .i64 0, .string ⟨#[]⟩, .int .i64 0, .int .i64 0] 92)).drewN q)).heap.size ((w.alloc (.cells #[.int .i64 0, .string ⟨#[]⟩, .int .i64 0, .int .i64 0] 92)).drewN q) w' := fun q => by
      obtain ⟨t1, p1, q1⟩ := (HT0 q).rng
      refine (Tryz.strconv_Atoi_range_var (s.extract 0 n1) (by omega) ea _ _ _ q1).mono ?_
      rintro e w1 ⟨N, rfl, -, -, hb⟩
      exact ⟨N, rfl, hb⟩
    generalize Lib.atoiSat (s.extract 0 n1).data.toList = sat at hA
    clear ea er hsyn hrng HT HT0 hd1
    go_enter Tryz.func141, Tryz.ntmps141
    go_wp2_with (first
      | (go_at_call 134; with_reducible refine (b1 _).mono ?_; rintro e w' ⟨rfl, q1, rfl⟩)
      | (go_at_call 189; refine (hA q1).mono ?_; rintro e w1 ⟨N, rfl, hb⟩; clear hA; obtain ⟨hc1, hf1⟩ := bcell hb; have hz1 := hb.size; simp at hz1))
    go_quiet (fail)
    go_wp2
    refine bodyPost_ret (results_ctt rfl _ _ w.heap.size 92 #[.int .i64 0, .string ⟨#[]⟩, .int .i64 0, .int .i64 0] (0, 0) _ rfl (put4 (blk_drewN (blk_below (blk_drewN (blk_new w _) q1) hb) _) _ _ _ _) hu rfl (by kernel_rfl)) rfl ⟨rfl, ?_⟩
    exact below_ends (pw_below_drewN (below_then (pw_below_drewN HB0 _) (pw_below_drewN HB0 _).size hb) _) _ _ _ _
  | ok v =>
    have hv := atoi_range ea
    have hA : ∀ q, Calls Tryz.prog 189 #[.string (s.extract 0 n1)] ((w.alloc (.cells #[.int .i64 0, .string ⟨#[]⟩, .int .i64 0, .int .i64 0] 92)).drewN q) fun e w' => e = .returned (.tuple #[.int .i64 v, .nilIface]) ∧ Below (((w.alloc (.cells #[.int .i64 0, .string ⟨#[]⟩, .int .i64 0, .int .i64 0] 92)).drewN q)).heap.size ((w.alloc (.cells #[.int .i64 0, .string ⟨#[]⟩, .int .i64 0, .int .i64 0] 92)).drewN q) w' := fun q => by
      refine (Tryz.strconv_Atoi_ok (s.extract 0 n1) (by omega) v ea _).mono ?_
      rintro e w1 ⟨rfl, hw1⟩
      refine ⟨rfl, ?_⟩
      rcases hw1 with rfl | ⟨t, rfl⟩
      · exact Below.refl _ _
      · exact Lib.bytesWorld_below _ _ _
    have hDec := fun W' (h : TabsE W') => Dec v hv W' h
    have HW : numW b s n1 = if (((s.data.toList.drop n1).head?.any (lLetter b)) = true) then none else if Lib.itoa v = (s.extract 0 n1).data.toList ∧ v ≤ 1000000 then some (2, ⟨#[]⟩, v, (n1 : Int)) else none := by
      unfold numW atoN
      rw [ea]
      simp only
      split
      · rfl
      · split
        · next h =>
          have hv0 : 0 ≤ v := by
            rcases Int.lt_or_le v 0 with hn | hn
            · exfalso
              have h1 := h.1
              unfold Lib.itoa at h1
              rw [if_pos hn] at h1
              have hd := digs s.data.toList
              rw [hd1, ← extract_take, ← h1] at hd
              have := (hd 45 (.head _)).1
              exact absurd this (by decide)
            · exact hn
          simp only [Option.map_some]
          rw [show ((v.toNat : Int)) = v by omega]
        · rfl
    rw [HW]
    have hat : (s.data.toList.drop n1).head? = s.data.toList[n1]? := by rw [List.head?_drop]
    rw [hat]
    clear ea HW hsyn hrng HT hd1
    by_cases cI : Lib.itoa v = (s.extract 0 n1).data.toList
    · have cI1 : (Lib.itoa v != (s.extract 0 n1).toList) = false := by rw [ByteArray.toList_eq, cI]; simp
      have cI2 : (Lib.itoa v == (s.extract 0 n1).toList) = true := by rw [ByteArray.toList_eq, cI]; simp
      by_cases cM : v ≤ 1000000
      · rw [if_pos (⟨cI, cM⟩ : Lib.itoa v = (s.extract 0 n1).data.toList ∧ v ≤ 1000000)]
        have cM1 : decide (1000000 < v) = false := by simpa using cM
        clear cI
        by_cases c2 : n1 < s.size
        · have h2 : s.data.toList[n1]? = some s[n1] := by
            rw [List.getElem?_eq_getElem (by omega)]
            simp only [Array.getElem_toList]; rfl
          rw [h2, Option.any_some]
          have c2i : (n1 : Int) < (s.size : Int) := by omega
          have b2 := isLetter s[n1] b
          cases cL : lLetter b s[n1] with
          | true =>
            rw [cL] at b2
            rw [if_pos rfl]
            simp only [tokV]
            clear cL h2 hat
            go_enter Tryz.func141, Tryz.ntmps141
            go_wp2_with (first
              | (go_at_call 134; with_reducible refine (b1 _).mono ?_; rintro e w' ⟨rfl, q1, rfl⟩)
              | (go_at_call 189; refine (hA q1).mono ?_; rintro e w1 ⟨rfl, hb⟩; clear hA; have HTd : ∀ n os, TabsE (Sort.grow (w1.drewN n) os) := (fun n os => ((HT0 q1).below hb).below (Lib.below_grow _ w1 (Nat.le_refl _) n os)); clear HT0))
            refine wp_region_quiet_grown mixed (by kernel_rfl) ?_
            repeat (first | go_big_quiet_skip | quiet_step (first | (go_at_call 35; exact Calls.grown_of (hDec _ (HTd _ _))) | (go_at_call 138; exact Calls.grown_of ((b2 _).mono fun e w' h => ⟨h.1, h.2.choose, #[], by rw [Sort.grow_empty]; exact h.2.choose_spec⟩))))
            refine wpQuiet_nil ?_
            intro _ hw'
            obtain ⟨⟨nq, osq⟩, hw''⟩ := hw'
            subst hw''
            have hb2 := (hb.trans (Lib.below_grow _ w1 hb.size nq osq))
            generalize Sort.grow (w1.drewN nq) osq = w2 at hb2 ⊢
            obtain ⟨hc1, hf1⟩ := bcell hb2
            have hz1 := hb2.size
            simp at hz1
            go_wp2
            refine bodyPost_ret (results_ctt rfl _ _ w.heap.size 92 #[.int .i64 0, .string ⟨#[]⟩, .int .i64 0, .int .i64 0] (0, 0) _ rfl (put4 (blk_below (blk_drewN (blk_new w _) q1) hb2) _ _ _ _) hu rfl (by kernel_rfl)) rfl ⟨rfl, ?_⟩
            exact below_ends (below_then (pw_below_drewN HB0 _) (pw_below_drewN HB0 _).size hb2) _ _ _ _

          | false =>
            rw [cL] at b2
            rw [if_neg (by simp)]
            simp only [tokV]
            clear cL h2 hat
            go_enter Tryz.func141, Tryz.ntmps141
            go_wp2_with (first
              | (go_at_call 134; with_reducible refine (b1 _).mono ?_; rintro e w' ⟨rfl, q1, rfl⟩)
              | (go_at_call 189; refine (hA q1).mono ?_; rintro e w1 ⟨rfl, hb⟩; clear hA; have HTd : ∀ n os, TabsE (Sort.grow (w1.drewN n) os) := (fun n os => ((HT0 q1).below hb).below (Lib.below_grow _ w1 (Nat.le_refl _) n os)); clear HT0))
            refine wp_region_quiet_grown mixed (by kernel_rfl) ?_
            repeat (first | go_big_quiet_skip | quiet_step (first | (go_at_call 35; exact Calls.grown_of (hDec _ (HTd _ _))) | (go_at_call 138; exact Calls.grown_of ((b2 _).mono fun e w' h => ⟨h.1, h.2.choose, #[], by rw [Sort.grow_empty]; exact h.2.choose_spec⟩))))
            refine wpQuiet_nil ?_
            intro _ hw'
            obtain ⟨⟨nq, osq⟩, hw''⟩ := hw'
            subst hw''
            have hb2 := (hb.trans (Lib.below_grow _ w1 hb.size nq osq))
            generalize Sort.grow (w1.drewN nq) osq = w2 at hb2 ⊢
            obtain ⟨hc1, hf1⟩ := bcell hb2
            have hz1 := hb2.size
            simp at hz1
            go_wp2
            refine bodyPost_ret (results_ctt rfl _ _ w.heap.size 92 #[.int .i64 2, .string ⟨#[]⟩, .int .i64 v, .int .i64 0] (0, 0) _ rfl (put4 (blk_below (blk_drewN (blk_new w _) q1) hb2) _ _ _ _) hu rfl (by kernel_rfl)) rfl ⟨rfl, ?_⟩
            exact below_ends (below_then (pw_below_drewN HB0 _) (pw_below_drewN HB0 _).size hb2) _ _ _ _

        · have h2 : s.data.toList[n1]? = none := List.getElem?_eq_none (by omega)
          rw [h2, Option.any_none, if_neg (by simp)]
          have c2i : ¬ (n1 : Int) < (s.size : Int) := by omega
          have c2j : decide ((n1 : Int) < (s.size : Int)) = false := by simpa using c2i
          simp only [tokV]
          clear h2 hat
          go_enter Tryz.func141, Tryz.ntmps141
          go_wp2_with (first
            | (go_at_call 134; with_reducible refine (b1 _).mono ?_; rintro e w' ⟨rfl, q1, rfl⟩)
            | (go_at_call 189; refine (hA q1).mono ?_; rintro e w1 ⟨rfl, hb⟩; clear hA; have HTd : ∀ n os, TabsE (Sort.grow (w1.drewN n) os) := (fun n os => ((HT0 q1).below hb).below (Lib.below_grow _ w1 (Nat.le_refl _) n os)); clear HT0))
          refine wp_region_quiet_grown mixed (by kernel_rfl) ?_
          repeat (first | go_big_quiet_skip | quiet_step (first | (go_at_call 35; exact Calls.grown_of (hDec _ (HTd _ _)))))
          refine wpQuiet_nil ?_
          intro _ hw'
          obtain ⟨⟨nq, osq⟩, hw''⟩ := hw'
          subst hw''
          have hb2 := (hb.trans (Lib.below_grow _ w1 hb.size nq osq))
          generalize Sort.grow (w1.drewN nq) osq = w2 at hb2 ⊢
          obtain ⟨hc1, hf1⟩ := bcell hb2
          have hz1 := hb2.size
          simp at hz1
          go_wp2
          refine bodyPost_ret (results_ctt rfl _ _ w.heap.size 92 #[.int .i64 2, .string ⟨#[]⟩, .int .i64 v, .int .i64 0] (0, 0) _ rfl (put4 (blk_below (blk_drewN (blk_new w _) q1) hb2) _ _ _ _) hu rfl (by kernel_rfl)) rfl ⟨rfl, ?_⟩
          exact below_ends (below_then (pw_below_drewN HB0 _) (pw_below_drewN HB0 _).size hb2) _ _ _ _

      · rw [if_neg (fun h => cM h.2 : ¬ (Lib.itoa v = (s.extract 0 n1).data.toList ∧ v ≤ 1000000)), ite_self]
        have cM2 : (1000000 : Int) < v := by omega
        have cM1 : decide (1000000 < v) = true := decide_eq_true cM2
        simp only [tokV]
        clear cI hat cM
        go_enter Tryz.func141, Tryz.ntmps141
        go_wp2_with (first
          | (go_at_call 134; with_reducible refine (b1 _).mono ?_; rintro e w' ⟨rfl, q1, rfl⟩)
          | (go_at_call 189; refine (hA q1).mono ?_; rintro e w1 ⟨rfl, hb⟩; clear hA; have HTd : ∀ n os, TabsE (Sort.grow (w1.drewN n) os) := (fun n os => ((HT0 q1).below hb).below (Lib.below_grow _ w1 (Nat.le_refl _) n os)); clear HT0))
        refine wp_region_quiet_grown mixed (by kernel_rfl) ?_
        repeat (first | go_big_quiet_skip | quiet_step (first | (go_at_call 35; exact Calls.grown_of (hDec _ (HTd _ _)))))
        refine wpQuiet_nil ?_
        intro _ hw'
        obtain ⟨⟨nq, osq⟩, hw''⟩ := hw'
        subst hw''
        have hb2 := (hb.trans (Lib.below_grow _ w1 hb.size nq osq))
        generalize Sort.grow (w1.drewN nq) osq = w2 at hb2 ⊢
        obtain ⟨hc1, hf1⟩ := bcell hb2
        have hz1 := hb2.size
        simp at hz1
        go_wp2
        refine bodyPost_ret (results_ctt rfl _ _ w.heap.size 92 #[.int .i64 0, .string ⟨#[]⟩, .int .i64 0, .int .i64 0] (0, 0) _ rfl (put4 (blk_below (blk_drewN (blk_new w _) q1) hb2) _ _ _ _) hu rfl (by kernel_rfl)) rfl ⟨rfl, ?_⟩
        exact below_ends (below_then (pw_below_drewN HB0 _) (pw_below_drewN HB0 _).size hb2) _ _ _ _

    · rw [if_neg (fun h => cI h.1 : ¬ (Lib.itoa v = (s.extract 0 n1).data.toList ∧ v ≤ 1000000)), ite_self]
      have cI1 : (Lib.itoa v != (s.extract 0 n1).toList) = true := by rw [ByteArray.toList_eq]; simpa using cI
      have cI2 : (Lib.itoa v == (s.extract 0 n1).toList) = false := by rw [ByteArray.toList_eq]; simpa using cI
      simp only [tokV]
      clear cI hat
      go_enter Tryz.func141, Tryz.ntmps141
      go_wp2_with (first
        | (go_at_call 134; with_reducible refine (b1 _).mono ?_; rintro e w' ⟨rfl, q1, rfl⟩)
        | (go_at_call 189; refine (hA q1).mono ?_; rintro e w1 ⟨rfl, hb⟩; clear hA; have HTd : ∀ n os, TabsE (Sort.grow (w1.drewN n) os) := (fun n os => ((HT0 q1).below hb).below (Lib.below_grow _ w1 (Nat.le_refl _) n os)); clear HT0))
      refine wp_region_quiet_grown mixed (by kernel_rfl) ?_
      repeat (first | go_big_quiet_skip | quiet_step (first | (go_at_call 35; exact Calls.grown_of (hDec _ (HTd _ _)))))
      refine wpQuiet_nil ?_
      intro _ hw'
      obtain ⟨⟨nq, osq⟩, hw''⟩ := hw'
      subst hw''
      have hb2 := (hb.trans (Lib.below_grow _ w1 hb.size nq osq))
      generalize Sort.grow (w1.drewN nq) osq = w2 at hb2 ⊢
      obtain ⟨hc1, hf1⟩ := bcell hb2
      have hz1 := hb2.size
      simp at hz1
      go_wp2
      refine bodyPost_ret (results_ctt rfl _ _ w.heap.size 92 #[.int .i64 0, .string ⟨#[]⟩, .int .i64 0, .int .i64 0] (0, 0) _ rfl (put4 (blk_below (blk_drewN (blk_new w _) q1) hb2) _ _ _ _) hu rfl (by kernel_rfl)) rfl ⟨rfl, ?_⟩
      exact below_ends (below_then (pw_below_drewN HB0 _) (pw_below_drewN HB0 _).size hb2) _ _ _ _

end Go.Proofs.YtekkoodlnaapeaaGreatDoor.TokL

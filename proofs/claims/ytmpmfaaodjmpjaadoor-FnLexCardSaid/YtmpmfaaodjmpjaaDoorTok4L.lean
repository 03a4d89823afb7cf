import Derived.Test.YtmpmfaaodjmpjaaDoorTok3L
import Derived.Lib.SlBytesConst
/- impl.token. -/
namespace Go.Proofs.YtmpmfaaodjmpjaaDoor.TokL
open Go.RowKit Go.Proofs.YtmpmfaaodjmpjaaDoor.Kit Go.Proofs.YtmpmfaaodjmpjaaDoor.RunL Go.Proofs.YtmpmfaaodjmpjaaDoorW.PrintWords
set_option linter.unusedSimpArgs false
set_option linter.unusedVariables false
def tokB (b : Bool) (s : ByteArray) : Option (Int × ByteArray × Int × Int) := (tokL b s.data.toList).map fun p => (p.1, ⟨p.2.1.toArray⟩, (p.2.2.1 : Int), (p.2.2.2 : Int))
theorem below_ends1 {w W : World} (h : Below w.heap.size w W) (a b c d : Value) : Below w.heap.size w ((((W.setCell ⟨w.heap.size + 1, 0, none⟩ a).setCell ⟨w.heap.size + 1, 1, none⟩ b).setCell ⟨w.heap.size + 1, 2, none⟩ c).setCell ⟨w.heap.size + 1, 3, none⟩ d) :=
  below_set (below_set (below_set (below_set h (Nat.le_succ _)) (Nat.le_succ _)) (Nat.le_succ _)) (Nat.le_succ _)
theorem HBK (w : World) (b : Bool) : ((w.alloc (.cells #[.bool b] 4)).alloc (.cells #[.int .i64 0, .string ⟨#[]⟩, .int .i64 0, .int .i64 0] 70)).heap[w.heap.size + 1]? = some (.cells #[.int .i64 0, .string ⟨#[]⟩, .int .i64 0, .int .i64 0] 70 (0, 0)) := by
  have h := blk_new (w.alloc (.cells #[.bool b] 4)) (.cells #[.int .i64 0, .string ⟨#[]⟩, .int .i64 0, .int .i64 0] 70)
  have e : (w.alloc (.cells #[.bool b] 4)).heap.size = w.heap.size + 1 := by simp
  rw [e] at h
  exact h
set_option maxHeartbeats 2000000 in
set_option maxRecDepth 100000 in
theorem token (s : ByteArray) (b : Bool) (h1 : 0 < s.size) (hs : s.size ≤ 140737488355328) (w : World) (HT : TabsE w) :
    Calls Tryd.prog 105 #[.string s, .bool b] w fun e w' => e = .returned (tokV (tokB b s)) ∧ Below w.heap.size w w' := by
  have hlen : s.data.toList.length = s.size := by rw [Array.length_toList]; rfl
  have hu := Tryd.underlying70
  have eT : ∀ args w, (callFunc 152 args).run Tryd.prog w = .ok (.enter 152 args) w := enters_of Tryd.func152 (by kernel_rfl) rfl
  obtain ⟨W0, hW0⟩ : ∃ W0, W0 = (w.alloc (.cells #[.bool b] 4)).alloc (.cells #[.int .i64 0, .string ⟨#[]⟩, .int .i64 0, .int .i64 0] 70) := ⟨_, rfl⟩
  have HB0 : Below w.heap.size w W0 := by rw [hW0]; exact below_alloc (below_alloc (Below.refl _ _) _) _
  have hsz0 : W0.heap.size = w.heap.size + 2 := by rw [hW0]; simp
  have hbc : W0.cell? ⟨w.heap.size, 0, none⟩ = some (.bool b) := by rw [hW0]; exact Lib.cell?_alloc_some _ (by simp)
  have hx : s.data.toList[0]'(by omega) = s[0] := by simp only [Array.getElem_toList]; rfl
  obtain ⟨r, hr⟩ : ∃ r, s.data.toList = s[0] :: r := ⟨s.data.toList.drop 1, by rw [← hx]; have := List.drop_eq_getElem_cons (l := s.data.toList) (i := 0) (by omega); rwa [List.drop_zero] at this⟩
  have b2 := isLetter s[0] b
  have b3 : ∀ W, Calls Tryd.prog 153 #[.int .u8 (s[0].toNat : Int)] W fun e w' => e = .returned (.bool (lDigit s[0])) ∧ ∃ q, w' = W.drewN q := fun W => isDigit W W s[0] (Below.refl _ _)
  have k0 : (0 : Int) < (s.size : Int) := by omega
  cases hL : lLetter b s[0] with
  | true =>
    have hv : tokB b s = some (1, s.extract 0 (runL (lWord b) s.data.toList), 0, (runL (lWord b) s.data.toList : Int)) := by
      unfold tokB
      have e : (⟨(s.data.toList.take (runL (lWord b) s.data.toList)).toArray⟩ : ByteArray) = s.extract 0 (runL (lWord b) s.data.toList) := data_inj (by rw [extract_take])
      rw [← e, hr, tokL, if_pos hL]; rfl
    rw [hv]
    have b1 := fun q => RunL.calls 152 #[.pointer (some ⟨w.heap.size, 0, none⟩)] eT (lWord b) s hs (W0.drewN q) (token1 b w.heap.size _ (by rw [show (W0.drewN q).heap.size = W0.heap.size from rfl]; omega) hbc)
    have hn1 := runL_le (lWord b) s.data.toList
    rw [hlen] at hn1
    rw [hL] at b2
    generalize runL (lWord b) s.data.toList = n1 at b1 hn1 ⊢
    have k1 : (0 : Int) ≤ (n1 : Int) := by omega
    have k2 : (n1 : Int) ≤ (s.size : Int) := by omega
    simp only [tokV]
    subst hW0
    clear hr b3 hv hbc hsz0 hx HT hL
    go_enter Tryd.func105, Tryd.ntmps105
    go_wp2_with (first
      | (go_at_call 151; with_reducible refine (b2 _).mono ?_; rintro e w' ⟨rfl, q2, rfl⟩)
      | (go_at_call 148; refine (b1 q2).mono ?_; rintro e w' ⟨rfl, q1, rfl⟩))
    refine bodyPost_ret (v := .tuple #[.agg #[.int .i64 1, .string (s.extract 0 n1), .int .i64 0, .int .i64 0], .int .i64 n1, .bool true]) (by simp [results, Tryd.results105, go_sem]) rfl ⟨rfl, ?_⟩
    exact below_ends1 (pw_below_drewN HB0 _) _ _ _ _
  | false =>
    rw [hL] at b2
    cases hD : lDigit s[0] with
    | true =>
      have hrun : runL lDigit s.data.toList ≠ 0 := by rw [hr, runL, if_pos hD]; exact Nat.succ_ne_zero _
      have hv : tokB b s = numV b s.data.toList := by
        unfold tokB numV
        rw [hr, tokL, if_neg (by rw [hL]; simp), if_pos hD]
        cases numL b (s[0] :: r) <;> rfl
      rw [hv]
      have b1 := fun q => number s b hrun hs (W0.drewN q) (HT.below (pw_below_drewN HB0 q))
      rw [hD] at b3
      subst hW0
      clear hr hv hbc hsz0 hx HT hL hD hrun
      generalize numV b s.data.toList = o at b1 ⊢
      cases o with
      | some p =>
        obtain ⟨a1, a2, a3, a4⟩ := p
        simp only [tokV] at b1 ⊢
        go_enter Tryd.func105, Tryd.ntmps105
        go_wp2_with (first
          | (go_at_call 151; with_reducible refine (b2 _).mono ?_; rintro e w' ⟨rfl, q2, rfl⟩)
          | (go_at_call 153; with_reducible refine (b3 _).mono ?_; rintro e w' ⟨rfl, q3, rfl⟩)
          | (go_at_call 154; refine (b1 (q2 + q3)).mono ?_; rintro e w1 ⟨rfl, hb⟩; clear b1; obtain ⟨hc1, hf1⟩ := bcell hb; have hz1 := hb.size; simp at hz1))
        refine bodyPost_ret (results_ctt rfl _ _ (w.heap.size + 1) 70 #[.int .i64 a1, .string a2, .int .i64 a3, .int .i64 0] (0, 0) _ rfl (put4 (blk_below (blk_drewN (HBK w b) _) hb) _ _ _ _) hu rfl (by kernel_rfl)) rfl ⟨rfl, ?_⟩
        exact below_ends1 (below_then (pw_below_drewN HB0 _) (pw_below_drewN HB0 _).size hb) _ _ _ _
      | none =>
        simp only [tokV] at b1 ⊢
        go_enter Tryd.func105, Tryd.ntmps105
        go_wp2_with (first
          | (go_at_call 151; with_reducible refine (b2 _).mono ?_; rintro e w' ⟨rfl, q2, rfl⟩)
          | (go_at_call 153; with_reducible refine (b3 _).mono ?_; rintro e w' ⟨rfl, q3, rfl⟩)
          | (go_at_call 154; refine (b1 (q2 + q3)).mono ?_; rintro e w1 ⟨rfl, hb⟩; clear b1; obtain ⟨hc1, hf1⟩ := bcell hb; have hz1 := hb.size; simp at hz1))
        refine bodyPost_ret (results_ctt rfl _ _ (w.heap.size + 1) 70 #[.int .i64 0, .string ⟨#[]⟩, .int .i64 0, .int .i64 0] (0, 0) _ rfl (put4 (blk_below (blk_drewN (HBK w b) _) hb) _ _ _ _) hu rfl (by kernel_rfl)) rfl ⟨rfl, ?_⟩
        exact below_ends1 (below_then (pw_below_drewN HB0 _) (pw_below_drewN HB0 _).size hb) _ _ _ _
    | false =>
      rw [hD] at b3
      have e34 : (s[0] == 34) = ((s[0].toNat : Int) == 34) := u8_eq _ 34 (by decide)
      cases hQ : (s[0] == 34) with
      | true =>
        rw [hQ] at e34
        have c5 : ((s[0].toNat : Int) == 34) = true := e34.symm
        have hv : tokB b s = (strL (s.data.toList.drop 1)).map fun n => (3, s.extract 1 (n + 1), 0, (n : Int) + 2) := by
          have e : ∀ n, (⟨((s.data.toList.drop 1).take n).toArray⟩ : ByteArray) = s.extract 1 (n + 1) := fun n => data_inj (by
            rw [ByteArray.data_extract, Array.toList_extract, List.extract_eq_take_drop]
            show (s.data.toList.drop 1).take n = _
            rw [Nat.add_sub_cancel])
          unfold tokB
          have hd : s.data.toList.drop 1 = r := by rw [hr]; rfl
          simp only [← e, hd]
          rw [hr, tokL, if_neg (by rw [hL]; simp), if_neg (by rw [hD]; simp), if_pos (beq_iff_eq.1 hQ)]
          cases strL r <;> rfl
        rw [hv]
        have b1 := fun q => quoted s (by omega) hs (W0.drewN q)
        subst hW0
        clear hr hv hbc hsz0 hx HT hL hD hQ e34
        generalize ((strL (s.data.toList.drop 1)).map fun n => ((3 : Int), s.extract 1 (n + 1), (0 : Int), (n : Int) + 2)) = o at b1 ⊢
        cases o with
        | some p =>
          obtain ⟨a1, a2, a3, a4⟩ := p
          simp only [tokV] at b1 ⊢
          go_enter Tryd.func105, Tryd.ntmps105
          go_wp2_with (first
            | (go_at_call 151; with_reducible refine (b2 _).mono ?_; rintro e w' ⟨rfl, q2, rfl⟩)
            | (go_at_call 153; with_reducible refine (b3 _).mono ?_; rintro e w' ⟨rfl, q3, rfl⟩)
            | (go_at_call 155; refine (b1 (q2 + q3)).mono ?_; rintro e w1 ⟨rfl, hb⟩; clear b1; obtain ⟨hc1, hf1⟩ := bcell hb; have hz1 := hb.size; simp at hz1))
          refine bodyPost_ret (results_ctt rfl _ _ (w.heap.size + 1) 70 #[.int .i64 a1, .string a2, .int .i64 a3, .int .i64 0] (0, 0) _ rfl (put4 (blk_below (blk_drewN (HBK w b) _) hb) _ _ _ _) hu rfl (by kernel_rfl)) rfl ⟨rfl, ?_⟩
          exact below_ends1 (below_then (pw_below_drewN HB0 _) (pw_below_drewN HB0 _).size hb) _ _ _ _
        | none =>
          simp only [tokV] at b1 ⊢
          go_enter Tryd.func105, Tryd.ntmps105
          go_wp2_with (first
            | (go_at_call 151; with_reducible refine (b2 _).mono ?_; rintro e w' ⟨rfl, q2, rfl⟩)
            | (go_at_call 153; with_reducible refine (b3 _).mono ?_; rintro e w' ⟨rfl, q3, rfl⟩)
            | (go_at_call 155; refine (b1 (q2 + q3)).mono ?_; rintro e w1 ⟨rfl, hb⟩; clear b1; obtain ⟨hc1, hf1⟩ := bcell hb; have hz1 := hb.size; simp at hz1))
          refine bodyPost_ret (results_ctt rfl _ _ (w.heap.size + 1) 70 #[.int .i64 0, .string ⟨#[]⟩, .int .i64 0, .int .i64 0] (0, 0) _ rfl (put4 (blk_below (blk_drewN (HBK w b) _) hb) _ _ _ _) hu rfl (by kernel_rfl)) rfl ⟨rfl, ?_⟩
          exact below_ends1 (below_then (pw_below_drewN HB0 _) (pw_below_drewN HB0 _).size hb) _ _ _ _
      | false =>
        rw [hQ] at e34
        have c5 : ((s[0].toNat : Int) == 34) = false := e34.symm
        have hnQ : ¬ s[0] = 34 := by simpa using hQ
        have k3 : (1 : Int) ≤ (s.size : Int) := by omega
        have bC := fun (g : Nat) (W : World) (hc : ∀ j (hj : j < [123, 125, 40, 41, 44, 59, 61, 46, 42, 43, (45 : UInt8)].length), W.cell? ⟨g, j, none⟩ = some (.int .u8 ([123, 125, 40, 41, 44, 59, 61, 46, 42, 43, (45 : UInt8)][j].toNat : Int))) => containsB [123, 125, 40, 41, 44, 59, 61, 46, 42, 43, 45] g 11 W (by decide) (by decide) hc s[0]
        have eS : [123, 125, 40, 41, 44, 59, 61, 46, 42, 43, (45 : UInt8)].contains s[0] = lSign s[0] := rfl
        rw [eS] at bC
        have hv : tokB b s = if lSign s[0] = true then some (4, s.extract 0 1, 0, 1) else none := by
          unfold tokB
          have e : (⟨[s[0]].toArray⟩ : ByteArray) = s.extract 0 1 := data_inj (by rw [extract_take, hr]; rfl)
          rw [← e, hr, tokL, if_neg (by rw [hL]; simp), if_neg (by rw [hD]; simp), if_neg hnQ]
          split <;> rfl
        rw [hv]
        have bD := fun (g : Nat) (W : World) (hg : g = W.heap.size) => bC g (W.alloc (.cells #[.int .u8 123, .int .u8 125, .int .u8 40, .int .u8 41, .int .u8 44, .int .u8 59, .int .u8 61, .int .u8 46, .int .u8 42, .int .u8 43, .int .u8 45] 5 (11, 12))) (fun j hj => by
          rw [hg]
          refine (cell_of_row _ W.heap.size j _ _ _ (blk_new W _)).trans ?_
          match j, hj with
          | 0, _ | 1, _ | 2, _ | 3, _ | 4, _ | 5, _ | 6, _ | 7, _ | 8, _ | 9, _ | 10, _ => rfl)
        have kc : ∀ q, (convert 38 38 (.slice (some ⟨w.heap.size + 1 + 1, 0, none⟩) 11 11)).run Tryd.prog ((W0.drewN q).alloc (.cells #[.int .u8 123, .int .u8 125, .int .u8 40, .int .u8 41, .int .u8 44, .int .u8 59, .int .u8 61, .int .u8 46, .int .u8 42, .int .u8 43, .int .u8 45] 5)) = .ok (.slice (some ⟨w.heap.size + 1 + 1, 0, none⟩) 11 11) ((W0.drewN q).alloc (.cells #[.int .u8 123, .int .u8 125, .int .u8 40, .int .u8 41, .int .u8 44, .int .u8 59, .int .u8 61, .int .u8 46, .int .u8 42, .int .u8 43, .int .u8 45] 5 (11, 12))) := fun q => by
          have h := Lib.run_convert_bytes_const (P := Tryd.prog) (W0.drewN q) 38 5 #[.int .u8 123, .int .u8 125, .int .u8 40, .int .u8 41, .int .u8 44, .int .u8 59, .int .u8 61, .int .u8 46, .int .u8 42, .int .u8 43, .int .u8 45] 11 11 Tryd.underlying38 Tryd.underlying5
          rw [show (W0.drewN q).heap.size = w.heap.size + 1 + 1 from hsz0] at h
          exact h
        clear bC
        subst hW0
        clear hr hv hbc hsz0 hx HT hL hD hQ e34 hnQ eS
        generalize lSign s[0] = sg at bD ⊢
        cases sg with
        | true =>
          rw [if_pos rfl]
          simp only [tokV]
          go_enter Tryd.func105, Tryd.ntmps105
          go_wp2_with (first
            | (go_at_call 151; with_reducible refine (b2 _).mono ?_; rintro e w' ⟨rfl, q2, rfl⟩)
            | (go_at_call 153; with_reducible refine (b3 _).mono ?_; rintro e w' ⟨rfl, q3, rfl⟩)
            | (go_at_call 156; refine (bD _ _ (by simp)).mono ?_; rintro e w' ⟨rfl, q4, rfl⟩))
          refine bodyPost_ret (results_ctt rfl _ _ (w.heap.size + 1) 70 #[.int .i64 4, .string (s.extract 0 1), .int .i64 0, .int .i64 0] (0, 0) _ rfl (put4 (blk_drewN (blk_alloc (blk_drewN (HBK w b) _) _) _) _ _ _ _) hu rfl (by kernel_rfl)) rfl ⟨rfl, ?_⟩
          exact below_ends1 (pw_below_drewN (below_alloc (pw_below_drewN HB0 _) _) _) _ _ _ _
        | false =>
          rw [if_neg (by simp)]
          simp only [tokV]
          go_enter Tryd.func105, Tryd.ntmps105
          go_wp2_with (first
            | (go_at_call 151; with_reducible refine (b2 _).mono ?_; rintro e w' ⟨rfl, q2, rfl⟩)
            | (go_at_call 153; with_reducible refine (b3 _).mono ?_; rintro e w' ⟨rfl, q3, rfl⟩)
            | (go_at_call 156; refine (bD _ _ (by simp)).mono ?_; rintro e w' ⟨rfl, q4, rfl⟩))
          refine bodyPost_ret (results_ctt rfl _ _ (w.heap.size + 1) 70 #[.int .i64 0, .string ⟨#[]⟩, .int .i64 0, .int .i64 0] (0, 0) _ rfl (put4 (blk_drewN (blk_alloc (blk_drewN (HBK w b) _) _) _) _ _ _ _) hu rfl (by kernel_rfl)) rfl ⟨rfl, ?_⟩
          exact below_ends1 (pw_below_drewN (below_alloc (pw_below_drewN HB0 _) _) _) _ _ _ _
end Go.Proofs.YtmpmfaaodjmpjaaDoor.TokL

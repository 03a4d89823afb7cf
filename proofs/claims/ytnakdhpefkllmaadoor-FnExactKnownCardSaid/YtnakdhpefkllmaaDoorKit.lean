import Derived.Test.YtnakdhpefkllmaaDoorWWords
import Derived.Test.YtnakdhpefkllmaaDoorWMore
import Derived.Laws.BitsLemmas
/- Plain lemmas over rounds, bytes and wrapped numbers: no program in sight. -/
namespace Go.Proofs.YtnakdhpefkllmaaDoor.Kit
open Go.RowKit Go.Proofs.YtnakdhpefkllmaaDoorW.PrintWords Go.Proofs.YtnakdhpefkllmaaDoorW.PrintMore

theorem w64 {x : Int} (h0 : -9223372036854775808 ≤ x) (h1 : x < 9223372036854775808) : wrap64 x = x := by
  unfold wrap64; omega
theorem Ev_succ {α : Type} {g : Nat → Option α} {r : α} (h : Ev (fun k => g (k + 1)) r) : Ev g r := Ev.step (fun _ => rfl) h
theorem Ev_some {α : Type} {a r : α} (h : a = r) : Ev (fun _ => some a) r := h ▸ Ev.now _
theorem Ev_call {α β : Type} {g : Nat → Option α} {f : Nat → α → Option β} {a : α} {r : β} (h : Ev g a) (k : Ev (fun n => f n a) r) : Ev (fun n => (g n).bind (f n)) r := h.bind k
theorem wf_i64 {x : Int} (h : (Lit.int .i64 x).wf = true) : -9223372036854775808 ≤ x ∧ x < 9223372036854775808 := by
  simp only [Lit.wf, IntKind.min, IntKind.max, IntKind.signed, IntKind.bits, Bool.and_eq_true, decide_eq_true_eq, if_true] at h
  omega
theorem wf_u8 {x : Int} (h : (Lit.int .u8 x).wf = true) : 0 ≤ x ∧ x < 256 := by
  simp [Lit.wf, IntKind.min, IntKind.max, IntKind.signed, IntKind.bits] at h
  omega
theorem tdiv_nn {a b : Int} (h : 0 ≤ a) : Int.tdiv a b = a / b := Int.tdiv_eq_ediv_of_nonneg h
theorem tmod_nn {a b : Int} (h : 0 ≤ a) : Int.tmod a b = a % b := Int.tmod_eq_emod_of_nonneg h
theorem wraps_i64 (n : Int) (h₀ : 0 ≤ n) (h₁ : n < 2 ^ 63) : IntKind.i64.wrap n = n := by rw [IntKind.wrap_i64]; omega
theorem u8_and15 {x : Int} (h₀ : 0 ≤ x) (h₁ : x < 256) : Go.bits .and .u8 x 15 = x % 16 := bits_mask .u8 8 (by decide) wraps_u8 4 (by decide) x h₀ h₁
theorem i64_and127 {x : Int} (h₀ : 0 ≤ x) (h₁ : x < 9223372036854775808) : Go.bits .and .i64 x 127 = x % 128 := bits_mask .i64 63 (by decide) wraps_i64 7 (by decide) x h₀ h₁
theorem i64_or_low {x y : Int} (i : Nat) (hx₀ : 0 ≤ x) (hx : x % 2 ^ i = 0) (hx₁ : x < 9223372036854775808) (hy₀ : 0 ≤ y) (hy : y < 2 ^ i) (hy₁ : y < 9223372036854775808) : Go.bits .or .i64 x y = x + y :=
  bits_join .i64 63 (by decide) wraps_i64 i x y hx₀ hx hx₁ hy₀ hy hy₁
theorem bits_or_comm (k : IntKind) (a b : Int) : Go.bits .or k a b = Go.bits .or k b a := by
  simp only [Go.bits]; rw [BitVec.or_comm]
theorem i64_or_high {x y : Int} (i : Nat) (hx₀ : 0 ≤ x) (hx : x % 2 ^ i = 0) (hx₁ : x < 9223372036854775808) (hy₀ : 0 ≤ y) (hy : y < 2 ^ i) (hy₁ : y < 9223372036854775808) : Go.bits .or .i64 y x = y + x := by
  rw [bits_or_comm, i64_or_low i hx₀ hx hx₁ hy₀ hy hy₁]; omega
/-- The end of a law that holds one text against another. -/
theorem Ev_same {a b : Nat → Option ByteArray} {r : ByteArray} (h1 : Ev a r) (h2 : Ev b r) : Ev (fun k => (a k).bind fun t => (b k).bind fun u => if u.toList = t.toList then some true else some false) true := by
  refine Ev_call h1 (Ev_call h2 ?_)
  simp only [if_true]
  exact Ev.now _

/-! Lists that are filled place by place -/
theorem getD_at {α : Type} (l : List α) (z : α) (i : Nat) (h : i < l.length) : l.getD i z = l[i] := by
  rw [List.getD_eq_getElem?_getD, List.getElem?_eq_getElem h]; rfl
theorem set_step {α β : Type} (l : List α) (f : α → β) (z : β) (z0 : α) (i d : Nat) (h : i + (d + 1) = l.length) :
    ((l.take i).map f ++ List.replicate (d + 1) z).set i (f (l.getD i z0)) = (l.take (i + 1)).map f ++ List.replicate d z := by
  have hi : i < l.length := by omega
  have hl : ((l.take i).map f).length = i := by simp; omega
  rw [List.set_append_right _ _ (by omega), hl, Nat.sub_self, List.replicate_succ, List.set_cons_zero, getD_at l z0 i hi, List.take_succ_eq_append_getElem hi, List.map_append, List.append_assoc]
  rfl
theorem fill_done {α β : Type} (l : List α) (f : α → β) (z : β) (i : Nat) (h : i = l.length) : (l.take i).map f ++ List.replicate 0 z = l.map f := by
  rw [h, List.take_length]; simp

theorem set_mid {α : Type} (P R : List α) (a b : α) : (P ++ a :: R).set ((P.length : Int)).toNat b = P ++ b :: R := by
  rw [Int.toNat_natCast, List.set_append_right _ _ (Nat.le_refl _), Nat.sub_self, List.set_cons_zero]
theorem getD_mid {α : Type} (P R : List α) (a z : α) : (P ++ a :: R).getD ((P.length : Int)).toNat z = a := by
  rw [Int.toNat_natCast, List.getD_eq_getElem?_getD, List.getElem?_append_right (Nat.le_refl _), Nat.sub_self]; rfl
theorem len_mid {α : Type} (P R : List α) (a : α) : (P ++ a :: R).length = P.length + 1 + R.length := by
  simp only [List.length_append, List.length_cons]; omega

/-! Bytes -/
theorem B_len (s : ByteArray) : (bytesOf s).length = s.size := bytesOf_length s
theorem bt_B (s : ByteArray) (i : Int) : bt s i = (bytesOf s).getD i.toNat 0 := (rd_bytesOf s i).symm
theorem B_range (s : ByteArray) : ∀ x ∈ bytesOf s, 0 ≤ x ∧ x < 256 := by
  intro x hx
  simp only [bytesOf, List.mem_map] at hx
  obtain ⟨b, _, rfl⟩ := hx
  have := b.toNat_lt
  omega
theorem toList_data (s : ByteArray) : s.toList = s.data.toList := ByteArray.toList_eq s
theorem data_inj {a b : ByteArray} (h : a.data.toList = b.data.toList) : a = b := by
  cases a; cases b; simp only at h; congr 1; exact Array.toList_inj.1 h
theorem toList_inj {a b : ByteArray} : a.toList = b.toList ↔ a = b := by
  rw [toList_data, toList_data]; exact ⟨data_inj, fun h => h ▸ rfl⟩
theorem str_B (s : ByteArray) : strOfNums (bytesOf s) = s := by
  apply data_inj
  simp only [strOfNums, bytesOf, List.map_map]
  have : (fun n : Int => UInt8.ofNat n.toNat) ∘ (fun b : UInt8 => (b.toNat : Int)) = id := by funext b; simp
  rw [this, List.map_id]
theorem B_str (l : List Int) (h : ∀ x ∈ l, 0 ≤ x ∧ x < 256) : bytesOf (strOfNums l) = l := by
  simp only [strOfNums, bytesOf, List.map_map]
  rw [List.map_congr_left (g := id)]
  · exact List.map_id _
  · intro x hx
    have := h x hx
    have e : x.toNat % 256 = x.toNat := Nat.mod_eq_of_lt (by omega)
    simp [e]; omega
theorem B_inj {a b : ByteArray} : bytesOf a = bytesOf b ↔ a = b := ⟨fun h => by rw [← str_B a, h, str_B], fun h => h ▸ rfl⟩
theorem toList_B {a b : ByteArray} : a.toList = b.toList ↔ bytesOf a = bytesOf b := toList_inj.trans B_inj.symm
theorem data_app (a b : ByteArray) : (a ++ b).data.toList = a.data.toList ++ b.data.toList := by
  rw [ByteArray.data_append, Array.toList_append]
theorem B_app (a b : ByteArray) : bytesOf (a ++ b) = bytesOf a ++ bytesOf b := by
  simp only [bytesOf, data_app, List.map_append]
theorem str_app (a b : List Int) : strOfNums a ++ strOfNums b = strOfNums (a ++ b) := by
  apply data_inj
  rw [data_app]; simp [strOfNums]
theorem B_ext (s : ByteArray) (i j : Nat) : bytesOf (s.extract i j) = ((bytesOf s).take j).drop i := by
  simp only [bytesOf, ByteArray.data_extract, Array.toList_extract, List.extract_eq_take_drop, List.map_take, List.map_drop, List.drop_take]
theorem size_app (a b : ByteArray) : (a ++ b).size = a.size + b.size := by
  rw [← B_len, B_app, List.length_append, B_len, B_len]

end Go.Proofs.YtnakdhpefkllmaaDoor.Kit

import Derived.Test.YtopicidanlienaaWWords
import Derived.Test.YtopicidanlienaaOrdL
/- Five chains (an empty slice, a field's address, its value, the appended row) whose order is drawn: what holds of one chain. -/
namespace Go.Proofs.Ytopicidanlienaa.ChainL
open Go Go.RowKit Go.Proofs.YtopicidanlienaaW.PrintWords Go.Proofs.Ytopicidanlienaa.OrdL
variable {α : Type}
structure Ch (d : Kd α) (e : TypeId) (base g : Nat) (src : Value) (l : List α) (c : Nat) (L : Array Bool) (a : Act) (W : World) : Prop where
 e0 : L.getD (4 * c) false = true → ∃ v, a.tmps[3 + 4 * c]? = some v ∧ (L.getD (4 * c + 3) false = false → d.R e W base (fun _ => True) v [])
 e1 : L.getD (4 * c + 1) false = true → a.tmps[4 + 4 * c]? = some (.pointer (some ⟨g, c, none⟩))
 e2 : L.getD (4 * c + 2) false = true → a.tmps[5 + 4 * c]? = some src
 e3 : L.getD (4 * c + 3) false = true → ∃ v, a.tmps[6 + 4 * c]? = some v ∧ d.R e W base (fun _ => True) v l
theorem Ch.frame {d : Kd α} {e : TypeId} {base g : Nat} {src : Value} {l : List α} {c : Nat} {L L' : Array Bool} {a a' : Act} {W W' : World} (h : Ch d e base g src l c L a W)
  (hR : ∀ v xs, d.R e W base (fun _ => True) v xs → d.R e W' base (fun _ => True) v xs) (ha : ∀ t, 3 + 4 * c ≤ t → t ≤ 6 + 4 * c → a'.tmps[t]? = a.tmps[t]?) (hL : ∀ j, 4 * c ≤ j → j ≤ 4 * c + 3 → L'.getD j false = L.getD j false) : Ch d e base g src l c L' a' W' := by
 refine ⟨fun q => ?_, fun q => ?_, fun q => ?_, fun q => ?_⟩
 ·rw [hL _ (by omega) (by omega)] at q
  obtain ⟨v, h1, h2⟩ := h.e0 q
  refine ⟨v, by rw [ha _ (by omega) (by omega), h1], fun k => hR _ _ (h2 ?_)⟩
  rwa [hL _ (by omega) (by omega)] at k
 ·rw [hL _ (by omega) (by omega)] at q
  rw [ha _ (by omega) (by omega), h.e1 q]
 ·rw [hL _ (by omega) (by omega)] at q
  rw [ha _ (by omega) (by omega), h.e2 q]
 ·rw [hL _ (by omega) (by omega)] at q
  obtain ⟨v, h1, h2⟩ := h.e3 q
  exact ⟨v, by rw [ha _ (by omega) (by omega), h1], hR _ _ h2⟩
theorem put_ne {a : Act} {t k : Nat} {v : Value} (h : t ≠ k) : (a.put (some t) v).tmps[k]? = a.tmps[k]? := by
 simp only [Act.put, Array.getElem?_setIfInBounds_ne h]
theorem put_eq {a : Act} {t : Nat} {v : Value} (h : t < a.tmps.size) : (a.put (some t) v).tmps[t]? = some v := by
 simp [Act.put, h]
theorem put_size {a : Act} {x : Option Nat} {v : Value} : (a.put x v).tmps.size = a.tmps.size := by
 cases x <;> simp [Act.put]
theorem set_ne {L : Array Bool} {i j : Nat} (h : i ≠ j) : (L.setIfInBounds i true).getD j false = L.getD j false := by
 rw [Array.getD_eq_getD_getElem?, Array.getD_eq_getD_getElem?, Array.getElem?_setIfInBounds_ne h]
theorem Ch.own0 {d : Kd α} {e : TypeId} {base g : Nat} {src : Value} {l : List α} {c : Nat} {L : Array Bool} {a : Act} {W W' : World} (h : Ch d e base g src l c L a W) (hs : 6 + 4 * c < a.tmps.size)
  (hR : ∀ v xs, d.R e W base (fun _ => True) v xs → d.R e W' base (fun _ => True) v xs) {v : Value} (hv : d.R e W' base (fun _ => True) v []) : Ch d e base g src l c (L.setIfInBounds (4 * c) true) (a.put (some (3 + 4 * c)) v) W' := by
 refine ⟨fun _ => ⟨v, put_eq (by omega), fun _ => hv⟩, fun q => ?_, fun q => ?_, fun q => ?_⟩
 ·rw [set_ne (by omega)] at q; rw [put_ne (by omega)]; exact h.e1 q
 ·rw [set_ne (by omega)] at q; rw [put_ne (by omega)]; exact h.e2 q
 ·rw [set_ne (by omega)] at q
  obtain ⟨u, h1, h2⟩ := h.e3 q
  exact ⟨u, by rw [put_ne (by omega), h1], hR _ _ h2⟩
theorem Ch.own1 {d : Kd α} {e : TypeId} {base g : Nat} {src : Value} {l : List α} {c : Nat} {L : Array Bool} {a : Act} {W : World} (h : Ch d e base g src l c L a W) (hs : 6 + 4 * c < a.tmps.size) :
  Ch d e base g src l c (L.setIfInBounds (4 * c + 1) true) (a.put (some (4 + 4 * c)) (.pointer (some ⟨g, c, none⟩))) W := by
 refine ⟨fun q => ?_, fun _ => put_eq (by omega), fun q => ?_, fun q => ?_⟩
 ·rw [set_ne (by omega)] at q; rw [put_ne (by omega), set_ne (by omega)]; exact h.e0 q
 ·rw [set_ne (by omega)] at q; rw [put_ne (by omega)]; exact h.e2 q
 ·rw [set_ne (by omega)] at q; rw [put_ne (by omega)]; exact h.e3 q
theorem Ch.own2 {d : Kd α} {e : TypeId} {base g : Nat} {src : Value} {l : List α} {c : Nat} {L : Array Bool} {a : Act} {W : World} (h : Ch d e base g src l c L a W) (hs : 6 + 4 * c < a.tmps.size) :
  Ch d e base g src l c (L.setIfInBounds (4 * c + 2) true) (a.put (some (5 + 4 * c)) src) W := by
 refine ⟨fun q => ?_, fun q => ?_, fun _ => put_eq (by omega), fun q => ?_⟩
 ·rw [set_ne (by omega)] at q; rw [put_ne (by omega), set_ne (by omega)]; exact h.e0 q
 ·rw [set_ne (by omega)] at q; rw [put_ne (by omega)]; exact h.e1 q
 ·rw [set_ne (by omega)] at q; rw [put_ne (by omega)]; exact h.e3 q
theorem Ch.own3 {d : Kd α} {e : TypeId} {base g : Nat} {src : Value} {l : List α} {c : Nat} {L : Array Bool} {a : Act} {W W' : World} (h : Ch d e base g src l c L a W) (hs : 6 + 4 * c < a.tmps.size) (hz : 4 * c + 3 < L.size)
  {v : Value} (hv : d.R e W' base (fun _ => True) v l) : Ch d e base g src l c (L.setIfInBounds (4 * c + 3) true) (a.put (some (6 + 4 * c)) v) W' := by
 refine ⟨fun q => ?_, fun q => ?_, fun q => ?_, fun _ => ⟨v, put_eq (by omega), hv⟩⟩
 ·rw [set_ne (by omega)] at q
  obtain ⟨u, h1, _⟩ := h.e0 q
  refine ⟨u, by rw [put_ne (by omega), h1], fun k => ?_⟩
  rw [Array.getD_eq_getD_getElem?, Array.getElem?_setIfInBounds_self_of_lt hz] at k
  cases k
 ·rw [set_ne (by omega)] at q; rw [put_ne (by omega)]; exact h.e1 q
 ·rw [set_ne (by omega)] at q; rw [put_ne (by omega)]; exact h.e2 q
end Go.Proofs.Ytopicidanlienaa.ChainL

/- Structs of four fields as arguments; rows of structs as flat cells. -/
import Derived.Test.YtdnlenngbaaeaaaDoorL3
set_option linter.unusedVariables false
set_option linter.unusedSimpArgs false
namespace Go.Cn
open Go.RowKit
theorem opens_struct4 {P : Program} {t : TypeId} {f0 f1 f2 f3 : Field} {α β γ δ : Type} {R : World → List Value → α → Prop} {S : World → List Value → β → Prop} {T : World → List Value → γ → Prop} {U : World → List Value → δ → Prop} (n0 n1 n2 n3 : Nat) (h : P.underlying t = some (.struct #[f0, f1, f2, f3]))
    (h0 : Opens P f0.type R) (h1 : Opens P f1.type S) (h2 : Opens P f2.type T) (h3 : Opens P f3.type U)
    (o0 : f0.offset = 0) (c0 : P.cellsOf f0.type = n0) (o1 : f1.offset = n0) (c1 : P.cellsOf f1.type = n1) (o2 : f2.offset = n0 + n1) (c2 : P.cellsOf f2.type = n2) (o3 : f3.offset = n0 + n1 + n2) (c3 : P.cellsOf f3.type = n3) (ct : P.cellsOf t = n0 + n1 + n2 + n3) : Opens P t (RPair n0 R (RPair n1 S (RPair n2 T U))) := fun H enc w spare held fuel cs x hx => by
  obtain ⟨y0, y1, y2, y3, n, _, hl, e0, e1, e2, e3⟩ := Go.Joins.trod_struct4 h hx
  obtain ⟨a, ha⟩ := h0 H enc w spare held n _ _ e0
  obtain ⟨b, hb⟩ := h1 H enc w spare held n _ _ e1
  obtain ⟨c, hc⟩ := h2 H enc w spare held n _ _ e2
  obtain ⟨d, hd⟩ := h3 H enc w spare held n _ _ e3
  refine ⟨(a, b, c, d), ?_, ?_, ?_, ?_⟩
  · rw [o0, c0] at ha; simpa using ha
  · rw [o1, c1] at hb; exact hb
  · rw [o2, c2] at hc
    rw [List.drop_drop]; exact hc
  · rw [o3, c3, List.take_of_length_le (by simp; omega)] at hd
    rw [List.drop_drop, List.drop_drop, ← Nat.add_assoc]; exact hd
theorem flat_len {α : Type} {enc : α → List Value} {sz : Nat} (hz : ∀ x, (enc x).length = sz) (l : List α) : (l.flatMap enc).length = l.length * sz := by
  induction l with
  | nil => simp
  | cons a l ih => rw [List.flatMap_cons, List.length_append, hz, ih, List.length_cons, Nat.succ_mul, Nat.add_comm]
theorem flat_get {α : Type} {enc : α → List Value} {sz : Nat} (hz : ∀ x, (enc x).length = sz) : ∀ (l : List α) (i : Nat) (hi : i < l.length) (j : Nat), j < sz → (l.flatMap enc)[i * sz + j]? = (enc l[i])[j]?
  | a :: l, 0, _, j, hj => by
    rw [List.flatMap_cons, Nat.zero_mul, Nat.zero_add, List.getElem?_append_left (by rw [hz]; exact hj)]; rfl
  | a :: l, i + 1, hi, j, hj => by
    rw [List.flatMap_cons, List.getElem?_append_right (by rw [hz, Nat.succ_mul]; omega), hz, Nat.succ_mul]
    have e : i * sz + sz + j - sz = i * sz + j := by omega
    rw [e, flat_get hz l i (by simpa using hi) j hj]; rfl
theorem Reads.of_rows {sz : Nat} (hsz : 0 < sz) {α : Type} {enc : α → List Value} (hz : ∀ x, (enc x).length = sz) {R : World → List Value → α → Prop} (hR : ∀ w cs x, R w cs x → cs.length = sz → cs = enc x) {w : World} {A : Option Addr} {l : List α} (h : RRow sz R w A l) : Reads w A (l.flatMap enc) := by
  by_cases hl : 0 < l.length
  · obtain ⟨b, off, rfl, _, hc⟩ := h.flat hsz hl
    refine .inr ⟨b, off, rfl, fun j hj => ?_⟩
    rw [flat_len hz] at hj
    have e : j = j / sz * sz + j % sz := by rw [Nat.mul_comm]; exact (Nat.div_add_mod j sz).symm
    have hi : j / sz < l.length := by rw [Nat.div_lt_iff_lt_mul hsz]; exact hj
    have hm : j % sz < sz := Nat.mod_lt _ hsz
    obtain ⟨cs, h1, h3, h2⟩ := hc (j / sz) hi
    have h4 := h2 (j % sz) hm
    rw [hR _ _ _ h1 h3] at h4
    rw [← flat_get hz l (j / sz) hi (j % sz) hm, ← e] at h4
    exact h4
  · exact .inl (by rw [List.eq_nil_of_length_eq_zero (show l.length = 0 by omega)]; rfl)
/-- A cell of the i-th. -/
theorem Reads.at {sz : Nat} {α : Type} [Inhabited α] {enc : α → List Value} (hz : ∀ x, (enc x).length = sz) {w : World} {A : Option Addr} {l : List α} (h : Reads w A (l.flatMap enc)) {i : Nat} (hi : i < l.length) (hsz : 0 < sz) : ∃ g o, A = some ⟨g, o, none⟩ ∧ ∀ j, j < sz → w.cell? ⟨g, o + (i * sz + j), none⟩ = (enc (l.getD i default))[j]? := by
  have hp : ∀ j, j < sz → i * sz + j < (l.flatMap enc).length := by
    intro j hj
    rw [flat_len hz]
    have : (i + 1) * sz ≤ l.length * sz := Nat.mul_le_mul_right _ (by omega)
    rw [Nat.succ_mul] at this; omega
  rcases h with h | ⟨g, o, rfl, h⟩
  · have := hp 0 hsz
    rw [h] at this; simp at this
  · refine ⟨g, o, rfl, fun j hj => ?_⟩
    rw [h _ (hp j hj), flat_get hz l i hi j hj]
    simp [hi]
end Go.Cn

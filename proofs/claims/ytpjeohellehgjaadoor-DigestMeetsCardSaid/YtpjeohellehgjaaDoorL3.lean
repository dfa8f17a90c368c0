/- Reading rows: `Reads w A xs`: the one-cell things xs lie at A in w. Laws of it. -/
import Derived.Test.YtpjeohellehgjaaDoorL1
set_option linter.unusedVariables false
set_option linter.unusedSimpArgs false
namespace Go.Cn
open Go.RowKit
def Reads (w : World) (A : Option Addr) (xs : List Value) : Prop := xs = [] ∨ ∃ g o, A = some ⟨g, o, none⟩ ∧ ∀ j, j < xs.length → w.cell? ⟨g, o + j, none⟩ = xs[j]?
theorem Reads.src {w : World} {A : Option Addr} {xs : List Value} (h : Reads w A xs) : Src w A xs := fun j u hj => by
  have hlt := (List.getElem?_eq_some_iff.1 hj).1
  rcases h with rfl | ⟨g, o, rfl, h⟩
  · simp at hlt
  · exact ⟨_, rfl, by rw [Addr.add_lit, h j hlt]; exact hj⟩
theorem Reads.chg {S : Nat → Prop} {w w' : World} {A : Option Addr} {xs : List Value} (h : Reads w A xs) (c : Chg S w w') (hn : ∀ ad, A = some ad → ¬ S ad.block) : Reads w' A xs := by
  rcases h with rfl | ⟨g, o, rfl, h⟩
  · exact .inl rfl
  · refine .inr ⟨g, o, rfl, fun j hj => ?_⟩
    have h1 := h j hj
    rw [List.getElem?_eq_getElem hj] at h1 ⊢
    exact c.cell h1 (show ¬ S g from hn ⟨g, o, none⟩ rfl)
theorem Reads.quiet {w w' : World} {A : Option Addr} {xs : List Value} (h : Reads w A xs) (c : Chg (fun _ => False) w w') : Reads w' A xs := h.chg c (fun _ _ h => h)
theorem Reads.of_row {α : Type} {enc : α → Value} {R : World → List Value → α → Prop} (hR : ∀ w cs x, R w cs x → cs = [enc x]) {w : World} {A : Option Addr} {l : List α} (h : RRow 1 R w A l) : Reads w A (l.map enc) := by
  by_cases hl : 0 < l.length
  · obtain ⟨b, off, rfl, _, hc⟩ := h.one hR hl
    refine .inr ⟨b, off, rfl, fun j hj => ?_⟩
    simp at hj
    rw [hc j hj]; simp [hj]
  · exact .inl (by rw [List.eq_nil_of_length_eq_zero (show l.length = 0 by omega)]; rfl)
theorem Reads.of_own {w : World} {e : TypeId} {A : Option Addr} {n c : Nat} {xs : List Value} {F : Option Nat} (h : Own w e 1 (.slice A n c) n xs F) : Reads w A xs := by
  rcases h with ⟨_, _, rfl, _⟩ | ⟨g, cap, hv, _, hr⟩
  · exact .inl rfl
  · cases hv
    refine .inr ⟨g, 0, rfl, fun j hj => ?_⟩
    have := hr.1
    rw [Nat.zero_add]
    exact hr.cell j (by omega)
theorem Reads.get {α : Type} [Inhabited α] {enc : α → Value} {w : World} {A : Option Addr} {l : List α} (h : Reads w A (l.map enc)) {j : Nat} (hj : j < l.length) : ∃ g o, A = some ⟨g, o, none⟩ ∧ w.cell? ⟨g, o + j, none⟩ = some (enc (l.getD j default)) := by
  rcases h with h | ⟨g, o, rfl, h⟩
  · rw [List.map_eq_nil_iff] at h; subst h; simp at hj
  · refine ⟨g, o, rfl, ?_⟩
    rw [h j (by simpa using hj)]
    simp [hj]
theorem Reads.all {α : Type} [Inhabited α] {enc : α → Value} {w : World} {A : Option Addr} {l : List α} (h : Reads w A (l.map enc)) (hl : 0 < l.length) : ∃ g o, A = some ⟨g, o, none⟩ ∧ ∀ j, j < l.length → w.cell? ⟨g, o + j, none⟩ = some (enc (l.getD j default)) := by
  rcases h with h | ⟨g, o, rfl, h⟩
  · rw [List.map_eq_nil_iff] at h; subst h; simp at hl
  · refine ⟨g, o, rfl, fun j hj => ?_⟩
    rw [h j (by simpa using hj)]
    simp [hj]
theorem Reads.below {w w' : World} {A : Option Addr} {xs : List Value} (h : Reads w A xs) (hb : Below w.heap.size w w') : Reads w' A xs := by
  rcases h with rfl | ⟨g, o, rfl, h⟩
  · exact .inl rfl
  · refine .inr ⟨g, o, rfl, fun j hj => ?_⟩
    have h1 := h j hj
    rw [List.getElem?_eq_getElem hj] at h1 ⊢
    exact below_cell hb rfl _ _ h1
/-- Quiet: what was there stays; blocks may have come. -/
abbrev Qt (w w' : World) : Prop := Chg (fun _ => False) w w'
theorem Qt.below {w w' : World} (h : Qt w w') : Below w.heap.size w w' := Chg.below h (Nat.le_refl _) (fun _ h => h.elim)
theorem Qt.drew {w w1 : World} (h : Qt w w1) : Qt w w1.drew := Chg.drew h
theorem Qt.refl {w : World} : Qt w w := Chg.refl _ _
/-- What is turned was not there at the beginning. -/
theorem Qt.then {S : Nat → Prop} {w w1 w2 : World} (h : Qt w w1) (c : Chg S w1 w2) (hS : ∀ k, S k → w.heap.size ≤ k) : Qt w w2 := Chg.then h c (fun k hk => .inr (hS k hk))
/-! ### a place in a row, from any number -/
def place (i : Int) (n : Nat) : Nat := ((if i < 0 then 0 else i) % (n : Int)).toNat
theorem place_lt (i : Int) {n : Nat} (h : 0 < n) : place i n < n := by
  unfold place
  have h1 : 0 ≤ (if i < 0 then 0 else i) % (n : Int) := Int.emod_nonneg _ (by omega)
  have h2 : (if i < 0 then 0 else i) % (n : Int) < n := Int.emod_lt_of_pos _ (by omega)
  omega
theorem place_eq (i : Int) {n : Nat} (h : 0 < n) : (if i < 0 then 0 else i) % (n : Int) = (place i n : Int) := by
  unfold place
  have h1 : 0 ≤ (if i < 0 then 0 else i) % (n : Int) := Int.emod_nonneg _ (by omega)
  omega
end Go.Cn

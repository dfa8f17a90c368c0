/- Patterns, plain. No program in sight. -/
import Derived.Test.YtnlfnkblhnnaoaaDoorPath2
set_option linter.unusedVariables false
set_option linter.unusedSimpArgs false
namespace Go.Cn
theorem getD_lt {α : Type} (l : List α) (d : α) {i : Nat} (h : i < l.length) : l.getD i d = l[i] := by
  rw [List.getD_eq_getElem?_getD, List.getElem?_eq_getElem h]; rfl
theorem all_iff (f : List UInt8 → Bool) (l : List (List UInt8)) : l.all f = true ↔ ∀ i, i < l.length → f (l.getD i []) = true := by
  rw [List.all_eq_true]
  constructor
  · intro h i hi; rw [getD_lt l [] hi]; exact h _ (List.getElem_mem hi)
  · intro h x hx
    obtain ⟨i, hi, rfl⟩ := List.mem_iff_getElem.1 hx
    have := h i hi
    rwa [getD_lt l [] hi] at this
theorem longer_nil : longerL [] = false := rfl
theorem longer_pos {q : List (List UInt8)} (h : longerL q = true) : q ≠ [] := fun e => by subst e; simp [longer_nil] at h
theorem body_iff (q : List (List UInt8)) : (bodyL q).all starB = true ↔ ∀ i, i < q.length → starB (q.getD i []) = true ∨ (q.getD i [] = [42, 42] ∧ i = q.length - 1) := by
  rw [all_iff]
  unfold bodyL
  cases hl : longerL q with
  | true =>
    have hne := longer_pos hl
    have hpos := List.length_pos_iff.2 hne
    have hlast : q.getD (q.length - 1) [] = [42, 42] := of_decide_eq_true hl
    rw [if_pos rfl]
    have hlen : (q.take (q.length - 1)).length = q.length - 1 := by rw [List.length_take]; omega
    have hg : ∀ i, i < q.length - 1 → (q.take (q.length - 1)).getD i [] = q.getD i [] := fun i hi => by
      rw [getD_lt _ _ (by omega), getD_lt _ _ (by omega), List.getElem_take]
    rw [hlen]
    constructor
    · intro h i hi
      by_cases e : i = q.length - 1
      · right; subst e; exact ⟨hlast, rfl⟩
      · left; have := h i (by omega); rwa [hg i (by omega)] at this
    · intro h i hi
      rw [hg i hi]
      rcases h i (by omega) with h | h
      · exact h
      · omega
  | false =>
    rw [if_neg (by decide)]
    constructor
    · intro h i hi; exact .inl (h i hi)
    · intro h i hi
      rcases h i hi with h | ⟨h, e⟩
      · exact h
      · subst e
        have : longerL q = true := decide_eq_true h
        rw [hl] at this; cases this
theorem fits_iff (b ps : List (List UInt8)) (h : b.length ≤ ps.length) : fitsL b ps = true ↔ ∀ j, j < b.length → b.getD j [] = [42] ∨ b.getD j [] = ps.getD j [] := by
  unfold fitsL
  rw [List.all_eq_true]
  constructor
  · intro hh j hj
    have hz : j < (b.zip ps).length := by rw [List.length_zip]; omega
    have := hh _ (List.getElem_mem hz)
    rw [List.getElem_zip] at this
    rw [getD_lt _ _ hj, getD_lt _ _ (by omega)]
    simpa using this
  · intro hh x hx
    obtain ⟨j, hj, rfl⟩ := List.mem_iff_getElem.1 hx
    rw [List.length_zip] at hj
    have := hh j (by omega)
    rw [getD_lt _ _ (by omega), getD_lt _ _ (by omega)] at this
    rw [List.getElem_zip]
    simpa using this
theorem any_nostar (l : List (List UInt8)) : (!(l.any fun p => !starB p)) = l.all starB := by
  rw [List.all_eq_not_any_not]
end Go.Cn

/- Where two paths part, plain; stars. No program in sight. -/
import Derived.Test.YtnlfnkblhnnaoaaDoorPath4
set_option linter.unusedVariables false
set_option linter.unusedSimpArgs false
namespace Go.Cn
theorem prefix_shared {α : Type} [DecidableEq α] : ∀ (x y : List α) (i : Nat), i ≤ x.length → x.take i <+: y → i ≤ sharedN x y
  | [], y, i, h, _ => by simp at h; omega
  | a :: x, [], 0, _, _ => by omega
  | a :: x, [], i + 1, _, h => by
    rw [List.take_succ_cons] at h
    obtain ⟨t, h⟩ := h
    cases h
  | a :: x, b :: y, 0, _, _ => by omega
  | a :: x, b :: y, i + 1, hi, h => by
    rw [List.take_succ_cons] at h
    obtain ⟨t, h⟩ := h
    simp only [List.cons_append, List.cons.injEq] at h
    have := prefix_shared x y i (by simpa using hi) ⟨t, h.2⟩
    unfold sharedN
    rw [if_pos h.1]; omega
theorem shared_prefix {α : Type} [DecidableEq α] (x y : List α) (i : Nat) (h : i ≤ sharedN x y) : x.take i <+: y ∧ x.take i <+: x.take (sharedN x y) := by
  have h2 : x.take i <+: x.take (sharedN x y) := List.take_prefix_take_left h
  refine ⟨?_, h2⟩
  rw [sharedN_take] at h2
  exact h2.trans (List.take_prefix _ _)
theorem common_eq {a b : List UInt8} (ha : (parseL a).1 = 0) (hb : (parseL b).1 = 0) : commonL a b = pathL ((parseL a).2.take (sharedN (parseL a).2 (parseL b).2)) := if_pos ⟨ha, hb⟩
theorem common_under1 {a b : List UInt8} (ha : (parseL a).1 = 0) (hb : (parseL b).1 = 0) : underL a (commonL a b) = true := by
  rw [common_eq ha hb]; exact under_zone ha _ (sharedN_le _ _).1
theorem common_under2 {a b : List UInt8} (ha : (parseL a).1 = 0) (hb : (parseL b).1 = 0) : underL b (commonL a b) = true := by
  rw [common_eq ha hb, sharedN_take]; exact under_zone hb _ (sharedN_le _ _).2
theorem sharedN_self {α : Type} [DecidableEq α] (x : List α) : sharedN x x = x.length := (sharedN_full x x).2 (List.prefix_refl x)
theorem common_self {a : List UInt8} (ha : (parseL a).1 = 0) : commonL a a = a := by
  rw [common_eq ha ha, sharedN_self, List.take_length]; exact path_of (parseL_ok ha).1
theorem common_zone {a b : List UInt8} (ha : (parseL a).1 = 0) (hb : (parseL b).1 = 0) (i : Nat) (hi : i ≤ (parseL a).2.length) :
    underL b (pathL ((parseL a).2.take i)) = underL (commonL a b) (pathL ((parseL a).2.take i)) := by
  rw [common_eq ha hb]
  unfold underL
  rw [parse_take ha i, parse_take ha _, hb]
  have key : decide (sharedN (parseL b).2 ((parseL a).2.take i) = ((parseL a).2.take i).length) = decide (sharedN ((parseL a).2.take (sharedN (parseL a).2 (parseL b).2)) ((parseL a).2.take i) = ((parseL a).2.take i).length) := by
    apply decide_eq_decide.2
    rw [sharedN_full, sharedN_full]
    constructor
    · intro h; exact (shared_prefix _ _ i (prefix_shared _ _ i hi h)).2
    · intro h
      have hl := h.length_le
      rw [List.length_take, List.length_take] at hl
      exact (shared_prefix _ _ i (by omega)).1
  simp only [key]
theorem common_small {a b : List UInt8} (ha : (parseL a).1 = 0) (hb : (parseL b).1 = 0) : (commonL a b).length ≤ 1000 := by
  rw [common_eq ha hb]; exact zone_small ha _
end Go.Cn

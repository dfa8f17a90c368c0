/- Text, Depth, Parent, Last, is, of both packages: each by what it computes. Conditions: at most 1000 bytes. -/
import Derived.Test.YtbkficgmjgbbeaaDoorCut
import Derived.Test.YtbkficgmjgbbeaaDoorPath2
set_option linter.unusedVariables false
set_option linter.unusedSimpArgs false
set_option maxRecDepth 100000
namespace Go.Proofs.YtbkficgmjgbbeaaDoor
open Go.RowKit Go.Cn
theorem reads_take {w : World} {A : Option Addr} {xs : List Value} (h : Reads w A xs) (n : Nat) : Reads w A (xs.take n) := by
  rcases h with rfl | ⟨g, o, rfl, hc⟩
  · left; simp
  · right
    refine ⟨g, o, rfl, fun j hj => ?_⟩
    rw [List.length_take] at hj
    rw [hc j (by omega), List.getElem?_take, if_pos (by omega)]
theorem strs_take (ps : List (List UInt8)) (n : Nat) : (strs ps).take n = strs (ps.take n) := by simp [strs, List.map_take]
theorem parts_small {l : List UInt8} (h : (parseL l).1 = 0) : (parseL l).2.length ≤ 4 ∧ ∀ p ∈ (parseL l).2, p.length ≤ 8 := by
  have := parseL_ok h
  exact ⟨this.2.2, fun p hp => (parts_len this.2.1 p hp).2⟩
theorem len_small (l : List UInt8) : (parseL l).2.length ≤ 4 := by
  by_cases h : (parseL l).1 = 0
  · exact (parts_small h).1
  · rw [(parseL_bad h).1]; simp
theorem code_small (l : List UInt8) : (parseL l).1 = 0 ∨ (parseL l).1 = 2 ∨ (parseL l).1 = 4 := by
  by_cases h : (parseL l).1 = 0
  · exact .inl h
  · exact .inr (parseL_bad h).2
theorem pathL_flat (ps : List (List UInt8)) (h : ps ≠ []) : pathL ps = ps.flatMap (fun q => 47 :: q) := by
  cases ps with
  | nil => exact absurd rfl h
  | cons p r => simp [pathL, joinL]
theorem flat_small (ps : List (List UInt8)) (h : ∀ p ∈ ps, p.length ≤ 1000) : (ps.flatMap (fun q => (47 : UInt8) :: q)).length ≤ ps.length * 1001 := by
  induction ps with
  | nil => simp
  | cons a r ih =>
    have h1 := ih (fun p hp => h p (by simp [hp]))
    have h2 := h a (by simp)
    rw [List.flatMap_cons, List.length_append, List.length_cons, List.length_cons, Nat.succ_mul]; omega
end Go.Proofs.YtbkficgmjgbbeaaDoor

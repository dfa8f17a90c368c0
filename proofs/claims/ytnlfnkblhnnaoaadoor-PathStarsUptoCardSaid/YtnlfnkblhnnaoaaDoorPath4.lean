/- A path's zones, plain. No program in sight. -/
import Derived.Test.YtnlfnkblhnnaoaaDoorPath3
set_option linter.unusedVariables false
set_option linter.unusedSimpArgs false
namespace Go.Cn
theorem all_take {l : List (List UInt8)} (h : l.all nameL = true) (i : Nat) : (l.take i).all nameL = true := by
  rw [List.all_eq_true] at h ⊢
  exact fun x hx => h x (List.mem_of_mem_take hx)
theorem parse_take {l : List UInt8} (h : (parseL l).1 = 0) (i : Nat) : parseL (pathL ((parseL l).2.take i)) = (0, (parseL l).2.take i) := by
  have := parseL_ok h
  exact parse_path (all_take this.2.1 i) (by rw [List.length_take]; omega)
theorem pathL_len {ps : List (List UInt8)} (hn : ps.length ≤ 5) (h : ∀ p ∈ ps, p.length ≤ 100) : (pathL ps).length ≤ 1000 := by
  have key : ∀ r : List (List UInt8), (∀ p ∈ r, p.length ≤ 100) → (r.flatMap (fun q => (47 : UInt8) :: q)).length ≤ r.length * 101 := by
    intro r hr
    induction r with
    | nil => simp
    | cons a r ih =>
      have h1 := ih (fun p hp => hr p (by simp [hp]))
      have h2 := hr a (by simp)
      rw [List.flatMap_cons, List.length_append, List.length_cons, List.length_cons, Nat.succ_mul]; omega
  unfold pathL
  cases ps with
  | nil => simp [joinL]
  | cons p r =>
    have h1 := key r (fun q hq => h q (by simp [hq]))
    have h2 := h p (by simp)
    have h3 : r.length * 101 ≤ 4 * 101 := by
      have : r.length ≤ 4 := by simpa using hn
      omega
    rw [List.length_cons, joinL, List.length_append]; omega
theorem take_getLast {α : Type} (l : List α) (i : Nat) (h : i ≤ l.length) : (l.take i).take (i - 1) = l.take (i - 1) := by
  rw [List.take_take]; congr 1; omega
theorem zone_small {l : List UInt8} (h : (parseL l).1 = 0) (i : Nat) : (pathL ((parseL l).2.take i)).length ≤ 1000 := by
  have hk := parseL_ok h
  refine pathL_len (by rw [List.length_take]; omega) (fun p hp => ?_)
  have := (parts_len hk.2.1 p (List.mem_of_mem_take hp)).2
  omega
theorem depth_zone {l : List UInt8} (h : (parseL l).1 = 0) (i : Nat) (hi : i ≤ (parseL l).2.length) : depthL (pathL ((parseL l).2.take i)) = i := by
  unfold depthL
  rw [parse_take h i]
  simp only [if_true, List.length_take]
  omega
theorem under_zone {l : List UInt8} (h : (parseL l).1 = 0) (i : Nat) (hi : i ≤ (parseL l).2.length) : underL l (pathL ((parseL l).2.take i)) = true := by
  unfold underL
  rw [parse_take h i, h]
  have := (sharedN_full (parseL l).2 ((parseL l).2.take i)).2 (List.take_prefix _ _)
  simp [this]
theorem over_zone {l : List UInt8} (h : (parseL l).1 = 0) (i : Nat) (hi : i < (parseL l).2.length) : underL (pathL ((parseL l).2.take i)) l = false := by
  unfold underL
  rw [parse_take h i, h]
  have := (sharedN_le ((parseL l).2.take i) (parseL l).2).1
  rw [List.length_take] at this
  have e : decide (sharedN ((parseL l).2.take i) (parseL l).2 = (parseL l).2.length) = false := decide_eq_false (by omega)
  simp only [e, Bool.and_false]
theorem parent_zone {l : List UInt8} (h : (parseL l).1 = 0) (i : Nat) (h0 : 0 < i) (hi : i ≤ (parseL l).2.length) : parentL (pathL ((parseL l).2.take i)) = pathL ((parseL l).2.take (i - 1)) := by
  unfold parentL
  rw [parse_take h i]
  simp only
  have hne : (parseL l).2.take i ≠ [] := by
    intro e
    have := congrArg List.length e
    rw [List.length_take] at this
    simp at this
    rcases this with h | h
    · omega
    · rw [h] at hi; simp at hi; omega
  rw [if_neg hne, List.dropLast_eq_take, List.length_take, List.take_take]
  congr 2
  omega
theorem parent_last {l : List UInt8} (h0 : 0 < (parseL l).2.length) : parentL l = pathL ((parseL l).2.take ((parseL l).2.length - 1)) := by
  unfold parentL
  rw [if_neg (List.length_pos_iff.1 h0), List.dropLast_eq_take]
theorem zones_get (l : List UInt8) (i : Nat) (hi : i < (zonesL l).length) : (zonesL l)[i] = pathL ((parseL l).2.take i) := by
  have h := List.getElem?_eq_getElem hi
  have h2 : (zonesL l)[i]? = some (pathL ((parseL l).2.take i)) := by
    have hi' : i < (parseL l).2.length := by simpa [zonesL] using hi
    unfold zonesL
    rw [List.getElem?_map, List.getElem?_range hi']; rfl
  exact Option.some.inj (h.symm.trans h2)
end Go.Cn

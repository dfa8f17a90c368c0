/- Stars in a path, plain. -/
import Derived.Test.YtnlfnkblhnnaoaaDoorCommonLaw
set_option linter.unusedVariables false
set_option linter.unusedSimpArgs false
namespace Go.Proofs.YtnlfnkblhnnaoaaDoor
open Go.RowKit Go.Cn
theorem cut_parts {q : List (List UInt8)} (h : ∀ p ∈ q, p ≠ [] ∧ (47 : UInt8) ∉ p) : cutL (pathL q) = some q := by
  unfold cutL pathL
  simp only [if_true]
  cases q with
  | nil => rfl
  | cons p r =>
    have hp := (h p (by simp)).1
    have hne : joinL (p :: r) ≠ [] := by
      intro e
      have h1 : p.length ≤ (joinL (p :: r)).length := by simp [joinL]
      rw [e] at h1
      have := List.length_pos_iff.2 hp
      simp at h1; rw [h1] at this; simp at this
    rw [if_neg hne, split_join _ (by simp) (fun x hx => (h x hx).2)]
theorem name_part {p : List UInt8} (h : nameL p = true) : p ≠ [] ∧ (47 : UInt8) ∉ p := ⟨fun e => by subst e; simp [nameL] at h, name_nostroke h⟩
theorem star_part : ([42] : List UInt8) ≠ [] ∧ (47 : UInt8) ∉ ([42] : List UInt8) := by decide
theorem more_part : ([42, 42] : List UInt8) ≠ [] ∧ (47 : UInt8) ∉ ([42, 42] : List UInt8) := by decide
theorem name_not_more {p : List UInt8} (h : nameL p = true) : p ≠ [42, 42] := fun e => by subst e; revert h; decide
theorem star_starB {p : List UInt8} (h : nameL p = true) : starB p = true := by unfold starB; rw [h, Bool.or_true]
theorem last_of {q : List (List UInt8)} (h : ∀ p ∈ q, p ≠ [42, 42]) : longerL q = false := by
  refine decide_eq_false fun e => ?_
  cases q with
  | nil => simp at e
  | cons a r =>
    have hlt : (a :: r).length - 1 < (a :: r).length := by simp
    rw [getD_lt _ _ hlt] at e
    exact h _ (List.getElem_mem hlt) e
theorem body_of {q : List (List UInt8)} (h : ∀ p ∈ q, p ≠ [42, 42]) : bodyL q = q := by unfold bodyL; rw [last_of h, if_neg (by decide)]
theorem longer_more (ps : List (List UInt8)) : longerL (ps ++ [[42, 42]]) = true := decide_eq_true (by simp)
theorem body_more (ps : List (List UInt8)) : bodyL (ps ++ [[42, 42]]) = ps := by unfold bodyL; rw [longer_more, if_pos rfl]; simp
theorem okPat_of {l : List UInt8} {q : List (List UInt8)} (h : cutL l = some q) (hb : (bodyL q).all starB = true) : okPat l = true := by
  have e : partsL l = q := by unfold partsL; rw [h]; rfl
  unfold okPat; rw [e, h, hb]; rfl
theorem parts_of {l : List UInt8} {q : List (List UInt8)} (h : cutL l = some q) : partsL l = q := by unfold partsL; rw [h]; rfl
theorem match_plain {l s : List UInt8} {q k : List (List UInt8)} (h : cutL l = some q) (hq : ∀ p ∈ q, p ≠ [42, 42]) (hst : q.all starB = true) (hs : parseL s = (0, k)) (hn : q.length = k.length) (hf : ∀ j, j < q.length → q.getD j [] = [42] ∨ q.getD j [] = k.getD j []) : matchL l s = true := by
  have e := parts_of h
  refine matchL_yes ⟨okPat_of h (by rw [body_of hq]; exact hst), by rw [hs], ?_, ?_, ?_⟩
  · rw [e, body_of hq, hs]; simp only; omega
  · left; rw [e, body_of hq, hs]; simp only; omega
  · rw [e, body_of hq, hs]; exact (fits_iff q k (by omega)).2 hf
theorem match_short {l s : List UInt8} {q k : List (List UInt8)} (h : cutL l = some q) (hq : ∀ p ∈ q, p ≠ [42, 42]) (hs : parseL s = (0, k)) (hn : q.length < k.length) : matchL l s = false := by
  have e := parts_of h
  refine matchL_no (fun hh => ?_)
  rcases hh.2.2.2.1 with h1 | h1
  · rw [e, body_of hq, hs] at h1; simp only at h1; omega
  · rw [e, last_of hq] at h1; cases h1
theorem match_more {l s : List UInt8} {q k : List (List UInt8)} (h : cutL l = some (q ++ [[42, 42]])) (hst : q.all starB = true) (hs : parseL s = (0, k)) (hn : q.length ≤ k.length) (hf : ∀ j, j < q.length → q.getD j [] = k.getD j []) : matchL l s = true := by
  have e := parts_of h
  refine matchL_yes ⟨okPat_of h (by rw [body_more]; exact hst), by rw [hs], ?_, ?_, ?_⟩
  · rw [e, body_more, hs]; exact hn
  · right; rw [e, longer_more]
  · rw [e, body_more, hs]; exact (fits_iff q k hn).2 (fun j hj => .inr (hf j hj))
theorem names_star {ps : List (List UInt8)} (h : ps.all nameL = true) : ps.all starB = true := List.all_eq_true.2 (fun p hp => star_starB (List.all_eq_true.1 h p hp))
theorem names_more {ps : List (List UInt8)} (h : ps.all nameL = true) : ∀ p ∈ ps, p ≠ [42, 42] := fun p hp => name_not_more (List.all_eq_true.1 h p hp)
/-- All that PathStars asks of a path. -/
theorem stars {s more : List UInt8} (h0 : (parseL s).1 = 0) (i : Nat) :
    matchL s s = true ∧ matchL [47, 42, 42] s = true ∧ matchL (pathL ((parseL s).2.set i [42])) s = true ∧ matchL (pathL ((parseL s).2 ++ [[42, 42]])) s = true ∧
    ((joinP s more).1 = 0 → (joinP s more).2.length ≤ 1000 ∧ matchL (pathL ((parseL s).2 ++ [[42, 42]])) (joinP s more).2 = true ∧ matchL s (joinP s more).2 = false ∧ matchL (pathL ((parseL s).2.set i [42])) (joinP s more).2 = false) := by
  have hk := parseL_ok h0
  have hs : parseL s = (0, (parseL s).2) := by rw [← h0]
  have hp1 := names_star hk.2.1
  have hp2 := names_more hk.2.1
  have hset : ∀ p ∈ (parseL s).2.set i [42], p ∈ (parseL s).2 ∨ p = [42] := fun p hp => List.mem_or_eq_of_mem_set hp
  have hc1 : cutL (pathL ((parseL s).2.set i [42])) = some ((parseL s).2.set i [42]) := cut_parts (fun p hp => by
    rcases hset p hp with h | h
    · exact name_part (List.all_eq_true.1 hk.2.1 p h)
    · rw [h]; exact star_part)
  have hc1n : ∀ p ∈ (parseL s).2.set i [42], p ≠ [42, 42] := fun p hp => by
    rcases hset p hp with h | h
    · exact hp2 p h
    · rw [h]; decide
  have hc2 : cutL (pathL ((parseL s).2 ++ [[42, 42]])) = some ((parseL s).2 ++ [[42, 42]]) := cut_parts (fun p hp => by
    rcases List.mem_append.1 hp with h | h
    · exact name_part (List.all_eq_true.1 hk.2.1 p h)
    · simp at h; rw [h]; exact more_part)
  refine ⟨match_plain hk.1 hp2 hp1 hs rfl (fun j hj => .inr rfl), match_more (q := []) (k := (parseL s).2) (by decide) rfl hs (Nat.zero_le _) (fun j hj => by simp at hj), ?_, match_more hc2 hp1 hs (Nat.le_refl _) (fun j hj => rfl), ?_⟩
  · refine match_plain hc1 hc1n (List.all_eq_true.2 (fun p hp => ?_)) hs (by simp) (fun j hj => ?_)
    · rcases hset p hp with h | h
      · exact List.all_eq_true.1 hp1 p h
      · rw [h]; decide
    · rw [List.length_set] at hj
      rw [getD_lt _ _ (by simpa using hj), getD_lt _ _ hj, List.getElem_set]
      by_cases e : i = j
      · left; rw [if_pos e]
      · right; rw [if_neg e]
  · intro hj
    unfold joinP at hj ⊢
    rw [if_neg (by omega)] at hj ⊢
    by_cases hn : nameL more = false
    · rw [if_pos hn] at hj; simp at hj
    · rw [if_neg hn] at hj ⊢
      by_cases h4 : 4 ≤ (parseL s).2.length
      · rw [if_pos h4] at hj; simp at hj
      · rw [if_neg h4]
        simp only
        have hall : ((parseL s).2 ++ [more]).all nameL = true := by
          rw [List.all_append, hk.2.1]; simpa using hn
        have hpj : parseL (pathL ((parseL s).2 ++ [more])) = (0, (parseL s).2 ++ [more]) := parse_path hall (by simp; omega)
        refine ⟨pathL_len (by simp; omega) (fun p hp => by have := (parts_len hall p hp).2; omega), match_more hc2 hp1 hpj (by simp) (fun j hj => ?_), match_short hk.1 hp2 hpj (by simp), match_short hc1 hc1n hpj (by simp)⟩
        rw [getD_lt _ _ hj, getD_lt _ _ (by simp; omega), List.getElem_append_left hj]
end Go.Proofs.YtnlfnkblhnnaoaaDoor

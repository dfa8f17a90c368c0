/- Paths, plain: names, parts, what is told of them. No program in sight. -/
import Derived.Test.YtbkficgmjgbbeaaDoorStr
set_option linter.unusedVariables false
set_option linter.unusedSimpArgs false
namespace Go.Cn
def lowB (c : UInt8) : Bool := decide (97 ≤ c.toNat) && decide (c.toNat ≤ 122)
def okB (c : UInt8) : Bool := lowB c || (decide (48 ≤ c.toNat) && decide (c.toNat ≤ 57))
def nameL (l : List UInt8) : Bool := decide (1 ≤ l.length) && decide (l.length ≤ 8) && lowB (l.getD 0 0) && l.all okB
theorem okB_iff (c : UInt8) : okB c = true ↔ (97 ≤ c.toNat ∧ c.toNat ≤ 122) ∨ (48 ≤ c.toNat ∧ c.toNat ≤ 57) := by simp [okB, lowB]
theorem nameL_iff (l : List UInt8) : nameL l = true ↔ 1 ≤ l.length ∧ l.length ≤ 8 ∧ 97 ≤ (l.getD 0 0).toNat ∧ (l.getD 0 0).toNat ≤ 122 ∧ ∀ i, i < l.length → (97 ≤ (l.getD i 0).toNat ∧ (l.getD i 0).toNat ≤ 122) ∨ (48 ≤ (l.getD i 0).toNat ∧ (l.getD i 0).toNat ≤ 57) := by
  have h : l.all okB = true ↔ ∀ i, i < l.length → (97 ≤ (l.getD i 0).toNat ∧ (l.getD i 0).toNat ≤ 122) ∨ (48 ≤ (l.getD i 0).toNat ∧ (l.getD i 0).toNat ≤ 57) := by
    rw [List.all_eq_true]
    constructor
    · intro h i hi
      have := h l[i] (List.getElem_mem hi)
      rw [okB_iff] at this
      simpa [hi] using this
    · intro h x hx
      obtain ⟨i, hi, rfl⟩ := List.mem_iff_getElem.1 hx
      have := h i hi
      rw [okB_iff]
      simpa [hi] using this
  simp only [nameL, Bool.and_eq_true, decide_eq_true_eq, lowB, h, and_assoc]
theorem nameL_no {l : List UInt8} (h : ¬ (1 ≤ l.length ∧ l.length ≤ 8 ∧ 97 ≤ (l.getD 0 0).toNat ∧ (l.getD 0 0).toNat ≤ 122 ∧ ∀ i, i < l.length → (97 ≤ (l.getD i 0).toNat ∧ (l.getD i 0).toNat ≤ 122) ∨ (48 ≤ (l.getD i 0).toNat ∧ (l.getD i 0).toNat ≤ 57))) : nameL l = false := by
  cases hn : nameL l with
  | false => rfl
  | true => exact absurd ((nameL_iff l).1 hn) h
def cutL (l : List UInt8) : Option (List (List UInt8)) := match l with
  | [] => none
  | c :: r => if c = 47 then some (if r = [] then [] else splitL r) else none
/-- Why not (0: it is one; 2: its form; 4: too long), the parts. -/
def parseL (l : List UInt8) : Int × List (List UInt8) := match cutL l with
  | none => (2, [])
  | some ps => if ps.all nameL = false then (2, []) else if 4 < ps.length then (4, []) else (0, ps)
def pathL (ps : List (List UInt8)) : List UInt8 := 47 :: joinL ps
theorem parseL_ok {l : List UInt8} (h : (parseL l).1 = 0) : cutL l = some (parseL l).2 ∧ (parseL l).2.all nameL = true ∧ (parseL l).2.length ≤ 4 := by
  unfold parseL at *
  cases hc : cutL l with
  | none => rw [hc] at h; simp at h
  | some ps =>
    rw [hc] at h
    simp only at h ⊢
    by_cases h1 : ps.all nameL = false
    · rw [if_pos h1] at h; simp at h
    · rw [if_neg h1] at h ⊢
      by_cases h2 : 4 < ps.length
      · rw [if_pos h2] at h; simp at h
      · rw [if_neg h2]
        exact ⟨rfl, by simpa using h1, by simp only; omega⟩
theorem parseL_bad {l : List UInt8} (h : (parseL l).1 ≠ 0) : (parseL l).2 = [] ∧ ((parseL l).1 = 2 ∨ (parseL l).1 = 4) := by
  unfold parseL at *
  cases hc : cutL l with
  | none => simp
  | some ps =>
    rw [hc] at h
    simp only at h ⊢
    by_cases h1 : ps.all nameL = false
    · rw [if_pos h1]; simp
    · rw [if_neg h1] at h ⊢
      by_cases h2 : 4 < ps.length
      · rw [if_pos h2]; simp
      · rw [if_neg h2] at h; simp at h
theorem parts_len {ps : List (List UInt8)} (h : ps.all nameL = true) : ∀ p ∈ ps, 1 ≤ p.length ∧ p.length ≤ 8 := by
  intro p hp
  have := (nameL_iff p).1 (List.all_eq_true.1 h p hp)
  exact ⟨this.1, this.2.1⟩
theorem name_nostroke {p : List UInt8} (h : nameL p = true) : (47 : UInt8) ∉ p := by
  intro hm
  obtain ⟨i, hi, e⟩ := List.mem_iff_getElem.1 hm
  have := ((nameL_iff p).1 h).2.2.2.2 i hi
  have e2 : p.getD i 0 = 47 := by simp [hi, e]
  rw [e2] at this
  simp at this
theorem splitL_len : ∀ l : List UInt8, (splitL l).length ≤ l.length + 1
  | [] => by simp [splitL]
  | c :: l => by
    have ih := splitL_len l
    have hp := splitL_pos l
    rw [splitL]
    split
    · simp; omega
    · simp; omega
/-- Cut again, a path's text gives its parts. -/
theorem split_join : ∀ (ps : List (List UInt8)), ps ≠ [] → (∀ p ∈ ps, (47 : UInt8) ∉ p) → splitL (joinL ps) = ps
  | [p], _, h => by
    have : joinL [p] = p := by simp [joinL]
    rw [this, splitL_none p (h p (by simp))]
  | p :: q :: r, _, h => by
    have e : joinL (p :: q :: r) = p ++ 47 :: joinL (q :: r) := by simp [joinL]
    rw [e, splitL_hit p _ (h p (by simp)), split_join (q :: r) (by simp) (fun x hx => h x (by simp [hx]))]
theorem joinL_split : ∀ l : List UInt8, joinL (splitL l) = l
  | [] => rfl
  | c :: l => by
    have ih := joinL_split l
    have hp := splitL_pos l
    rw [splitL]
    cases hs : splitL l with
    | nil => rw [hs] at hp; simp at hp
    | cons p r =>
      rw [hs] at ih
      by_cases hc : c = 47
      · rw [if_pos hc]
        simp only [joinL, List.flatMap_cons, List.nil_append] at ih ⊢
        rw [hc]; simp only [List.cons_append, List.cons.injEq, true_and]; exact ih
      · rw [if_neg hc]
        simp only [joinL, List.headD_cons, List.tail_cons, List.cons_append, List.cons.injEq, true_and] at ih ⊢
        exact ih
theorem cut_path {ps : List (List UInt8)} (h : ps.all nameL = true) : cutL (pathL ps) = some ps := by
  unfold cutL pathL
  simp only [if_true]
  cases ps with
  | nil => rfl
  | cons p r =>
    have hp := parts_len h p (by simp)
    have hne : joinL (p :: r) ≠ [] := by
      intro e
      have : p.length ≤ (joinL (p :: r)).length := by simp [joinL]
      rw [e] at this; simp at this; rw [this] at hp; simp at hp
    rw [if_neg hne, split_join _ (by simp) (fun q hq => name_nostroke (List.all_eq_true.1 h q hq))]
theorem parse_path {ps : List (List UInt8)} (h : ps.all nameL = true) (hl : ps.length ≤ 4) : parseL (pathL ps) = (0, ps) := by
  unfold parseL
  rw [cut_path h]
  simp only
  rw [if_neg (by rw [h]; decide), if_neg (by omega)]
theorem path_of {l : List UInt8} {ps : List (List UInt8)} (h : cutL l = some ps) : pathL ps = l := by
  cases l with
  | nil => cases h
  | cons c r =>
    unfold cutL at h
    simp only at h
    by_cases hc : c = 47
    · rw [if_pos hc] at h
      injection h with h
      subst h
      unfold pathL
      by_cases hr : r = []
      · rw [if_pos hr, hr, hc]; rfl
      · rw [if_neg hr, joinL_split, hc]
    · rw [if_neg hc] at h; cases h
end Go.Cn

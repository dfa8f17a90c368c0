/- Sorted rows of pairs, plain: the place of a key, put, drop. No program in sight. -/
import Derived.Sort.Walk0
import Derived.Test.YtbkficgmjgbbeaaDoorL5
set_option linter.unusedVariables false
set_option linter.unusedSimpArgs false
namespace Go.Cn
/-- A strict order of keys. -/
structure KeyOrd {κ : Type} (lt : κ → κ → Bool) : Prop where
  irr : ∀ a, lt a a = false
  tr : ∀ {a b c}, lt a b = true → lt b c = true → lt a c = true
  tri : ∀ {a b}, lt a b = false → lt b a = false → a = b
theorem KeyOrd.asym {κ : Type} {lt : κ → κ → Bool} (O : KeyOrd lt) {a b : κ} (h : lt a b = true) : lt b a = false := by
  cases h2 : lt b a with
  | false => rfl
  | true => have := O.tr h h2; rw [O.irr] at this; cases this
theorem KeyOrd.tr2 {κ : Type} {lt : κ → κ → Bool} (O : KeyOrd lt) {a b c : κ} (h : lt a b = false) (h2 : lt c b = true) : lt c a = true := by
  cases h3 : lt c a with
  | true => rfl
  | false =>
    cases h4 : lt a c with
    | true => rw [O.tr h4 h2] at h; cases h
    | false => have := O.tri h3 h4; subst this; rw [h2] at h; cases h
def ltS (a b : ByteArray) : Bool := Op.bytesLess a.toList b.toList
def ltI (a b : Int) : Bool := decide (a < b)
theorem toList_inj {a b : ByteArray} (h : a.toList = b.toList) : a = b := by
  rw [ByteArray.toList_eq, ByteArray.toList_eq] at h
  cases a; cases b; simp at h; simp [h]
theorem ordS : KeyOrd ltS where
  irr a := by unfold ltS; rw [Go.Proofs.bytesLess_eq]; simp
  tr := by
    intro a b c h1 h2
    unfold ltS at *
    rw [Go.Proofs.bytesLess_eq] at *
    simp only [decide_eq_true_eq] at *
    exact List.lt_trans h1 h2
  tri := by
    intro a b h1 h2
    unfold ltS at *
    rw [Go.Proofs.bytesLess_eq] at *
    simp only [decide_eq_false_iff_not] at *
    exact toList_inj (List.le_antisymm h2 h1)
theorem ordI : KeyOrd ltI where
  irr a := by unfold ltI; simp
  tr := by intro a b c h1 h2; unfold ltI at *; simp at *; omega
  tri := by intro a b h1 h2; unfold ltI at *; simp at *; omega
section
variable {κ ν : Type} (lt : κ → κ → Bool)
def Rises : List (κ × ν) → Prop
  | [] => True
  | p :: l => (∀ q ∈ l, lt p.1 q.1 = true) ∧ Rises l
def pos (l : List (κ × ν)) (k : κ) : Nat := (l.takeWhile fun p => lt p.1 k).length
def fnd [DecidableEq κ] (l : List (κ × ν)) (k : κ) : Bool := match l[pos lt l k]? with
  | some p => decide (p.1 = k)
  | none => false
def putM [DecidableEq κ] (l : List (κ × ν)) (k : κ) (v : ν) : List (κ × ν) := if fnd lt l k = true then l.set (pos lt l k) (k, v) else l.take (pos lt l k) ++ (k, v) :: l.drop (pos lt l k)
def dropM [DecidableEq κ] (l : List (κ × ν)) (k : κ) : List (κ × ν) := if fnd lt l k = true then l.take (pos lt l k) ++ l.drop (pos lt l k + 1) else l
variable {lt}
theorem pos_cons (p : κ × ν) (l : List (κ × ν)) (k : κ) : pos lt (p :: l) k = if lt p.1 k = true then pos lt l k + 1 else 0 := by
  unfold pos
  rw [List.takeWhile_cons]
  split <;> simp_all
theorem pos_le : ∀ (l : List (κ × ν)) (k : κ), pos lt l k ≤ l.length
  | [], k => by simp [pos]
  | p :: l, k => by
    have := pos_le l k
    rw [pos_cons]; split <;> simp; exact this
theorem pos_lt : ∀ (l : List (κ × ν)) (k : κ) (j : Nat) (h : j < l.length), j < pos lt l k → lt l[j].1 k = true
  | p :: l, k, j, h, hj => by
    rw [pos_cons] at hj
    split at hj
    · cases j with
      | zero => assumption
      | succ j => exact pos_lt l k j (by simpa using h) (by omega)
    · omega
theorem pos_at : ∀ (l : List (κ × ν)) (k : κ) (h : pos lt l k < l.length), lt l[pos lt l k].1 k = false
  | p :: l, k, h => by
    by_cases hp : lt p.1 k = true
    · have e : pos lt (p :: l) k = pos lt l k + 1 := by rw [pos_cons, if_pos hp]
      have h2 := pos_at l k (by rw [e] at h; simpa using h)
      simp only [e, List.getElem_cons_succ]
      exact h2
    · have e : pos lt (p :: l) k = 0 := by rw [pos_cons, if_neg hp]
      simp only [e, List.getElem_cons_zero]
      simpa using hp
theorem pos_eq : ∀ (l : List (κ × ν)) (k : κ) (i : Nat), i ≤ l.length → (∀ j (h : j < l.length), j < i → lt l[j].1 k = true) → (∀ h : i < l.length, lt l[i].1 k = false) → pos lt l k = i
  | [], k, i, hi, _, _ => by simp [pos]; simp at hi; omega
  | p :: l, k, 0, hi, h1, h2 => by
    rw [pos_cons, if_neg]
    have := h2 (by simp)
    simpa using this
  | p :: l, k, i + 1, hi, h1, h2 => by
    have h0 : lt p.1 k = true := h1 0 (by simp) (by omega)
    rw [pos_cons, if_pos h0, pos_eq l k i (by simpa using hi) (fun j h hj => h1 (j + 1) (by simpa using h) (by omega)) (fun h => h2 (by simpa using h))]
theorem Rises.less : ∀ {l : List (κ × ν)}, Rises lt l → ∀ (i j : Nat) (hj : j < l.length), (hij : i < j) → lt l[i].1 l[j].1 = true
  | p :: l, h, 0, j + 1, hj, _ => h.1 _ (List.getElem_mem _)
  | p :: l, h, i + 1, j + 1, hj, hij => Rises.less h.2 i j (by simpa using hj) (by omega)
theorem Rises.of : ∀ {l : List (κ × ν)}, (∀ (i j : Nat) (hj : j < l.length), (hij : i < j) → lt l[i].1 l[j].1 = true) → Rises lt l
  | [], _ => trivial
  | p :: l, h => by
    refine ⟨fun q hq => ?_, Rises.of fun i j hj hij => h (i + 1) (j + 1) (by simpa using hj) (by omega)⟩
    obtain ⟨j, hj, rfl⟩ := List.mem_iff_getElem.1 hq
    exact h 0 (j + 1) (by simpa using hj) (by omega)
theorem pos_ge (O : KeyOrd lt) {l : List (κ × ν)} (hl : Rises lt l) (k : κ) (j : Nat) (h : j < l.length) (hj : pos lt l k ≤ j) : lt l[j].1 k = false := by
  have hp := pos_at (lt := lt) l k (by omega)
  by_cases e : pos lt l k = j
  · simpa [e] using hp
  · cases h2 : lt l[j].1 k with
    | false => rfl
    | true =>
      have h3 := hl.less (pos lt l k) j h (by omega)
      rw [O.tr h3 h2] at hp; cases hp
variable [DecidableEq κ]
theorem fnd_iff {l : List (κ × ν)} {k : κ} : fnd lt l k = true ↔ ∃ h : pos lt l k < l.length, l[pos lt l k].1 = k := by
  unfold fnd
  by_cases h : pos lt l k < l.length
  · rw [List.getElem?_eq_getElem h]; simp [h]
  · rw [List.getElem?_eq_none (by omega)]; simp [h]
theorem fnd_lt {l : List (κ × ν)} {k : κ} (h : fnd lt l k = true) : pos lt l k < l.length := (fnd_iff.1 h).1
theorem Rises.put (O : KeyOrd lt) {l : List (κ × ν)} (hl : Rises lt l) (k : κ) (v : ν) : Rises lt (putM lt l k v) := by
  unfold putM
  have hle := pos_le (lt := lt) l k
  split
  · rename_i hf
    obtain ⟨hp, hk⟩ := fnd_iff.1 hf
    refine Rises.of fun i j hj hij => ?_
    simp only [List.length_set] at hj
    have h := hl.less i j hj hij
    rw [List.getElem_set, List.getElem_set]
    by_cases e1 : pos lt l k = i
    · rw [if_pos e1, if_neg (by omega)]
      subst e1; rw [hk] at h; exact h
    · rw [if_neg e1]
      by_cases e2 : pos lt l k = j
      · rw [if_pos e2]; subst e2; rw [hk] at h; exact h
      · rw [if_neg e2]; exact h
  · rename_i hf
    have hlo := pos_lt (lt := lt) l k
    have hhi : ∀ j (h : j < l.length), pos lt l k ≤ j → lt k l[j].1 = true := by
      intro j h hj
      have h1 := pos_ge O hl k j h hj
      cases h2 : lt k l[j].1 with
      | true => rfl
      | false =>
        exfalso
        have e := O.tri h1 h2
        by_cases ej : pos lt l k = j
        · exact hf (fnd_iff.2 ⟨by omega, by simpa [ej] using e⟩)
        · have h3 := hl.less (pos lt l k) j h (by omega)
          have h4 := pos_at (lt := lt) l k (by omega)
          rw [e] at h3; rw [h3] at h4; cases h4
    generalize pos lt l k = p at *
    have hl1 : (l.take p).length = p := by simp; omega
    have hl2 : (l.take p ++ (k, v) :: l.drop p).length = l.length + 1 := by simp; omega
    have k1 : ∀ q (h : q < (l.take p ++ (k, v) :: l.drop p).length) (c : q < p), (l.take p ++ (k, v) :: l.drop p)[q] = l[q]'(by omega) := by
      intro q h c
      rw [List.getElem_append_left (by omega), List.getElem_take]
    have k2 : ∀ q (h : q < (l.take p ++ (k, v) :: l.drop p).length) (c : q = p), (l.take p ++ (k, v) :: l.drop p)[q] = (k, v) := by
      intro q h c
      rw [List.getElem_append_right (by omega)]
      simp only [hl1, c, Nat.sub_self, List.getElem_cons_zero]
    have k3 : ∀ q (h : q + 1 < (l.take p ++ (k, v) :: l.drop p).length) (c : p ≤ q), (l.take p ++ (k, v) :: l.drop p)[q + 1] = l[q]'(by omega) := by
      intro q h c
      rw [List.getElem_append_right (by omega)]
      have e : (q + 1) - (l.take p).length = (q - p) + 1 := by omega
      simp only [e, List.getElem_cons_succ, List.getElem_drop]
      congr 1; omega
    refine Rises.of fun i j hj hij => ?_
    by_cases c1 : j < p
    · rw [k1 j hj c1, k1 i (by omega) (by omega)]
      exact hl.less i j (by omega) hij
    · by_cases c2 : j = p
      · rw [k2 j hj c2, k1 i (by omega) (by omega)]
        exact hlo i (by omega) (by omega)
      · obtain ⟨d, rfl⟩ : ∃ d, j = d + 1 := ⟨j - 1, by omega⟩
        rw [k3 d hj (by omega)]
        by_cases c3 : i < p
        · rw [k1 i (by omega) c3]
          exact hl.less i d (by omega) (by omega)
        · by_cases c4 : i = p
          · rw [k2 i (by omega) c4]
            exact hhi d (by omega) (by omega)
          · obtain ⟨d2, rfl⟩ : ∃ d, i = d + 1 := ⟨i - 1, by omega⟩
            rw [k3 d2 (by omega) (by omega)]
            exact hl.less d2 d (by omega) (by omega)
theorem Rises.drop {l : List (κ × ν)} (hl : Rises lt l) (k : κ) : Rises lt (dropM lt l k) := by
  unfold dropM
  split
  · rename_i hf
    have hp := fnd_lt hf
    generalize pos lt l k = p at *
    refine Rises.of fun i j hj hij => ?_
    simp only [List.length_append, List.length_take, List.length_drop] at hj
    have hl1 : (l.take p).length = p := by simp; omega
    have key : ∀ q (h : q < (l.take p ++ l.drop (p + 1)).length), (l.take p ++ l.drop (p + 1))[q] = l[if q < p then q else q + 1]'(by simp at h; split <;> omega) := by
      intro q h
      by_cases c : q < p
      · rw [List.getElem_append_left (by omega), List.getElem_take]; simp [c]
      · rw [List.getElem_append_right (by omega), List.getElem_drop]
        simp only [hl1, c, if_false]
        congr 1; omega
    rw [key, key]
    refine hl.less _ _ _ ?_
    split <;> split <;> omega
  · exact hl
end
end Go.Cn

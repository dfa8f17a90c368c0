/- Sorted rows of pairs, plain: what is in them behind puts and drops. No program in sight. -/
import Derived.Test.YtbkficgmjgbbeaaDoorSM
set_option linter.unusedVariables false
set_option linter.unusedSimpArgs false
namespace Go.Cn
section
variable {κ ν : Type} {lt : κ → κ → Bool}
theorem pos_self (O : KeyOrd lt) {l : List (κ × ν)} (hl : Rises lt l) (i : Nat) (hi : i < l.length) : pos lt l l[i].1 = i :=
  pos_eq l _ i (by omega) (fun j h hj => hl.less j i hi hj) (fun h => O.irr _)
/-- Two rising rows of the same keys: the same row of keys. -/
theorem rises_keys (O : KeyOrd lt) {μ : Type} : ∀ {a : List (κ × ν)} {b : List (κ × μ)}, Rises lt a → Rises lt b → (∀ k, k ∈ a.map Prod.fst ↔ k ∈ b.map Prod.fst) → a.map Prod.fst = b.map Prod.fst
  | [], [], _, _, _ => rfl
  | [], q :: b, _, _, h => by have := (h q.1).2 (by simp); simp at this
  | p :: a, [], _, _, h => by have := (h p.1).1 (by simp); simp at this
  | p :: a, q :: b, ha, hb, h => by
    have hpa : ∀ k ∈ a.map Prod.fst, lt p.1 k = true := by
      intro k hk; obtain ⟨x, hx, rfl⟩ := List.mem_map.1 hk; exact ha.1 x hx
    have hqb : ∀ k ∈ b.map Prod.fst, lt q.1 k = true := by
      intro k hk; obtain ⟨x, hx, rfl⟩ := List.mem_map.1 hk; exact hb.1 x hx
    have hpq : p.1 = q.1 := by
      rcases List.mem_cons.1 ((h p.1).1 (by simp)) with e | e
      · exact e
      · rcases List.mem_cons.1 ((h q.1).2 (by simp)) with e2 | e2
        · exact e2.symm
        · have h1 := hqb _ e
          have h2 := hpa _ e2
          rw [O.asym h1] at h2; cases h2
    have hrest : a.map Prod.fst = b.map Prod.fst := by
      refine rises_keys O ha.2 hb.2 fun k => ⟨fun hk => ?_, fun hk => ?_⟩
      · rcases List.mem_cons.1 ((h k).1 (List.mem_cons_of_mem _ hk)) with e | e
        · have := hpa k hk
          rw [e, hpq, O.irr] at this; cases this
        · exact e
      · rcases List.mem_cons.1 ((h k).2 (List.mem_cons_of_mem _ hk)) with e | e
        · have := hqb k hk
          rw [e, ← hpq, O.irr] at this; cases this
        · exact e
    simp only [List.map_cons, hpq, hrest]
variable [DecidableEq κ]
theorem fnd_self (O : KeyOrd lt) {l : List (κ × ν)} (hl : Rises lt l) (i : Nat) (hi : i < l.length) : fnd lt l l[i].1 = true := by
  rw [fnd_iff]
  have h := pos_self O hl i hi
  refine ⟨by omega, ?_⟩
  simp only [h]
theorem mem_put {l : List (κ × ν)} {k : κ} {v : ν} {p : κ × ν} (h : p ∈ putM lt l k v) : p = (k, v) ∨ p ∈ l := by
  unfold putM at h
  split at h
  · rcases List.mem_or_eq_of_mem_set h with h | h
    · exact .inr h
    · exact .inl h
  · rcases List.mem_append.1 h with h | h
    · exact .inr (List.mem_of_mem_take h)
    · rcases List.mem_cons.1 h with h | h
      · exact .inl h
      · exact .inr (List.mem_of_mem_drop h)
theorem put_mem (l : List (κ × ν)) (k : κ) (v : ν) : (k, v) ∈ putM lt l k v := by
  unfold putM
  split
  · rename_i h
    exact List.mem_iff_getElem.2 ⟨pos lt l k, by simpa using fnd_lt h, by simp⟩
  · simp
theorem put_old {l : List (κ × ν)} {k : κ} {v : ν} {p : κ × ν} (h : p ∈ l) (hp : p.1 ≠ k) : p ∈ putM lt l k v := by
  unfold putM
  split
  · rename_i hf
    obtain ⟨hlt, hk⟩ := fnd_iff.1 hf
    obtain ⟨i, hi, rfl⟩ := List.mem_iff_getElem.1 h
    have hne : pos lt l k ≠ i := fun e => hp (by subst e; exact hk)
    exact List.mem_iff_getElem.2 ⟨i, by simpa using hi, by rw [List.getElem_set, if_neg hne]⟩
  · have : p ∈ l.take (pos lt l k) ++ l.drop (pos lt l k) := by rw [List.take_append_drop]; exact h
    rcases List.mem_append.1 this with h | h
    · exact List.mem_append_left _ h
    · exact List.mem_append_right _ (List.mem_cons_of_mem _ h)
theorem fnd_mem {l : List (κ × ν)} {k : κ} (h : fnd lt l k = true) : ∃ v, (k, v) ∈ l := by
  obtain ⟨hlt, hk⟩ := fnd_iff.1 h
  have hm := List.getElem_mem hlt
  generalize l[pos lt l k]'hlt = p at hm hk
  obtain ⟨a, b⟩ := p
  simp only at hk
  subst hk
  exact ⟨b, hm⟩
theorem mem_fnd (O : KeyOrd lt) {l : List (κ × ν)} (hl : Rises lt l) {k : κ} {v : ν} (h : (k, v) ∈ l) : ∃ h : pos lt l k < l.length, fnd lt l k = true ∧ l[pos lt l k] = (k, v) := by
  obtain ⟨i, hi, e⟩ := List.mem_iff_getElem.1 h
  have h1 := pos_self O hl i hi
  have h2 := fnd_self O hl i hi
  rw [e] at h1 h2
  simp only at h1 h2
  exact ⟨by omega, h2, by simp only [h1, e]⟩
/-- Of one key there is one value. -/
theorem mem_one (O : KeyOrd lt) {l : List (κ × ν)} (hl : Rises lt l) {k : κ} {u v : ν} (h1 : (k, u) ∈ l) (h2 : (k, v) ∈ l) : u = v := by
  obtain ⟨_, _, e1⟩ := mem_fnd O hl h1
  obtain ⟨_, _, e2⟩ := mem_fnd O hl h2
  rw [e1] at e2
  injection e2
theorem mem_drop (O : KeyOrd lt) {l : List (κ × ν)} (hl : Rises lt l) {k : κ} {p : κ × ν} (h : p ∈ dropM lt l k) : p ∈ l ∧ p.1 ≠ k := by
  unfold dropM at h
  split at h
  · rename_i hf
    obtain ⟨hlt, hk⟩ := fnd_iff.1 hf
    rcases List.mem_append.1 h with h | h
    · obtain ⟨i, hi, rfl⟩ := List.mem_iff_getElem.1 h
      simp at hi
      rw [List.getElem_take]
      refine ⟨List.getElem_mem _, fun e => ?_⟩
      have := pos_lt (lt := lt) l k i (by omega) (by omega)
      rw [e, O.irr] at this; cases this
    · obtain ⟨i, hi, rfl⟩ := List.mem_iff_getElem.1 h
      simp at hi
      rw [List.getElem_drop]
      refine ⟨List.getElem_mem _, fun e => ?_⟩
      have := hl.less (pos lt l k) (pos lt l k + 1 + i) (by omega) (by omega)
      rw [e, hk, O.irr] at this; cases this
  · rename_i hf
    refine ⟨h, fun e => hf ?_⟩
    obtain ⟨a, b⟩ := p
    simp only at e
    subst e
    exact (mem_fnd O hl h).2.1
theorem no_fnd {l : List (κ × ν)} {k : κ} (h : ∀ p ∈ l, p.1 ≠ k) : fnd lt l k = false := by
  cases hf : fnd lt l k with
  | false => rfl
  | true =>
    obtain ⟨v, hv⟩ := fnd_mem hf
    exact absurd rfl (h _ hv)
end
end Go.Cn

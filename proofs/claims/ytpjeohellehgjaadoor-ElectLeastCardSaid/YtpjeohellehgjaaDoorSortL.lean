/- Sorting by swaps: what stays, what is in order. No program in sight. -/
import Derived.Test.YtpjeohellehgjaaDoorEl
set_option linter.unusedVariables false
set_option linter.unusedSimpArgs false
namespace Go.Cn
open Num
def Tri (ab bc ac : Int) : Prop := ab ≤ 0 → bc ≤ 0 → ac ≤ 0 ∧ (ac < 0 ↔ ab < 0 ∨ bc < 0)
theorem orI_0 {a b : Int} (h : a = 0) : orI a b = b := if_neg (fun e => e h)
theorem orI_1 {a b : Int} (h : a ≠ 0) : orI a b = a := if_pos h
theorem tri_or {a b c a' b' c' : Int} (h : Tri a b c) (h' : Tri a' b' c') : Tri (orI a a') (orI b b') (orI c c') := by
  unfold Tri at *
  intro h1 h2
  by_cases ea : a = 0
  · rw [orI_0 ea] at h1 ⊢
    by_cases eb : b = 0
    · rw [orI_0 eb] at h2 ⊢
      have := h (by omega) (by omega)
      rw [orI_0 (show c = 0 by omega)]
      exact h' h1 h2
    · rw [orI_1 eb] at h2 ⊢
      have := h (by omega) h2
      rw [orI_1 (show c ≠ 0 by omega)]
      refine ⟨by omega, ⟨fun _ => .inr (by omega), fun _ => by omega⟩⟩
  · rw [orI_1 ea] at h1 ⊢
    by_cases eb : b = 0
    · have := h h1 (by omega)
      rw [orI_1 (show c ≠ 0 by omega)]
      refine ⟨by omega, ⟨fun _ => .inl (by omega), fun _ => by omega⟩⟩
    · rw [orI_1 eb] at h2 ⊢
      have := h h1 h2
      rw [orI_1 (show c ≠ 0 by omega)]
      refine ⟨by omega, ⟨fun _ => .inl (by omega), fun _ => by omega⟩⟩
theorem tri_I (a b c : Int) : Tri (cmpI a b) (cmpI b c) (cmpI a c) := by
  unfold Tri cmpI
  repeat' split
  all_goals omega
theorem tri_S (a b c : ByteArray) : Tri (cmpS a b) (cmpS b c) (cmpS a c) := cmpL_trans _ _ _
theorem cmpC_tri (a b c : ChoD) : Tri (cmpC a b) (cmpC b c) (cmpC a c) := tri_or (tri_I _ _ _) (tri_or (tri_S _ _ _) (tri_S _ _ _))
theorem cmpC_trans {a b c : ChoD} (h : cmpC a b ≤ 0) (h2 : cmpC b c ≤ 0) : cmpC a c ≤ 0 := (cmpC_tri a b c h h2).1
theorem cmpI_anti' (a b : Int) : cmpI b a = -cmpI a b := by
  unfold cmpI
  by_cases h : a < b
  · rw [if_neg (by omega), if_pos h, if_pos h]; rfl
  · by_cases h2 : b < a
    · rw [if_pos h2, if_neg h, if_pos h2]
    · rw [if_neg h2, if_neg h, if_neg h, if_neg h2]; rfl
theorem orI_anti' (a b : Int) : orI (-a) (-b) = -orI a b := by
  unfold orI
  by_cases h : a = 0
  · subst h; simp
  · rw [if_pos h, if_pos (by omega)]
theorem cmpC_anti (a b : ChoD) : cmpC b a = -cmpC a b := by
  unfold cmpC
  rw [cmpI_anti' a.2.2 b.2.2, show cmpS b.2.1 a.2.1 = -cmpS a.2.1 b.2.1 from cmpL_anti _ _, show cmpS b.1 a.1 = -cmpS a.1 b.1 from cmpL_anti _ _, orI_anti', orI_anti']
theorem cmpC_zero {a b : ChoD} (h : cmpC a b = 0) : a = b := by
  unfold cmpC at h
  rw [orI_zero, orI_zero, cmpI_zero, cmpS_zero, cmpS_zero] at h
  obtain ⟨a1, a2, a3⟩ := a
  obtain ⟨b1, b2, b3⟩ := b
  simp at h ⊢
  exact ⟨h.2.2, h.2.1, h.1⟩
theorem cmpC_self (a : ChoD) : cmpC a a = 0 := by
  have := cmpC_anti a a; omega
/-- Element p. -/
abbrev el (d : List ChoD) (p : Nat) : ChoD := d.getD p default
def swp (d : List ChoD) (i j : Nat) : List ChoD := (d.set i (el d j)).set j (el d i)
theorem swp_len (d : List ChoD) (i j : Nat) : (swp d i j).length = d.length := by simp [swp]
theorem set_el (d : List ChoD) (i p : Nat) (c : ChoD) : el (d.set i c) p = if p = i ∧ i < d.length then c else el d p := by
  unfold el
  rw [List.getD_eq_getElem?_getD, List.getElem?_set, List.getD_eq_getElem?_getD]
  by_cases h : i = p
  · subst h
    by_cases h2 : i < d.length
    · simp [h2]
    · simp [h2]
  · rw [if_neg h, if_neg (fun e => h e.1.symm)]
theorem swp_el {d : List ChoD} {i j : Nat} (hi : i < d.length) (hj : j < d.length) (p : Nat) : el (swp d i j) p = if p = j then el d i else if p = i then el d j else el d p := by
  unfold swp
  rw [set_el, set_el]
  rw [List.length_set]
  by_cases h : p = j
  · rw [if_pos ⟨h, hj⟩, if_pos h]
  · rw [if_neg (fun e => h e.1), if_neg h]
    by_cases h2 : p = i
    · rw [if_pos ⟨h2, hi⟩, if_pos h2]
    · rw [if_neg (fun e => h2 e.1), if_neg h2]
theorem swp_perm {d : List ChoD} {i j : Nat} (hi : i < d.length) (hj : j < d.length) : (swp d i j).Perm d := by
  have e1 : el d j = d[j] := by simp [el, hj]
  have e2 : el d i = d[i] := by simp [el, hi]
  unfold swp
  rw [e1, e2]
  exact List.set_set_perm hi hj
/-- Nothing but the elements of a stretch have changed places. -/
structure Moved (a b : Nat) (d d' : List ChoD) : Prop where
  len : d'.length = d.length
  perm : d'.Perm d
  out : ∀ p, p < a ∨ b ≤ p → el d' p = el d p
  mem : ∀ p, a ≤ p → p < b → ∃ q, a ≤ q ∧ q < b ∧ el d' p = el d q
theorem Moved.refl (a b : Nat) (d : List ChoD) : Moved a b d d := ⟨rfl, List.Perm.refl _, fun _ _ => rfl, fun p h1 h2 => ⟨p, h1, h2, rfl⟩⟩
theorem Moved.trans {a b : Nat} {d d' d'' : List ChoD} (h : Moved a b d d') (h2 : Moved a b d' d'') : Moved a b d d'' := by
  refine ⟨h2.len.trans h.len, h2.perm.trans h.perm, fun p hp => (h2.out p hp).trans (h.out p hp), fun p h1 h3 => ?_⟩
  obtain ⟨q, q1, q2, e⟩ := h2.mem p h1 h3
  obtain ⟨r, r1, r2, e2⟩ := h.mem q q1 q2
  exact ⟨r, r1, r2, e.trans e2⟩
theorem Moved.mono {a b a' b' : Nat} {d d' : List ChoD} (h : Moved a b d d') (ha : a' ≤ a) (hb : b ≤ b') : Moved a' b' d d' := by
  refine ⟨h.len, h.perm, fun p hp => h.out p (by omega), fun p h1 h2 => ?_⟩
  by_cases h3 : a ≤ p ∧ p < b
  · obtain ⟨q, q1, q2, e⟩ := h.mem p h3.1 h3.2
    exact ⟨q, by omega, by omega, e⟩
  · exact ⟨p, h1, h2, h.out p (by omega)⟩
theorem Moved.swp {a b i j : Nat} {d : List ChoD} (hi : a ≤ i ∧ i < b) (hj : a ≤ j ∧ j < b) (hb : b ≤ d.length) : Moved a b d (swp d i j) := by
  refine ⟨swp_len d i j, swp_perm (by omega) (by omega), fun p hp => ?_, fun p h1 h2 => ?_⟩
  · rw [swp_el (by omega) (by omega), if_neg (by omega), if_neg (by omega)]
  · rw [swp_el (by omega) (by omega)]
    by_cases e : p = j
    · exact ⟨i, hi.1, hi.2, by rw [if_pos e]⟩
    · rw [if_neg e]
      by_cases e2 : p = i
      · exact ⟨j, hj.1, hj.2, by rw [if_pos e2]⟩
      · exact ⟨p, h1, h2, by rw [if_neg e2]⟩
/-- A stretch in order. -/
def Srt (a b : Nat) (d : List ChoD) : Prop := ∀ p q, a ≤ p → p < q → q < b → cmpC (el d p) (el d q) ≤ 0
theorem Srt.one {a b : Nat} {d : List ChoD} (h : b ≤ a + 1) : Srt a b d := fun p q h1 h2 h3 => by omega
/-- A stretch in order but for what comes ahead of place j. -/
def SrtBut (a b j : Nat) (d : List ChoD) : Prop := ∀ p q, a ≤ p → p < q → q < b → q ≠ j → cmpC (el d p) (el d q) ≤ 0
theorem SrtBut.start {a i : Nat} {d : List ChoD} (h : Srt a i d) : SrtBut a (i + 1) i d := fun p q h1 h2 h3 h4 => h p q h1 h2 (by omega)
theorem SrtBut.end0 {a b : Nat} {d : List ChoD} (h : SrtBut a b a d) : Srt a b d := fun p q h1 h2 h3 => h p q h1 h2 h3 (by omega)
theorem SrtBut.end1 {a b j : Nat} {d : List ChoD} (h : SrtBut a b j d) (hj : a < j) (hle : cmpC (el d (j - 1)) (el d j) ≤ 0) : Srt a b d := fun p q h1 h2 h3 => by
  by_cases e : q = j
  · subst e
    by_cases e2 : p = q - 1
    · subst e2; exact hle
    · exact cmpC_trans (h p (q - 1) h1 (by omega) (by omega) (by omega)) hle
  · exact h p q h1 h2 h3 e
theorem SrtBut.step {a b j : Nat} {d : List ChoD} (h : SrtBut a b j d) (hj : a < j) (hjb : j < b) (hb : b ≤ d.length) (hlt : cmpC (el d j) (el d (j - 1)) < 0) : SrtBut a b (j - 1) (swp d j (j - 1)) := fun p q h1 h2 h3 h4 => by
  rw [swp_el (by omega) (by omega), swp_el (by omega) (by omega)]
  rw [if_neg (show ¬ q = j - 1 by omega)]
  by_cases e : p = j - 1
  · rw [if_pos e]
    by_cases e2 : q = j
    · rw [if_pos e2]; omega
    · rw [if_neg e2]
      exact h j q (by omega) (by omega) h3 e2
  · rw [if_neg e]
    by_cases e1 : p = j
    · rw [if_pos e1, if_neg (by omega)]
      exact h (j - 1) q (by omega) (by omega) h3 (by omega)
    · rw [if_neg e1]
      by_cases e2 : q = j
      · rw [if_pos e2]
        exact h p (j - 1) h1 (by omega) (by omega) (by omega)
      · rw [if_neg e2]
        exact h p q h1 h2 h3 e2
/-- Two rows in order of the same things are one. -/
theorem srt_unique {d d' : List ChoD} (h : Srt 0 d.length d) (h2 : Srt 0 d'.length d') (hp : d'.Perm d) : d' = d := by
  have key : ∀ l : List ChoD, Srt 0 l.length l → l.Pairwise (fun a b => cmpC a b ≤ 0) := fun l hl => by
    refine List.pairwise_iff_getElem.2 fun i j hi hj hij => ?_
    have := hl i j (Nat.zero_le _) hij hj
    simpa [el, hi, hj] using this
  refine List.Perm.eq_of_pairwise (le := fun a b => cmpC a b ≤ 0) (fun a b _ _ h1 h3 => ?_) (key _ h2) (key _ h) hp
  have := cmpC_anti a b
  exact cmpC_zero (by omega)
end Go.Cn

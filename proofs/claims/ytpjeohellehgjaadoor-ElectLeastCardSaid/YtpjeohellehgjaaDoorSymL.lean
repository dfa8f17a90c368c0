/- The merge of two stretches in order, plain. No program in sight. -/
import Derived.Test.YtpjeohellehgjaaDoorSortL
set_option linter.unusedVariables false
set_option linter.unusedSimpArgs false
namespace Go.Cn
open Num
theorem Srt.le {a b : Nat} {d : List ChoD} (h : Srt a b d) {p q : Nat} (h1 : a ≤ p) (h2 : p ≤ q) (h3 : q < b) : cmpC (el d p) (el d q) ≤ 0 := by
  by_cases e : p = q
  · subst e; rw [cmpC_self]; omega
  · exact h p q h1 (by omega) h3
theorem ins_left {a b i : Nat} {d ys : List ChoD} (hs : Srt (a + 1) b d) (hi : a + 1 ≤ i) (hib : i ≤ b) (h1 : i = a + 1 ∨ cmpC (el d (i - 1)) (el d a) < 0) (h2 : i = b ∨ ¬ cmpC (el d i) (el d a) < 0)
    (hy : ∀ p, el ys p = if a ≤ p ∧ p < i - 1 then el d (p + 1) else if p = i - 1 then el d a else el d p) : Srt a b ys := fun p q p1 p2 p3 => by
  rw [hy p, hy q]
  by_cases c1 : p < i - 1
  · rw [if_pos ⟨p1, c1⟩]
    have hne : i ≠ a + 1 := by omega
    have h1 : cmpC (el d (i - 1)) (el d a) < 0 := h1.elim (fun e => absurd e hne) (fun h => h)
    by_cases c2 : q < i - 1
    · rw [if_pos ⟨by omega, c2⟩]; exact hs _ _ (by omega) (by omega) (by omega)
    · rw [if_neg (by omega)]
      by_cases c3 : q = i - 1
      · rw [if_pos c3]
        exact cmpC_trans (hs.le (show a + 1 ≤ p + 1 by omega) (show p + 1 ≤ i - 1 by omega) (by omega)) (by omega)
      · rw [if_neg c3]; exact hs _ _ (by omega) (by omega) (by omega)
  · rw [if_neg (show ¬ (a ≤ p ∧ p < i - 1) by omega)]
    by_cases c2 : p = i - 1
    · rw [if_pos c2, if_neg (show ¬ (a ≤ q ∧ q < i - 1) by omega), if_neg (show ¬ q = i - 1 by omega)]
      have h2 : ¬ cmpC (el d i) (el d a) < 0 := h2.elim (fun e => by omega) (fun h => h)
      have := cmpC_anti (el d i) (el d a)
      exact cmpC_trans (show cmpC (el d a) (el d i) ≤ 0 by omega) (hs.le (by omega) (show i ≤ q by omega) (by omega))
    · rw [if_neg c2, if_neg (show ¬ (a ≤ q ∧ q < i - 1) by omega), if_neg (show ¬ q = i - 1 by omega)]; exact hs _ _ (by omega) (by omega) (by omega)
theorem ins_right {a m i : Nat} {d ys : List ChoD} (hs : Srt a m d) (hi : a ≤ i) (him : i ≤ m) (h1 : i = a ∨ ¬ cmpC (el d m) (el d (i - 1)) < 0) (h2 : i = m ∨ cmpC (el d m) (el d i) < 0)
    (hy : ∀ p, el ys p = if i < p ∧ p ≤ m then el d (p - 1) else if p = i then el d m else el d p) : Srt a (m + 1) ys := fun p q p1 p2 p3 => by
  rw [hy p, hy q]
  by_cases c1 : p < i
  · rw [if_neg (by omega), if_neg (by omega)]
    have h1 : ¬ cmpC (el d m) (el d (i - 1)) < 0 := h1.elim (fun e => by omega) (fun h => h)
    have hx := cmpC_anti (el d m) (el d (i - 1))
    by_cases c2 : i < q
    · rw [if_pos ⟨c2, by omega⟩]; exact hs _ _ (by omega) (by omega) (by omega)
    · rw [if_neg (by omega)]
      by_cases c3 : q = i
      · rw [if_pos c3]
        exact cmpC_trans (hs.le p1 (show p ≤ i - 1 by omega) (by omega)) (by omega)
      · rw [if_neg c3]; exact hs _ _ (by omega) (by omega) (by omega)
  · by_cases c2 : p = i
    · rw [if_neg (by omega), if_pos c2, if_pos (by omega)]
      have h2 : cmpC (el d m) (el d i) < 0 := h2.elim (fun e => by omega) (fun h => h)
      exact cmpC_trans (show cmpC (el d m) (el d i) ≤ 0 by omega) (hs.le hi (show i ≤ q - 1 by omega) (by omega))
    · rw [if_pos (by omega), if_pos (by omega)]; exact hs _ _ (by omega) (by omega) (by omega)
/-- Each of the first half is not above any of the second. -/
theorem sym_cross {a m b s e mid : Nat} {d ys : List ChoD} (h1 : Srt a m d) (h2 : Srt m b d) (has : a ≤ s) (hsm : s ≤ m) (hme : m ≤ e) (heb : e ≤ b) (hmid : mid = s + (e - m))
    (A2 : s = a ∨ e = b ∨ cmpC (el d (s - 1)) (el d e) ≤ 0) (A3 : s = m ∨ e = m ∨ cmpC (el d (e - 1)) (el d s) ≤ 0)
    (hy : ∀ p, el ys p = if s ≤ p ∧ p < s + (e - m) then el d (p + (m - s)) else if s + (e - m) ≤ p ∧ p < e then el d (p - (e - m)) else el d p) : ∀ p q, a ≤ p → p < mid → mid ≤ q → q < b → cmpC (el ys p) (el ys q) ≤ 0 := fun p q p1 p2 p3 p4 => by
  rw [hy p, hy q]
  rw [if_neg (show ¬ (s ≤ q ∧ q < s + (e - m)) by omega)]
  by_cases c1 : p < s
  · rw [if_neg (by omega), if_neg (by omega)]
    by_cases c2 : q < e
    · rw [if_pos (by omega)]; exact h1 _ _ p1 (by omega) (by omega)
    · rw [if_neg (by omega)]
      have A2 : cmpC (el d (s - 1)) (el d e) ≤ 0 := by
        rcases A2 with h | h | h
        · omega
        · omega
        · exact h
      exact cmpC_trans (h1.le p1 (show p ≤ s - 1 by omega) (by omega)) (cmpC_trans A2 (h2.le (by omega) (show e ≤ q by omega) p4))
  · rw [if_pos (by omega)]
    by_cases c2 : q < e
    · rw [if_pos (by omega)]
      have A3 : cmpC (el d (e - 1)) (el d s) ≤ 0 := by
        rcases A3 with h | h | h
        · omega
        · omega
        · exact h
      exact cmpC_trans (h2.le (by omega) (show p + (m - s) ≤ e - 1 by omega) (by omega)) (cmpC_trans A3 (h1.le has (show s ≤ q - (e - m) by omega) (by omega)))
    · rw [if_neg (by omega)]; exact h2 _ _ (by omega) (by omega) p4
theorem sym_done {a b mid : Nat} {ys zs us : List ChoD} (ham : a ≤ mid) (hmb : mid ≤ b) (hc : ∀ p q, a ≤ p → p < mid → mid ≤ q → q < b → cmpC (el ys p) (el ys q) ≤ 0) (m1 : Moved a mid ys zs) (s1 : Srt a mid zs) (m2 : Moved mid b zs us) (s2 : Srt mid b us) : Srt a b us := fun p q p1 p2 p3 => by
  by_cases c1 : mid ≤ p
  · exact s2 p q c1 p2 p3
  · rw [m2.out p (by omega)]
    by_cases c2 : q < mid
    · rw [m2.out q (by omega)]; exact s1 p q p1 p2 c2
    · obtain ⟨p', h1, h2, e1⟩ := m1.mem p p1 (by omega)
      obtain ⟨q', h3, h4, e2⟩ := m2.mem q (by omega) p3
      rw [e1, e2, m1.out q' (by omega)]
      exact hc p' q' h1 h2 h3 h4
/-- The first part of the turned row, and the second. -/
theorem sym_parts {a m b s e mid : Nat} {d ys : List ChoD} (h1 : Srt a m d) (h2 : Srt m b d) (has : a ≤ s) (hsm : s ≤ m) (hme : m ≤ e) (heb : e ≤ b) (hmid : mid = s + (e - m))
    (hy : ∀ p, el ys p = if s ≤ p ∧ p < s + (e - m) then el d (p + (m - s)) else if s + (e - m) ≤ p ∧ p < e then el d (p - (e - m)) else el d p) : Srt a s ys ∧ Srt s mid ys ∧ Srt mid e ys ∧ Srt e b ys := by
  refine ⟨fun p q p1 p2 p3 => ?_, fun p q p1 p2 p3 => ?_, fun p q p1 p2 p3 => ?_, fun p q p1 p2 p3 => ?_⟩
  · rw [hy p, hy q, if_neg (by omega), if_neg (by omega), if_neg (by omega), if_neg (by omega)]; exact h1 _ _ p1 p2 (by omega)
  · rw [hy p, hy q, if_pos (by omega), if_pos (by omega)]; exact h2 _ _ (by omega) (by omega) (by omega)
  · rw [hy p, hy q, if_neg (by omega), if_pos (by omega), if_neg (by omega), if_pos (by omega)]; exact h1 _ _ (by omega) (by omega) (by omega)
  · rw [hy p, hy q, if_neg (by omega), if_neg (by omega), if_neg (by omega), if_neg (by omega)]; exact h2 _ _ (by omega) p2 p3
end Go.Cn

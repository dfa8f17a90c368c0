/- slices' swaps of stretches and turns of stretches, at choices: each place told. Condition: the row is the call's own. -/
import Derived.Test.YtpjeohellehgjaaDoorIns
set_option linter.unusedVariables false
set_option linter.unusedSimpArgs false
set_option maxRecDepth 100000
namespace Go.Proofs.YtpjeohellehgjaaDoor
open Go.RowKit Go.Cn
set_option maxHeartbeats 4000000 in
theorem swapRange_any {g cap a b n : Nat} {xs : List ChoD} {w : World} {X : Value} {K : Value → World → Prop} (h : ChAt w g cap xs) (hab : a + n ≤ b) (hb : b + n ≤ xs.length) (hl : xs.length ≤ 100000)
    (hK : ∀ ys w', ChAt w' g cap ys → Moved a (b + n) xs ys → (∀ p, el ys p = if a ≤ p ∧ p < a + n then el xs (p + (b - a)) else if b ≤ p ∧ p < b + n then el xs (p - (b - a)) else el xs p) → Chg (fun k => k = g) w w' → K (.tuple #[]) w') : CallK Tryd.prog 128 #[.slice (some ⟨g, 0, none⟩) xs.length cap, .int .i64 a, .int .i64 b, .int .i64 n, X] K w := by
  refine F128_calls _ _ _ _ _ _ _ ?_; unfold F128
  refine loopK1 (fun v w' => ∃ (i : Nat) (ys : List ChoD), v = .int .i64 i ∧ i ≤ n ∧ ChAt w' g cap ys ∧ Moved a (b + n) xs ys ∧ (∀ p, el ys p = if a ≤ p ∧ p < a + i then el xs (p + (b - a)) else if b ≤ p ∧ p < b + i then el xs (p - (b - a)) else el xs p) ∧ Chg (fun k => k = g) w w') (fun v _ => n - (intOf v).toNat) ⟨0, xs, rfl, by omega, h, Moved.refl _ _ _, fun p => by rw [if_neg (by omega), if_neg (by omega)], Chg.refl _ _⟩ ?_
  rintro _ _ w1 ⟨i, ys, rfl, hi, h1, m1, e1, c1⟩
  have ly := m1.len
  by_cases hlt : i < n
  · have ha1 : IntKind.i64.wrap ((a : Int) + (i : Int)) = ((a + i : Nat) : Int) := by rw [IntKind.wrap_i64]; omega
    have hb1 : IntKind.i64.wrap ((b : Int) + (i : Int)) = ((b + i : Nat) : Int) := by rw [IntKind.wrap_i64]; omega
    have kd : Chg (fun k => k = g) w1 w1.drew := (Qt.drew Qt.refl).mono (fun _ _ h => h.elim)
    have h4 := h1.chg (Qt.drew Qt.refl) (fun h => h)
    have c4 : Chg (fun k => k = g) w w1.drew := c1.trans kd
    simp (maxSteps := 1000000) (disch := omega) only [genAll, decAll, tk_nil, st128]
    refine drawC (fun k => k = g) w1 kd ?_
    generalize w1.drew = w4 at *
    obtain ⟨x0, x1, x2⟩ := h4.get (show a + i < ys.length by omega)
    obtain ⟨y0, y1, y2⟩ := h4.get (show b + i < ys.length by omega)
    have ta : ((a : Int) + (i : Int)).toNat = a + i := by omega
    have tb : ((b : Int) + (i : Int)).toNat = b + i := by omega
    simp (maxSteps := 1000000) (disch := omega) only [genAll, decAll, tk_nil, st128, ta, tb, x0, x1, x2, y0, y1, y2]
    refine ⟨⟨kd, ⟨kd, ?_, trivial⟩, trivial⟩, ⟨kd, ⟨kd, ?_, trivial⟩, trivial⟩, trivial⟩
    all_goals
      refine choStore h4 (p := a + i) (c := el ys (b + i)) (by omega) ?_
      intro w5 h5 k5
      simp (maxSteps := 1000000) (disch := omega) only [genAll, decAll, tk_nil, st128, tb]
      refine ⟨kd.trans k5, ?_, trivial⟩
      refine choStore h5 (p := b + i) (c := el ys (a + i)) (by rw [List.length_set]; omega) ?_
      intro w6 h6 k6
      have hsw : swp ys (a + i) (b + i) = (ys.set (a + i) (el ys (b + i))).set (b + i) (el ys (a + i)) := rfl
      rw [← hsw] at h6
      simp (maxSteps := 1000000) (disch := omega) only [genAll, decAll, tk_nil, st128]
      refine ⟨(kd.trans k5).trans k6, ⟨i + 1, swp ys (a + i) (b + i), by go_num, by omega, h6, m1.trans (Moved.swp (by omega) (by omega) (by omega)), fun p => ?_, (c4.trans k5).trans k6⟩, by simp [rel, intOf]; omega⟩
      rw [swp_el (by omega) (by omega)]
      by_cases p1 : p = b + i
      · rw [if_pos p1, e1, if_neg (by omega), if_neg (by omega), if_neg (by omega), if_pos (by omega), p1]
        congr 1; omega
      · rw [if_neg p1]
        by_cases p2 : p = a + i
        · rw [if_pos p2, e1, if_neg (by omega), if_neg (by omega), if_pos (by omega), p2]
          congr 1; omega
        · rw [if_neg p2, e1]
          by_cases p3 : a ≤ p ∧ p < a + i
          · rw [if_pos p3, if_pos (by omega)]
          · rw [if_neg p3, if_neg (show ¬ (a ≤ p ∧ p < a + (i + 1)) by omega)]
            by_cases p4 : b ≤ p ∧ p < b + i
            · rw [if_pos p4, if_pos (by omega)]
            · rw [if_neg p4, if_neg (by omega)]
  · obtain rfl : i = n := by omega
    simp (maxSteps := 1000000) (disch := omega) only [genAll, decAll, tk_nil, st128]
    exact hK ys _ h1 m1 e1 c1
/-- A row turned: what lay from m to e lies from s on, and then what lay from s to m. -/
def turnAt (d : List ChoD) (s m e p : Nat) : ChoD := if s ≤ p ∧ p < s + (e - m) then el d (p + (m - s)) else if s + (e - m) ≤ p ∧ p < e then el d (p - (e - m)) else el d p
set_option maxHeartbeats 4000000 in
theorem rotate_any {g cap s m e : Nat} {xs : List ChoD} {w : World} {X : Value} {K : Value → World → Prop} (h : ChAt w g cap xs) (hsm : s < m) (hme : m < e) (he : e ≤ xs.length) (hl : xs.length ≤ 100000)
    (hK : ∀ ys w', ChAt w' g cap ys → Moved s e xs ys → (∀ p, el ys p = turnAt xs s m e p) → Chg (fun k => k = g) w w' → K (.tuple #[]) w') : CallK Tryd.prog 120 #[.slice (some ⟨g, 0, none⟩) xs.length cap, .int .i64 s, .int .i64 m, .int .i64 e, X] K w := by
  refine F120_calls _ _ _ _ _ _ _ ?_; unfold F120
  have t1 : ((m : Int) - (s : Int)) = ((m - s : Nat) : Int) := by omega
  have t2 : ((e : Int) - (m : Int)) = ((e - m : Nat) : Int) := by omega
  simp (maxSteps := 1000000) (disch := omega) only [genAll, decAll, tk_nil, st120, t1, t2]
  refine loopK2 (fun u v w' => ∃ (i j : Nat) (ys : List ChoD), u = .int .i64 i ∧ v = .int .i64 j ∧ 0 < i ∧ 0 < j ∧ s + i ≤ m ∧ m + j ≤ e ∧ ChAt w' g cap ys ∧ Moved s e xs ys ∧ (∀ p, p < m - i ∨ m + j ≤ p → el ys p = turnAt xs s m e p) ∧ (∀ p, m - i ≤ p → p < m → el ys p = turnAt xs s m e (p + j)) ∧ (∀ p, m ≤ p → p < m + j → el ys p = turnAt xs s m e (p - i)) ∧ Chg (fun k => k = g) w w') (fun u v _ => (intOf u).toNat + (intOf v).toNat) ⟨m - s, e - m, xs, rfl, rfl, by omega, by omega, by omega, by omega, h, Moved.refl _ _ _, fun p hp => ?_, fun p h1 h2 => ?_, fun p h1 h2 => ?_, Chg.refl _ _⟩ ?_
  · unfold turnAt; rw [if_neg (by omega), if_neg (by omega)]
  · unfold turnAt; rw [if_neg (by omega), if_pos (by omega)]; congr 1; omega
  · unfold turnAt; rw [if_pos (by omega)]; congr 1; omega
  rintro _ _ _ w1 ⟨i, j, ys, rfl, rfl, hi, hj, hsi, hje, h1, m1, e0, e1, e2, c1⟩
  have ly := m1.len
  have n1 : ((m : Int) - (i : Int)) = ((m - i : Nat) : Int) := by omega
  by_cases hne : i = j
  · subst hne
    have en : ((i : Int) != (i : Int)) = false := bne_self_eq_false _
    simp (maxSteps := 1000000) (disch := omega) only [genAll, decAll, tk_nil, st120, en, n1]
    rw [← ly]
    refine ck128 (swapRange_any h1 (show m - i + i ≤ m by omega) (by omega) (by omega) ?_)
    intro zs w2 h2 m2 ez c2
    simp (maxSteps := 1000000) (disch := omega) only [genAll, decAll, tk_nil, st120]
    refine hK zs w2 h2 (m1.trans (m2.mono (by omega) (by omega))) (fun p => ?_) (c1.trans c2)
    rw [ez]
    by_cases p1 : m - i ≤ p ∧ p < m - i + i
    · rw [if_pos p1, e2 _ (by omega) (by omega)]; congr 1; omega
    · rw [if_neg p1]
      by_cases p2 : m ≤ p ∧ p < m + i
      · rw [if_pos p2, e1 _ (by omega) (by omega)]; congr 1; omega
      · rw [if_neg p2, e0 _ (by omega)]
  have en : ((i : Int) != (j : Int)) = true := by rw [bne_iff_ne]; omega
  by_cases hgt : j < i
  · simp (maxSteps := 1000000) (disch := omega) only [genAll, decAll, tk_nil, st120, en, n1]
    rw [← ly]
    refine ck128 (swapRange_any h1 (show m - i + j ≤ m by omega) (by omega) (by omega) ?_)
    intro zs w2 h2 m2 ez c2
    have n3 : ((i : Int) - (j : Int)) = ((i - j : Nat) : Int) := by omega
    simp (maxSteps := 1000000) (disch := omega) only [genAll, decAll, tk_nil, st120, n3]
    refine ⟨⟨i - j, j, zs, rfl, rfl, by omega, hj, by omega, hje, h2, m1.trans (m2.mono (by omega) (by omega)), fun p hp => ?_, fun p p1 p2 => ?_, fun p p1 p2 => ?_, c1.trans c2⟩, by simp [rel, intOf]; omega⟩
    · rw [ez]
      by_cases p1 : m - i ≤ p ∧ p < m - i + j
      · rw [if_pos p1, e2 _ (by omega) (by omega)]; congr 1; omega
      · rw [if_neg p1, if_neg (by omega), e0 _ (by omega)]
    · rw [ez, if_neg (by omega), if_neg (by omega), e1 _ (by omega) (by omega)]
    · rw [ez, if_neg (by omega), if_pos (by omega), e1 _ (by omega) (by omega)]; congr 1; omega
  · have n2 : ((m : Int) + (j : Int) - (i : Int)) = ((m + j - i : Nat) : Int) := by omega
    simp (maxSteps := 1000000) (disch := omega) only [genAll, decAll, tk_nil, st120, en, n1, n2]
    rw [← ly]
    refine ck128 (swapRange_any h1 (show m - i + i ≤ m + j - i by omega) (by omega) (by omega) ?_)
    intro zs w2 h2 m2 ez c2
    have n3 : ((j : Int) - (i : Int)) = ((j - i : Nat) : Int) := by omega
    simp (maxSteps := 1000000) (disch := omega) only [genAll, decAll, tk_nil, st120, n3]
    refine ⟨⟨i, j - i, zs, rfl, rfl, hi, by omega, by omega, by omega, h2, m1.trans (m2.mono (by omega) (by omega)), fun p hp => ?_, fun p p1 p2 => ?_, fun p p1 p2 => ?_, c1.trans c2⟩, by simp [rel, intOf]; omega⟩
    · rw [ez]
      by_cases p1 : m + j - i ≤ p ∧ p < m + j - i + i
      · rw [if_neg (by omega), if_pos p1, e1 _ (by omega) (by omega)]; congr 1; omega
      · rw [if_neg (by omega), if_neg p1, e0 _ (by omega)]
    · rw [ez, if_pos (by omega), e2 _ (by omega) (by omega)]; congr 1; omega
    · rw [ez, if_neg (by omega), if_neg (by omega), e2 _ (by omega) (by omega)]
end Go.Proofs.YtpjeohellehgjaaDoor

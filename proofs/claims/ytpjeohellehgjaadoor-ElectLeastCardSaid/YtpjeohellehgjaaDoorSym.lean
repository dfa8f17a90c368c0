/- slices' merge of two stretches in order, at choices. Condition: the row is the call's own. -/
import Derived.Test.YtpjeohellehgjaaDoorSymL
import Derived.Test.YtpjeohellehgjaaDoorZE
import Derived.Test.YtpjeohellehgjaaDoorRot
set_option linter.unusedVariables false
set_option linter.unusedSimpArgs false
set_option maxRecDepth 100000
namespace Go.Proofs.YtpjeohellehgjaaDoor
open Go.RowKit Go.Cn
set_option maxHeartbeats 16000000 in
theorem sym_any (N : Nat) : ∀ {g cap a m b : Nat} {xs : List ChoD} {w : World} {K : Value → World → Prop}, b - a ≤ N → ChAt w g cap xs → a < m → m < b → b ≤ xs.length → xs.length ≤ 100000 → Srt a m xs → Srt m b xs →
    (∀ ys w', ChAt w' g cap ys → Moved a b xs ys → Srt a b ys → Chg (fun k => k = g) w w' → K (.tuple #[]) w') → CallK Tryd.prog 106 #[.slice (some ⟨g, 0, none⟩) xs.length cap, .int .i64 a, .int .i64 m, .int .i64 b, .func (.func 68) #[] #[]] K w := by
  induction N with
  | zero => intro g cap a m b xs w K hN h ham hmb; omega
  | succ N ih =>
  intro g cap a m b xs w K hN h ham hmb hb hl sa sb hK
  refine F106_calls _ _ _ _ _ _ _ ?_; unfold F106
  by_cases hone : m = a + 1
  · have e1 : (((m : Int) - (a : Int)) == 1) = true := beq_iff_eq.2 (by omega)
    simp (maxSteps := 1000000) (disch := omega) only [genAll, decAll, tk_nil, st106, e1]
    refine loopK2 (fun x y w' => ∃ i j : Nat, x = .int .i64 i ∧ y = .int .i64 j ∧ m ≤ i ∧ i ≤ j ∧ j ≤ b ∧ (i = m ∨ cmpC (el xs (i - 1)) (el xs a) < 0) ∧ (j = b ∨ ¬ cmpC (el xs j) (el xs a) < 0) ∧ Qt w w') (fun x y _ => (intOf y).toNat - (intOf x).toNat) ⟨m, b, rfl, rfl, by omega, by omega, by omega, .inl rfl, .inl rfl, Qt.refl⟩ ?_
    rintro _ _ _ w2 ⟨i, j, rfl, rfl, hmi, hij, hjb, A, B, q2⟩
    by_cases hlt : i < j
    · have hh : IntKind.i64.wrap (((i : Int) + (j : Int)) / (2 : Int) ^ min (Int.toNat 1) 64) = (((i + j) / 2 : Nat) : Int) := by
        rcases half_go i j with h | h
        · exact h
        · omega
      have hm1 : i ≤ (i + j) / 2 ∧ (i + j) / 2 < j := by omega
      generalize (i + j) / 2 = c at *
      have X := fun w' (q : Quiets w w') => (h.chg q (fun h => h)).get (show c < xs.length by omega)
      have Y := fun w' (q : Quiets w w') => (h.chg q (fun h => h)).get (show a < xs.length by omega)
      have q2d : Qt w w2.drew := q2.trans (Qt.drew Qt.refl)
      simp (maxSteps := 1000000) (disch := omega) only [genAll, decAll, tk_nil, st106, hh]
      refine drawQ w q2d ?_
      generalize w2.drew = wd at *
      simp (maxSteps := 1000000) (disch := omega) only [genAll, decAll, tk_nil, st106, qkld73 X, qkld73 Y]
      refine ⟨?_, trivial⟩
      refine ck68 (ord1_any (a := el xs c) (b := el xs a) ?_)
      intro w3 q3
      have q23 := q2d.trans q3
      by_cases hc : cmpC (el xs c) (el xs a) < 0
      · simp (maxSteps := 1000000) (disch := omega) only [genAll, decAll, tk_nil, st106]
        exact ⟨q23, ⟨c + 1, j, by go_num, rfl, by omega, by omega, hjb, .inr (by rw [Nat.add_sub_cancel]; exact hc), B, q23⟩, by simp [rel, intOf]; omega⟩
      · simp (maxSteps := 1000000) (disch := omega) only [genAll, decAll, tk_nil, st106]
        exact ⟨q23, ⟨i, c, rfl, rfl, hmi, by omega, by omega, A, .inr hc, q23⟩, by simp [rel, intOf]; omega⟩
    obtain rfl : i = j := by omega
    simp (maxSteps := 1000000) (disch := omega) only [genAll, decAll, tk_nil, st106]
    refine loopK1 (fun v w' => ∃ (k : Nat) (ys : List ChoD), v = .int .i64 k ∧ a ≤ k ∧ k ≤ i - 1 ∧ ChAt w' g cap ys ∧ Moved a b xs ys ∧ (∀ p, el ys p = if a ≤ p ∧ p < k then el xs (p + 1) else if p = k then el xs a else el xs p) ∧ Chg (fun k => k = g) w w') (fun v _ => i - (intOf v).toNat) ⟨a, xs, rfl, by omega, by omega, h.chg q2 (fun h => h), Moved.refl _ _ _, fun p => ?_, q2.mono (fun _ _ h => h.elim)⟩ ?_
    · rw [if_neg (by omega)]
      by_cases e : p = a
      · rw [if_pos e, e]
      · rw [if_neg e]
    rintro _ _ w5 ⟨k, ys, rfl, hak, hki, h5, m5, e5, c5⟩
    have ly := m5.len
    by_cases hk : k < i - 1
    · have kd : Chg (fun k => k = g) w5 w5.drew := (Qt.drew Qt.refl).mono (fun _ _ h => h.elim)
      have h6 := h5.chg (Qt.drew Qt.refl) (fun h => h)
      have c6 : Chg (fun k => k = g) w w5.drew := c5.trans kd
      have tk : ((k : Int) + 1).toNat = k + 1 := by omega
      simp (maxSteps := 1000000) (disch := omega) only [genAll, decAll, tk_nil, st106]
      refine drawC (fun k => k = g) w5 kd ?_
      generalize w5.drew = w6 at *
      obtain ⟨x0, x1, x2⟩ := h6.get (show k < ys.length by omega)
      obtain ⟨y0, y1, y2⟩ := h6.get (show k + 1 < ys.length by omega)
      simp (maxSteps := 1000000) (disch := omega) only [genAll, decAll, tk_nil, st106, tk, x0, x1, x2, y0, y1, y2]
      refine ⟨⟨kd, ⟨kd, ?_, trivial⟩, trivial⟩, ⟨kd, ⟨kd, ?_, trivial⟩, trivial⟩, trivial⟩
      all_goals
        refine choStore h6 (p := k) (c := el ys (k + 1)) (by omega) ?_
        intro w7 h7 k7
        simp (maxSteps := 1000000) (disch := omega) only [genAll, decAll, tk_nil, st106, tk]
        refine ⟨kd.trans k7, ?_, trivial⟩
        refine choStore h7 (p := k + 1) (c := el ys k) (by rw [List.length_set]; omega) ?_
        intro w8 h8 k8
        have hsw : swp ys k (k + 1) = (ys.set k (el ys (k + 1))).set (k + 1) (el ys k) := rfl
        rw [← hsw] at h8
        simp (maxSteps := 1000000) (disch := omega) only [genAll, decAll, tk_nil, st106]
        refine ⟨(kd.trans k7).trans k8, ⟨k + 1, swp ys k (k + 1), by go_num, by omega, by omega, h8, m5.trans (Moved.swp (by omega) (by omega) (by omega)), fun p => ?_, (c6.trans k7).trans k8⟩, by simp [rel, intOf]; omega⟩
        rw [swp_el (by omega) (by omega)]
        by_cases p1 : p = k + 1
        · rw [if_pos p1, e5, if_neg (by omega), if_pos rfl, if_neg (by omega), if_pos p1]
        · rw [if_neg p1]
          by_cases p2 : p = k
          · rw [if_pos p2, e5, if_neg (by omega), if_neg (by omega), if_pos (by omega), p2]
          · rw [if_neg p2, e5]
            by_cases p3 : a ≤ p ∧ p < k
            · rw [if_pos p3, if_pos (by omega)]
            · rw [if_neg p3, if_neg p2, if_neg (by omega), if_neg p1]
    · obtain rfl : k = i - 1 := by omega
      simp (maxSteps := 1000000) (disch := omega) only [genAll, decAll, tk_nil, st106]
      exact hK ys _ h5 m5 (ins_left (i := i) (by rw [← hone]; exact sb) (by omega) hjb (by rw [← hone]; exact A) B e5) c5
  have e1 : (((m : Int) - (a : Int)) == 1) = false := beq_eq_false_iff_ne.2 (by omega)
  by_cases htwo : b = m + 1
  · have e2 : (((b : Int) - (m : Int)) == 1) = true := beq_iff_eq.2 (by omega)
    simp (maxSteps := 1000000) (disch := omega) only [genAll, decAll, tk_nil, st106, e1, e2]
    refine loopK2 (fun x y w' => ∃ i j : Nat, x = .int .i64 i ∧ y = .int .i64 j ∧ a ≤ i ∧ i ≤ j ∧ j ≤ m ∧ (i = a ∨ ¬ cmpC (el xs m) (el xs (i - 1)) < 0) ∧ (j = m ∨ cmpC (el xs m) (el xs j) < 0) ∧ Qt w w') (fun x y _ => (intOf y).toNat - (intOf x).toNat) ⟨a, m, rfl, rfl, by omega, by omega, by omega, .inl rfl, .inl rfl, Qt.refl⟩ ?_
    rintro _ _ _ w2 ⟨i, j, rfl, rfl, hmi, hij, hjb, A, B, q2⟩
    by_cases hlt : i < j
    · have hh : IntKind.i64.wrap (((i : Int) + (j : Int)) / (2 : Int) ^ min (Int.toNat 1) 64) = (((i + j) / 2 : Nat) : Int) := by
        rcases half_go i j with h | h
        · exact h
        · omega
      have hm1 : i ≤ (i + j) / 2 ∧ (i + j) / 2 < j := by omega
      generalize (i + j) / 2 = c at *
      have X := fun w' (q : Quiets w w') => (h.chg q (fun h => h)).get (show m < xs.length by omega)
      have Y := fun w' (q : Quiets w w') => (h.chg q (fun h => h)).get (show c < xs.length by omega)
      have q2d : Qt w w2.drew := q2.trans (Qt.drew Qt.refl)
      simp (maxSteps := 1000000) (disch := omega) only [genAll, decAll, tk_nil, st106, hh]
      refine drawQ w q2d ?_
      generalize w2.drew = wd at *
      simp (maxSteps := 1000000) (disch := omega) only [genAll, decAll, tk_nil, st106, qkld73 X, qkld73 Y]
      refine ⟨?_, trivial⟩
      refine ck68 (ord1_any (a := el xs m) (b := el xs c) ?_)
      intro w3 q3
      have q23 := q2d.trans q3
      by_cases hc : cmpC (el xs m) (el xs c) < 0
      · simp (maxSteps := 1000000) (disch := omega) only [genAll, decAll, tk_nil, st106, tk_not]
        exact ⟨q23, ⟨i, c, rfl, rfl, hmi, by omega, by omega, A, .inr hc, q23⟩, by simp [rel, intOf]; omega⟩
      · simp (maxSteps := 1000000) (disch := omega) only [genAll, decAll, tk_nil, st106, tk_not]
        exact ⟨q23, ⟨c + 1, j, by go_num, rfl, by omega, by omega, hjb, .inr (by rw [Nat.add_sub_cancel]; exact hc), B, q23⟩, by simp [rel, intOf]; omega⟩
    obtain rfl : i = j := by omega
    simp (maxSteps := 1000000) (disch := omega) only [genAll, decAll, tk_nil, st106]
    refine loopK1 (fun v w' => ∃ (k : Nat) (ys : List ChoD), v = .int .i64 k ∧ i ≤ k ∧ k ≤ m ∧ ChAt w' g cap ys ∧ Moved a b xs ys ∧ (∀ p, el ys p = if k < p ∧ p ≤ m then el xs (p - 1) else if p = k then el xs m else el xs p) ∧ Chg (fun k => k = g) w w') (fun v _ => (intOf v).toNat) ⟨m, xs, rfl, by omega, by omega, h.chg q2 (fun h => h), Moved.refl _ _ _, fun p => ?_, q2.mono (fun _ _ h => h.elim)⟩ ?_
    · rw [if_neg (by omega)]
      by_cases e : p = m
      · rw [if_pos e, e]
      · rw [if_neg e]
    rintro _ _ w5 ⟨k, ys, rfl, hak, hki, h5, m5, e5, c5⟩
    have ly := m5.len
    by_cases hk : i < k
    · have kd : Chg (fun k => k = g) w5 w5.drew := (Qt.drew Qt.refl).mono (fun _ _ h => h.elim)
      have h6 := h5.chg (Qt.drew Qt.refl) (fun h => h)
      have c6 : Chg (fun k => k = g) w w5.drew := c5.trans kd
      have tk : ((k : Int) - 1).toNat = k - 1 := by omega
      simp (maxSteps := 1000000) (disch := omega) only [genAll, decAll, tk_nil, st106]
      refine drawC (fun k => k = g) w5 kd ?_
      generalize w5.drew = w6 at *
      obtain ⟨x0, x1, x2⟩ := h6.get (show k < ys.length by omega)
      obtain ⟨y0, y1, y2⟩ := h6.get (show k - 1 < ys.length by omega)
      simp (maxSteps := 1000000) (disch := omega) only [genAll, decAll, tk_nil, st106, tk, x0, x1, x2, y0, y1, y2]
      refine ⟨⟨kd, ⟨kd, ?_, trivial⟩, trivial⟩, ⟨kd, ⟨kd, ?_, trivial⟩, trivial⟩, trivial⟩
      all_goals
        refine choStore h6 (p := k) (c := el ys (k - 1)) (by omega) ?_
        intro w7 h7 k7
        simp (maxSteps := 1000000) (disch := omega) only [genAll, decAll, tk_nil, st106, tk]
        refine ⟨kd.trans k7, ?_, trivial⟩
        refine choStore h7 (p := k - 1) (c := el ys k) (by rw [List.length_set]; omega) ?_
        intro w8 h8 k8
        have hsw : swp ys k (k - 1) = (ys.set k (el ys (k - 1))).set (k - 1) (el ys k) := rfl
        rw [← hsw] at h8
        simp (maxSteps := 1000000) (disch := omega) only [genAll, decAll, tk_nil, st106]
        refine ⟨(kd.trans k7).trans k8, ⟨k - 1, swp ys k (k - 1), by go_num, by omega, by omega, h8, m5.trans (Moved.swp (by omega) (by omega) (by omega)), fun p => ?_, (c6.trans k7).trans k8⟩, by simp [rel, intOf]; omega⟩
        rw [swp_el (by omega) (by omega)]
        by_cases p1 : p = k - 1
        · rw [if_pos p1, e5, if_neg (by omega), if_pos rfl, if_neg (by omega), if_pos p1]
        · rw [if_neg p1]
          by_cases p2 : p = k
          · rw [if_pos p2, e5, if_neg (by omega), if_neg (by omega), if_pos (by omega), p2]
          · rw [if_neg p2, e5]
            by_cases p3 : k < p ∧ p ≤ m
            · rw [if_pos p3, if_pos (by omega)]
            · rw [if_neg p3, if_neg p2, if_neg (by omega), if_neg p1]
    · obtain rfl : k = i := by omega
      simp (maxSteps := 1000000) (disch := omega) only [genAll, decAll, tk_nil, st106]
      exact hK ys _ h5 m5 (by rw [htwo]; exact ins_right (i := k) sa hmi hki A B e5) c5
  have e2 : (((b : Int) - (m : Int)) == 1) = false := beq_eq_false_iff_ne.2 (by omega)
  obtain ⟨mid, hmid⟩ : ∃ mid, mid = (a + b) / 2 := ⟨_, rfl⟩
  have hh : IntKind.i64.wrap (((a : Int) + (b : Int)) / (2 : Int) ^ min (Int.toNat 1) 64) = (mid : Int) := by
    rcases half_go a b with h | h
    · rw [h, hmid]
    · omega
  have hma : a < mid ∧ mid < b := by omega
  simp (maxSteps := 1000000) (disch := omega) only [genAll, decAll, tk_nil, st106, e1, e2, hh]
  refine cutK2 (fun u v w' => ∃ s r : Nat, u = .int .i64 s ∧ v = .int .i64 r ∧ s ≤ r ∧ a ≤ s ∧ r ≤ m ∧ r ≤ mid ∧ mid + m ≤ s + b ∧ (s = a ∨ mid + m = s + b) ∧ (r = m ∨ r = mid) ∧ w' = w) ?_ ?_
  · by_cases hmm : mid < m
    · have n1 : ((mid : Int) + (m : Int) - (b : Int)) = ((mid + m - b : Nat) : Int) := by omega
      simp (maxSteps := 1000000) (disch := omega) only [genAll, decAll, tk_nil, st106, n1]
      exact ⟨mid + m - b, mid, rfl, rfl, by omega, by omega, by omega, by omega, by omega, .inr (by omega), .inr rfl, rfl⟩
    · simp (maxSteps := 1000000) (disch := omega) only [genAll, decAll, tk_nil, st106]
      exact ⟨a, m, rfl, rfl, by omega, by omega, by omega, by omega, by omega, .inl rfl, .inl rfl, rfl⟩
  rintro _ _ _ w1 ⟨s0, r0, rfl, rfl, hsr, has, hrm, hrmid, hnb, hs0, hr0, hw1⟩
  obtain rfl : w1 = w := hw1
  simp (maxSteps := 1000000) (disch := omega) only [genAll, decAll, tk_nil, st106]
  refine loopK2 (fun x y w' => ∃ s r : Nat, x = .int .i64 s ∧ y = .int .i64 r ∧ s0 ≤ s ∧ s ≤ r ∧ r ≤ r0 ∧ (s = s0 ∨ ¬ cmpC (el xs (mid + m - s)) (el xs (s - 1)) < 0) ∧ (r = r0 ∨ cmpC (el xs (mid + m - 1 - r)) (el xs r) < 0) ∧ Qt w1 w') (fun x y _ => (intOf y).toNat - (intOf x).toNat) ⟨s0, r0, rfl, rfl, by omega, hsr, by omega, .inl rfl, .inl rfl, Qt.refl⟩ ?_
  rintro _ _ _ w2 ⟨s, r, rfl, rfl, hs, hsr', hr, A, B, q2⟩
  by_cases hlt : s < r
  · have hh : IntKind.i64.wrap (((s : Int) + (r : Int)) / (2 : Int) ^ min (Int.toNat 1) 64) = (((s + r) / 2 : Nat) : Int) := by
      rcases half_go s r with h | h
      · exact h
      · omega
    have hm1 : s ≤ (s + r) / 2 ∧ (s + r) / 2 < r := by omega
    generalize (s + r) / 2 = c at *
    have X := fun w' (q : Quiets w1 w') => (h.chg q (fun h => h)).get (show mid + m - 1 - c < xs.length by omega)
    have Y := fun w' (q : Quiets w1 w') => (h.chg q (fun h => h)).get (show c < xs.length by omega)
    have q2d : Qt w1 w2.drew := q2.trans (Qt.drew Qt.refl)
    have ti : ((mid : Int) + (m : Int) - 1 - (c : Int)).toNat = mid + m - 1 - c := by omega
    simp (maxSteps := 1000000) (disch := omega) only [genAll, decAll, tk_nil, st106, hh]
    refine drawQ w1 q2d ?_
    generalize w2.drew = wd at *
    simp (maxSteps := 1000000) (disch := omega) only [genAll, decAll, tk_nil, st106, ti, qkld73 X, qkld73 Y]
    refine ⟨?_, trivial⟩
    refine ck68 (ord1_any (a := el xs (mid + m - 1 - c)) (b := el xs c) ?_)
    intro w3 q3
    have q23 := q2d.trans q3
    by_cases hc : cmpC (el xs (mid + m - 1 - c)) (el xs c) < 0
    · simp (maxSteps := 1000000) (disch := omega) only [genAll, decAll, tk_nil, st106, tk_not]
      exact ⟨q23, ⟨s, c, rfl, rfl, hs, by omega, by omega, A, .inr hc, q23⟩, by simp [rel, intOf]; omega⟩
    · simp (maxSteps := 1000000) (disch := omega) only [genAll, decAll, tk_nil, st106, tk_not]
      exact ⟨q23, ⟨c + 1, r, by go_num, rfl, by omega, by omega, hr, .inr (by rw [Nat.add_sub_cancel, show mid + m - (c + 1) = mid + m - 1 - c by omega]; exact hc), B, q23⟩, by simp [rel, intOf]; omega⟩
  obtain rfl : s = r := by omega
  obtain ⟨e, he⟩ : ∃ e, e = mid + m - s := ⟨_, rfl⟩
  have ne : ((mid : Int) + (m : Int) - (s : Int)) = (e : Int) := by omega
  have A2 : s = a ∨ e = b ∨ cmpC (el xs (s - 1)) (el xs e) ≤ 0 := by
    rcases A with A | A
    · rcases hs0 with h | h
      · exact .inl (by omega)
      · exact .inr (.inl (by omega))
    · rw [← he] at A
      have := cmpC_anti (el xs e) (el xs (s - 1))
      exact .inr (.inr (by omega))
  have A3 : s = m ∨ e = m ∨ cmpC (el xs (e - 1)) (el xs s) ≤ 0 := by
    rcases B with B | B
    · rcases hr0 with h | h
      · exact .inl (by omega)
      · exact .inr (.inl (by omega))
    · rw [show mid + m - 1 - s = e - 1 by omega] at B
      exact .inr (.inr (by omega))
  have hse : mid = s + (e - m) := by omega
  have hsm : s ≤ m := by omega
  have hme : m ≤ e := by omega
  have heb : e ≤ b := by omega
  have has' : a ≤ s := by omega
  clear A B hs0 hr0 hnb hsr hsr' hs hr has hrm hrmid he hmid
  have h2 := h.chg q2 (fun h => h)
  have c2 : Chg (fun k => k = g) w1 w2 := q2.mono (fun _ _ h => h.elim)
  simp (maxSteps := 1000000) (disch := omega) only [genAll, decAll, tk_nil, st106, ne]
  refine cutK0 (fun w' => ∃ ys, ChAt w' g cap ys ∧ Moved a b xs ys ∧ (∀ p, el ys p = turnAt xs s m e p) ∧ Chg (fun k => k = g) w1 w') ?_ ?_
  · by_cases hc : s < m
    · by_cases hc2 : m < e
      · simp (maxSteps := 1000000) (disch := omega) only [genAll, decAll, tk_nil, st106]
        refine ck120 (rotate_any h2 hc hc2 (by omega) hl ?_)
        intro ys w3 h3 m3 e3 c3
        simp (maxSteps := 1000000) (disch := omega) only [genAll, decAll, tk_nil, st106]
        exact ⟨ys, h3, m3.mono has' heb, e3, c2.trans c3⟩
      · simp (maxSteps := 1000000) (disch := omega) only [genAll, decAll, tk_nil, st106]
        refine ⟨xs, h2, Moved.refl _ _ _, fun p => ?_, c2⟩
        unfold turnAt
        rw [if_neg (by omega)]
        by_cases hp : s + (e - m) ≤ p ∧ p < e
        · rw [if_pos hp]; congr 1; omega
        · rw [if_neg hp]
    · simp (maxSteps := 1000000) (disch := omega) only [genAll, decAll, tk_nil, st106, guardK_u]
      refine ⟨xs, h2, Moved.refl _ _ _, fun p => ?_, c2⟩
      unfold turnAt
      rw [if_neg (show ¬ (s + (e - m) ≤ p ∧ p < e) by omega)]
      by_cases hp : s ≤ p ∧ p < s + (e - m)
      · rw [if_pos hp]; congr 1; omega
      · rw [if_neg hp]
  rintro _ w3 ⟨ys, h3, m3, e3, c3⟩
  have ly := m3.len
  obtain ⟨z1, z2, z3, z4⟩ := sym_parts sa sb has' hsm hme heb hse e3
  have hcr := sym_cross sa sb has' hsm hme heb hse A2 A3 e3
  refine cutK0 (fun w' => ∃ zs, ChAt w' g cap zs ∧ Moved a mid ys zs ∧ Srt a mid zs ∧ Chg (fun k => k = g) w1 w') ?_ ?_
  · by_cases hc : a < s
    · by_cases hc2 : s < mid
      · simp (maxSteps := 1000000) (disch := omega) only [genAll, decAll, tk_nil, st106]
        rw [← ly]
        refine ck106 (ih (by omega) h3 hc hc2 (by omega) (by omega) z1 z2 ?_)
        intro zs w4 h4 m4 s4 c4
        simp (maxSteps := 1000000) (disch := omega) only [genAll, decAll, tk_nil, st106]
        exact ⟨zs, h4, m4, s4, c3.trans c4⟩
      · simp (maxSteps := 1000000) (disch := omega) only [genAll, decAll, tk_nil, st106]
        exact ⟨ys, h3, Moved.refl _ _ _, by rw [show mid = s by omega]; exact z1, c3⟩
    · simp (maxSteps := 1000000) (disch := omega) only [genAll, decAll, tk_nil, st106, guardK_u]
      exact ⟨ys, h3, Moved.refl _ _ _, by rw [show a = s by omega]; exact z2, c3⟩
  rintro _ w4 ⟨zs, h4, m4, s4, c4⟩
  have lz := m4.len
  have z3 : Srt mid e zs := fun p q p1 p2 p3 => by rw [m4.out p (by omega), m4.out q (by omega)]; exact z3 p q p1 p2 p3
  have z4 : Srt e b zs := fun p q p1 p2 p3 => by rw [m4.out p (by omega), m4.out q (by omega)]; exact z4 p q p1 p2 p3
  have hdone : ∀ us w', ChAt w' g cap us → Moved mid b zs us → Srt mid b us → Chg (fun k => k = g) w4 w' → K (.tuple #[]) w' := fun us w' hu mu su cu =>
    hK us w' hu ((m3.trans (m4.mono (by omega) (by omega))).trans (mu.mono (by omega) (by omega))) (sym_done (by omega) (by omega) hcr m4 s4 mu su) (c4.trans cu)
  clear hK
  by_cases hc : mid < e
  · by_cases hc2 : e < b
    · simp (maxSteps := 1000000) (disch := omega) only [genAll, decAll, tk_nil, st106]
      rw [show xs.length = zs.length by omega]
      refine ck106 (ih (by omega) h4 hc hc2 (by omega) (by omega) z3 z4 ?_)
      intro us w5 h5 m5 s5 c5
      simp (maxSteps := 1000000) (disch := omega) only [genAll, decAll, tk_nil, st106]
      exact hdone us w5 h5 m5 s5 c5
    · simp (maxSteps := 1000000) (disch := omega) only [genAll, decAll, tk_nil, st106]
      exact hdone zs w4 h4 (Moved.refl _ _ _) (by rw [show b = e by omega]; exact z3) (Chg.refl _ _)
  · simp (maxSteps := 1000000) (disch := omega) only [genAll, decAll, tk_nil, st106, guardK_u]
    exact hdone zs w4 h4 (Moved.refl _ _ _) (by rw [show mid = e by omega]; exact z4) (Chg.refl _ _)
end Go.Proofs.YtpjeohellehgjaaDoor


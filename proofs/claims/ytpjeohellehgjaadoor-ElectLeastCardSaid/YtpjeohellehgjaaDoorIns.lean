/- slices' insertion sort at choices: a stretch in order. Condition: the row is the call's own. -/
import Derived.Test.YtpjeohellehgjaaDoorSortL
import Derived.Test.YtpjeohellehgjaaDoorEl2
set_option linter.unusedVariables false
set_option linter.unusedSimpArgs false
set_option maxRecDepth 100000
namespace Go.Proofs.YtpjeohellehgjaaDoor
open Go.RowKit Go.Cn
def ChAt (w : World) (g cap : Nat) (xs : List ChoD) : Prop := RowAt w 73 3 g xs.length cap (xs.flatMap choC)
theorem ChAt.chg {S : Nat → Prop} {w w' : World} {g cap : Nat} {xs : List ChoD} (h : ChAt w g cap xs) (c : Chg S w w') (hn : ¬ S g) : ChAt w' g cap xs := by
  obtain ⟨h1, cur, h2, h3⟩ := h
  exact ⟨h1, cur, c.heap h2 hn, h3⟩
theorem ChAt.lt {w : World} {g cap : Nat} {xs : List ChoD} (h : ChAt w g cap xs) : g < w.heap.size := by
  obtain ⟨h1, cur, h2, h3⟩ := h
  exact blk_lt h2
theorem ChAt.reads {w : World} {g cap : Nat} {xs : List ChoD} (h : ChAt w g cap xs) : Reads w (some ⟨g, 0, none⟩) (xs.flatMap choC) :=
  reads_own (w := w) (e := 73) (sz := 3) (n := xs.length) (c := cap) (F := some g) (.inr ⟨g, cap, rfl, rfl, h⟩)
theorem ChAt.get {w : World} {g cap : Nat} {xs : List ChoD} (h : ChAt w g cap xs) {p : Nat} (hp : p < xs.length) : w.cell? ⟨g, p * 3, none⟩ = some (.string (el xs p).1) ∧ w.cell? ⟨g, p * 3 + 1, none⟩ = some (.string (el xs p).2.1) ∧ w.cell? ⟨g, p * 3 + 2, none⟩ = some (.int .i64 (el xs p).2.2) := by
  obtain ⟨h1, cur, hb, h3, h4, h5, h6⟩ := h
  have hget : ∀ k, k < 3 → w.cell? ⟨g, p * 3 + k, none⟩ = (choC (el xs p))[k]? := fun k hk => by
    rw [blk_cell hb]
    have hlen : p * 3 + k < xs.length * 3 := by omega
    have e1 : cur[p * 3 + k]? = (cur.toList.take (xs.length * 3))[p * 3 + k]? := by
      rw [List.getElem?_take_of_lt hlen]; simp
    have e2 : el xs p = xs[p] := by simp [el, hp]
    rw [e1, h6, flat_get choC_len xs p hp k hk, e2]
  exact ⟨hget 0 (by omega), hget 1 (by omega), hget 2 (by omega)⟩
theorem take_mid {α : Type} {L B : List α} {a b n : Nat} (hB : B.length = b) (h : a + b ≤ n) (hn : n ≤ L.length) : (L.take a ++ B ++ L.drop (a + b)).take n = (L.take n).take a ++ B ++ (L.take n).drop (a + b) := by
  have l1 : (L.take n).length = n := by rw [List.length_take]; omega
  have e1 : L.take a = (L.take n).take a := by rw [List.take_take, Nat.min_eq_left (by omega)]
  have e2 : L.drop (a + b) = (L.take n).drop (a + b) ++ L.drop n := by
    have := congrArg (fun z => List.drop (a + b) z) (List.take_append_drop n L).symm
    rw [List.drop_append_of_le_length (by omega)] at this
    exact this
  rw [e1, e2, ← List.append_assoc]
  refine List.take_left' ?_
  rw [List.length_append, List.length_append, List.length_take, List.length_drop, hB, l1]
  omega
theorem flat_set : ∀ (xs : List ChoD) (p : Nat) (c : ChoD), p < xs.length → (xs.set p c).flatMap choC = (xs.flatMap choC).take (p * 3) ++ choC c ++ (xs.flatMap choC).drop (p * 3 + 3)
  | [], _, _, h => by simp at h
  | x :: xs, 0, c, _ => by simp [choC]
  | x :: xs, p + 1, c, h => by
    rw [List.set_cons_succ, List.flatMap_cons, flat_set xs p c (by simpa using h), List.flatMap_cons]
    have e1 : (p + 1) * 3 = (choC x).length + p * 3 := by rw [choC_len]; omega
    have e2 : (p + 1) * 3 + 3 = (choC x).length + (p * 3 + 3) := by rw [choC_len]; omega
    rw [e2, e1, List.take_length_add_append, List.drop_length_add_append]
    simp
theorem ChAt.store {w : World} {g cap : Nat} {xs : List ChoD} (h : ChAt w g cap xs) {p : Nat} (hp : p < xs.length) (c : ChoD) : ChAt (w.setCells g (p * 3) (choC c)) g cap (xs.set p c) := by
  obtain ⟨h1, cur, hb, h3, h4, h5, h6⟩ := h
  have hn : xs.length * 3 ≤ cur.toList.length := by rw [← Array.length_toList] at h5; omega
  have hs := blk_setCells (choC c) (p * 3) w cur hb (by rw [choC_len]; omega)
  rw [choC_len] at hs
  refine ⟨by rw [flat_len choC_len], _, hs, by rw [List.length_set]; exact h3, h4, ?_, ?_⟩
  · rw [← h5]
    simp only [List.size_toArray, List.length_append, List.length_take, List.length_drop, choC_len, Array.length_toList]
    omega
  · rw [List.length_set, flat_set xs p c hp, ← h6]
    exact take_mid (choC_len c) (by omega) hn
theorem ChAt.there {w : World} {g cap : Nat} {xs : List ChoD} (h : ChAt w g cap xs) {p : Nat} (hp : p < xs.length) : World.there w g (p * 3) 3 := fun j hj => by
  obtain ⟨h1, cur, hb, h3, h4, h5, h6⟩ := h
  rw [blk_cell hb, blk_frozen hb]
  exact ⟨by rw [Array.getElem?_eq_getElem (by omega)]; rfl, rfl⟩
theorem choStore {w : World} {g cap : Nat} {xs : List ChoD} (h : ChAt w g cap xs) {p : Nat} (hp : p < xs.length) {c : ChoD} {K : Value → World → Prop} (hK : ∀ w', ChAt w' g cap (xs.set p c) → Chg (fun k => k = g) w w' → K undef w') : StoreK Tryd.prog 73 (.pointer (some ⟨g, p * 3, none⟩)) (choV c) K w :=
  aggStoreK (cells := (choC c).toArray) (h.there hp) (by kernel_rfl) (by rw [← Array.all_toList]; simpa using choC_one c) (by
    have := hK _ (h.store hp c) Chg.sets
    simpa using this)
set_option maxHeartbeats 4000000 in
theorem ins_any {g cap a b : Nat} {xs : List ChoD} {w : World} {K : Value → World → Prop} (h : ChAt w g cap xs) (hab : a ≤ b) (hb : b ≤ xs.length) (hl : xs.length ≤ 100000)
    (hK : ∀ ys w', ChAt w' g cap ys → Moved a b xs ys → Srt a b ys → Chg (fun k => k = g) w w' → K (.tuple #[]) w') : CallK Tryd.prog 105 #[.slice (some ⟨g, 0, none⟩) xs.length cap, .int .i64 a, .int .i64 b, .func (.func 68) #[] #[]] K w := by
  refine F105_calls _ _ _ _ _ _ ?_; unfold F105
  have hwa : IntKind.i64.wrap ((a : Int) + 1) = ((a + 1 : Nat) : Int) := by rw [IntKind.wrap_i64]; omega
  simp (maxSteps := 1000000) (disch := omega) only [genAll, decAll, tk_nil, st105, hwa]
  refine loopK1 (fun v w' => ∃ (i : Nat) (ys : List ChoD), v = .int .i64 i ∧ a + 1 ≤ i ∧ (i ≤ b ∨ i ≤ a + 1) ∧ ChAt w' g cap ys ∧ Moved a b xs ys ∧ Srt a i ys ∧ Chg (fun k => k = g) w w') (fun v _ => b + 1 - (intOf v).toNat) ⟨a + 1, xs, rfl, by omega, .inr (Nat.le_refl _), h, Moved.refl _ _ _, Srt.one (by omega), Chg.refl _ _⟩ ?_
  rintro _ _ w1 ⟨i, ys, rfl, hi, hib, h1, m1, s1, c1⟩
  have ly := m1.len
  by_cases hlt : i < b
  · simp (maxSteps := 1000000) (disch := omega) only [genAll, decAll, tk_nil, st105]
    refine loopK1 (fun v w' => ∃ (j : Nat) (zs : List ChoD), v = .int .i64 j ∧ a ≤ j ∧ j ≤ i ∧ ChAt w' g cap zs ∧ Moved a b xs zs ∧ SrtBut a (i + 1) j zs ∧ Chg (fun k => k = g) w w') (fun v _ => (intOf v).toNat) ⟨i, ys, rfl, by omega, by omega, h1, m1, SrtBut.start s1, c1⟩ ?_
    rintro _ _ w2 ⟨j, zs, rfl, haj, hji, h2, m2, s2, c2⟩
    have lz := m2.len
    have qd : Qt w2 w2.drew := Qt.drew Qt.refl
    by_cases hj : a < j
    · have hn1 : ((j : Int) - 1).toNat = j - 1 := by omega
      have X := fun w' (q : Quiets w2 w') => (h2.chg q (fun h => h)).get (show j < zs.length by omega)
      have Y := fun w' (q : Quiets w2 w') => (h2.chg q (fun h => h)).get (show j - 1 < zs.length by omega)
      refine drawQ w2 qd ?_
      generalize w2.drew = wd at *
      simp (maxSteps := 1000000) (disch := omega) only [genAll, decAll, tk_nil, st105, hn1, qkld73 X, qkld73 Y]
      refine ⟨?_, trivial⟩
      refine ck68 (ord1_any (a := el zs j) (b := el zs (j - 1)) ?_)
      intro w3 q3
      have q23 := qd.trans q3
      by_cases hc : cmpC (el zs j) (el zs (j - 1)) < 0
      case neg =>
        simp (maxSteps := 1000000) (disch := omega) only [genAll, decAll, tk_nil, st105]
        have hcc := cmpC_anti (el zs j) (el zs (j - 1))
        exact ⟨q23, ⟨i + 1, zs, by go_num, by omega, .inl (by omega), h2.chg q23 (fun h => h), m2, SrtBut.end1 s2 hj (by omega), c2.trans (q23.mono (fun _ _ h => h.elim))⟩, by simp [rel, intOf]; omega⟩
      simp (maxSteps := 1000000) (disch := omega) only [genAll, decAll, tk_nil, st105]
      refine ⟨q23, ?_⟩
      have h3 := h2.chg q23 (fun h => h)
      have kd : Chg (fun k => k = g) w3 w3.drew := (Qt.drew Qt.refl).mono (fun _ _ h => h.elim)
      have h4 := h3.chg (Qt.drew Qt.refl) (fun h => h)
      have c4 : Chg (fun k => k = g) w w3.drew := (c2.trans (q23.mono (fun _ _ h => h.elim))).trans kd
      refine drawC (fun k => k = g) w3 kd ?_
      generalize w3.drew = w4 at *
      obtain ⟨x0, x1, x2⟩ := h4.get (show j < zs.length by omega)
      obtain ⟨y0, y1, y2⟩ := h4.get (show j - 1 < zs.length by omega)
      simp (maxSteps := 1000000) (disch := omega) only [genAll, decAll, tk_nil, st105, hn1, x0, x1, x2, y0, y1, y2]
      refine ⟨⟨kd, ⟨kd, ?_, trivial⟩, trivial⟩, ⟨kd, ⟨kd, ?_, trivial⟩, trivial⟩, trivial⟩
      all_goals
        refine choStore h4 (p := j) (c := el zs (j - 1)) (by omega) ?_
        intro w5 h5 k5
        simp (maxSteps := 1000000) (disch := omega) only [genAll, decAll, tk_nil, st105, hn1]
        refine ⟨kd.trans k5, ?_, trivial⟩
        refine choStore h5 (p := j - 1) (c := el zs j) (by rw [List.length_set]; omega) ?_
        intro w6 h6 k6
        have hsw : swp zs j (j - 1) = (zs.set j (el zs (j - 1))).set (j - 1) (el zs j) := rfl
        rw [← hsw] at h6
        have hwj : IntKind.i64.wrap ((j : Int) - 1) = ((j - 1 : Nat) : Int) := by rw [IntKind.wrap_i64]; omega
        simp (maxSteps := 1000000) (disch := omega) only [genAll, decAll, tk_nil, st105, hwj]
        exact ⟨(kd.trans k5).trans k6, ⟨j - 1, swp zs j (j - 1), rfl, by omega, by omega, h6, m2.trans (Moved.swp (by omega) (by omega) (by omega)), SrtBut.step s2 hj (by omega) (by omega) hc, (c4.trans k5).trans k6⟩, by simp [rel, intOf]; omega⟩
    · obtain rfl : j = a := by omega
      refine drawQ w2 qd ?_
      generalize w2.drew = wd at *
      simp (maxSteps := 1000000) (disch := omega) only [genAll, decAll, tk_nil, st105, takeG_u, guardK_u]
      exact ⟨⟨qd, ⟨i + 1, zs, by go_num, by omega, .inl (by omega), h2.chg qd (fun h => h), m2, SrtBut.end0 s2, c2.trans (qd.mono (fun _ _ h => h.elim))⟩, by simp [rel, intOf]; omega⟩, trivial⟩
  · simp (maxSteps := 1000000) (disch := omega) only [genAll, decAll, tk_nil, st105]
    exact hK ys _ h1 m1 (fun p q h1 h2 h3 => s1 p q h1 h2 (by omega)) c1
end Go.Proofs.YtpjeohellehgjaaDoor

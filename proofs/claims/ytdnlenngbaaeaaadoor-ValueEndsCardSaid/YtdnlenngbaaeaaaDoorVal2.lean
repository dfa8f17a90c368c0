/- Values in words and back: the law. No program in sight. -/
import Derived.Test.YtdnlenngbaaeaaaDoorVal
set_option linter.unusedVariables false
set_option linter.unusedSimpArgs false
namespace Go.Cn
open Go.Lib
theorem itoa_bytes (v : Int) : ∀ c ∈ itoa v, c = 45 ∨ digB c = true := by
  intro c hc
  unfold itoa at hc
  split at hc
  · rcases List.mem_cons.1 hc with h | h
    · exact .inl h
    · exact .inr (List.all_eq_true.1 (dec_all v.natAbs).1 c h)
  · exact .inr (List.all_eq_true.1 (dec_all v.toNat).1 c hc)
theorem itoa_not {c : UInt8} (h45 : c ≠ 45) (hd : digB c = false) (v : Int) : c ∉ itoa v := fun h => by
  rcases itoa_bytes v c h with e | e
  · exact h45 e
  · rw [hd] at e; cases e
theorem itoa_ne (v : Int) : itoa v ≠ [] := by
  unfold itoa
  split
  · simp
  · exact (dec_all v.toNat).2.2.1
theorem itoa_head {c : UInt8} (h45 : c ≠ 45) (hd : digB c = false) (v : Int) : (itoa v).headD 0 ≠ c := by
  cases h : itoa v with
  | nil => exact absurd h (itoa_ne v)
  | cons a r =>
    intro e
    have : a = c := e
    exact itoa_not h45 hd v (by rw [h, this]; simp)
theorem inside_mk (a b : UInt8) (m : List UInt8) : insideL a b (a :: m ++ [b]) = some m := by
  unfold insideL
  have h1 : 2 ≤ (a :: m ++ [b]).length := by simp
  have h2 : (a :: m ++ [b]).getLastD 0 = b := by rw [List.getLastD_eq_getLast?, List.getLast?_append]; rfl
  rw [if_pos ⟨h1, rfl, h2⟩]
  congr 1
  show (m ++ [b]).dropLast = m
  simp
theorem inside_some {a b : UInt8} {s m : List UInt8} (h : insideL a b s = some m) : s = a :: m ++ [b] := by
  unfold insideL at h
  split at h
  · rename_i hc
    obtain ⟨h1, h2, h3⟩ := hc
    cases h
    match s, h1 with
    | c :: r, h1 =>
      have hr : r ≠ [] := fun e => by rw [e] at h1; simp at h1
      have e1 : c = a := h2
      have e2 : r.getLast hr = b := by
        rw [← List.dropLast_concat_getLast hr, List.getLastD_eq_getLast?, ← List.cons_append, List.getLast?_append] at h3
        simpa using h3
      rw [e1, List.cons_append]
      congr 1
      show r = r.dropLast ++ [b]
      rw [← e2, List.dropLast_concat_getLast]
  · cases h
theorem inside_no {a b : UInt8} {s : List UInt8} (h : s.headD 0 ≠ a) : insideL a b s = none := by
  unfold insideL
  rw [if_neg (fun e => h e.2.1)]
theorem nums_itoa : ∀ l : List Int, (∀ x ∈ l, in64 x) → numsL (l.map itoa) = some l
  | [], _ => rfl
  | x :: r, h => by
    rw [List.map_cons, numsL, numR_itoa (h x (by simp)), nums_itoa r (fun y hy => h y (by simp [hy]))]
theorem nums_back : ∀ (ws : List (List UInt8)) (l : List Int), numsL ws = some l → ws = l.map itoa ∧ ∀ x ∈ l, in64 x
  | [], l, h => by
    cases h
    exact ⟨rfl, fun x hx => by cases hx⟩
  | w :: r, l, h => by
    rw [numsL] at h
    split at h
    · rename_i v l' h1 h2
      cases h
      obtain ⟨e1, e2⟩ := nums_back r l' h2
      obtain ⟨f1, f2⟩ := numR_some h1
      refine ⟨by rw [List.map_cons, ← e1, ← f2], fun x hx => ?_⟩
      rcases List.mem_cons.1 hx with rfl | hx
      · exact f1
      · exact e2 x hx
    · cases h
theorem join_nil {l : List Int} (h : joinS (l.map itoa) = []) : l = [] := by
  cases l with
  | nil => rfl
  | cons x r =>
    rw [List.map_cons] at h
    have : itoa x = [] := (List.append_eq_nil_iff.1 h).1
    exact absurd this (itoa_ne x)
theorem split_nums (l : List Int) (h : l ≠ []) : splitS (joinS (l.map itoa)) = l.map itoa := by
  cases l with
  | nil => exact absurd rfl h
  | cons x r =>
    rw [List.map_cons]
    refine split_join _ _ (itoa_not (by decide) (by decide) x) (fun q hq => ?_)
    obtain ⟨y, _, rfl⟩ := List.mem_map.1 hq
    exact itoa_not (by decide) (by decide) y
theorem parse_text {a : Val} (h : checkV a = 0) (hi : in64 a.2.1) (hl : ∀ x ∈ a.2.2.2, in64 x) : ∃ v, parseV (textV a) = (v, 0) ∧ cmpV v a = 0 := by
  obtain ⟨k, i, s, l⟩ := a
  simp only at hi hl
  by_cases h1 : k = 1
  · subst h1
    refine ⟨(1, i, ByteArray.empty, []), ?_, cmpL_self _⟩
    have e : textV (1, i, s, l) = itoa i := by unfold textV; rw [if_pos rfl]
    rw [e]
    unfold parseV readV
    rw [inside_no (itoa_head (by decide) (by decide) i), inside_no (itoa_head (by decide) (by decide) i), numR_itoa hi]
    rfl
  · by_cases h2 : k = 2
    · subst h2
      have e : textV (2, i, s, l) = 34 :: s.data.toList ++ [34] := by unfold textV; rw [if_neg (show ¬ (2 : Int) = 1 by decide), if_pos rfl]
      have ec : checkV (2, 0, txt s.data.toList, []) = checkV (2, i, s, l) := by unfold checkV; rfl
      refine ⟨(2, 0, txt s.data.toList, []), ?_, ?_⟩
      · rw [e]
        unfold parseV readV
        rw [inside_mk]
        simp only
        rw [ec, h]; rfl
      · rw [txt_list]; exact cmpL_self _
    · by_cases h3 : k = 3
      · subst h3
        have e : textV (3, i, s, l) = 91 :: joinS (l.map itoa) ++ [93] := by unfold textV; rw [if_neg (show ¬ (3 : Int) = 1 by decide), if_neg (show ¬ (3 : Int) = 2 by decide), if_pos rfl]
        have ec : checkV (3, 0, ByteArray.empty, l) = checkV (3, i, s, l) := by unfold checkV; rfl
        refine ⟨(3, 0, ByteArray.empty, l), ?_, cmpL_self _⟩
        rw [e]
        unfold parseV readV
        rw [inside_no (by simp), inside_mk]
        simp only
        by_cases hl0 : l = []
        · subst hl0; rfl
        · rw [if_neg (fun e => hl0 (join_nil e)), split_nums l hl0, nums_itoa l hl]
          simp only
          rw [ec, h]; rfl
      · unfold checkV at h
        rw [if_neg h1, if_neg h2, if_neg h3] at h
        cases h
theorem parse_back {s : List UInt8} {v : Val} (h : parseV s = (v, 0)) : textV v = s ∧ (v.1 = 1 ∨ v.1 = 2 ∨ v.1 = 3) ∧ in64 v.2.1 ∧ (∀ x ∈ v.2.2.2, in64 x) ∧ checkV v = 0 := by
  unfold parseV at h
  have z : in64 0 := ⟨by decide, by decide⟩
  cases hr : readV s with
  | none => rw [hr] at h; simp at h
  | some x =>
    rw [hr] at h
    simp only at h
    split at h
    · rename_i hc
      injection h with _ h
      exact absurd h hc
    · rename_i hc
      injection h with h _
      subst h
      have hc : checkV x = 0 := by simpa using hc
      unfold readV at hr
      split at hr
      · rename_i t ht
        cases hr
        refine ⟨?_, .inr (.inl rfl), z, (fun x hx => by cases hx), hc⟩
        rw [inside_some ht]
        unfold textV; rw [if_neg (show ¬ (2 : Int) = 1 by decide), if_pos rfl, txt_data]
      · split at hr
        · rename_i t ht
          split at hr
          · rename_i h0
            cases hr
            subst h0
            exact ⟨(inside_some ht).symm, .inr (.inr rfl), z, (fun x hx => by cases hx), hc⟩
          · split at hr
            · rename_i l hl
              cases hr
              obtain ⟨e1, e2⟩ := nums_back _ _ hl
              refine ⟨?_, .inr (.inr rfl), z, e2, hc⟩
              rw [inside_some ht]
              unfold textV; rw [if_neg (show ¬ (3 : Int) = 1 by decide), if_neg (show ¬ (3 : Int) = 2 by decide), if_pos rfl]
              simp only
              rw [← e1, join_split]
            · cases hr
        · split at hr
          · rename_i n hn
            cases hr
            obtain ⟨f1, f2⟩ := numR_some hn
            refine ⟨?_, .inl rfl, f1, (fun x hx => by cases hx), hc⟩
            unfold textV; rw [if_pos rfl, f2]
          · cases hr
theorem parse_none {s : List UInt8} (h : (parseV s).2 ≠ 0) : (parseV s).1 = v0 := by
  unfold parseV at h ⊢
  cases hr : readV s with
  | none => rfl
  | some x =>
    rw [hr] at h
    simp only at h ⊢
    split
    · rfl
    · rename_i hc
      rw [if_neg hc] at h
      exact absurd rfl h
end Go.Cn

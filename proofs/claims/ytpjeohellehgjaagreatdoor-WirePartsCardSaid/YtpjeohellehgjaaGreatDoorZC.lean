import Derived.Test.YtpjeohellehgjaaGreatDoorVG
import Derived.Test.YtpjeohellehgjaaGreatDoorV3
import Derived.Test.YtpjeohellehgjaaGreatDoorV4
import Derived.Test.YtpjeohellehgjaaGreatDoorZB
section
/- Values in words and back: the law. No program in sight. -/
set_option linter.unusedVariables false
set_option linter.unusedSimpArgs false
namespace Go.Cn
open Go.Lib
theorem itoa_bytes (v : Int) : ∀ c ∈ itoa v, c = 45 ∨ digB c = true := by
  intro c hc
  unfold itoa at hc
  split at hc
  · rcases List.mem_cons.1 hc with h | h
    · exact .inl h
    · exact .inr (List.all_eq_true.1 (dec_all v.natAbs).1 c h)
  · exact .inr (List.all_eq_true.1 (dec_all v.toNat).1 c hc)
theorem itoa_not {c : UInt8} (h45 : c ≠ 45) (hd : digB c = false) (v : Int) : c ∉ itoa v := fun h => by
  rcases itoa_bytes v c h with e | e
  · exact h45 e
  · rw [hd] at e; cases e
theorem itoa_ne (v : Int) : itoa v ≠ [] := by
  unfold itoa
  split
  · simp
  · exact (dec_all v.toNat).2.2.1
theorem itoa_head {c : UInt8} (h45 : c ≠ 45) (hd : digB c = false) (v : Int) : (itoa v).headD 0 ≠ c := by
  cases h : itoa v with
  | nil => exact absurd h (itoa_ne v)
  | cons a r =>
    intro e
    have : a = c := e
    exact itoa_not h45 hd v (by rw [h, this]; simp)
theorem inside_mk (a b : UInt8) (m : List UInt8) : insideL a b (a :: m ++ [b]) = some m := by
  unfold insideL
  have h1 : 2 ≤ (a :: m ++ [b]).length := by simp
  have h2 : (a :: m ++ [b]).getLastD 0 = b := by rw [List.getLastD_eq_getLast?, List.getLast?_append]; rfl
  rw [if_pos ⟨h1, rfl, h2⟩]
  congr 1
  show (m ++ [b]).dropLast = m
  simp
theorem inside_some {a b : UInt8} {s m : List UInt8} (h : insideL a b s = some m) : s = a :: m ++ [b] := by
  unfold insideL at h
  split at h
  · rename_i hc
    obtain ⟨h1, h2, h3⟩ := hc
    cases h
    match s, h1 with
    | c :: r, h1 =>
      have hr : r ≠ [] := fun e => by rw [e] at h1; simp at h1
      have e1 : c = a := h2
      have e2 : r.getLast hr = b := by
        rw [← List.dropLast_concat_getLast hr, List.getLastD_eq_getLast?, ← List.cons_append, List.getLast?_append] at h3
        simpa using h3
      rw [e1, List.cons_append]
      congr 1
      show r = r.dropLast ++ [b]
      rw [← e2, List.dropLast_concat_getLast]
  · cases h
theorem inside_no {a b : UInt8} {s : List UInt8} (h : s.headD 0 ≠ a) : insideL a b s = none := by
  unfold insideL
  rw [if_neg (fun e => h e.2.1)]
theorem nums_itoa : ∀ l : List Int, (∀ x ∈ l, in64 x) → numsL (l.map itoa) = some l
  | [], _ => rfl
  | x :: r, h => by
    rw [List.map_cons, numsL, numR_itoa (h x (by simp)), nums_itoa r (fun y hy => h y (by simp [hy]))]
theorem nums_back : ∀ (ws : List (List UInt8)) (l : List Int), numsL ws = some l → ws = l.map itoa ∧ ∀ x ∈ l, in64 x
  | [], l, h => by
    cases h
    exact ⟨rfl, fun x hx => by cases hx⟩
  | w :: r, l, h => by
    rw [numsL] at h
    split at h
    · rename_i v l' h1 h2
      cases h
      obtain ⟨e1, e2⟩ := nums_back r l' h2
      obtain ⟨f1, f2⟩ := numR_some h1
      refine ⟨by rw [List.map_cons, ← e1, ← f2], fun x hx => ?_⟩
      rcases List.mem_cons.1 hx with rfl | hx
      · exact f1
      · exact e2 x hx
    · cases h
theorem join_nil {l : List Int} (h : joinS (l.map itoa) = []) : l = [] := by
  cases l with
  | nil => rfl
  | cons x r =>
    rw [List.map_cons] at h
    have : itoa x = [] := (List.append_eq_nil_iff.1 h).1
    exact absurd this (itoa_ne x)
theorem split_nums (l : List Int) (h : l ≠ []) : splitS (joinS (l.map itoa)) = l.map itoa := by
  cases l with
  | nil => exact absurd rfl h
  | cons x r =>
    rw [List.map_cons]
    refine splitS_join _ _ (itoa_not (by decide) (by decide) x) (fun q hq => ?_)
    obtain ⟨y, _, rfl⟩ := List.mem_map.1 hq
    exact itoa_not (by decide) (by decide) y
theorem parse_text {a : Val} (h : checkV a = 0) (hi : in64 a.2.1) (hl : ∀ x ∈ a.2.2.2, in64 x) : ∃ v, parseV (textV a) = (v, 0) ∧ cmpV v a = 0 := by
  obtain ⟨k, i, s, l⟩ := a
  simp only at hi hl
  by_cases h1 : k = 1
  · subst h1
    refine ⟨(1, i, ByteArray.empty, []), ?_, cmpL_self _⟩
    have e : textV (1, i, s, l) = itoa i := by unfold textV; rw [if_pos rfl]
    rw [e]
    unfold parseV readV
    rw [inside_no (itoa_head (by decide) (by decide) i), inside_no (itoa_head (by decide) (by decide) i), numR_itoa hi]
    rfl
  · by_cases h2 : k = 2
    · subst h2
      have e : textV (2, i, s, l) = 34 :: s.data.toList ++ [34] := by unfold textV; rw [if_neg (show ¬ (2 : Int) = 1 by decide), if_pos rfl]
      have ec : checkV (2, 0, txt s.data.toList, []) = checkV (2, i, s, l) := by unfold checkV; rfl
      refine ⟨(2, 0, txt s.data.toList, []), ?_, ?_⟩
      · rw [e]
        unfold parseV readV
        rw [inside_mk]
        simp only
        rw [ec, h]; rfl
      · rw [txt_list]; exact cmpL_self _
    · by_cases h3 : k = 3
      · subst h3
        have e : textV (3, i, s, l) = 91 :: joinS (l.map itoa) ++ [93] := by unfold textV; rw [if_neg (show ¬ (3 : Int) = 1 by decide), if_neg (show ¬ (3 : Int) = 2 by decide), if_pos rfl]
        have ec : checkV (3, 0, ByteArray.empty, l) = checkV (3, i, s, l) := by unfold checkV; rfl
        refine ⟨(3, 0, ByteArray.empty, l), ?_, cmpL_self _⟩
        rw [e]
        unfold parseV readV
        rw [inside_no (by simp), inside_mk]
        simp only
        by_cases hl0 : l = []
        · subst hl0; rfl
        · rw [if_neg (fun e => hl0 (join_nil e)), split_nums l hl0, nums_itoa l hl]
          simp only
          rw [ec, h]; rfl
      · unfold checkV at h
        rw [if_neg h1, if_neg h2, if_neg h3] at h
        cases h
theorem parse_back {s : List UInt8} {v : Val} (h : parseV s = (v, 0)) : textV v = s ∧ (v.1 = 1 ∨ v.1 = 2 ∨ v.1 = 3) ∧ in64 v.2.1 ∧ (∀ x ∈ v.2.2.2, in64 x) ∧ checkV v = 0 := by
  unfold parseV at h
  have z : in64 0 := ⟨by decide, by decide⟩
  cases hr : readV s with
  | none => rw [hr] at h; simp at h
  | some x =>
    rw [hr] at h
    simp only at h
    split at h
    · rename_i hc
      injection h with _ h
      exact absurd h hc
    · rename_i hc
      injection h with h _
      subst h
      have hc : checkV x = 0 := by simpa using hc
      unfold readV at hr
      split at hr
      · rename_i t ht
        cases hr
        refine ⟨?_, .inr (.inl rfl), z, (fun x hx => by cases hx), hc⟩
        rw [inside_some ht]
        unfold textV; rw [if_neg (show ¬ (2 : Int) = 1 by decide), if_pos rfl, txt_data]
      · split at hr
        · rename_i t ht
          split at hr
          · rename_i h0
            cases hr
            subst h0
            exact ⟨(inside_some ht).symm, .inr (.inr rfl), z, (fun x hx => by cases hx), hc⟩
          · split at hr
            · rename_i l hl
              cases hr
              obtain ⟨e1, e2⟩ := nums_back _ _ hl
              refine ⟨?_, .inr (.inr rfl), z, e2, hc⟩
              rw [inside_some ht]
              unfold textV; rw [if_neg (show ¬ (3 : Int) = 1 by decide), if_neg (show ¬ (3 : Int) = 2 by decide), if_pos rfl]
              simp only
              rw [← e1, join_split]
            · cases hr
        · split at hr
          · rename_i n hn
            cases hr
            obtain ⟨f1, f2⟩ := numR_some hn
            refine ⟨?_, .inl rfl, f1, (fun x hx => by cases hx), hc⟩
            unfold textV; rw [if_pos rfl, f2]
          · cases hr
theorem parse_none {s : List UInt8} (h : (parseV s).2 ≠ 0) : (parseV s).1 = v0 := by
  unfold parseV at h ⊢
  cases hr : readV s with
  | none => rfl
  | some x =>
    rw [hr] at h
    simp only at h ⊢
    split
    · rfl
    · rename_i hc
      rw [if_neg hc] at h
      exact absurd rfl h
end Go.Cn
end

section
/- What is less: numbers, texts, rows of numbers, values; by the program and by the document. Conditions: the rows read. -/
set_option linter.unusedVariables false
set_option linter.unusedSimpArgs false
set_option maxRecDepth 100000
namespace Go.Proofs.YtpjeohellehgjaaGreatDoor
open Go.RowKit Go.Cn
def ints (l : List Int) : List Value := l.map (Value.int .i64)
theorem int_at {w : World} {A : Option Addr} {l : List Int} (h : Reads w A (ints l)) {i : Nat} (hi : i < l.length) : ∃ b o, A = some ⟨b, o, none⟩ ∧ w.cell? ⟨b, o + i, none⟩ = some (.int .i64 (l.getD i 0)) := by
  obtain ⟨g, o, hA, hc⟩ := Reads.get (enc := Value.int .i64) h hi
  exact ⟨g, o, hA, hc⟩
/-- The value as it lies, as it is handed. -/
abbrev vv (v : Val) (A : Option Addr) (c : Nat) : Value := .agg #[.int .i64 v.1, .int .i64 v.2.1, .string v.2.2.1, .slice A v.2.2.2.length c]
theorem cell4 {w : World} {b : Nat} {t : TypeId} {x y z u : Value} (h : w.heap[b]? = some (.cells #[x, y, z, u] t (0, 0))) : w.cell? ⟨b, 0, none⟩ = some x ∧ w.cell? ⟨b, 1, none⟩ = some y ∧ w.cell? ⟨b, 2, none⟩ = some z ∧ w.cell? ⟨b, 3, none⟩ = some u :=
  ⟨by rw [blk_cell h]; rfl, by rw [blk_cell h]; rfl, by rw [blk_cell h]; rfl, by rw [blk_cell h]; rfl⟩
theorem nan_any49 {a : Int} {w : World} {K : Value → World → Prop} (hK : K (.bool false) w) : CallK Tryz.prog 129 #[.int .i64 a] K w := by
  refine F129_calls _ _ _ ?_; unfold F129
  have e : (a != a) = false := bne_self_eq_false a
  simp (maxSteps := 1000000) (disch := omega) only [genAll, decAll, tk_nil, st129, e]
  exact hK
theorem nan_any50 {a : Int} {w : World} {K : Value → World → Prop} (hK : K (.bool false) w) : CallK Tryz.prog 114 #[.int .i64 a] K w := by
  refine F114_calls _ _ _ ?_; unfold F114
  have e : (a != a) = false := bne_self_eq_false a
  simp (maxSteps := 1000000) (disch := omega) only [genAll, decAll, tk_nil, st114, e]
  exact hK
theorem nan_any51 {a : ByteArray} {w : World} {K : Value → World → Prop} (hK : K (.bool false) w) : CallK Tryz.prog 115 #[.string a] K w := by
  refine F115_calls _ _ _ ?_; unfold F115
  simp (maxSteps := 1000000) (disch := omega) only [genAll, decAll, tk_nil, st115, beq_self_eq_true, Bool.not_true]
  exact hK
theorem cmp35 {a b : Int} {w : World} {K : Value → World → Prop} (hK : K (.int .i64 (cmpI a b)) w) : CallK Tryz.prog 123 #[.int .i64 a, .int .i64 b] K w := by
  refine F123_calls _ _ _ _ ?_; unfold F123
  refine ck129 (nan_any49 ?_)
  simp (maxSteps := 1000000) (disch := omega) only [genAll, decAll, tk_nil, st123]
  refine ck129 (nan_any49 ?_)
  unfold cmpI at hK
  by_cases h1 : a < b
  · rw [if_pos h1] at hK
    simp (maxSteps := 1000000) (disch := omega) only [genAll, decAll, tk_nil, st123]
    exact hK
  · rw [if_neg h1] at hK
    by_cases h2 : b < a
    · rw [if_pos h2] at hK
      simp (maxSteps := 1000000) (disch := omega) only [genAll, decAll, tk_nil, st123]
      exact hK
    · rw [if_neg h2] at hK
      simp (maxSteps := 1000000) (disch := omega) only [genAll, decAll, tk_nil, st123]
      exact hK
theorem cmp36 {a b : Int} {w : World} {K : Value → World → Prop} (hK : K (.int .i64 (cmpI a b)) w) : CallK Tryz.prog 104 #[.int .i64 a, .int .i64 b] K w := by
  refine F104_calls _ _ _ _ ?_; unfold F104
  refine ck114 (nan_any50 ?_)
  simp (maxSteps := 1000000) (disch := omega) only [genAll, decAll, tk_nil, st104]
  refine ck114 (nan_any50 ?_)
  unfold cmpI at hK
  by_cases h1 : a < b
  · rw [if_pos h1] at hK
    simp (maxSteps := 1000000) (disch := omega) only [genAll, decAll, tk_nil, st104]
    exact hK
  · rw [if_neg h1] at hK
    by_cases h2 : b < a
    · rw [if_pos h2] at hK
      simp (maxSteps := 1000000) (disch := omega) only [genAll, decAll, tk_nil, st104]
      exact hK
    · rw [if_neg h2] at hK
      simp (maxSteps := 1000000) (disch := omega) only [genAll, decAll, tk_nil, st104]
      exact hK
theorem ord33 {a b : Int} {w : World} {K : Value → World → Prop} (hK : K (.int .i64 (cmpI a b)) w) : CallK Tryz.prog 80 #[.int .i64 a, .int .i64 b] K w := by
  refine F80_calls _ _ _ _ ?_; unfold F80
  unfold cmpI at hK
  by_cases h1 : a < b
  · rw [if_pos h1] at hK
    simp (maxSteps := 1000000) (disch := omega) only [genAll, decAll, tk_nil, st80]
    exact hK
  · rw [if_neg h1] at hK
    by_cases h2 : b < a
    · rw [if_pos h2] at hK
      simp (maxSteps := 1000000) (disch := omega) only [genAll, decAll, tk_nil, st80]
      exact hK
    · rw [if_neg h2] at hK
      simp (maxSteps := 1000000) (disch := omega) only [genAll, decAll, tk_nil, st80]
      exact hK
theorem less3 (x y : ByteArray) : (cmpS x y = -1 ∧ Op.bytesLess x.toList y.toList = true) ∨ (cmpS x y = 0 ∧ Op.bytesLess x.toList y.toList = false ∧ (x.toList == y.toList) = true) ∨ (cmpS x y = 1 ∧ Op.bytesLess x.toList y.toList = false ∧ (x.toList == y.toList) = false) := by
  have h := less_cmp x.data.toList y.data.toList
  rw [ByteArray.toList_eq, ByteArray.toList_eq]
  have hb : ∀ z : Int, cmpL (bts x.data.toList) (bts y.data.toList) = z → z ≠ -1 → Op.bytesLess x.data.toList y.data.toList = false := fun z e hz => by
    cases hb : Op.bytesLess x.data.toList y.data.toList with
    | false => rfl
    | true => exact absurd (e.symm.trans (h.1 hb)) hz
  rcases cmpL_three (bts x.data.toList) (bts y.data.toList) with h1 | h1 | h1
  · exact .inl ⟨h1, h.2 h1⟩
  · refine .inr (.inl ⟨h1, hb 0 h1 (by decide), ?_⟩)
    rw [bts_inj (cmpL_zero _ _ h1)]; exact beq_self_eq_true _
  · refine .inr (.inr ⟨h1, hb 1 h1 (by decide), ?_⟩)
    rw [beq_eq_false_iff_ne]
    intro e
    rw [e, cmpL_self] at h1; cases h1
theorem ord34 {a b : ByteArray} {w : World} {K : Value → World → Prop} (hK : K (.int .i64 (cmpS a b)) w) : CallK Tryz.prog 81 #[.string a, .string b] K w := by
  refine F81_calls _ _ _ _ ?_; unfold F81
  rcases less3 a b with ⟨h, h1⟩ | ⟨h, h1, h2⟩ | ⟨h, h1, h2⟩
  · rw [h] at hK
    simp (maxSteps := 1000000) (disch := omega) only [genAll, decAll, tk_nil, st81, h1]
    exact hK
  · rw [h] at hK
    simp (maxSteps := 1000000) (disch := omega) only [genAll, decAll, tk_nil, st81, h1, h2, Bool.false_or, Bool.not_true]
    exact hK
  · rw [h] at hK
    simp (maxSteps := 1000000) (disch := omega) only [genAll, decAll, tk_nil, st81, h1, h2, Bool.false_or, Bool.not_false]
    exact hK
theorem cmp37 {a b : ByteArray} {w : World} {K : Value → World → Prop} (hK : K (.int .i64 (cmpS a b)) w) : CallK Tryz.prog 105 #[.string a, .string b] K w := by
  refine F105_calls _ _ _ _ ?_; unfold F105
  refine ck115 (nan_any51 ?_)
  simp (maxSteps := 1000000) (disch := omega) only [genAll, decAll, tk_nil, st105]
  refine ck115 (nan_any51 ?_)
  rcases less3 a b with ⟨h, h1⟩ | ⟨h, h1, h2⟩ | ⟨h, h1, h2⟩
  · rw [h] at hK
    simp (maxSteps := 1000000) (disch := omega) only [genAll, decAll, tk_nil, st105, h1]
    exact hK
  · rw [h] at hK
    simp (maxSteps := 1000000) (disch := omega) only [genAll, decAll, tk_nil, st105, h1, h2, Bool.false_or, Bool.not_true]
    exact hK
  · rw [h] at hK
    simp (maxSteps := 1000000) (disch := omega) only [genAll, decAll, tk_nil, st105, h1, h2, Bool.false_or, Bool.not_false]
    exact hK
theorem cmpL_step {a b : List Int} {i : Nat} (ha : i < a.length) (hb : i < b.length) : cmpL (a.drop i) (b.drop i) = if a.getD i 0 < b.getD i 0 then -1 else if b.getD i 0 < a.getD i 0 then 1 else cmpL (a.drop (i + 1)) (b.drop (i + 1)) := by
  rw [List.drop_eq_getElem_cons ha, List.drop_eq_getElem_cons hb, cmpL]
  simp [ha, hb]
theorem cmpL_out {a b : List Int} {i : Nat} (ha : i < a.length) (hb : b.length ≤ i) : cmpL (a.drop i) (b.drop i) = 1 := by
  rw [List.drop_eq_getElem_cons ha, List.drop_eq_nil_of_le hb]; rfl
theorem cmpL_end {a b : List Int} {i : Nat} (ha : a.length ≤ i) (hi : i ≤ b.length) : cmpL (a.drop i) (b.drop i) = if i < b.length then -1 else 0 := by
  rw [List.drop_eq_nil_of_le ha]
  by_cases h : i < b.length
  · rw [if_pos h, List.drop_eq_getElem_cons h]; rfl
  · rw [if_neg h, List.drop_eq_nil_of_le (by omega)]; rfl
set_option maxHeartbeats 1000000 in
theorem cmp38 {l m : List Int} {A B : Option Addr} {c d : Nat} {w : World} {K : Value → World → Prop} (ha : Reads w A (ints l)) (hb : Reads w B (ints m)) (hl : l.length ≤ 9223372036854775807) (hm : m.length ≤ 9223372036854775807)
    (hK : K (.int .i64 (cmpL l m)) w) : CallK Tryz.prog 124 #[.slice A l.length c, .slice B m.length d] K w := by
  refine F124_calls _ _ _ _ ?_; unfold F124
  simp (maxSteps := 1000000) (disch := omega) only [genAll, decAll, tk_nil, st124]
  refine loopK1 (fun v w' => w' = w ∧ ∃ i : Nat, v = .int .i64 i ∧ i ≤ l.length ∧ i ≤ m.length ∧ cmpL (l.drop i) (m.drop i) = cmpL l m) (fun v _ => l.length - (intOf v).toNat) ⟨rfl, 0, rfl, by omega, by omega, rfl⟩ ?_
  rintro _ _ w1 ⟨hw, i, rfl, hi, him, hc⟩
  obtain rfl : w1 = w := hw
  by_cases hlt : i < l.length
  · obtain ⟨b, o, rfl, x1⟩ := int_at ha hlt
    by_cases hmt : i < m.length
    · obtain ⟨b2, o2, rfl, x2⟩ := int_at hb hmt
      rw [cmpL_step hlt hmt] at hc
      generalize l.getD i 0 = x at *
      generalize m.getD i 0 = y at *
      simp (maxSteps := 1000000) (disch := omega) only [genAll, decAll, tk_nil, st124, x1, x2]
      refine ck104 (cmp36 ?_)
      unfold cmpI
      by_cases h1 : x < y
      · rw [if_pos h1] at hc
        rw [if_pos h1]
        simp (maxSteps := 1000000) (disch := omega) only [genAll, decAll, tk_nil, st124]
        rw [← hc] at hK
        exact hK
      · rw [if_neg h1] at hc
        rw [if_neg h1]
        by_cases h2 : y < x
        · rw [if_pos h2] at hc
          rw [if_pos h2]
          simp (maxSteps := 1000000) (disch := omega) only [genAll, decAll, tk_nil, st124]
          rw [← hc] at hK
          exact hK
        · rw [if_neg h2] at hc
          rw [if_neg h2]
          simp (maxSteps := 1000000) (disch := omega) only [genAll, decAll, tk_nil, st124]
          exact ⟨⟨rfl, i + 1, by go_num, by omega, by omega, hc⟩, by simp [rel, intOf]; omega⟩
    · rw [cmpL_out hlt (by omega)] at hc
      rw [← hc] at hK
      simp (maxSteps := 1000000) (disch := omega) only [genAll, decAll, tk_nil, st124, x1]
      exact hK
  · rw [cmpL_end (by omega) him] at hc
    rw [← hc] at hK
    by_cases hmt : i < m.length
    · rw [if_pos hmt] at hK
      simp (maxSteps := 1000000) (disch := omega) only [genAll, decAll, tk_nil, st124]
      exact hK
    · rw [if_neg hmt] at hK
      simp (maxSteps := 1000000) (disch := omega) only [genAll, decAll, tk_nil, st124]
      exact hK
end Go.Proofs.YtpjeohellehgjaaGreatDoor
end

section
/- Values: which is less, whether they are the same, whether they may be; by the program and by the document. Conditions: the rows read. -/
set_option linter.unusedVariables false
set_option linter.unusedSimpArgs false
set_option maxRecDepth 100000
namespace Go.Proofs.YtpjeohellehgjaaGreatDoor
open Go.RowKit Go.Cn
theorem box4 (w : World) (v : Val) (A : Option Addr) (c : Nat) (t : TypeId) : Qt w (w.alloc (.cells #[.int .i64 v.1, .int .i64 v.2.1, .string v.2.2.1, .slice A v.2.2.2.length c] t)) ∧ (w.alloc (.cells #[.int .i64 v.1, .int .i64 v.2.1, .string v.2.2.1, .slice A v.2.2.2.length c] t)).heap[w.heap.size]? = some (.cells #[.int .i64 v.1, .int .i64 v.2.1, .string v.2.2.1, .slice A v.2.2.2.length c] t (0, 0)) :=
  ⟨Chg.alloc Qt.refl _, blk_new _ _⟩
theorem box8 (w : World) (a b : Val) (A B : Option Addr) (c d : Nat) (t : TypeId) : Qt w ((w.alloc (.cells #[.int .i64 a.1, .int .i64 a.2.1, .string a.2.2.1, .slice A a.2.2.2.length c] t)).alloc (.cells #[.int .i64 b.1, .int .i64 b.2.1, .string b.2.2.1, .slice B b.2.2.2.length d] t)) ∧ ((w.alloc (.cells #[.int .i64 a.1, .int .i64 a.2.1, .string a.2.2.1, .slice A a.2.2.2.length c] t)).alloc (.cells #[.int .i64 b.1, .int .i64 b.2.1, .string b.2.2.1, .slice B b.2.2.2.length d] t)).heap[w.heap.size]? = some (.cells #[.int .i64 a.1, .int .i64 a.2.1, .string a.2.2.1, .slice A a.2.2.2.length c] t (0, 0)) ∧ ((w.alloc (.cells #[.int .i64 a.1, .int .i64 a.2.1, .string a.2.2.1, .slice A a.2.2.2.length c] t)).alloc (.cells #[.int .i64 b.1, .int .i64 b.2.1, .string b.2.2.1, .slice B b.2.2.2.length d] t)).heap[w.heap.size + 1]? = some (.cells #[.int .i64 b.1, .int .i64 b.2.1, .string b.2.2.1, .slice B b.2.2.2.length d] t (0, 0)) := by
  obtain ⟨q1, h1⟩ := box4 w a A c t
  have hs : (w.alloc (.cells #[.int .i64 a.1, .int .i64 a.2.1, .string a.2.2.1, .slice A a.2.2.2.length c] t)).heap.size = w.heap.size + 1 := size_alloc _ _
  obtain ⟨q2, h2⟩ := box4 (w.alloc (.cells #[.int .i64 a.1, .int .i64 a.2.1, .string a.2.2.1, .slice A a.2.2.2.length c] t)) b B d t
  rw [hs] at h2
  exact ⟨q1.trans q2, q2.heap h1 (fun h => h), h2⟩
set_option maxHeartbeats 1000000 in
theorem cmp15 {a b : Val} {A B : Option Addr} {c d : Nat} {w : World} {K : Value → World → Prop} (ha : Reads w A (ints a.2.2.2)) (hb : Reads w B (ints b.2.2.2)) (la : a.2.2.2.length ≤ 9223372036854775807) (lb : b.2.2.2.length ≤ 9223372036854775807)
    (hK : ∀ w', Qt w w' → K (.int .i64 (cmpV a b)) w') : CallK Tryz.prog 116 #[vv a A c, vv b B d] K w := by
  refine F116_calls _ _ _ _ ?_; unfold F116
  obtain ⟨q02, h1, h2⟩ := box8 w a b A B c d 61
  simp (maxSteps := 1000000) (disch := omega) only [genAll, decAll, tk_nil, st116]
  generalize ((w.alloc (.cells #[.int .i64 a.1, .int .i64 a.2.1, .string a.2.2.1, .slice A a.2.2.2.length c] 61)).alloc (.cells #[.int .i64 b.1, .int .i64 b.2.1, .string b.2.2.1, .slice B b.2.2.2.length d] 61)) = w2 at *
  generalize w.heap.size + 1 = b2 at *
  generalize w.heap.size = b1 at *
  have ha2 := ha.quiet q02
  have hb2 := hb.quiet q02
  obtain ⟨x0, x1, x2, x3⟩ := cell4 h1
  obtain ⟨y0, y1, y2, y3⟩ := cell4 h2
  have hf := hK w2 q02
  rw [cmpV_eq] at hf
  simp (maxSteps := 1000000) (disch := omega) only [genAll, decAll, tk_nil, st116, x0, y0]
  refine ck123 (cmp35 ?_)
  by_cases hk : a.1 = b.1
  · have e0 : cmpI a.1 b.1 = 0 := by unfold cmpI; rw [if_neg (by omega), if_neg (by omega)]
    have e1 : ((0 : Int) != 0) = false := rfl
    rw [if_neg (show ¬ (a.1 ≠ b.1) from fun h => h hk)] at hf
    rw [e0]
    by_cases k1 : a.1 = 1
    · rw [if_pos k1] at hf
      have e2 : (a.1 == 1) = true := by rw [k1]; rfl
      simp (maxSteps := 1000000) (disch := omega) only [genAll, decAll, tk_nil, st116, e1, x0, e2, x1, y1]
      refine ck104 (cmp36 ?_)
      simp (maxSteps := 1000000) (disch := omega) only [genAll, decAll, tk_nil, st116]
      exact hf
    · have n1 : (a.1 == 1) = false := beq_eq_false_iff_ne.2 k1
      rw [if_neg k1] at hf
      by_cases k2 : a.1 = 2
      · rw [if_pos k2] at hf
        have e2 : (a.1 == 2) = true := by rw [k2]; rfl
        simp (maxSteps := 1000000) (disch := omega) only [genAll, decAll, tk_nil, st116, e1, x0, n1, e2, x2, y2]
        refine ck105 (cmp37 ?_)
        simp (maxSteps := 1000000) (disch := omega) only [genAll, decAll, tk_nil, st116]
        exact hf
      · have n2 : (a.1 == 2) = false := beq_eq_false_iff_ne.2 k2
        rw [if_neg k2] at hf
        by_cases k3 : a.1 = 3
        · rw [if_pos k3] at hf
          have e2 : (a.1 == 3) = true := by rw [k3]; rfl
          simp (maxSteps := 1000000) (disch := omega) only [genAll, decAll, tk_nil, st116, e1, x0, n1, n2, e2, x3, y3]
          refine ck124 (cmp38 ha2 hb2 la lb ?_)
          simp (maxSteps := 1000000) (disch := omega) only [genAll, decAll, tk_nil, st116]
          exact hf
        · have n3 : (a.1 == 3) = false := beq_eq_false_iff_ne.2 k3
          rw [if_neg k3] at hf
          simp (maxSteps := 1000000) (disch := omega) only [genAll, decAll, tk_nil, st116, e1, x0, n1, n2, n3]
          exact hf
  · rw [if_pos hk] at hf
    have e1 : (cmpI a.1 b.1 != 0) = true := by
      unfold cmpI
      by_cases h : a.1 < b.1
      · rw [if_pos h]; rfl
      · rw [if_neg h, if_pos (by omega)]; rfl
    simp (maxSteps := 1000000) (disch := omega) only [genAll, decAll, tk_nil, st116, e1]
    exact hf
theorem same19 {a b : Val} {A B : Option Addr} {c d : Nat} {w : World} {K : Value → World → Prop} (ha : Reads w A (ints a.2.2.2)) (hb : Reads w B (ints b.2.2.2)) (la : a.2.2.2.length ≤ 9223372036854775807) (lb : b.2.2.2.length ≤ 9223372036854775807)
    (hK : ∀ w', Qt w w' → K (.bool (decide (cmpV a b = 0))) w') : CallK Tryz.prog 108 #[vv a A c, vv b B d] K w := by
  refine F108_calls _ _ _ _ ?_; unfold F108
  obtain ⟨q02, h1, h2⟩ := box8 w a b A B c d 61
  simp (maxSteps := 1000000) (disch := omega) only [genAll, decAll, tk_nil, st108]
  generalize ((w.alloc (.cells #[.int .i64 a.1, .int .i64 a.2.1, .string a.2.2.1, .slice A a.2.2.2.length c] 61)).alloc (.cells #[.int .i64 b.1, .int .i64 b.2.1, .string b.2.2.1, .slice B b.2.2.2.length d] 61)) = w2 at *
  generalize w.heap.size + 1 = b2 at *
  generalize w.heap.size = b1 at *
  obtain ⟨x0, x1, x2, x3⟩ := cell4 h1
  obtain ⟨y0, y1, y2, y3⟩ := cell4 h2
  simp (maxSteps := 1000000) (disch := omega) only [genAll, decAll, tk_nil, st108, x0, x1, x2, x3, y0, y1, y2, y3]
  refine ck116 (cmp15 (ha.quiet q02) (hb.quiet q02) la lb ?_)
  intro w3 q3
  have hf := hK w3 (q02.trans q3)
  have e : (cmpV a b == 0) = decide (cmpV a b = 0) := rfl
  simp (maxSteps := 1000000) (disch := omega) only [genAll, decAll, tk_nil, st108, e]
  exact hf
set_option maxHeartbeats 1000000 in
theorem cmp14 {a b : Val} {A B : Option Addr} {c d : Nat} {w : World} {K : Value → World → Prop} (ha : Reads w A (ints a.2.2.2)) (hb : Reads w B (ints b.2.2.2)) (la : a.2.2.2.length ≤ 9223372036854775807) (lb : b.2.2.2.length ≤ 9223372036854775807)
    (hK : ∀ w', Qt w w' → K (.int .i64 (cmpV a b)) w') : CallK Tryz.prog 38 #[vv a A c, vv b B d] K w := by
  refine F38_calls _ _ _ _ ?_; unfold F38
  obtain ⟨q02, h1, h2⟩ := box8 w a b A B c d 72
  simp (maxSteps := 1000000) (disch := omega) only [genAll, decAll, tk_nil, st38]
  generalize ((w.alloc (.cells #[.int .i64 a.1, .int .i64 a.2.1, .string a.2.2.1, .slice A a.2.2.2.length c] 72)).alloc (.cells #[.int .i64 b.1, .int .i64 b.2.1, .string b.2.2.1, .slice B b.2.2.2.length d] 72)) = w2 at *
  generalize w.heap.size + 1 = b2 at *
  generalize w.heap.size = b1 at *
  have ha2 := ha.quiet q02
  have hb2 := hb.quiet q02
  have X := fun w' (q : Qt w2 w') => cell4 (q.heap h1 (fun h => h))
  have Y := fun w' (q : Qt w2 w') => cell4 (q.heap h2 (fun h => h))
  obtain ⟨x0, x1, x2, x3⟩ := X w2 Qt.refl
  obtain ⟨y0, y1, y2, y3⟩ := Y w2 Qt.refl
  have hf := fun w' (q : Qt w2 w') => hK w' (q02.trans q)
  rw [cmpV_eq] at hf
  by_cases hk : a.1 = b.1
  · have e1 : (a.1 != b.1) = false := by rw [hk]; exact bne_self_eq_false _
    rw [if_neg (show ¬ (a.1 ≠ b.1) from fun h => h hk)] at hf
    by_cases k1 : a.1 = 1
    · rw [if_pos k1] at hf
      have e2 : (a.1 == 1) = true := by rw [k1]; rfl
      simp (maxSteps := 1000000) (disch := omega) only [genAll, decAll, tk_nil, st38, x0, y0, e1, e2, x1, y1]
      refine ck80 (ord33 ?_)
      simp (maxSteps := 1000000) (disch := omega) only [genAll, decAll, tk_nil, st38]
      exact hf w2 Qt.refl
    · have n1 : (a.1 == 1) = false := beq_eq_false_iff_ne.2 k1
      rw [if_neg k1] at hf
      by_cases k2 : a.1 = 2
      · rw [if_pos k2] at hf
        have e2 : (a.1 == 2) = true := by rw [k2]; rfl
        simp (maxSteps := 1000000) (disch := omega) only [genAll, decAll, tk_nil, st38, x0, y0, e1, n1, e2, x2, y2]
        refine ck81 (ord34 ?_)
        simp (maxSteps := 1000000) (disch := omega) only [genAll, decAll, tk_nil, st38]
        exact hf w2 Qt.refl
      · have n2 : (a.1 == 2) = false := beq_eq_false_iff_ne.2 k2
        rw [if_neg k2] at hf
        by_cases k3 : a.1 = 3
        · rw [if_pos k3] at hf
          have e2 : (a.1 == 3) = true := by rw [k3]; rfl
          generalize a.2.2.2 = l at *
          generalize b.2.2.2 = m at *
          simp (maxSteps := 1000000) (disch := omega) only [genAll, decAll, tk_nil, st38, x0, y0, e1, n1, n2, e2]
          refine loopK1 (fun v w' => ∃ i : Nat, v = .int .i64 i ∧ i ≤ l.length ∧ i ≤ m.length ∧ cmpL (l.drop i) (m.drop i) = cmpL l m ∧ Qt w2 w') (fun v _ => l.length - (intOf v).toNat) ⟨0, rfl, by omega, by omega, rfl, Qt.refl⟩ ?_
          rintro _ _ w3 ⟨i, rfl, hi, him, hc, q3⟩
          obtain ⟨u0, u1, u2, u3⟩ := X w3 q3
          obtain ⟨v0, v1, v2, v3⟩ := Y w3 q3
          by_cases hlt : i < l.length
          · by_cases hmt : i < m.length
            · obtain ⟨bb, o, rfl, z1⟩ := int_at (ha2.quiet q3) hlt
              obtain ⟨bb2, o2, rfl, z2⟩ := int_at (hb2.quiet q3) hmt
              have Z1 : ∀ w', Qt w2 w' → w'.cell? ⟨bb, o + i, none⟩ = some (.int .i64 (l.getD i 0)) := fun w' q => by
                obtain ⟨_, _, e, h⟩ := int_at (ha2.quiet q) hlt
                cases e; exact h
              have Z2 : ∀ w', Qt w2 w' → w'.cell? ⟨bb2, o2 + i, none⟩ = some (.int .i64 (m.getD i 0)) := fun w' q => by
                obtain ⟨_, _, e, h⟩ := int_at (hb2.quiet q) hmt
                cases e; exact h
              rw [cmpL_step hlt hmt] at hc
              generalize l.getD i 0 = x at *
              generalize m.getD i 0 = y at *
              have kd : Qt w2 w3.drew := q3.trans (Qt.drew Qt.refl)
              simp (maxSteps := 1000000) (disch := omega) only [genAll, decAll, tk_nil, st38, u3, v3]
              refine drawK_by (fun w' => Qt w2 w') kd ?_
              refine take_field (.pointer (some ⟨b1, 3, none⟩)) (fun w' hq => by (simp (maxSteps := 1000000) (disch := omega) only [genAll, decAll, tk_nil, st38]; try (exact ⟨trivial, trivial⟩))) ?_
              refine take_load (.slice (some ⟨bb, o, none⟩) l.length c) (fun w' hq => by have h := (X w' hq).2.2.2; (simp (maxSteps := 1000000) (disch := omega) only [genAll, decAll, tk_nil, st38, h]; try (exact ⟨trivial, trivial⟩))) ?_
              refine take_index (.pointer (some ⟨bb, o + i, none⟩)) (fun w' hq => by (simp (maxSteps := 1000000) (disch := omega) only [genAll, decAll, tk_nil, st38]; try (exact ⟨trivial, trivial⟩))) ?_
              refine take_load (.int .i64 x) (fun w' hq => by have h := Z1 w' hq; (simp (maxSteps := 1000000) (disch := omega) only [genAll, decAll, tk_nil, st38, h]; try (exact ⟨trivial, trivial⟩))) ?_
              refine take_field (.pointer (some ⟨b2, 3, none⟩)) (fun w' hq => by (simp (maxSteps := 1000000) (disch := omega) only [genAll, decAll, tk_nil, st38]; try (exact ⟨trivial, trivial⟩))) ?_
              refine take_load (.slice (some ⟨bb2, o2, none⟩) m.length d) (fun w' hq => by have h := (Y w' hq).2.2.2; (simp (maxSteps := 1000000) (disch := omega) only [genAll, decAll, tk_nil, st38, h]; try (exact ⟨trivial, trivial⟩))) ?_
              refine take_index (.pointer (some ⟨bb2, o2 + i, none⟩)) (fun w' hq => by (simp (maxSteps := 1000000) (disch := omega) only [genAll, decAll, tk_nil, st38]; try (exact ⟨trivial, trivial⟩))) ?_
              refine take_load (.int .i64 y) (fun w' hq => by have h := Z2 w' hq; (simp (maxSteps := 1000000) (disch := omega) only [genAll, decAll, tk_nil, st38, h]; try (exact ⟨trivial, trivial⟩))) ?_
              by_cases hxy : x = y
              · have e4 : (x != y) = false := by rw [hxy]; exact bne_self_eq_false _
                rw [if_neg (by omega), if_neg (by omega)] at hc
                refine take_bin (.bool false) (fun w' _ => by simp (maxSteps := 1000000) (disch := omega) only [genAll, decAll, tk_nil, st38, e4, here_rfl]; try (exact ⟨trivial, trivial⟩)) ?_
                simp (maxSteps := 1000000) (disch := omega) only [genAll, decAll, tk_nil, st38]
                exact ⟨⟨i + 1, by go_num, by omega, by omega, hc, kd⟩, by simp [rel, intOf]; omega⟩
              · have e4 : (x != y) = true := by rw [bne_iff_ne]; exact hxy
                have e5 : cmpI x y = cmpL l m := by
                  rw [← hc]; unfold cmpI
                  by_cases h : x < y
                  · rw [if_pos h, if_pos h]
                  · rw [if_neg h, if_neg h, if_pos (by omega), if_pos (by omega)]
                refine take_bin (.bool true) (fun w' _ => by simp (maxSteps := 1000000) (disch := omega) only [genAll, decAll, tk_nil, st38, e4, here_rfl]; try (exact ⟨trivial, trivial⟩)) ?_
                have kd2 : Qt w2 w3.drew.drew := kd.trans (Qt.drew Qt.refl)
                simp (maxSteps := 1000000) (disch := omega) only [genAll, decAll, tk_nil, st38]
                refine drawK_by (fun w' => Qt w2 w') kd2 ?_
                refine take_field (.pointer (some ⟨b1, 3, none⟩)) (fun w' hq => by (simp (maxSteps := 1000000) (disch := omega) only [genAll, decAll, tk_nil, st38]; try (exact ⟨trivial, trivial⟩))) ?_
                refine take_load (.slice (some ⟨bb, o, none⟩) l.length c) (fun w' hq => by have h := (X w' hq).2.2.2; (simp (maxSteps := 1000000) (disch := omega) only [genAll, decAll, tk_nil, st38, h]; try (exact ⟨trivial, trivial⟩))) ?_
                refine take_index (.pointer (some ⟨bb, o + i, none⟩)) (fun w' hq => by (simp (maxSteps := 1000000) (disch := omega) only [genAll, decAll, tk_nil, st38]; try (exact ⟨trivial, trivial⟩))) ?_
                refine take_load (.int .i64 x) (fun w' hq => by have h := Z1 w' hq; (simp (maxSteps := 1000000) (disch := omega) only [genAll, decAll, tk_nil, st38, h]; try (exact ⟨trivial, trivial⟩))) ?_
                refine take_field (.pointer (some ⟨b2, 3, none⟩)) (fun w' hq => by (simp (maxSteps := 1000000) (disch := omega) only [genAll, decAll, tk_nil, st38]; try (exact ⟨trivial, trivial⟩))) ?_
                refine take_load (.slice (some ⟨bb2, o2, none⟩) m.length d) (fun w' hq => by have h := (Y w' hq).2.2.2; (simp (maxSteps := 1000000) (disch := omega) only [genAll, decAll, tk_nil, st38, h]; try (exact ⟨trivial, trivial⟩))) ?_
                refine take_index (.pointer (some ⟨bb2, o2 + i, none⟩)) (fun w' hq => by (simp (maxSteps := 1000000) (disch := omega) only [genAll, decAll, tk_nil, st38]; try (exact ⟨trivial, trivial⟩))) ?_
                refine take_load (.int .i64 y) (fun w' hq => by have h := Z2 w' hq; (simp (maxSteps := 1000000) (disch := omega) only [genAll, decAll, tk_nil, st38, h]; try (exact ⟨trivial, trivial⟩))) ?_
                refine ⟨ck80 (ord33 ?_), trivial⟩
                rw [e5]
                simp (maxSteps := 1000000) (disch := omega) only [genAll, decAll, tk_nil, st38]
                exact ⟨kd2, hf _ kd2⟩
            · have e5 : cmpI (l.length : Int) (m.length : Int) = cmpL l m := by
                rw [← hc, cmpL_out hlt (by omega)]
                unfold cmpI
                rw [if_neg (by omega), if_pos (by omega)]
              simp (maxSteps := 1000000) (disch := omega) only [genAll, decAll, tk_nil, st38, u3, v3]
              refine ck80 (ord33 ?_)
              rw [e5]
              simp (maxSteps := 1000000) (disch := omega) only [genAll, decAll, tk_nil, st38]
              exact hf w3 q3
          · have e5 : cmpI (l.length : Int) (m.length : Int) = cmpL l m := by
              rw [← hc, cmpL_end (by omega) him]
              unfold cmpI
              by_cases hmt : i < m.length
              · rw [if_pos (by omega), if_pos hmt]
              · rw [if_neg (by omega), if_neg (by omega), if_neg hmt]
            simp (maxSteps := 1000000) (disch := omega) only [genAll, decAll, tk_nil, st38, u3, v3, guardK_u]
            refine ck80 (ord33 ?_)
            rw [e5]
            simp (maxSteps := 1000000) (disch := omega) only [genAll, decAll, tk_nil, st38]
            exact hf w3 q3
        · have n3 : (a.1 == 3) = false := beq_eq_false_iff_ne.2 k3
          rw [if_neg k3] at hf
          simp (maxSteps := 1000000) (disch := omega) only [genAll, decAll, tk_nil, st38, x0, y0, e1, n1, n2, n3]
          exact hf w2 Qt.refl
  · rw [if_pos hk] at hf
    have e1 : (a.1 != b.1) = true := by rw [bne_iff_ne]; exact hk
    simp (maxSteps := 1000000) (disch := omega) only [genAll, decAll, tk_nil, st38, x0, y0, e1]
    refine ck80 (ord33 ?_)
    simp (maxSteps := 1000000) (disch := omega) only [genAll, decAll, tk_nil, st38]
    exact hf w2 Qt.refl
end Go.Proofs.YtpjeohellehgjaaGreatDoor
end

section
/- Whether a value may be; by the program and by the document. Conditions: the rows read. -/
set_option linter.unusedVariables false
set_option linter.unusedSimpArgs false
set_option maxRecDepth 100000
namespace Go.Proofs.YtpjeohellehgjaaGreatDoor
open Go.RowKit Go.Cn
theorem ix9c (l : List UInt8) (i : Int) (h : 0 ≤ i ∧ i < (l.length : Int)) (K : Value → World → Prop) (w : World) : ValK Tryz.prog (Instr.index 9 (.string (txt l)) (.int .i64 i)) K w = K (.int .u8 ((l.getD i.toNat 0).toNat : Int)) w := index_txt Tryz.underlying9 l .i64 i h K w
theorem all_pr (l : List UInt8) : l.all prB = true ↔ ∀ i, i < l.length → prB (l.getD i 0) = true := by
  rw [List.all_eq_true]
  constructor
  · intro h i hi
    have := h l[i] (List.getElem_mem hi)
    simpa [hi] using this
  · intro h x hx
    obtain ⟨i, hi, rfl⟩ := List.mem_iff_getElem.1 hx
    have := h i hi
    simpa [hi] using this
theorem all_up (l : List Int) : upL l = true ↔ ∀ i, i + 1 < l.length → l.getD i 0 < l.getD (i + 1) 0 := by
  unfold upL
  rw [List.all_eq_true]
  constructor
  · intro h i hi
    exact of_decide_eq_true (h i (List.mem_range.2 (by omega)))
  · intro h i hi
    exact decide_eq_true (h i (by have := List.mem_range.1 hi; omega))
theorem pr_iff (c : UInt8) : prB c = true ↔ 32 ≤ c.toNat ∧ c.toNat ≤ 126 ∧ c.toNat ≠ 34 := by simp [prB, and_assoc]
theorem pr48 {c : UInt8} {w : World} {K : Value → World → Prop} (hK : K (.bool (prB c)) w) : CallK Tryz.prog 127 #[.int .u8 (c.toNat : Int)] K w := by
  refine F127_calls _ _ _ ?_; unfold F127
  by_cases h1 : c.toNat < 32
  · have e : prB c = false := by
      cases h : prB c with
      | false => rfl
      | true => have := (pr_iff c).1 h; omega
    rw [e] at hK
    simp (maxSteps := 1000000) (disch := omega) only [genAll, decAll, tk_nil, st127, guardK_u]
    exact hK
  · by_cases h2 : 126 < c.toNat
    · have e : prB c = false := by
        cases h : prB c with
        | false => rfl
        | true => have := (pr_iff c).1 h; omega
      rw [e] at hK
      simp (maxSteps := 1000000) (disch := omega) only [genAll, decAll, tk_nil, st127, guardK_u]
      exact hK
    · by_cases h3 : c.toNat = 34
      · have e : prB c = false := by
          cases h : prB c with
          | false => rfl
          | true => have := (pr_iff c).1 h; omega
        rw [e] at hK
        have e3 : ((c.toNat : Int) != 34) = false := by rw [h3]; rfl
        simp (maxSteps := 1000000) (disch := omega) only [genAll, decAll, tk_nil, st127, e3]
        exact hK
      · have e : prB c = true := (pr_iff c).2 ⟨by omega, by omega, h3⟩
        rw [e] at hK
        have e3 : ((c.toNat : Int) != 34) = true := by rw [bne_iff_ne]; omega
        simp (maxSteps := 1000000) (disch := omega) only [genAll, decAll, tk_nil, st127, e3]
        exact hK
theorem text31 {l : List UInt8} {w : World} {K : Value → World → Prop} (hl : l.length ≤ 9223372036854775807) (hK : K (.int .i64 (textE l)) w) : CallK Tryz.prog 120 #[.string (txt l)] K w := by
  refine F120_calls _ _ _ ?_; unfold F120
  have hsz := txt_size l
  unfold textE at hK
  by_cases h64 : 64 < l.length
  · rw [if_pos h64] at hK
    simp (maxSteps := 1000000) (disch := omega) only [genAll, decAll, tk_nil, st120, hsz]
    exact hK
  rw [if_neg h64] at hK
  simp (maxSteps := 1000000) (disch := omega) only [genAll, decAll, tk_nil, st120, hsz]
  refine loopK1 (fun v w' => w' = w ∧ ∃ i : Nat, v = .int .i64 i ∧ i ≤ l.length ∧ ∀ j, j < i → prB (l.getD j 0) = true) (fun v _ => l.length - (intOf v).toNat) ⟨rfl, 0, rfl, by omega, fun j h => by omega⟩ ?_
  rintro _ _ w1 ⟨hw, i, rfl, hi, hlo⟩
  obtain rfl : w1 = w := hw
  by_cases hlt : i < l.length
  · simp (maxSteps := 1000000) (disch := omega) only [genAll, decAll, tk_nil, st120, ix9]
    refine ck127 (pr48 ?_)
    cases hp : prB (l.getD i 0) with
    | true =>
      simp (maxSteps := 1000000) (disch := omega) only [genAll, decAll, tk_nil, st120]
      refine ⟨⟨rfl, i + 1, by go_num, by omega, fun j hj => ?_⟩, by simp [rel, intOf]; omega⟩
      by_cases e : j = i
      · subst e; exact hp
      · exact hlo j (by omega)
    | false =>
      have e : ¬ l.all prB = true := fun e => by have := (all_pr l).1 e i hlt; rw [hp] at this; cases this
      rw [if_neg e] at hK
      simp (maxSteps := 1000000) (disch := omega) only [genAll, decAll, tk_nil, st120]
      exact hK
  · rw [if_pos ((all_pr l).2 (fun j hj => hlo j (by omega)))] at hK
    simp (maxSteps := 1000000) (disch := omega) only [genAll, decAll, tk_nil, st120]
    exact hK
set_option maxHeartbeats 1000000 in
theorem list32 {l : List Int} {A : Option Addr} {c : Nat} {w : World} {K : Value → World → Prop} (hr : Reads w A (ints l)) (hl : l.length ≤ 9223372036854775807) (hK : ∀ w', Qt w w' → K (.int .i64 (listE l)) w') : CallK Tryz.prog 121 #[.slice A l.length c] K w := by
  refine F121_calls _ _ _ ?_; unfold F121
  unfold listE at hK
  by_cases h16 : 16 < l.length
  · rw [if_pos h16] at hK
    simp (maxSteps := 1000000) (disch := omega) only [genAll, decAll, tk_nil, st121]
    exact hK w Qt.refl
  rw [if_neg h16] at hK
  simp (maxSteps := 1000000) (disch := omega) only [genAll, decAll, tk_nil, st121]
  refine loopK1 (fun v w' => ∃ i : Nat, v = .int .i64 ((i : Int) + 1) ∧ (i + 1 ≤ l.length ∨ l.length = 0 ∧ i = 0) ∧ (∀ j, j < i → l.getD j 0 < l.getD (j + 1) 0) ∧ Qt w w') (fun v _ => l.length + 1 - (intOf v).toNat) ⟨0, rfl, by omega, fun j h => by omega, Qt.refl⟩ ?_
  rintro _ _ w1 ⟨i, rfl, hi, hlo, q1⟩
  by_cases hlt : i + 1 < l.length
  · obtain ⟨b, o, rfl, z1⟩ := int_at (hr.quiet q1) hlt
    have Z0 : ∀ w', Qt w w' → w'.cell? ⟨b, o + i, none⟩ = some (.int .i64 (l.getD i 0)) := fun w' q => by
      obtain ⟨_, _, e, h⟩ := int_at (hr.quiet q) (show i < l.length by omega)
      cases e; exact h
    have Z1 : ∀ w', Qt w w' → w'.cell? ⟨b, o + (i + 1), none⟩ = some (.int .i64 (l.getD (i + 1) 0)) := fun w' q => by
      obtain ⟨_, _, e, h⟩ := int_at (hr.quiet q) hlt
      cases e; exact h
    have kd : Qt w w1.drew := q1.trans (Qt.drew Qt.refl)
    have hlo' : l.getD i 0 < l.getD (i + 1) 0 → ∀ j, j < i + 1 → l.getD j 0 < l.getD (j + 1) 0 := fun h j hj => by
      by_cases e : j = i
      · subst e; exact h
      · exact hlo j (by omega)
    have hbad : ¬ l.getD i 0 < l.getD (i + 1) 0 → ¬ upL l = true := fun h e => h ((all_up l).1 e i hlt)
    have hT : ((i : Int) + 1).toNat = i + 1 := by omega
    generalize l.getD i 0 = x at *
    generalize l.getD (i + 1) 0 = y at *
    simp (maxSteps := 1000000) (disch := omega) only [genAll, decAll, tk_nil, st121]
    refine drawK_by (fun w' => Qt w w') kd ?_
    refine take_bin (.int .i64 i) (fun w' _ => by simp (maxSteps := 1000000) (disch := omega) only [genAll, decAll, tk_nil, st121, Int.add_sub_cancel, here_rfl]; try (exact ⟨trivial, trivial⟩)) ?_
    refine take_index (.pointer (some ⟨b, o + i, none⟩)) (fun w' hq => by (simp (maxSteps := 1000000) (disch := omega) only [genAll, decAll, tk_nil, st121]; try (exact ⟨trivial, trivial⟩))) ?_
    refine take_load (.int .i64 x) (fun w' hq => by have h := Z0 w' hq; (simp (maxSteps := 1000000) (disch := omega) only [genAll, decAll, tk_nil, st121, h]; try (exact ⟨trivial, trivial⟩))) ?_
    refine take_index (.pointer (some ⟨b, o + (i + 1), none⟩)) (fun w' hq => by (simp (maxSteps := 1000000) (disch := omega) only [genAll, decAll, tk_nil, st121, hT]; try (exact ⟨trivial, trivial⟩))) ?_
    refine take_load (.int .i64 y) (fun w' hq => by have h := Z1 w' hq; (simp (maxSteps := 1000000) (disch := omega) only [genAll, decAll, tk_nil, st121, h]; try (exact ⟨trivial, trivial⟩))) ?_
    by_cases hxy : x < y
    · refine take_bin (.bool false) (fun w' _ => by simp (maxSteps := 1000000) (disch := omega) only [genAll, decAll, tk_nil, st121, here_rfl]; try (exact ⟨trivial, trivial⟩)) ?_
      simp (maxSteps := 1000000) (disch := omega) only [genAll, decAll, tk_nil, st121]
      exact ⟨⟨i + 1, by go_num, by omega, hlo' hxy, kd⟩, by simp [rel, intOf]; omega⟩
    · refine take_bin (.bool true) (fun w' _ => by simp (maxSteps := 1000000) (disch := omega) only [genAll, decAll, tk_nil, st121, here_rfl]; try (exact ⟨trivial, trivial⟩)) ?_
      rw [if_neg (hbad hxy)] at hK
      simp (maxSteps := 1000000) (disch := omega) only [genAll, decAll, tk_nil, st121]
      exact hK _ kd
  · rw [if_pos ((all_up l).2 (fun j hj => hlo j (by omega)))] at hK
    simp (maxSteps := 1000000) (disch := omega) only [genAll, decAll, tk_nil, st121]
    exact hK w1 q1
end Go.Proofs.YtpjeohellehgjaaGreatDoor
end

section
/- Value's Check, the document's, Few, Of. Conditions: the rows read. -/
set_option linter.unusedVariables false
set_option linter.unusedSimpArgs false
set_option maxRecDepth 100000
namespace Go.Proofs.YtpjeohellehgjaaGreatDoor
open Go.RowKit Go.Cn
theorem check13 {a : Val} {A : Option Addr} {c : Nat} {w : World} {K : Value → World → Prop} (ha : Reads w A (ints a.2.2.2)) (la : a.2.2.2.length ≤ 9223372036854775807) (ls : a.2.2.1.size ≤ 9223372036854775807)
    (hK : ∀ w', Qt w w' → K (.int .i64 (checkV a)) w') : CallK Tryz.prog 111 #[vv a A c] K w := by
  refine F111_calls _ _ _ ?_; unfold F111
  obtain ⟨q1, h1⟩ := box4 w a A c 61
  simp (maxSteps := 1000000) (disch := omega) only [genAll, decAll, tk_nil, st111]
  generalize (w.alloc (.cells #[.int .i64 a.1, .int .i64 a.2.1, .string a.2.2.1, .slice A a.2.2.2.length c] 61)) = w1 at *
  generalize w.heap.size = b1 at *
  obtain ⟨x0, x1, x2, x3⟩ := cell4 h1
  have ha1 := ha.quiet q1
  have hf := fun w' (q : Qt w1 w') => hK w' (q1.trans q)
  unfold checkV at hf
  by_cases k1 : a.1 = 1
  · rw [if_pos k1] at hf
    have e2 : (a.1 == 1) = true := by rw [k1]; rfl
    simp (maxSteps := 1000000) (disch := omega) only [genAll, decAll, tk_nil, st111, x0, e2]
    exact hf w1 Qt.refl
  · have n1 : (a.1 == 1) = false := beq_eq_false_iff_ne.2 k1
    rw [if_neg k1] at hf
    by_cases k2 : a.1 = 2
    · rw [if_pos k2] at hf
      have e2 : (a.1 == 2) = true := by rw [k2]; rfl
      rw [← txt_list a.2.2.1] at x2
      simp (maxSteps := 1000000) (disch := omega) only [genAll, decAll, tk_nil, st111, x0, n1, e2, x2]
      refine ck120 (text31 (by rw [← txt_size, txt_list]; exact ls) ?_)
      simp (maxSteps := 1000000) (disch := omega) only [genAll, decAll, tk_nil, st111]
      exact hf w1 Qt.refl
    · have n2 : (a.1 == 2) = false := beq_eq_false_iff_ne.2 k2
      rw [if_neg k2] at hf
      by_cases k3 : a.1 = 3
      · rw [if_pos k3] at hf
        have e2 : (a.1 == 3) = true := by rw [k3]; rfl
        simp (maxSteps := 1000000) (disch := omega) only [genAll, decAll, tk_nil, st111, x0, n1, n2, e2, x3]
        refine ck121 (list32 ha1 la ?_)
        intro w2 q2
        simp (maxSteps := 1000000) (disch := omega) only [genAll, decAll, tk_nil, st111]
        exact hf w2 q2
      · have n3 : (a.1 == 3) = false := beq_eq_false_iff_ne.2 k3
        rw [if_neg k3] at hf
        simp (maxSteps := 1000000) (disch := omega) only [genAll, decAll, tk_nil, st111, x0, n1, n2, n3]
        exact hf w1 Qt.refl
set_option maxHeartbeats 1000000 in
theorem check11 {a : Val} {A : Option Addr} {c : Nat} {w : World} {K : Value → World → Prop} (ha : Reads w A (ints a.2.2.2)) (la : a.2.2.2.length ≤ 9223372036854775807) (ls : a.2.2.1.size ≤ 9223372036854775807)
    (hK : ∀ w', Qt w w' → K (.int .i64 (checkV a)) w') : CallK Tryz.prog 84 #[vv a A c] K w := by
  refine F84_calls _ _ _ ?_; unfold F84
  obtain ⟨q1, h1⟩ := box4 w a A c 72
  simp (maxSteps := 1000000) (disch := omega) only [genAll, decAll, tk_nil, st84]
  generalize (w.alloc (.cells #[.int .i64 a.1, .int .i64 a.2.1, .string a.2.2.1, .slice A a.2.2.2.length c] 72)) = w1 at *
  generalize w.heap.size = b1 at *
  have X := fun w' (q : Qt w1 w') => cell4 (q.heap h1 (fun h => h))
  obtain ⟨x0, x1, x2, x3⟩ := X w1 Qt.refl
  have ha1 := ha.quiet q1
  have hf := fun w' (q : Qt w1 w') => hK w' (q1.trans q)
  unfold checkV at hf
  by_cases k1 : a.1 = 1
  · rw [if_pos k1] at hf
    have e2 : (a.1 == 1) = true := by rw [k1]; rfl
    simp (maxSteps := 1000000) (disch := omega) only [genAll, decAll, tk_nil, st84, x0, e2]
    exact hf w1 Qt.refl
  · have n1 : (a.1 == 1) = false := beq_eq_false_iff_ne.2 k1
    rw [if_neg k1] at hf
    by_cases k2 : a.1 = 2
    · rw [if_pos k2] at hf
      have e2 : (a.1 == 2) = true := by rw [k2]; rfl
      obtain ⟨l, hl⟩ : ∃ l, a.2.2.1 = txt l := ⟨a.2.2.1.data.toList, (txt_list _).symm⟩
      rw [hl, txt_data] at hf
      rw [hl, txt_size] at ls
      rw [hl] at x2
      have hsz := txt_size l
      unfold textE at hf
      by_cases h64 : 64 < l.length
      · rw [if_pos h64] at hf
        simp (maxSteps := 1000000) (disch := omega) only [genAll, decAll, tk_nil, st84, x0, n1, e2, x2, hsz]
        exact hf w1 Qt.refl
      rw [if_neg h64] at hf
      simp (maxSteps := 1000000) (disch := omega) only [genAll, decAll, tk_nil, st84, x0, n1, e2, x2, hsz]
      refine loopK1 (fun v w' => w' = w1 ∧ ∃ i : Nat, v = .int .i64 i ∧ i ≤ l.length ∧ ∀ j, j < i → prB (l.getD j 0) = true) (fun v _ => l.length - (intOf v).toNat) ⟨rfl, 0, rfl, by omega, fun j h => by omega⟩ ?_
      rintro _ _ w2 ⟨hw, i, rfl, hi, hlo⟩
      obtain rfl : w2 = w1 := hw
      by_cases hlt : i < l.length
      · have hbad : ¬ (32 ≤ (l.getD i 0).toNat ∧ (l.getD i 0).toNat ≤ 126 ∧ (l.getD i 0).toNat ≠ 34) → ¬ l.all prB = true := fun h e => h ((pr_iff _).1 ((all_pr l).1 e i hlt))
        by_cases g1 : (l.getD i 0).toNat < 32
        · rw [if_neg (hbad (by omega))] at hf
          simp (maxSteps := 1000000) (disch := omega) only [genAll, decAll, tk_nil, st84, x2, hsz, ix9, guardK_u]
          exact hf _ Qt.refl
        · by_cases g2 : 126 < (l.getD i 0).toNat
          · rw [if_neg (hbad (by omega))] at hf
            simp (maxSteps := 1000000) (disch := omega) only [genAll, decAll, tk_nil, st84, x2, hsz, ix9, guardK_u]
            exact hf _ Qt.refl
          · by_cases g3 : (l.getD i 0).toNat = 34
            · rw [if_neg (hbad (by omega))] at hf
              have e3 : (((l.getD i 0).toNat : Int) == 34) = true := by rw [g3]; rfl
              simp (maxSteps := 1000000) (disch := omega) only [genAll, decAll, tk_nil, st84, x2, hsz, ix9, e3]
              exact hf _ Qt.refl
            · have e3 : (((l.getD i 0).toNat : Int) == 34) = false := by rw [beq_eq_false_iff_ne]; omega
              simp (maxSteps := 1000000) (disch := omega) only [genAll, decAll, tk_nil, st84, x2, hsz, ix9, e3]
              refine ⟨⟨rfl, i + 1, by go_num, by omega, fun j hj => ?_⟩, by simp [rel, intOf]; omega⟩
              by_cases e : j = i
              · subst e; exact (pr_iff _).2 ⟨by omega, by omega, g3⟩
              · exact hlo j (by omega)
      · rw [if_pos ((all_pr l).2 (fun j hj => hlo j (by omega)))] at hf
        simp (maxSteps := 1000000) (disch := omega) only [genAll, decAll, tk_nil, st84, x2, hsz]
        exact hf _ Qt.refl
    · have n2 : (a.1 == 2) = false := beq_eq_false_iff_ne.2 k2
      rw [if_neg k2] at hf
      by_cases k3 : a.1 = 3
      · rw [if_pos k3] at hf
        have e2 : (a.1 == 3) = true := by rw [k3]; rfl
        generalize a.2.2.2 = l at *
        unfold listE at hf
        by_cases h16 : 16 < l.length
        · rw [if_pos h16] at hf
          simp (maxSteps := 1000000) (disch := omega) only [genAll, decAll, tk_nil, st84, x0, n1, n2, e2, x3]
          exact hf w1 Qt.refl
        rw [if_neg h16] at hf
        simp (maxSteps := 1000000) (disch := omega) only [genAll, decAll, tk_nil, st84, x0, n1, n2, e2, x3]
        refine loopK1 (fun v w' => ∃ i : Nat, v = .int .i64 ((i : Int) + 1) ∧ (i + 1 ≤ l.length ∨ l.length = 0 ∧ i = 0) ∧ (∀ j, j < i → l.getD j 0 < l.getD (j + 1) 0) ∧ Qt w1 w') (fun v _ => l.length + 1 - (intOf v).toNat) ⟨0, rfl, by omega, fun j h => by omega, Qt.refl⟩ ?_
        rintro _ _ w2 ⟨i, rfl, hi, hlo, q2⟩
        obtain ⟨u0, u1, u2, u3⟩ := X w2 q2
        by_cases hlt : i + 1 < l.length
        · obtain ⟨b, o, rfl, z1⟩ := int_at (ha1.quiet q2) hlt
          have Z0 : ∀ w', Qt w1 w' → w'.cell? ⟨b, o + i, none⟩ = some (.int .i64 (l.getD i 0)) := fun w' q => by
            obtain ⟨_, _, e, h⟩ := int_at (ha1.quiet q) (show i < l.length by omega)
            cases e; exact h
          have Z1 : ∀ w', Qt w1 w' → w'.cell? ⟨b, o + (i + 1), none⟩ = some (.int .i64 (l.getD (i + 1) 0)) := fun w' q => by
            obtain ⟨_, _, e, h⟩ := int_at (ha1.quiet q) hlt
            cases e; exact h
          have kd : Qt w1 w2.drew := q2.trans (Qt.drew Qt.refl)
          have hlo' : l.getD i 0 < l.getD (i + 1) 0 → ∀ j, j < i + 1 → l.getD j 0 < l.getD (j + 1) 0 := fun h j hj => by
            by_cases e : j = i
            · subst e; exact h
            · exact hlo j (by omega)
          have hbad : ¬ l.getD i 0 < l.getD (i + 1) 0 → ¬ upL l = true := fun h e => h ((all_up l).1 e i hlt)
          have hT : ((i : Int) + 1).toNat = i + 1 := by omega
          generalize l.getD i 0 = x at *
          generalize l.getD (i + 1) 0 = y at *
          simp (maxSteps := 1000000) (disch := omega) only [genAll, decAll, tk_nil, st84, u3]
          refine drawK_by (fun w' => Qt w1 w') kd ?_
          refine take_field (.pointer (some ⟨b1, 3, none⟩)) (fun w' hq => by (simp (maxSteps := 1000000) (disch := omega) only [genAll, decAll, tk_nil, st84]; try (exact ⟨trivial, trivial⟩))) ?_
          refine take_load (.slice (some ⟨b, o, none⟩) l.length c) (fun w' hq => by have h := (X w' hq).2.2.2; (simp (maxSteps := 1000000) (disch := omega) only [genAll, decAll, tk_nil, st84, h]; try (exact ⟨trivial, trivial⟩))) ?_
          refine take_bin (.int .i64 i) (fun w' _ => by simp (maxSteps := 1000000) (disch := omega) only [genAll, decAll, tk_nil, st84, Int.add_sub_cancel, here_rfl]; try (exact ⟨trivial, trivial⟩)) ?_
          refine take_index (.pointer (some ⟨b, o + i, none⟩)) (fun w' hq => by (simp (maxSteps := 1000000) (disch := omega) only [genAll, decAll, tk_nil, st84]; try (exact ⟨trivial, trivial⟩))) ?_
          refine take_load (.int .i64 x) (fun w' hq => by have h := Z0 w' hq; (simp (maxSteps := 1000000) (disch := omega) only [genAll, decAll, tk_nil, st84, h]; try (exact ⟨trivial, trivial⟩))) ?_
          refine take_field (.pointer (some ⟨b1, 3, none⟩)) (fun w' hq => by (simp (maxSteps := 1000000) (disch := omega) only [genAll, decAll, tk_nil, st84]; try (exact ⟨trivial, trivial⟩))) ?_
          refine take_load (.slice (some ⟨b, o, none⟩) l.length c) (fun w' hq => by have h := (X w' hq).2.2.2; (simp (maxSteps := 1000000) (disch := omega) only [genAll, decAll, tk_nil, st84, h]; try (exact ⟨trivial, trivial⟩))) ?_
          refine take_index (.pointer (some ⟨b, o + (i + 1), none⟩)) (fun w' hq => by (simp (maxSteps := 1000000) (disch := omega) only [genAll, decAll, tk_nil, st84, hT]; try (exact ⟨trivial, trivial⟩))) ?_
          refine take_load (.int .i64 y) (fun w' hq => by have h := Z1 w' hq; (simp (maxSteps := 1000000) (disch := omega) only [genAll, decAll, tk_nil, st84, h]; try (exact ⟨trivial, trivial⟩))) ?_
          by_cases hxy : x < y
          · refine take_bin (.bool false) (fun w' _ => by simp (maxSteps := 1000000) (disch := omega) only [genAll, decAll, tk_nil, st84, here_rfl]; try (exact ⟨trivial, trivial⟩)) ?_
            simp (maxSteps := 1000000) (disch := omega) only [genAll, decAll, tk_nil, st84]
            exact ⟨⟨i + 1, by go_num, by omega, hlo' hxy, kd⟩, by simp [rel, intOf]; omega⟩
          · refine take_bin (.bool true) (fun w' _ => by simp (maxSteps := 1000000) (disch := omega) only [genAll, decAll, tk_nil, st84, here_rfl]; try (exact ⟨trivial, trivial⟩)) ?_
            rw [if_neg (hbad hxy)] at hf
            simp (maxSteps := 1000000) (disch := omega) only [genAll, decAll, tk_nil, st84]
            exact hf _ kd
        · rw [if_pos ((all_up l).2 (fun j hj => hlo j (by omega)))] at hf
          simp (maxSteps := 1000000) (disch := omega) only [genAll, decAll, tk_nil, st84, u3]
          exact hf w2 q2
      · have n3 : (a.1 == 3) = false := beq_eq_false_iff_ne.2 k3
        rw [if_neg k3] at hf
        simp (maxSteps := 1000000) (disch := omega) only [genAll, decAll, tk_nil, st84, x0, n1, n2, n3]
        exact hf w1 Qt.refl
theorem few10 {a : Val} {A : Option Addr} {c : Nat} {w : World} {K : Value → World → Prop} (hK : ∀ (b : Bool) w', Qt w w' → (b = true ↔ a.2.2.1.size ≤ 200 ∧ a.2.2.2.length ≤ 40) → K (.bool b) w') : CallK Tryz.prog 24 #[vv a A c] K w := by
  refine F24_calls _ _ _ ?_; unfold F24
  obtain ⟨q1, h1⟩ := box4 w a A c 61
  simp (maxSteps := 1000000) (disch := omega) only [genAll, decAll, tk_nil, st24]
  generalize (w.alloc (.cells #[.int .i64 a.1, .int .i64 a.2.1, .string a.2.2.1, .slice A a.2.2.2.length c] 61)) = w1 at *
  generalize w.heap.size = b1 at *
  obtain ⟨x0, x1, x2, x3⟩ := cell4 h1
  by_cases h2 : 200 < a.2.2.1.size
  · simp (maxSteps := 1000000) (disch := omega) only [genAll, decAll, tk_nil, st24, x2, guardK_u]
    exact hK false w1 q1 ⟨fun h => (by cases h), fun h => by omega⟩
  · by_cases h3 : 40 < a.2.2.2.length
    · simp (maxSteps := 1000000) (disch := omega) only [genAll, decAll, tk_nil, st24, x2, x3]
      exact hK false w1 q1 ⟨fun h => (by cases h), fun h => by omega⟩
    · simp (maxSteps := 1000000) (disch := omega) only [genAll, decAll, tk_nil, st24, x2, x3]
      exact hK true w1 q1 ⟨fun _ => ⟨by omega, by omega⟩, fun _ => rfl⟩
theorem there4 {w : World} {b : Nat} {t : TypeId} {a c d e : Value} {x y z u : Value} (h : w.heap[b]? = some (.cells #[a, c, d, e] t (0, 0))) : World.there w b 0 (#[x, y, z, u] : Array Value).size := fun j hj => by
  have hj : j < 4 := hj
  rw [Nat.zero_add, blk_cell h, blk_frozen h j]
  exact ⟨by rw [Array.getElem?_eq_getElem hj]; rfl, rfl⟩
theorem store4 {w : World} {b : Nat} {t : TypeId} {a c d e : Value} (x y z u : Value) (h : w.heap[b]? = some (.cells #[a, c, d, e] t (0, 0))) : (w.setCells b 0 [x, y, z, u]).heap[b]? = some (.cells #[x, y, z, u] t (0, 0)) ∧ Chg (fun q => q = b) w (w.setCells b 0 [x, y, z, u]) :=
  ⟨blk_setCells [x, y, z, u] 0 w _ h (Nat.le_refl 4), Chg.sets⟩
theorem all4 {x y z u : Value} (hx : x.oneCell' = true) (hy : y.oneCell' = true) (hz : z.oneCell' = true) (hu : u.oneCell' = true) : (#[x, y, z, u] : Array Value).all (·.oneCell') = true := by
  rw [← Array.all_toList]
  simp [hx, hy, hz, hu]
def zero4 : Obj := .cells #[.int .i64 0, .int .i64 0, .string ByteArray.empty, .slice none 0 0] 72
theorem of12 {a : Val} {A : Option Addr} {c : Nat} {w : World} {K : Value → World → Prop} (hK : ∀ w', Qt w w' → K (vv a A c) w') : CallK Tryz.prog 29 #[vv a A c] K w := by
  refine F29_calls _ _ _ ?_; unfold F29
  obtain ⟨q1, h1⟩ := box4 w a A c 61
  have hs : (w.alloc (.cells #[.int .i64 a.1, .int .i64 a.2.1, .string a.2.2.1, .slice A a.2.2.2.length c] 61)).heap.size = w.heap.size + 1 := size_alloc _ _
  simp (maxSteps := 1000000) (disch := omega) only [genAll, decAll, tk_nil, st29]
  generalize (w.alloc (.cells #[.int .i64 a.1, .int .i64 a.2.1, .string a.2.2.1, .slice A a.2.2.2.length c] 61)) = w1 at *
  have q2 : Qt w1 (w1.alloc (.cells #[.int .i64 0, .int .i64 0, .string ByteArray.empty, .slice none 0 0] 72)) := Chg.alloc Qt.refl _
  have h2 : (w1.alloc (.cells #[.int .i64 0, .int .i64 0, .string ByteArray.empty, .slice none 0 0] 72)).heap[w1.heap.size]? = some (.cells #[.int .i64 0, .int .i64 0, .string ByteArray.empty, .slice none 0 0] 72 (0, 0)) := blk_new _ _
  rw [hs] at h2
  generalize (w1.alloc (.cells #[.int .i64 0, .int .i64 0, .string ByteArray.empty, .slice none 0 0] 72)) = w2 at *
  obtain ⟨x0, x1, x2, x3⟩ := cell4 (q2.heap h1 (fun h => h))
  simp (maxSteps := 1000000) (disch := omega) only [genAll, decAll, tk_nil, st29, x0, x1, x2, x3]
  refine aggStoreK (there4 h2) (by kernel_rfl) (all4 rfl rfl rfl rfl) ?_
  obtain ⟨h3, k3⟩ := store4 (.int .i64 a.1) (.int .i64 a.2.1) (.string a.2.2.1) (.slice A a.2.2.2.length c) h2
  have q3 : Qt w (w2.setCells (w.heap.size + 1) 0 [.int .i64 a.1, .int .i64 a.2.1, .string a.2.2.1, .slice A a.2.2.2.length c]) := Qt.then (q1.trans q2) k3 (fun k hk => by omega)
  generalize (w2.setCells (w.heap.size + 1) 0 [.int .i64 a.1, .int .i64 a.2.1, .string a.2.2.1, .slice A a.2.2.2.length c]) = w3 at *
  obtain ⟨y0, y1, y2, y3⟩ := cell4 h3
  simp (maxSteps := 1000000) (disch := omega) only [genAll, decAll, tk_nil, st29, y0, y1, y2, y3]
  exact hK _ q3
end Go.Proofs.YtpjeohellehgjaaGreatDoor
end

section
/- Stamps, attributes, rows: what may be, their order, sameness, bytes. No program in sight. -/
set_option linter.unusedVariables false
set_option linter.unusedSimpArgs false
namespace Go.Cn
open Num
abbrev Stm := Int × Int × Int × ByteArray
abbrev Att := ByteArray × Val
abbrev RowD := ByteArray × Stm × List Att
def inT (n : Int) : Bool := decide (0 ≤ n) && decide (n ≤ 1000000000)
def nodeB (l : List UInt8) : Bool := decide ((parseL l).1 = 0) && decide (l ≠ [47])
def checkS (s : Stm) : Int := if (inT s.1 && inT s.2.1 && inT s.2.2.1) = false then 1 else if nodeB s.2.2.2.data.toList = false then 5 else 0
def ltS (a b : ByteArray) : Bool := Op.bytesLess a.data.toList b.data.toList
theorem ltS_iff (a b : ByteArray) : ltS a b = true ↔ cmpS a b = -1 := less_cmp _ _
/-- What is wrong with attributes, behind one of a name. -/
def chkAs : Option ByteArray → List Att → Int
  | _, [] => 0
  | p, a :: r => if nameL a.1.data.toList = false then 5 else if (p.all fun q => ltS q a.1) = false then 6 else if checkV a.2 ≠ 0 then checkV a.2 else chkAs (some a.1) r
def checkAs (l : List Att) : Int := if 32 < l.length then 4 else chkAs none l
def checkR (r : RowD) : Int := if nameL r.1.data.toList = false then 5 else if checkS r.2.1 ≠ 0 then checkS r.2.1 else checkAs r.2.2
def badR : List RowD → Int
  | [] => 0
  | r :: l => if checkR r ≠ 0 then checkR r else badR l
def rightR (l : List RowD) : Int := if 64 < l.length then 4 else badR l
/-- The name ahead of place i. -/
def prevA (l : List Att) (i : Nat) : Option ByteArray := if i = 0 then none else some (l.getD (i - 1) default).1
/-- One attribute's part of the check. -/
def stepA (p : Option ByteArray) (a : Att) (rest : Int) : Int := if nameL a.1.data.toList = false then 5 else if (p.all fun q => ltS q a.1) = false then 6 else if checkV a.2 ≠ 0 then checkV a.2 else rest
theorem stepA_name {p : Option ByteArray} {nm : ByteArray} {v : Val} {r : Int} (h : nameL nm.data.toList = false) : stepA p (nm, v) r = 5 := if_pos h
theorem stepA_twice {p : Option ByteArray} {nm : ByteArray} {v : Val} {r : Int} (h : nameL nm.data.toList = true) (h2 : (p.all fun q => ltS q nm) = false) : stepA p (nm, v) r = 6 := by
  unfold stepA; rw [if_neg (by rw [h]; decide), if_pos h2]
theorem stepA_val {p : Option ByteArray} {nm : ByteArray} {v : Val} {r : Int} (h : nameL nm.data.toList = true) (h2 : (p.all fun q => ltS q nm) = true) : stepA p (nm, v) r = if checkV v ≠ 0 then checkV v else r := by
  unfold stepA; rw [if_neg (by rw [h]; decide), if_neg (by rw [h2]; decide)]
theorem chkAs_at {l : List Att} {i : Nat} (hi : i < l.length) : chkAs (prevA l i) (l.drop i) = stepA (prevA l i) (l.getD i default) (chkAs (prevA l (i + 1)) (l.drop (i + 1))) := by
  rw [List.drop_eq_getElem_cons hi, chkAs]
  have e : l.getD i default = l[i] := by simp [hi]
  have e2 : prevA l (i + 1) = some l[i].1 := by
    unfold prevA
    rw [if_neg (by omega), Nat.add_sub_cancel, e]
  rw [e, e2]; rfl
theorem chkAs_end {l : List Att} {i : Nat} (hi : l.length ≤ i) : chkAs (prevA l i) (l.drop i) = 0 := by
  rw [List.drop_eq_nil_of_le hi]; cases prevA l i <;> rfl
theorem badR_at {l : List RowD} {i : Nat} (hi : i < l.length) : badR (l.drop i) = if checkR (l.getD i default) ≠ 0 then checkR (l.getD i default) else badR (l.drop (i + 1)) := by
  rw [List.drop_eq_getElem_cons hi, badR]
  have e : l.getD i default = l[i] := by simp [hi]
  rw [e]
def orI (a b : Int) : Int := if a ≠ 0 then a else b
def cmpStm (a b : Stm) : Int := orI (cmpI a.1 b.1) (orI (cmpI a.2.1 b.2.1) (orI (cmpI a.2.2.1 b.2.2.1) (cmpS a.2.2.2 b.2.2.2)))
theorem cmpI_zero {a b : Int} : cmpI a b = 0 ↔ a = b := by
  unfold cmpI
  split
  · constructor
    · intro h; cases h
    · intro h; omega
  · split
    · constructor
      · intro h; cases h
      · intro h; omega
    · constructor
      · intro _; omega
      · intro _; rfl
theorem cmpS_zero {a b : ByteArray} : cmpS a b = 0 ↔ a = b := by
  constructor
  · intro h
    exact data_inj (bts_inj (cmpL_zero _ _ h))
  · rintro rfl; exact cmpL_self _
theorem orI_zero {a b : Int} : orI a b = 0 ↔ a = 0 ∧ b = 0 := by
  unfold orI
  by_cases h : a = 0
  · simp [h]
  · simp [h]
theorem cmpStm_zero {a b : Stm} : cmpStm a b = 0 ↔ a = b := by
  unfold cmpStm
  rw [orI_zero, orI_zero, orI_zero, cmpI_zero, cmpI_zero, cmpI_zero, cmpS_zero]
  obtain ⟨a1, a2, a3, a4⟩ := a
  obtain ⟨b1, b2, b3, b4⟩ := b
  simp
def sameAs : List Att → List Att → Bool
  | [], [] => true
  | a :: r, b :: s => decide (a.1 = b.1) && decide (cmpV a.2 b.2 = 0) && sameAs r s
  | _, _ => false
def sameR (a b : RowD) : Bool := decide (a.1 = b.1) && decide (cmpStm a.2.1 b.2.1 = 0) && sameAs a.2.2 b.2.2
theorem sameAs_len : ∀ {a b : List Att}, sameAs a b = true → a.length = b.length
  | [], [], _ => rfl
  | [], _ :: _, h => by cases h
  | _ :: _, [], h => by cases h
  | a :: r, b :: s, h => by
    rw [sameAs, Bool.and_eq_true] at h
    rw [List.length_cons, List.length_cons, sameAs_len h.2]
theorem sameAs_at {a b : List Att} {i : Nat} (ha : i < a.length) (hb : i < b.length) : sameAs (a.drop i) (b.drop i) = (decide ((a.getD i default).1 = (b.getD i default).1) && decide (cmpV (a.getD i default).2 (b.getD i default).2 = 0) && sameAs (a.drop (i + 1)) (b.drop (i + 1))) := by
  rw [List.drop_eq_getElem_cons ha, List.drop_eq_getElem_cons hb, sameAs]
  have e : a.getD i default = a[i] := by simp [ha]
  have e2 : b.getD i default = b[i] := by simp [hb]
  rw [e, e2]
theorem sameAs_ne {a b : List Att} (h : a.length ≠ b.length) : sameAs a b = false := by
  cases hs : sameAs a b with
  | false => rfl
  | true => exact absurd (sameAs_len hs) h
theorem sameAs_self : ∀ a : List Att, sameAs a a = true
  | [] => rfl
  | a :: r => by
    rw [sameAs, sameAs_self r]
    have : cmpV a.2 a.2 = 0 := cmpL_self _
    simp [this]
theorem sameR_self (r : RowD) : sameR r r = true := by
  unfold sameR
  rw [sameAs_self, cmpStm_zero.2 rfl]; simp
/- In bytes. -/
def valB (v : Val) : List UInt8 := putInt v.1 ++ (if v.1 = 1 then putInt v.2.1 else if v.1 = 2 then putText v.2.2.1.data.toList else if v.1 = 3 then putInt v.2.2.2.length ++ v.2.2.2.flatMap putInt else [])
def stmB (s : Stm) : List UInt8 := putInt s.1 ++ putInt s.2.1 ++ putInt s.2.2.1 ++ putText s.2.2.2.data.toList
def attB (a : Att) : List UInt8 := putText a.1.data.toList ++ valB a.2
def rowB (r : RowD) : List UInt8 := putText r.1.data.toList ++ stmB r.2.1 ++ putInt r.2.2.length ++ r.2.2.flatMap attB
def rowsB (l : List RowD) : List UInt8 := putInt l.length ++ l.flatMap rowB
/-- A value's own part alone. -/
def normV (v : Val) : Val := (v.1, if v.1 = 1 then v.2.1 else 0, if v.1 = 2 then v.2.2.1 else ByteArray.empty, if v.1 = 3 then v.2.2.2 else [])
theorem normV_key (v : Val) : keyV (normV v) = keyV v := by
  unfold keyV normV
  simp only
  by_cases h1 : v.1 = 1
  · simp [h1]
  · by_cases h2 : v.1 = 2
    · simp [h2]
    · by_cases h3 : v.1 = 3
      · simp [h3]
      · simp [h1, h2, h3]
theorem normV_cmp (v : Val) : cmpV (normV v) v = 0 := by
  unfold cmpV
  rw [normV_key]; exact cmpL_self _
theorem normV_check (v : Val) : checkV (normV v) = checkV v := by
  unfold checkV normV
  simp only
  by_cases h1 : v.1 = 1
  · simp [h1]
  · by_cases h2 : v.1 = 2
    · simp [h2]
    · by_cases h3 : v.1 = 3
      · simp [h3]
      · simp [h1, h2, h3]
def normA (a : Att) : Att := (a.1, normV a.2)
def normR (r : RowD) : RowD := (r.1, r.2.1, r.2.2.map normA)
theorem normAs_same : ∀ l : List Att, sameAs (l.map normA) l = true
  | [] => rfl
  | a :: r => by
    rw [List.map_cons, sameAs, normAs_same r]
    show (decide (a.1 = a.1) && decide (cmpV (normV a.2) a.2 = 0) && true) = true
    rw [normV_cmp]; simp
theorem normR_same (r : RowD) : sameR (normR r) r = true := by
  unfold sameR normR
  rw [normAs_same, cmpStm_zero.2 rfl]; simp
theorem chkAs_norm : ∀ (p : Option ByteArray) (l : List Att), chkAs p (l.map normA) = chkAs p l
  | _, [] => rfl
  | p, a :: r => by
    rw [List.map_cons, chkAs, chkAs, chkAs_norm]
    show (if nameL a.1.data.toList = false then (5 : Int) else if (p.all fun q => ltS q a.1) = false then 6 else if checkV (normV a.2) ≠ 0 then checkV (normV a.2) else chkAs (some a.1) r) = _
    rw [normV_check]
theorem normR_check (r : RowD) : checkR (normR r) = checkR r := by
  unfold checkR normR checkAs
  simp only [List.length_map, chkAs_norm]
/- How long. -/
theorem putText_len (s : List UInt8) (h : s.length ≤ 1000000) : (putText s).length ≤ s.length + 10 := by
  unfold putText
  rw [List.length_append]
  have := putInt_len (s.length : Int) (by omega) (by omega)
  omega
theorem flat_putInt_len : ∀ (l : List Int), (∀ x ∈ l, in64 x) → (l.flatMap putInt).length ≤ l.length * 10
  | [], _ => by simp
  | x :: r, h => by
    have ih := flat_putInt_len r (fun y hy => h y (by simp [hy]))
    have hx := h x (by simp)
    have := putInt_len x hx.1 hx.2
    rw [List.flatMap_cons, List.length_append, List.length_cons, Nat.succ_mul]; omega
end Go.Cn
end

section
/- How attributes and rows lie in the heap: rows of structs whose texts and numbers lie beside. No program in sight. -/
set_option linter.unusedVariables false
set_option linter.unusedSimpArgs false
namespace Go.Cn
open Go.RowKit
def ints' (l : List Int) : List Value := l.map (Value.int .i64)
/-- An attribute with the place of its numbers. -/
abbrev AttH := ByteArray × Val × Option Addr × Nat
def attP (h : AttH) : Att := (h.1, h.2.1)
def attC (h : AttH) : List Value := [.string h.1, .int .i64 h.2.1.1, .int .i64 h.2.1.2.1, .string h.2.1.2.2.1, .slice h.2.2.1 h.2.1.2.2.2.length h.2.2.2]
theorem attC_len (h : AttH) : (attC h).length = 5 := rfl
/-- A row with the place of its attributes. -/
abbrev RowH := ByteArray × Stm × Option Addr × Nat × List AttH
def rowP (h : RowH) : RowD := (h.1, h.2.1, h.2.2.2.2.map attP)
def rowC (h : RowH) : List Value := [.string h.1, .int .i64 h.2.1.1, .int .i64 h.2.1.2.1, .int .i64 h.2.1.2.2.1, .string h.2.1.2.2.2, .slice h.2.2.1 h.2.2.2.2.length h.2.2.2.1]
theorem rowC_len (h : RowH) : (rowC h).length = 6 := rfl
/-- The numbers of each attribute lie where it says. -/
def ListsAt (w : World) (hs : List AttH) : Prop := ∀ h ∈ hs, Reads w h.2.2.1 (ints' h.2.1.2.2.2)
def AttsAt (w : World) (A : Option Addr) (hs : List AttH) : Prop := Reads w A (hs.flatMap attC) ∧ ListsAt w hs
def RowsAt (w : World) (A : Option Addr) (rs : List RowH) : Prop := Reads w A (rs.flatMap rowC) ∧ ∀ r ∈ rs, AttsAt w r.2.2.1 r.2.2.2.2
/-- Nothing of it lies in a block of S. -/
def Sep (S : Nat → Prop) (A : Option Addr) {α : Type} (xs : List α) : Prop := xs ≠ [] → ∀ ad, A = some ad → ¬ S ad.block
theorem Sep.nil {S : Nat → Prop} {A : Option Addr} {α : Type} : Sep S A ([] : List α) := fun h => absurd rfl h
theorem Sep.low {S : Nat → Prop} {A : Option Addr} {α : Type} {xs : List α} {B : Nat} (h : ∀ ad, A = some ad → xs ≠ [] → ad.block < B) (hS : ∀ k, S k → B ≤ k) : Sep S A xs := fun hx ad ha hs => by
  have := h ad ha hx; have := hS _ hs; omega
theorem Reads.sep {S : Nat → Prop} {w w' : World} {A : Option Addr} {xs : List Value} (h : Reads w A xs) (c : Chg S w w') (hs : Sep S A xs) : Reads w' A xs := by
  by_cases e : xs = []
  · exact .inl e
  · exact h.chg c (fun ad ha => hs e ad ha)
theorem cellR_lt {w : World} {a : Addr} {v : Value} (h : w.cell? a = some v) : a.block < w.heap.size := by
  unfold World.cell? at h
  cases hb : w.heap[a.block]? with
  | none => simp [hb] at h
  | some o => exact (Array.getElem?_eq_some_iff.1 hb).1
theorem Reads.lt {w : World} {ad : Addr} {xs : List Value} (h : Reads w (some ad) xs) (hx : xs ≠ []) : ad.block < w.heap.size := by
  rcases h with h | ⟨g, o, he, hc⟩
  · exact absurd h hx
  · cases he
    have h0 := hc 0 (List.length_pos_iff.2 hx)
    rw [List.getElem?_eq_getElem (List.length_pos_iff.2 hx)] at h0
    exact cellR_lt h0
theorem Reads.low {w : World} {A : Option Addr} {xs : List Value} (h : Reads w A xs) : ∀ ad, A = some ad → xs ≠ [] → ad.block < w.heap.size := fun ad ha hx => by
  subst ha; exact h.lt hx
def ListsSep (S : Nat → Prop) (hs : List AttH) : Prop := ∀ h ∈ hs, Sep S h.2.2.1 (ints' h.2.1.2.2.2)
def AttsSep (S : Nat → Prop) (A : Option Addr) (hs : List AttH) : Prop := Sep S A (hs.flatMap attC) ∧ ListsSep S hs
def RowsSep (S : Nat → Prop) (A : Option Addr) (rs : List RowH) : Prop := Sep S A (rs.flatMap rowC) ∧ ∀ r ∈ rs, AttsSep S r.2.2.1 r.2.2.2.2
theorem ListsAt.sep {S : Nat → Prop} {w w' : World} {hs : List AttH} (h : ListsAt w hs) (c : Chg S w w') (hsp : ListsSep S hs) : ListsAt w' hs := fun x hx => (h x hx).sep c (hsp x hx)
theorem AttsAt.sep {S : Nat → Prop} {w w' : World} {A : Option Addr} {hs : List AttH} (h : AttsAt w A hs) (c : Chg S w w') (hsp : AttsSep S A hs) : AttsAt w' A hs := ⟨h.1.sep c hsp.1, h.2.sep c hsp.2⟩
theorem RowsAt.sep {S : Nat → Prop} {w w' : World} {A : Option Addr} {rs : List RowH} (h : RowsAt w A rs) (c : Chg S w w') (hsp : RowsSep S A rs) : RowsAt w' A rs := ⟨h.1.sep c hsp.1, fun r hr => (h.2 r hr).sep c (hsp.2 r hr)⟩
theorem ListsAt.quiet {w w' : World} {hs : List AttH} (h : ListsAt w hs) (c : Qt w w') : ListsAt w' hs := fun x hx => (h x hx).quiet c
theorem AttsAt.quiet {w w' : World} {A : Option Addr} {hs : List AttH} (h : AttsAt w A hs) (c : Qt w w') : AttsAt w' A hs := ⟨h.1.quiet c, h.2.quiet c⟩
theorem RowsAt.quiet {w w' : World} {A : Option Addr} {rs : List RowH} (h : RowsAt w A rs) (c : Qt w w') : RowsAt w' A rs := ⟨h.1.quiet c, fun r hr => (h.2 r hr).quiet c⟩
/-- What lies below B is apart from what lies at B and above. -/
theorem ListsAt.low {S : Nat → Prop} {w : World} {hs : List AttH} (h : ListsAt w hs) (hS : ∀ k, S k → w.heap.size ≤ k) : ListsSep S hs := fun x hx => Sep.low (h x hx).low hS
theorem AttsAt.low {S : Nat → Prop} {w : World} {A : Option Addr} {hs : List AttH} (h : AttsAt w A hs) (hS : ∀ k, S k → w.heap.size ≤ k) : AttsSep S A hs := ⟨Sep.low h.1.low hS, h.2.low hS⟩
theorem RowsAt.low {S : Nat → Prop} {w : World} {A : Option Addr} {rs : List RowH} (h : RowsAt w A rs) (hS : ∀ k, S k → w.heap.size ≤ k) : RowsSep S A rs := ⟨Sep.low h.1.low hS, fun r hr => (h.2 r hr).low hS⟩
theorem Sep.or {S T : Nat → Prop} {A : Option Addr} {α : Type} {xs : List α} (h : Sep S A xs) (h2 : Sep T A xs) : Sep (fun k => S k ∨ T k) A xs := fun hx ad ha hs => hs.elim (h hx ad ha) (h2 hx ad ha)
theorem ListsSep.or {S T : Nat → Prop} {hs : List AttH} (h : ListsSep S hs) (h2 : ListsSep T hs) : ListsSep (fun k => S k ∨ T k) hs := fun x hx => (h x hx).or (h2 x hx)
theorem AttsSep.or {S T : Nat → Prop} {A : Option Addr} {hs : List AttH} (h : AttsSep S A hs) (h2 : AttsSep T A hs) : AttsSep (fun k => S k ∨ T k) A hs := ⟨h.1.or h2.1, h.2.or h2.2⟩
theorem RowsSep.or {S T : Nat → Prop} {A : Option Addr} {rs : List RowH} (h : RowsSep S A rs) (h2 : RowsSep T A rs) : RowsSep (fun k => S k ∨ T k) A rs := ⟨h.1.or h2.1, fun r hr => (h.2 r hr).or (h2.2 r hr)⟩
theorem Sep.mono {S T : Nat → Prop} {A : Option Addr} {α : Type} {xs : List α} (h : Sep S A xs) (ht : ∀ k, T k → S k) : Sep T A xs := fun hx ad ha hs => h hx ad ha (ht _ hs)
theorem ListsSep.mono {S T : Nat → Prop} {hs : List AttH} (h : ListsSep S hs) (ht : ∀ k, T k → S k) : ListsSep T hs := fun x hx => (h x hx).mono ht
theorem AttsSep.mono {S T : Nat → Prop} {A : Option Addr} {hs : List AttH} (h : AttsSep S A hs) (ht : ∀ k, T k → S k) : AttsSep T A hs := ⟨h.1.mono ht, h.2.mono ht⟩
theorem RowsSep.mono {S T : Nat → Prop} {A : Option Addr} {rs : List RowH} (h : RowsSep S A rs) (ht : ∀ k, T k → S k) : RowsSep T A rs := ⟨h.1.mono ht, fun r hr => (h.2 r hr).mono ht⟩
theorem ListsSep.none {hs : List AttH} : ListsSep (fun _ => False) hs := fun _ _ _ _ _ h => h
theorem ListsSep.app {S : Nat → Prop} {a b : List AttH} (h : ListsSep S a) (h2 : ListsSep S b) : ListsSep S (a ++ b) := fun x hx => (List.mem_append.1 hx).elim (h x) (h2 x)
theorem ListsAt.app {w : World} {a b : List AttH} (h : ListsAt w a) (h2 : ListsAt w b) : ListsAt w (a ++ b) := fun x hx => (List.mem_append.1 hx).elim (h x) (h2 x)
theorem attP_len (hs : List AttH) : (hs.map attP).length = hs.length := by simp
theorem attP_getD (hs : List AttH) (i : Nat) : (hs.map attP).getD i default = attP (hs.getD i default) := by
  rw [List.getD_eq_getElem?_getD, List.getElem?_map, List.getD_eq_getElem?_getD]
  cases hs[i]? <;> rfl
theorem rowP_getD (rs : List RowH) (i : Nat) : (rs.map rowP).getD i default = rowP (rs.getD i default) := by
  rw [List.getD_eq_getElem?_getD, List.getElem?_map, List.getD_eq_getElem?_getD]
  cases rs[i]? <;> rfl
/-- The cells of attribute i. -/
theorem att_at {w : World} {A : Option Addr} {hs : List AttH} (h : Reads w A (hs.flatMap attC)) {i : Nat} (hi : i < hs.length) : ∃ g o, A = some ⟨g, o, none⟩ ∧
    w.cell? ⟨g, o + i * 5, none⟩ = some (.string (hs.getD i default).1) ∧ w.cell? ⟨g, o + (i * 5 + 1), none⟩ = some (.int .i64 (hs.getD i default).2.1.1) ∧ w.cell? ⟨g, o + (i * 5 + 2), none⟩ = some (.int .i64 (hs.getD i default).2.1.2.1) ∧ w.cell? ⟨g, o + (i * 5 + 3), none⟩ = some (.string (hs.getD i default).2.1.2.2.1) ∧ w.cell? ⟨g, o + (i * 5 + 4), none⟩ = some (.slice (hs.getD i default).2.2.1 (hs.getD i default).2.1.2.2.2.length (hs.getD i default).2.2.2) := by
  obtain ⟨g, o, hA, hc⟩ := h.at attC_len hi (by omega)
  exact ⟨g, o, hA, hc 0 (by omega), hc 1 (by omega), hc 2 (by omega), hc 3 (by omega), hc 4 (by omega)⟩
theorem row_at {w : World} {A : Option Addr} {rs : List RowH} (h : Reads w A (rs.flatMap rowC)) {i : Nat} (hi : i < rs.length) : ∃ g o, A = some ⟨g, o, none⟩ ∧
    w.cell? ⟨g, o + i * 6, none⟩ = some (.string (rs.getD i default).1) ∧ w.cell? ⟨g, o + (i * 6 + 1), none⟩ = some (.int .i64 (rs.getD i default).2.1.1) ∧ w.cell? ⟨g, o + (i * 6 + 2), none⟩ = some (.int .i64 (rs.getD i default).2.1.2.1) ∧ w.cell? ⟨g, o + (i * 6 + 3), none⟩ = some (.int .i64 (rs.getD i default).2.1.2.2.1) ∧ w.cell? ⟨g, o + (i * 6 + 4), none⟩ = some (.string (rs.getD i default).2.1.2.2.2) ∧ w.cell? ⟨g, o + (i * 6 + 5), none⟩ = some (.slice (rs.getD i default).2.2.1 (rs.getD i default).2.2.2.2.length (rs.getD i default).2.2.2.1) := by
  obtain ⟨g, o, hA, hc⟩ := h.at rowC_len hi (by omega)
  exact ⟨g, o, hA, hc 0 (by omega), hc 1 (by omega), hc 2 (by omega), hc 3 (by omega), hc 4 (by omega), hc 5 (by omega)⟩
theorem ListsAt.get {w : World} {hs : List AttH} (h : ListsAt w hs) {i : Nat} (hi : i < hs.length) : Reads w (hs.getD i default).2.2.1 (ints' (hs.getD i default).2.1.2.2.2) := by
  have e : hs.getD i default = hs[i] := by simp [hi]
  rw [e]; exact h _ (List.getElem_mem hi)
theorem RowsAt.get {w : World} {A : Option Addr} {rs : List RowH} (h : RowsAt w A rs) {i : Nat} (hi : i < rs.length) : AttsAt w (rs.getD i default).2.2.1 (rs.getD i default).2.2.2.2 := by
  have e : rs.getD i default = rs[i] := by simp [hi]
  rw [e]; exact h.2 _ (List.getElem_mem hi)
/-- One thing of several cells put to a row, out of a block of its own. -/
theorem src_cells {w : World} {b : Nat} {cs : List Value} {e : TypeId} (h : w.heap[b]? = some (.cells cs.toArray e (0, 0))) : Src w (some ⟨b, 0, none⟩) cs := fun j u hj => by
  refine ⟨_, rfl, ?_⟩
  rw [Addr.add_lit, Nat.zero_add, blk_cell h j]
  simpa using hj
theorem pushN_run {P : Program} {w : World} {t e : TypeId} {z : Value} {sz bytes : Nat} (T : ElemTy P t e z sz bytes) {v : Value} {n : Nat} {xs : List Value} {F : Option Nat} (ho : Own w e sz v n xs F) (cs : List Value) (hcs : cs.length = sz) (h1 : ∀ u ∈ cs, u.oneCell' = true) {b : Nat} {e' : TypeId} (hb0 : w.heap[b]? = some (.cells cs.toArray e' (0, 0))) (hb : (n + 1) * bytes ≤ 140737488355328) (hb2 : n + 1 ≤ 9223372036854775807) (ty : TypeId) :
    ∃ A' cap F' w', (Builtin.append_ #[t, t] ty #[v, .slice (some ⟨b, 0, none⟩) 1 1]).run P w = .ok (.slice A' (n + 1) cap) w' ∧ Own w' e sz (.slice A' (n + 1) cap) (n + 1) (xs ++ cs) F' ∧ Chg (fun k => F = some k) w w' ∧ (∀ k, F' = some k → F = some k ∨ k = w.heap.size) :=
  app_run T ho (some ⟨b, 0, none⟩) 1 1 cs (by omega) (src_cells hb0) h1 hb hb2 ty
theorem attC_one (h : AttH) : ∀ u ∈ attC h, u.oneCell' = true := fun u hu => by
  simp only [attC, List.mem_cons, List.mem_nil_iff, or_false] at hu
  rcases hu with rfl | rfl | rfl | rfl | rfl <;> rfl
theorem rowC_one (h : RowH) : ∀ u ∈ rowC h, u.oneCell' = true := fun u hu => by
  simp only [rowC, List.mem_cons, List.mem_nil_iff, or_false] at hu
  rcases hu with rfl | rfl | rfl | rfl | rfl | rfl <;> rfl
end Go.Cn
end

section
/- Stamps, of both packages: whether they may be, which is older; a stamp told over. Conditions: the origin's length. -/
set_option linter.unusedVariables false
set_option linter.unusedSimpArgs false
set_option maxRecDepth 100000
namespace Go.Proofs.YtpjeohellehgjaaGreatDoor
open Go.RowKit Go.Cn
theorem newb (w : World) (C : Array Value) (t : TypeId) : Qt w (w.alloc (.cells C t)) ∧ (w.alloc (.cells C t)).heap[w.heap.size]? = some (.cells C t (0, 0)) ∧ (w.alloc (.cells C t)).heap.size = w.heap.size + 1 := ⟨Chg.alloc Qt.refl _, blk_new _ _, size_alloc _ _⟩
abbrev stV (s : Stm) : Value := .agg #[.int .i64 s.1, .int .i64 s.2.1, .int .i64 s.2.2.1, .string s.2.2.2]
theorem cellL_at {w : World} {b : Nat} {cs : List Value} {t : TypeId} (h : w.heap[b]? = some (.cells cs.toArray t (0, 0))) {i : Nat} (hi : i < cs.length) : w.cell? ⟨b, i, none⟩ = some cs[i] := by
  rw [blk_cell h]; simp [hi]
def orL : List Int → Int
  | [] => 0
  | a :: r => orI a (orL r)
theorem orL_four (x y z u : Int) : orI x (orI y (orI z u)) = orL [x, y, z, u] := by
  unfold orL orL orL orL orL orI
  by_cases h : u = 0 <;> simp [h]
theorem orL_at {l : List Int} {i : Nat} (hi : i < l.length) : orL (l.drop i) = orI (l.getD i 0) (orL (l.drop (i + 1))) := by
  rw [List.drop_eq_getElem_cons hi, orL]
  simp [hi]
theorem or4_any {x y z u : Int} {b : Nat} {t : TypeId} {w : World} {K : Value → World → Prop} (h3 : w.heap[b]? = some (.cells #[.int .i64 x, .int .i64 y, .int .i64 z, .int .i64 u] t (0, 0))) (hK : K (.int .i64 (orI x (orI y (orI z u)))) w) : CallK Tryz.prog 103 #[.slice (some ⟨b, 0, none⟩) 4 4] K w := by
  refine F103_calls _ _ _ ?_; unfold F103
  have fin := hK
  have h4 : (((4 : Nat)) : Int) = 4 := rfl
  simp (maxSteps := 1000000) (disch := omega) only [genAll, decAll, tk_nil, st103, h4]
  refine loopK1 (fun v w' => w' = w ∧ ∃ i : Nat, v = .int .i64 i ∧ i ≤ 4 ∧ orL [x, y, z, u] = orL ([x, y, z, u].drop i)) (fun v _ => 4 - (intOf v).toNat) ⟨rfl, 0, rfl, by omega, rfl⟩ ?_
  rintro _ _ w4 ⟨hw, i, rfl, hi, hlo⟩
  obtain rfl : w4 = w := hw
  have ho : orI x (orI y (orI z u)) = orL [x, y, z, u] := orL_four x y z u
  rw [ho] at fin
  by_cases hlt : i < 4
  · have hc := cellL_at (cs := [.int .i64 x, .int .i64 y, .int .i64 z, .int .i64 u]) h3 (show i < 4 from hlt)
    have hg : ([Value.int .i64 x, .int .i64 y, .int .i64 z, .int .i64 u] : List Value)[i]'(hlt) = .int .i64 (([x, y, z, u] : List Int).getD i 0) := by
      match i, hlt with
      | 0, _ => rfl
      | 1, _ => rfl
      | 2, _ => rfl
      | 3, _ => rfl
    rw [hg] at hc
    have hst := orL_at (l := [x, y, z, u]) (i := i) hlt
    rw [hst] at hlo
    generalize ([x, y, z, u] : List Int).getD i 0 = v at *
    by_cases hv : v = 0
    · simp (maxSteps := 1000000) (disch := omega) only [genAll, decAll, tk_nil, st103, hc]
      refine ⟨⟨rfl, i + 1, by go_num, by omega, ?_⟩, by simp [rel, intOf]; omega⟩
      rw [hlo, hv]; rfl
    · rw [hlo] at fin
      unfold orI at fin
      rw [if_pos hv] at fin
      simp (maxSteps := 1000000) (disch := omega) only [genAll, decAll, tk_nil, st103, hc]
      exact fin
  · obtain rfl : i = 4 := by omega
    rw [hlo] at fin
    simp (maxSteps := 1000000) (disch := omega) only [genAll, decAll, tk_nil, st103]
    exact fin
theorem part_any {l : List UInt8} {w : World} {K : Value → World → Prop} (hK : K (.bool (nameL l)) w) : CallK Tryz.prog 119 #[.string (txt l)] K w := by
  refine F119_calls _ _ _ ?_; unfold F119
  have hsz := txt_size l
  by_cases h0 : l = []
  · have e : nameL l = false := by subst h0; rfl
    rw [e] at hK
    have hb : decide (l = []) = true := decide_eq_true h0
    simp (maxSteps := 1000000) (disch := omega) only [genAll, decAll, tk_nil, st119, c0, eq_txt, hb]
    exact hK
  have hb : decide (l = []) = false := decide_eq_false h0
  have hpos : 0 < l.length := List.length_pos_iff.2 h0
  by_cases h8 : 8 < l.length
  · have e : nameL l = false := nameL_no (by omega)
    rw [e] at hK
    simp (maxSteps := 1000000) (disch := omega) only [genAll, decAll, tk_nil, st119, c0, eq_txt, hb, hsz]
    exact hK
  by_cases h97 : (l.getD 0 0).toNat < 97
  · have e : nameL l = false := nameL_no (by omega)
    rw [e] at hK
    simp (maxSteps := 1000000) (disch := omega) only [genAll, decAll, tk_nil, st119, c0, eq_txt, hb, hsz, ix9]
    exact hK
  simp (maxSteps := 1000000) (disch := omega) only [genAll, decAll, tk_nil, st119, c0, eq_txt, hb, hsz, ix9]
  refine loopK1 (fun v w' => w' = w ∧ ∃ i : Nat, v = .int .i64 i ∧ i ≤ l.length ∧ ∀ j, j < i → (97 ≤ (l.getD j 0).toNat ∧ (l.getD j 0).toNat ≤ 122) ∨ (48 ≤ (l.getD j 0).toNat ∧ (l.getD j 0).toNat ≤ 57)) (fun v _ => l.length - (intOf v).toNat) ⟨rfl, 0, rfl, by omega, fun j h => by omega⟩ ?_
  rintro _ _ w' ⟨hw, i, rfl, hi, hlo⟩
  obtain rfl : w' = w := hw
  by_cases hlt : i < l.length
  · have bad : ¬ ((97 ≤ (l.getD i 0).toNat ∧ (l.getD i 0).toNat ≤ 122) ∨ (48 ≤ (l.getD i 0).toNat ∧ (l.getD i 0).toNat ≤ 57)) → K (.bool false) w' := fun hn => by
      have e : nameL l = false := nameL_no (fun h => hn (h.2.2.2.2 i hlt))
      rw [e] at hK; exact hK
    have good : ((97 ≤ (l.getD i 0).toNat ∧ (l.getD i 0).toNat ≤ 122) ∨ (48 ≤ (l.getD i 0).toNat ∧ (l.getD i 0).toNat ≤ 57)) → ∀ j, j < i + 1 → (97 ≤ (l.getD j 0).toNat ∧ (l.getD j 0).toNat ≤ 122) ∨ (48 ≤ (l.getD j 0).toNat ∧ (l.getD j 0).toNat ≤ 57) := fun hg j hj => by
      by_cases e : j = i
      · subst e; exact hg
      · exact hlo j (by omega)
    by_cases ha : (l.getD i 0).toNat < 97
    · by_cases hb1 : (l.getD i 0).toNat < 48
      · simp (maxSteps := 1000000) (disch := omega) only [genAll, decAll, tk_nil, st119, ix9, hsz]
        exact bad (by omega)
      · by_cases hb2 : 57 < (l.getD i 0).toNat
        · simp (maxSteps := 1000000) (disch := omega) only [genAll, decAll, tk_nil, st119, ix9, hsz]
          exact bad (by omega)
        · simp (maxSteps := 1000000) (disch := omega) only [genAll, decAll, tk_nil, st119, ix9, hsz]
          exact ⟨⟨rfl, i + 1, by go_num, by omega, good (by omega)⟩, by simp [rel, intOf]; omega⟩
    · by_cases hb : 122 < (l.getD i 0).toNat
      · simp (maxSteps := 1000000) (disch := omega) only [genAll, decAll, tk_nil, st119, ix9, hsz]
        exact bad (by omega)
      · simp (maxSteps := 1000000) (disch := omega) only [genAll, decAll, tk_nil, st119, ix9, hsz]
        exact ⟨⟨rfl, i + 1, by go_num, by omega, good (by omega)⟩, by simp [rel, intOf]; omega⟩
  · simp (maxSteps := 1000000) (disch := omega) only [genAll, decAll, tk_nil, st119]
    have e : nameL l = true := (nameL_iff l).2 ⟨by omega, by omega, by omega, by
      rcases hlo 0 (by omega) with h | h
      · exact h.2
      · omega, fun j hj => hlo j (by omega)⟩
    rw [e] at hK
    exact hK
theorem in_any {n : Int} {w : World} {K : Value → World → Prop} (hK : K (.bool (inT n)) w) : CallK Tryz.prog 109 #[.int .i64 n] K w := by
  refine F109_calls _ _ _ ?_; unfold F109
  unfold inT at hK
  by_cases h1 : 0 ≤ n
  · by_cases h2 : n ≤ 1000000000
    · rw [decide_eq_true h1, decide_eq_true h2] at hK
      simp (maxSteps := 1000000) (disch := omega) only [genAll, decAll, tk_nil, st109]
      exact hK
    · rw [decide_eq_true h1, decide_eq_false h2] at hK
      simp (maxSteps := 1000000) (disch := omega) only [genAll, decAll, tk_nil, st109]
      exact hK
  · rw [decide_eq_false h1] at hK
    simp (maxSteps := 1000000) (disch := omega) only [genAll, decAll, tk_nil, st109, guardK_u]
    exact hK
theorem inR_any {n : Int} {w : World} {K : Value → World → Prop} (hK : K (.bool (inT n)) w) : CallK Tryz.prog 101 #[.int .i64 n] K w := by
  refine F101_calls _ _ _ ?_; unfold F101
  unfold inT at hK
  by_cases h1 : 0 ≤ n
  · by_cases h2 : n ≤ 1000000000
    · rw [decide_eq_true h1, decide_eq_true h2] at hK
      simp (maxSteps := 1000000) (disch := omega) only [genAll, decAll, tk_nil, st101]
      exact hK
    · rw [decide_eq_true h1, decide_eq_false h2] at hK
      simp (maxSteps := 1000000) (disch := omega) only [genAll, decAll, tk_nil, st101]
      exact hK
  · rw [decide_eq_false h1] at hK
    simp (maxSteps := 1000000) (disch := omega) only [genAll, decAll, tk_nil, st101, guardK_u]
    exact hK
theorem nodeB_split (l : List UInt8) : nodeB l = (decide (l.headD 0 = 47) && ((splitL l.tail).all nameL && decide ((splitL l.tail).length ≤ 4))) := by
  cases l with
  | nil => rfl
  | cons c r =>
    unfold nodeB parseL cutL
    by_cases hc : c = 47
    · subst hc
      by_cases hr : r = []
      · subst hr; rfl
      · have e : decide ((47 : UInt8) :: r ≠ [47]) = true := by simp [hr]
        simp only [if_true, if_neg hr, e, Bool.and_true, List.headD_cons, List.tail_cons, decide_true, Bool.true_and]
        cases ha : (splitL r).all nameL with
        | false => simp
        | true =>
          simp only [Bool.true_eq_false, if_false, Bool.true_and]
          by_cases h4 : 4 < (splitL r).length
          · have e : decide ((splitL r).length ≤ 4) = false := decide_eq_false (by omega)
            rw [if_pos h4]; exact (show decide ((4 : Int) = 0) = false from rfl).trans e.symm
          · have e : decide ((splitL r).length ≤ 4) = true := decide_eq_true (by omega)
            rw [if_neg h4]; exact (show decide ((0 : Int) = 0) = true from rfl).trans e.symm
    · simp [hc]
theorem pathS_any {l : List UInt8} {w : World} {K : Value → World → Prop} (hl : l.length ≤ 20000) (hm : MaxAt w)
    (hK : ∀ w', Qt w w' → K (.bool (nodeB l)) w') : CallK Tryz.prog 110 #[.string (txt l)] K w := by
  refine F110_calls _ _ _ ?_; unfold F110
  simp (maxSteps := 1000000) (disch := omega) only [genAll, decAll, tk_nil, st110, c47]
  refine ck117 (cutPrefix_any ?_)
  rw [nodeB_split] at hK
  by_cases hh : l.headD 0 = 47
  · rw [decide_eq_true hh, if_pos hh]
    rw [decide_eq_true hh, Bool.true_and] at hK
    simp (maxSteps := 1000000) (disch := omega) only [genAll, decAll, tk_nil, st110, c47]
    obtain ⟨m, hm⟩ := hm
    have htl : l.tail.length ≤ 20000 := by simp; omega
    refine split_any (by omega) hm ?_
    intro g w2 o2 q2 hg
    have hsl := splitL_len l.tail
    generalize splitL l.tail = ps at *
    have r2 := Reads.of_own o2
    simp (maxSteps := 1000000) (disch := omega) only [genAll, decAll, tk_nil, st110]
    refine loopK1 (fun v w' => w' = w2 ∧ ∃ i : Nat, v = .int .i64 i ∧ i ≤ ps.length ∧ (ps.take i).all nameL = true) (fun v _ => ps.length - (intOf v).toNat) ⟨rfl, 0, rfl, by omega, rfl⟩ ?_
    rintro _ _ w3 ⟨hw, i, rfl, hi, hlo⟩
    obtain rfl : w3 = w2 := hw
    by_cases hlt : i < ps.length
    · obtain ⟨g', o', he, hc⟩ := strs_at r2 hlt
      cases he
      rw [Nat.zero_add] at hc
      have htk : ps.take (i + 1) = ps.take i ++ [ps[i]] := List.take_succ_eq_append_getElem hlt
      have hmem := List.getElem_mem hlt
      generalize ps[i] = p at *
      simp (maxSteps := 1000000) (disch := omega) only [genAll, decAll, tk_nil, st110, hc]
      refine ck119 (part_any ?_)
      cases hp : nameL p with
      | true =>
        simp (maxSteps := 1000000) (disch := omega) only [genAll, decAll, tk_nil, st110]
        refine ⟨⟨rfl, i + 1, by go_num, by omega, ?_⟩, by simp [rel, intOf]; omega⟩
        rw [htk, List.all_append, hlo]; simp [hp]
      | false =>
        have hany : ps.all nameL = false := by
          cases h : ps.all nameL with
          | false => rfl
          | true => rw [List.all_eq_true.1 h p hmem] at hp; cases hp
        rw [hany, Bool.false_and] at hK
        simp (maxSteps := 1000000) (disch := omega) only [genAll, decAll, tk_nil, st110]
        exact hK w3 q2
    · rw [List.take_of_length_le (by omega)] at hlo
      rw [hlo, Bool.true_and] at hK
      by_cases h4 : ps.length ≤ 4
      · rw [decide_eq_true h4] at hK
        simp (maxSteps := 1000000) (disch := omega) only [genAll, decAll, tk_nil, st110]
        exact hK w3 q2
      · rw [decide_eq_false h4] at hK
        simp (maxSteps := 1000000) (disch := omega) only [genAll, decAll, tk_nil, st110]
        exact hK w3 q2
  · rw [decide_eq_false hh]
    rw [decide_eq_false hh, Bool.false_and] at hK
    simp (maxSteps := 1000000) (disch := omega) only [genAll, decAll, tk_nil, st110]
    exact hK w Qt.refl
set_option maxHeartbeats 1000000 in
theorem checkS_any {s : Stm} {w : World} {K : Value → World → Prop} (hl : s.2.2.2.size ≤ 20000) (hm : MaxAt w)
    (hK : ∀ w', Qt w w' → K (.int .i64 (checkS s)) w') : CallK Tryz.prog 88 #[stV s] K w := by
  refine F88_calls _ _ _ ?_; unfold F88
  obtain ⟨q1, h1, s1⟩ := newb w #[.int .i64 s.1, .int .i64 s.2.1, .int .i64 s.2.2.1, .string s.2.2.2] 23
  unfold checkS at hK
  simp (maxSteps := 1000000) (disch := omega) only [genAll, decAll, tk_nil, st88]
  generalize (w.alloc (.cells #[.int .i64 s.1, .int .i64 s.2.1, .int .i64 s.2.2.1, .string s.2.2.2] 23)) = w1 at *
  obtain ⟨x0, x1, x2, x3⟩ := cell4 h1
  rw [← txt_list s.2.2.2] at x3 hl
  rw [txt_size] at hl
  generalize s.2.2.2.data.toList = o at *
  simp (maxSteps := 1000000) (disch := omega) only [genAll, decAll, tk_nil, st88, x0]
  refine ck109 (in_any ?_)
  cases e1 : inT s.1 with
  | false =>
    simp only [e1, Bool.false_and, if_true] at hK
    simp (maxSteps := 1000000) (disch := omega) only [genAll, decAll, tk_nil, st88, guardK_u]
    exact hK w1 q1
  | true =>
  simp (maxSteps := 1000000) (disch := omega) only [genAll, decAll, tk_nil, st88, x1]
  refine ck109 (in_any ?_)
  cases e2 : inT s.2.1 with
  | false =>
    simp only [e1, e2, Bool.false_and, Bool.and_false, if_true] at hK
    simp (maxSteps := 1000000) (disch := omega) only [genAll, decAll, tk_nil, st88, guardK_u]
    exact hK w1 q1
  | true =>
  simp (maxSteps := 1000000) (disch := omega) only [genAll, decAll, tk_nil, st88, x2]
  refine ck109 (in_any ?_)
  cases e3 : inT s.2.2.1 with
  | false =>
    simp only [e1, e2, e3, Bool.and_false, if_true] at hK
    simp (maxSteps := 1000000) (disch := omega) only [genAll, decAll, tk_nil, st88, guardK_u]
    exact hK w1 q1
  | true =>
  simp only [e1, e2, e3, Bool.and_true, Bool.true_eq_false, if_false] at hK
  simp (maxSteps := 1000000) (disch := omega) only [genAll, decAll, tk_nil, st88, x3]
  refine ck110 (pathS_any (l := o) hl (hm.quiet q1) ?_)
  intro w2 q2
  cases e4 : nodeB o with
  | false =>
    simp only [e4, if_true] at hK
    simp (maxSteps := 1000000) (disch := omega) only [genAll, decAll, tk_nil, st88]
    exact hK w2 (q1.trans q2)
  | true =>
    simp only [e4, Bool.true_eq_false, if_false] at hK
    simp (maxSteps := 1000000) (disch := omega) only [genAll, decAll, tk_nil, st88]
    exact hK w2 (q1.trans q2)
set_option maxHeartbeats 1000000 in
theorem nodeR_B {l : List UInt8} {w : World} {K : Value → World → Prop} (hl : l.length ≤ 20000) (hK : ∀ w', Qt w w' → K (.bool (nodeB l)) w') : CallK Tryz.prog 102 #[.string (txt l)] K w := nodeR_any (by omega) hK
set_option maxHeartbeats 1000000 in
theorem checkSR_any {s : Stm} {w : World} {K : Value → World → Prop} (hl : s.2.2.2.size ≤ 20000)
    (hK : ∀ w', Qt w w' → K (.int .i64 (checkS s)) w') : CallK Tryz.prog 83 #[stV s] K w := by
  refine F83_calls _ _ _ ?_; unfold F83
  obtain ⟨q1, h1, s1⟩ := newb w #[.int .i64 s.1, .int .i64 s.2.1, .int .i64 s.2.2.1, .string s.2.2.2] 35
  unfold checkS at hK
  simp (maxSteps := 1000000) (disch := omega) only [genAll, decAll, tk_nil, st83]
  generalize (w.alloc (.cells #[.int .i64 s.1, .int .i64 s.2.1, .int .i64 s.2.2.1, .string s.2.2.2] 35)) = w1 at *
  obtain ⟨x0, x1, x2, x3⟩ := cell4 h1
  rw [← txt_list s.2.2.2] at x3 hl
  rw [txt_size] at hl
  generalize s.2.2.2.data.toList = o at *
  simp (maxSteps := 1000000) (disch := omega) only [genAll, decAll, tk_nil, st83, x0]
  refine ck101 (inR_any ?_)
  cases e1 : inT s.1 with
  | false =>
    simp only [e1, Bool.false_and, if_true] at hK
    simp (maxSteps := 1000000) (disch := omega) only [genAll, decAll, tk_nil, st83, guardK_u]
    exact hK w1 q1
  | true =>
  simp (maxSteps := 1000000) (disch := omega) only [genAll, decAll, tk_nil, st83, x1]
  refine ck101 (inR_any ?_)
  cases e2 : inT s.2.1 with
  | false =>
    simp only [e1, e2, Bool.false_and, Bool.and_false, if_true] at hK
    simp (maxSteps := 1000000) (disch := omega) only [genAll, decAll, tk_nil, st83, guardK_u]
    exact hK w1 q1
  | true =>
  simp (maxSteps := 1000000) (disch := omega) only [genAll, decAll, tk_nil, st83, x2]
  refine ck101 (inR_any ?_)
  cases e3 : inT s.2.2.1 with
  | false =>
    simp only [e1, e2, e3, Bool.and_false, if_true] at hK
    simp (maxSteps := 1000000) (disch := omega) only [genAll, decAll, tk_nil, st83, guardK_u]
    exact hK w1 q1
  | true =>
  simp only [e1, e2, e3, Bool.and_true, Bool.true_eq_false, if_false] at hK
  simp (maxSteps := 1000000) (disch := omega) only [genAll, decAll, tk_nil, st83, x3]
  refine ck102 (nodeR_B hl ?_)
  intro w2 q2
  cases e4 : nodeB o with
  | false =>
    simp only [e4, if_true] at hK
    simp (maxSteps := 1000000) (disch := omega) only [genAll, decAll, tk_nil, st83]
    exact hK w2 (q1.trans q2)
  | true =>
    simp only [e4, Bool.true_eq_false, if_false] at hK
    simp (maxSteps := 1000000) (disch := omega) only [genAll, decAll, tk_nil, st83]
    exact hK w2 (q1.trans q2)
set_option maxHeartbeats 2000000 in
theorem cmpSt_any {a b : Stm} {w : World} {K : Value → World → Prop}
    (hK : ∀ w', Qt w w' → K (.int .i64 (cmpStm a b)) w') : CallK Tryz.prog 85 #[stV a, stV b] K w := by
  refine F85_calls _ _ _ _ ?_; unfold F85
  obtain ⟨q1, h1, s1⟩ := newb w #[.int .i64 a.1, .int .i64 a.2.1, .int .i64 a.2.2.1, .string a.2.2.2] 23
  simp (maxSteps := 1000000) (disch := omega) only [genAll, decAll, tk_nil, st85]
  generalize (w.alloc (.cells #[.int .i64 a.1, .int .i64 a.2.1, .int .i64 a.2.2.1, .string a.2.2.2] 23)) = w1 at *
  obtain ⟨q2, h2, s2⟩ := newb w1 #[.int .i64 b.1, .int .i64 b.2.1, .int .i64 b.2.2.1, .string b.2.2.2] 23
  generalize (w1.alloc (.cells #[.int .i64 b.1, .int .i64 b.2.1, .int .i64 b.2.2.1, .string b.2.2.2] 23)) = w2 at *
  rw [s1] at h2
  have X := fun w' (q : Quiets w2 w') => cell4 ((Chg.trans q2 q).heap h1 (fun h => h))
  have Y := fun w' (q : Quiets w2 w') => cell4 (Chg.heap q h2 (fun h => h))
  have q02 := q1.trans q2
  generalize w.heap.size = g at *
  have qd : Qt w2 w2.drew := Qt.drew Qt.refl
  refine drawQ w2 qd ?_
  generalize w2.drew = wd at *
  simp (maxSteps := 1000000) (disch := omega) only [genAll, decAll, tk_nil, st85, qkld2 (fun w' q => (X w' q).1), qkld2 (fun w' q => (X w' q).2.1), qkld2 (fun w' q => (X w' q).2.2.1), qkld9 (fun w' q => (X w' q).2.2.2), qkld2 (fun w' q => (Y w' q).1), qkld2 (fun w' q => (Y w' q).2.1), qkld2 (fun w' q => (Y w' q).2.2.1), qkld9 (fun w' q => (Y w' q).2.2.2)]
  refine ⟨?_, trivial⟩
  refine ck104 (cmp36 ?_)
  simp (maxSteps := 1000000) (disch := omega) only [genAll, decAll, tk_nil, st85]
  refine ⟨qd, ?_, trivial⟩
  refine ck104 (cmp36 ?_)
  simp (maxSteps := 1000000) (disch := omega) only [genAll, decAll, tk_nil, st85]
  refine ⟨qd, ?_, trivial⟩
  refine ck104 (cmp36 ?_)
  simp (maxSteps := 1000000) (disch := omega) only [genAll, decAll, tk_nil, st85]
  refine ⟨qd, ?_, trivial⟩
  refine ck105 (cmp37 ?_)
  simp (maxSteps := 1000000) (disch := omega) only [genAll, decAll, tk_nil, st85]
  refine ⟨qd, ?_⟩
  have fin := fun w' (q : Qt wd w') => hK w' (q02.trans (qd.trans q))
  unfold cmpStm at fin
  generalize cmpI a.1 b.1 = x at *
  generalize cmpI a.2.1 b.2.1 = y at *
  generalize cmpI a.2.2.1 b.2.2.1 = z at *
  generalize cmpS a.2.2.2 b.2.2.2 = u at *
  obtain ⟨q3, h3, s3⟩ := newb wd #[.int .i64 x, .int .i64 y, .int .i64 z, .int .i64 u] 3
  generalize (wd.alloc (.cells #[.int .i64 x, .int .i64 y, .int .i64 z, .int .i64 u] 3)) = w3 at *
  generalize wd.heap.size = b3 at *
  refine ⟨⟨qd.trans q3, ?_, trivial⟩, trivial⟩
  refine ck103 (or4_any h3 ?_)
  simp (maxSteps := 1000000) (disch := omega) only [genAll, decAll, tk_nil, st85]
  exact ⟨qd.trans q3, fin _ q3⟩
set_option maxHeartbeats 2000000 in
theorem cmpStR_any {a b : Stm} {w : World} {K : Value → World → Prop}
    (hK : ∀ w', Qt w w' → K (.int .i64 (cmpStm a b)) w') : CallK Tryz.prog 48 #[stV a, stV b] K w := by
  refine F48_calls _ _ _ _ ?_; unfold F48
  obtain ⟨q1, h1, s1⟩ := newb w #[.int .i64 a.1, .int .i64 a.2.1, .int .i64 a.2.2.1, .string a.2.2.2] 35
  simp (maxSteps := 1000000) (disch := omega) only [genAll, decAll, tk_nil, st48]
  generalize (w.alloc (.cells #[.int .i64 a.1, .int .i64 a.2.1, .int .i64 a.2.2.1, .string a.2.2.2] 35)) = w1 at *
  obtain ⟨q2, h2, s2⟩ := newb w1 #[.int .i64 b.1, .int .i64 b.2.1, .int .i64 b.2.2.1, .string b.2.2.2] 35
  generalize (w1.alloc (.cells #[.int .i64 b.1, .int .i64 b.2.1, .int .i64 b.2.2.1, .string b.2.2.2] 35)) = w2 at *
  rw [s1] at h2
  have X := fun w' (q : Quiets w2 w') => cell4 ((Chg.trans q2 q).heap h1 (fun h => h))
  have Y := fun w' (q : Quiets w2 w') => cell4 (Chg.heap q h2 (fun h => h))
  have q02 := q1.trans q2
  generalize w.heap.size = g at *
  have qd : Qt w2 w2.drew := Qt.drew Qt.refl
  refine drawQ w2 qd ?_
  generalize w2.drew = wd at *
  simp (maxSteps := 1000000) (disch := omega) only [genAll, decAll, tk_nil, st48, qkld2 (fun w' q => (X w' q).1), qkld2 (fun w' q => (X w' q).2.1), qkld2 (fun w' q => (X w' q).2.2.1), qkld9 (fun w' q => (X w' q).2.2.2), qkld2 (fun w' q => (Y w' q).1), qkld2 (fun w' q => (Y w' q).2.1), qkld2 (fun w' q => (Y w' q).2.2.1), qkld9 (fun w' q => (Y w' q).2.2.2)]
  refine ⟨?_, trivial⟩
  refine ck80 (ord33 ?_)
  simp (maxSteps := 1000000) (disch := omega) only [genAll, decAll, tk_nil, st48]
  refine ⟨qd, ?_, trivial⟩
  refine ck80 (ord33 ?_)
  simp (maxSteps := 1000000) (disch := omega) only [genAll, decAll, tk_nil, st48]
  refine ⟨qd, ?_, trivial⟩
  refine ck80 (ord33 ?_)
  simp (maxSteps := 1000000) (disch := omega) only [genAll, decAll, tk_nil, st48]
  refine ⟨qd, ?_, trivial⟩
  refine ck81 (ord34 ?_)
  simp (maxSteps := 1000000) (disch := omega) only [genAll, decAll, tk_nil, st48]
  refine ⟨qd, ?_⟩
  have fin := fun w' (q : Qt wd w') => hK w' (q02.trans (qd.trans q))
  unfold cmpStm at fin
  generalize cmpI a.1 b.1 = x at *
  generalize cmpI a.2.1 b.2.1 = y at *
  generalize cmpI a.2.2.1 b.2.2.1 = z at *
  generalize cmpS a.2.2.2 b.2.2.2 = u at *
  obtain ⟨q3, h3, s3⟩ := newb wd #[.int .i64 x, .int .i64 y, .int .i64 z, .int .i64 u] 3
  generalize (wd.alloc (.cells #[.int .i64 x, .int .i64 y, .int .i64 z, .int .i64 u] 3)) = w3 at *
  generalize wd.heap.size = b3 at *
  refine ⟨⟨qd.trans q3, ?_⟩, trivial⟩
  refine loopK1 (fun v w' => w' = w3 ∧ ∃ i : Nat, v = .int .i64 i ∧ i ≤ 4 ∧ orL [x, y, z, u] = orL ([x, y, z, u].drop i)) (fun v _ => 4 - (intOf v).toNat) ⟨rfl, 0, rfl, by omega, rfl⟩ ?_
  rintro _ _ w4 ⟨hw, i, rfl, hi, hlo⟩
  obtain rfl : w4 = w3 := hw
  have ho : orI x (orI y (orI z u)) = orL [x, y, z, u] := orL_four x y z u
  rw [ho] at fin
  by_cases hlt : i < 4
  · have hc := cellL_at (cs := [.int .i64 x, .int .i64 y, .int .i64 z, .int .i64 u]) h3 (show i < 4 from hlt)
    have hg : ([Value.int .i64 x, .int .i64 y, .int .i64 z, .int .i64 u] : List Value)[i]'(hlt) = .int .i64 (([x, y, z, u] : List Int).getD i 0) := by
      match i, hlt with
      | 0, _ => rfl
      | 1, _ => rfl
      | 2, _ => rfl
      | 3, _ => rfl
    rw [hg] at hc
    have hst := orL_at (l := [x, y, z, u]) (i := i) hlt
    rw [hst] at hlo
    generalize ([x, y, z, u] : List Int).getD i 0 = v at *
    by_cases hv : v = 0
    · simp (maxSteps := 1000000) (disch := omega) only [genAll, decAll, tk_nil, st48, hc, guardK_u]
      refine ⟨⟨rfl, i + 1, by go_num, by omega, ?_⟩, by simp [rel, intOf]; omega⟩
      rw [hlo, hv]; rfl
    · rw [hlo] at fin
      unfold orI at fin
      rw [if_pos hv] at fin
      simp (maxSteps := 1000000) (disch := omega) only [genAll, decAll, tk_nil, st48, hc, guardK_u]
      exact fin _ q3
  · obtain rfl : i = 4 := by omega
    rw [hlo] at fin
    simp (maxSteps := 1000000) (disch := omega) only [genAll, decAll, tk_nil, st48]
    exact fin _ q3
theorem stOf_any {s : Stm} {w : World} {K : Value → World → Prop} (hK : ∀ w', Qt w w' → K (stV s) w') : CallK Tryz.prog 31 #[stV s] K w := by
  refine F31_calls _ _ _ ?_; unfold F31
  obtain ⟨q1, h1, s1⟩ := newb w #[.int .i64 s.1, .int .i64 s.2.1, .int .i64 s.2.2.1, .string s.2.2.2] 23
  simp (maxSteps := 1000000) (disch := omega) only [genAll, decAll, tk_nil, st31]
  generalize (w.alloc (.cells #[.int .i64 s.1, .int .i64 s.2.1, .int .i64 s.2.2.1, .string s.2.2.2] 23)) = w1 at *
  obtain ⟨q2, h2, s2⟩ := newb w1 #[.int .i64 0, .int .i64 0, .int .i64 0, .string ByteArray.empty] 35
  rw [s1] at h2
  generalize (w1.alloc (.cells #[.int .i64 0, .int .i64 0, .int .i64 0, .string ByteArray.empty] 35)) = w2 at *
  have q02 := q1.trans q2
  obtain ⟨x0, x1, x2, x3⟩ := cell4 (q2.heap h1 (fun h => h))
  simp (maxSteps := 1000000) (disch := omega) only [genAll, decAll, tk_nil, st31, x0, x1, x2, x3]
  refine aggStoreK (there4 h2) (by kernel_rfl) (all4 rfl rfl rfl rfl) ?_
  obtain ⟨h3, k3⟩ := store4 (.int .i64 s.1) (.int .i64 s.2.1) (.int .i64 s.2.2.1) (.string s.2.2.2) h2
  have q3 : Qt w (w2.setCells (w.heap.size + 1) 0 [.int .i64 s.1, .int .i64 s.2.1, .int .i64 s.2.2.1, .string s.2.2.2]) := Qt.then q02 k3 (fun k hk => by omega)
  generalize (w2.setCells (w.heap.size + 1) 0 [.int .i64 s.1, .int .i64 s.2.1, .int .i64 s.2.2.1, .string s.2.2.2]) = w3 at *
  obtain ⟨y0, y1, y2, y3⟩ := cell4 h3
  simp (maxSteps := 1000000) (disch := omega) only [genAll, decAll, tk_nil, st31, y0, y1, y2, y3]
  exact hK _ q3
end Go.Proofs.YtpjeohellehgjaaGreatDoor
end

/- Whether a row stands; the document's Get; the order of choices. Conditions: the attributes read; the program's rise. -/
import Derived.Test.YtpjeohellehgjaaDoorEl1
set_option linter.unusedVariables false
set_option linter.unusedSimpArgs false
set_option maxRecDepth 100000
namespace Go.Proofs.YtpjeohellehgjaaDoor
open Go.RowKit Go.Cn
theorem cell3 {w : World} {b : Nat} {t : TypeId} {x y z : Value} (h : w.heap[b]? = some (.cells #[x, y, z] t (0, 0))) : w.cell? ⟨b, 0, none⟩ = some x ∧ w.cell? ⟨b, 1, none⟩ = some y ∧ w.cell? ⟨b, 2, none⟩ = some z := by
  refine ⟨?_, ?_, ?_⟩ <;> rw [blk_cell h] <;> rfl
theorem getR_any {hs : List AttH} {nm : ByteArray} {A : Option Addr} {c : Nat} {w : World} {K : Value → World → Prop} (ha : Reads w A (hs.flatMap attC)) (hl : hs.length ≤ 100000)
    (hK : ∀ B d w', Qt w w' → K (.tuple #[vv (getB (hs.map attP) nm).1 B d, .bool (getB (hs.map attP) nm).2]) w') : CallK Tryd.prog 70 #[.slice A hs.length c, .string nm] K w := by
  refine F70_calls _ _ _ _ ?_; unfold F70
  obtain ⟨q1, h1, s1⟩ := newb w #[.int .i64 0, .int .i64 0, .string ByteArray.empty, .slice none 0 0] 121
  simp (maxSteps := 1000000) (disch := omega) only [genAll, decAll, tk_nil, st70]
  generalize (w.alloc (.cells #[.int .i64 0, .int .i64 0, .string ByteArray.empty, .slice none 0 0] 121)) = w1 at *
  generalize hb : w.heap.size = b at *
  refine loopK1 (fun v w' => ∃ i : Nat, v = .int .i64 i ∧ i ≤ hs.length ∧ (hs.map attP).find? (fun a => decide (a.1 = nm)) = ((hs.map attP).drop i).find? (fun a => decide (a.1 = nm)) ∧ w' = w1) (fun v _ => hs.length - (intOf v).toNat) ⟨0, rfl, by omega, by rw [List.drop_zero], rfl⟩ ?_
  rintro _ _ _ ⟨i, rfl, hi, hlo, rfl⟩
  by_cases hlt : i < hs.length
  · rw [find_at (by rw [List.length_map]; exact hlt), attP_getD] at hlo
    obtain ⟨g, o, rfl, z0, z1, z2, z3, z4⟩ := att_at (ha.quiet q1) hlt
    generalize hs.getD i default = h at *
    obtain ⟨hn, v, B, d⟩ := h
    have hlo : (hs.map attP).find? (fun a => decide (a.1 = nm)) = if hn = nm then some (hn, v) else ((hs.map attP).drop (i + 1)).find? (fun a => decide (a.1 = nm)) := hlo
    simp only at z0 z1 z2 z3 z4
    by_cases he : hn = nm
    · have e := decide_eq_true he
      rw [if_pos he] at hlo
      have hg : getB (hs.map attP) nm = (v, true) := by unfold getB; rw [hlo]
      rw [hg] at hK
      simp (maxSteps := 1000000) (disch := omega) only [genAll, decAll, tk_nil, st70, z0, z1, z2, z3, z4, beq_ba, e]
      refine aggStoreW (cs := [.int .i64 v.1, .int .i64 v.2.1, .string v.2.2.1, .slice B v.2.2.2.length d]) h1 rfl (by kernel_rfl) (by intro u hu; simp at hu; rcases hu with rfl | rfl | rfl | rfl <;> rfl) ?_
      intro w4 h4 k4
      obtain ⟨y0, y1, y2, y3⟩ := cell4 h4
      simp (maxSteps := 1000000) (disch := omega) only [genAll, decAll, tk_nil, st70, y0, y1, y2, y3]
      exact hK B d _ (Qt.then q1 k4 (fun k hk => by omega))
    · have e := decide_eq_false he
      rw [if_neg he] at hlo
      simp (maxSteps := 1000000) (disch := omega) only [genAll, decAll, tk_nil, st70, z0, beq_ba, e]
      exact ⟨⟨i + 1, by go_num, by omega, hlo, rfl⟩, by simp [rel, intOf]; omega⟩
  · rw [List.drop_eq_nil_of_le (by rw [List.length_map]; omega)] at hlo
    have hg : getB (hs.map attP) nm = (v0, false) := by unfold getB; rw [hlo]; rfl
    rw [hg] at hK
    simp (maxSteps := 1000000) (disch := omega) only [genAll, decAll, tk_nil, st70]
    refine aggStoreW (cs := [.int .i64 0, .int .i64 0, .string ByteArray.empty, .slice none 0 0]) h1 rfl (by kernel_rfl) (by intro u hu; simp at hu; rcases hu with rfl | rfl | rfl <;> rfl) ?_
    intro w4 h4 k4
    obtain ⟨y0, y1, y2, y3⟩ := cell4 h4
    simp (maxSteps := 1000000) (disch := omega) only [genAll, decAll, tk_nil, st70, y0, y1, y2, y3]
    exact hK none 0 _ (Qt.then q1 k4 (fun k hk => by omega))
theorem or3_any {x y z : Int} {b : Nat} {t : TypeId} {w : World} {K : Value → World → Prop} (h3 : w.heap[b]? = some (.cells #[.int .i64 x, .int .i64 y, .int .i64 z] t (0, 0))) (hK : K (.int .i64 (orI x (orI y z))) w) : CallK Tryd.prog 58 #[.slice (some ⟨b, 0, none⟩) 3 3] K w := by
  refine F58_calls _ _ _ ?_; unfold F58
  obtain ⟨x0, x1, x2⟩ := cell3 h3
  unfold orI at hK
  simp (maxSteps := 1000000) (disch := omega) only [genAll, decAll, tk_nil, st58]
  refine loopK1 (fun v w' => w' = w ∧ (v = .int .i64 0 ∨ (v = .int .i64 1 ∧ x = 0) ∨ (v = .int .i64 2 ∧ x = 0 ∧ y = 0) ∨ (v = .int .i64 3 ∧ x = 0 ∧ y = 0 ∧ z = 0))) (fun v _ => 3 - (intOf v).toNat) ⟨rfl, .inl rfl⟩ ?_
  rintro _ _ _ ⟨rfl, h⟩
  rcases h with rfl | ⟨rfl, hx⟩ | ⟨rfl, hx, hy⟩ | ⟨rfl, hx, hy, hz⟩
  · by_cases hx : x = 0
    · have e : (x != 0) = false := by rw [hx]; rfl
      simp (maxSteps := 1000000) (disch := omega) only [genAll, decAll, tk_nil, st58, x0, e]
      exact ⟨⟨rfl, .inr (.inl ⟨by go_num, hx⟩)⟩, by simp [rel, intOf]⟩
    · have e : (x != 0) = true := by rw [bne_iff_ne]; exact hx
      rw [if_pos hx] at hK
      simp (maxSteps := 1000000) (disch := omega) only [genAll, decAll, tk_nil, st58, x0, e]
      exact hK
  · rw [if_neg (fun e => e hx)] at hK
    have t1 : Int.toNat 1 = 1 := rfl
    by_cases hy : y = 0
    · have e : (y != 0) = false := by rw [hy]; rfl
      simp (maxSteps := 1000000) (disch := omega) only [genAll, decAll, tk_nil, st58, x1, e, t1]
      exact ⟨⟨rfl, .inr (.inr (.inl ⟨by go_num, hx, hy⟩))⟩, by simp [rel, intOf]⟩
    · have e : (y != 0) = true := by rw [bne_iff_ne]; exact hy
      rw [if_pos hy] at hK
      simp (maxSteps := 1000000) (disch := omega) only [genAll, decAll, tk_nil, st58, x1, e, t1]
      exact hK
  · rw [if_neg (fun e => e hx), if_neg (fun e => e hy)] at hK
    have t1 : Int.toNat 2 = 2 := rfl
    by_cases hz : z = 0
    · have e : (z != 0) = false := by rw [hz]; rfl
      simp (maxSteps := 1000000) (disch := omega) only [genAll, decAll, tk_nil, st58, x2, e, t1]
      exact ⟨⟨rfl, .inr (.inr (.inr ⟨by go_num, hx, hy, hz⟩))⟩, by simp [rel, intOf]⟩
    · have e : (z != 0) = true := by rw [bne_iff_ne]; exact hz
      simp (maxSteps := 1000000) (disch := omega) only [genAll, decAll, tk_nil, st58, x2, e, t1]
      exact hK
  · rw [if_neg (fun e => e hx), if_neg (fun e => e hy), hz] at hK
    simp (maxSteps := 1000000) (disch := omega) only [genAll, decAll, tk_nil, st58]
    exact hK
set_option maxHeartbeats 2000000 in
theorem ord1_any {a b : ChoD} {w : World} {K : Value → World → Prop} (hK : ∀ w', Qt w w' → K (.int .i64 (cmpC a b)) w') : CallK Tryd.prog 68 #[choV a, choV b] K w := by
  refine F68_calls _ _ _ _ ?_; unfold F68
  obtain ⟨q1, h1, s1⟩ := newb w #[.string a.1, .string a.2.1, .int .i64 a.2.2] 73
  simp (maxSteps := 1000000) (disch := omega) only [genAll, decAll, tk_nil, st68]
  generalize (w.alloc (.cells #[.string a.1, .string a.2.1, .int .i64 a.2.2] 73)) = w1 at *
  obtain ⟨q2, h2, s2⟩ := newb w1 #[.string b.1, .string b.2.1, .int .i64 b.2.2] 73
  generalize (w1.alloc (.cells #[.string b.1, .string b.2.1, .int .i64 b.2.2] 73)) = w2 at *
  rw [s1] at h2
  have q02 := q1.trans q2
  generalize w.heap.size = g at *
  have X := fun w' (q : Quiets w2 w') => cell3 ((Chg.trans q2 q).heap h1 (fun h => h))
  have Y := fun w' (q : Quiets w2 w') => cell3 (Chg.heap q h2 (fun h => h))
  have qd : Qt w2 w2.drew := Qt.drew Qt.refl
  refine drawQ w2 qd ?_
  generalize w2.drew = wd at *
  simp (maxSteps := 1000000) (disch := omega) only [genAll, decAll, tk_nil, st68, qkld9 (fun w' q => (X w' q).1), qkld9 (fun w' q => (X w' q).2.1), qkld2 (fun w' q => (X w' q).2.2), qkld9 (fun w' q => (Y w' q).1), qkld9 (fun w' q => (Y w' q).2.1), qkld2 (fun w' q => (Y w' q).2.2)]
  refine ⟨?_, trivial⟩
  refine ck59 (cmp36 ?_)
  simp (maxSteps := 1000000) (disch := omega) only [genAll, decAll, tk_nil, st68]
  refine ⟨qd, ?_, trivial⟩
  refine ck40 (cmp37 ?_)
  simp (maxSteps := 1000000) (disch := omega) only [genAll, decAll, tk_nil, st68]
  refine ⟨qd, ?_, trivial⟩
  refine ck40 (cmp37 ?_)
  simp (maxSteps := 1000000) (disch := omega) only [genAll, decAll, tk_nil, st68]
  refine ⟨qd, ?_⟩
  have fin := fun w' (q : Qt wd w') => hK w' (q02.trans (qd.trans q))
  unfold cmpC at fin
  generalize cmpI a.2.2 b.2.2 = x at *
  generalize cmpS a.2.1 b.2.1 = y at *
  generalize cmpS a.1 b.1 = z at *
  obtain ⟨q3, h3, s3⟩ := newb wd #[.int .i64 x, .int .i64 y, .int .i64 z] 3
  generalize (wd.alloc (.cells #[.int .i64 x, .int .i64 y, .int .i64 z] 3)) = w3 at *
  generalize wd.heap.size = b3 at *
  refine ⟨⟨qd.trans q3, ?_, trivial⟩, trivial⟩
  refine ck58 (or3_any h3 ?_)
  simp (maxSteps := 1000000) (disch := omega) only [genAll, decAll, tk_nil, st68]
  exact ⟨qd.trans q3, fin _ q3⟩
theorem cmpI_lt {a b : Int} : cmpI a b < 0 ↔ a < b := by
  unfold cmpI
  by_cases h : a < b
  · rw [if_pos h]; simp [h]
  · rw [if_neg h]
    by_cases h2 : b < a
    · rw [if_pos h2]; simp [h]
    · rw [if_neg h2]; simp [h]
/-- The document's less. -/
theorem less_any {a b : ChoD} {w : World} {K : Value → World → Prop} (hK : ∀ w', Qt w w' → K (.bool (decide (cmpC a b < 0))) w') : CallK Tryd.prog 72 #[choV a, choV b] K w := by
  refine F72_calls _ _ _ _ ?_; unfold F72
  obtain ⟨q1, h1, s1⟩ := newb w #[.string a.1, .string a.2.1, .int .i64 a.2.2] 76
  simp (maxSteps := 1000000) (disch := omega) only [genAll, decAll, tk_nil, st72]
  generalize (w.alloc (.cells #[.string a.1, .string a.2.1, .int .i64 a.2.2] 76)) = w1 at *
  obtain ⟨q2, h2, s2⟩ := newb w1 #[.string b.1, .string b.2.1, .int .i64 b.2.2] 76
  generalize (w1.alloc (.cells #[.string b.1, .string b.2.1, .int .i64 b.2.2] 76)) = w2 at *
  rw [s1] at h2
  have q02 := q1.trans q2
  generalize w.heap.size = g at *
  obtain ⟨x0, x1, x2⟩ := cell3 (q2.heap h1 (fun h => h))
  obtain ⟨y0, y1, y2⟩ := cell3 h2
  unfold cmpC at hK
  by_cases hl : a.2.2 = b.2.2
  case neg =>
    have e : (a.2.2 != b.2.2) = true := by rw [bne_iff_ne]; exact hl
    have ec : cmpI a.2.2 b.2.2 ≠ 0 := fun e => hl (cmpI_zero.1 e)
    unfold orI at hK
    rw [if_pos ec] at hK
    have e2 : decide (cmpI a.2.2 b.2.2 < 0) = decide (a.2.2 < b.2.2) := by rw [decide_eq_decide]; exact cmpI_lt
    rw [e2] at hK
    simp (maxSteps := 1000000) (disch := omega) only [genAll, decAll, tk_nil, st72, x2, y2, e]
    exact hK _ q02
  have e : (a.2.2 != b.2.2) = false := by rw [hl]; exact bne_self_eq_false _
  have ec : cmpI a.2.2 b.2.2 = 0 := cmpI_zero.2 hl
  rw [ec] at hK
  have o0 : ∀ z, orI 0 z = z := fun z => if_neg (fun e => e rfl)
  rw [o0] at hK
  by_cases hr : a.2.1 = b.2.1
  case neg =>
    have e1 : (!decide (a.2.1 = b.2.1)) = true := by rw [decide_eq_false hr]; rfl
    have ec : cmpS a.2.1 b.2.1 ≠ 0 := fun e => hr (cmpS_zero.1 e)
    unfold orI at hK
    rw [if_pos ec] at hK
    have e2 : decide (cmpS a.2.1 b.2.1 < 0) = ltS a.2.1 b.2.1 := by rw [Bool.eq_iff_iff, decide_eq_true_iff]; exact cmpS_lt
    rw [e2] at hK
    simp (maxSteps := 1000000) (disch := omega) only [genAll, decAll, tk_nil, st72, x2, y2, e, x1, y1, beq_ba, e1, less_lt]
    exact hK _ q02
  have e1 : (!decide (a.2.1 = b.2.1)) = false := by rw [decide_eq_true hr]; rfl
  rw [cmpS_zero.2 hr, o0] at hK
  have e2 : decide (cmpS a.1 b.1 < 0) = ltS a.1 b.1 := by rw [Bool.eq_iff_iff, decide_eq_true_iff]; exact cmpS_lt
  rw [e2] at hK
  simp (maxSteps := 1000000) (disch := omega) only [genAll, decAll, tk_nil, st72, x2, y2, e, x1, y1, beq_ba, e1, x0, y0, less_lt]
  exact hK _ q02
end Go.Proofs.YtpjeohellehgjaaDoor

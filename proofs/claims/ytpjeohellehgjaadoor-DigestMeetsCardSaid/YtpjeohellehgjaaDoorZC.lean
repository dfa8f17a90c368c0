import Derived.Test.YtpjeohellehgjaaDoorZB
section
/- Rows: whether they may be. Conditions: the rows read. -/
set_option linter.unusedVariables false
set_option linter.unusedSimpArgs false
set_option maxRecDepth 100000
namespace Go.Proofs.YtpjeohellehgjaaDoor
open Go.RowKit Go.Cn
abbrev attV (h : AttH) : Value := .agg #[.string h.1, .int .i64 h.2.1.1, .int .i64 h.2.1.2.1, .string h.2.1.2.2.1, .slice h.2.2.1 h.2.1.2.2.2.length h.2.2.2]
abbrev rowV (key : ByteArray) (s : Stm) (A : Option Addr) (n c : Nat) : Value := .agg #[.string key, .int .i64 s.1, .int .i64 s.2.1, .int .i64 s.2.2.1, .string s.2.2.2, .slice A n c]
def AttSz (h : AttH) : Prop := h.1.size ≤ 9223372036854775807 ∧ h.2.1.2.2.1.size ≤ 9223372036854775807 ∧ h.2.1.2.2.2.length ≤ 9223372036854775807
theorem less_lt (x y : ByteArray) : Op.bytesLess x.toList y.toList = ltS x y := by
  rw [ByteArray.toList_eq, ByteArray.toList_eq]; rfl
theorem getD_mem {α : Type} [Inhabited α] {l : List α} {i : Nat} (h : i < l.length) : l.getD i default ∈ l := by
  have e : l.getD i default = l[i] := by simp [h]
  rw [e]; exact List.getElem_mem h
theorem cell5 {w : World} {b : Nat} {t : TypeId} {x y z u v : Value} (h : w.heap[b]? = some (.cells #[x, y, z, u, v] t (0, 0))) : w.cell? ⟨b, 0, none⟩ = some x ∧ w.cell? ⟨b, 1, none⟩ = some y ∧ w.cell? ⟨b, 2, none⟩ = some z ∧ w.cell? ⟨b, 3, none⟩ = some u ∧ w.cell? ⟨b, 4, none⟩ = some v :=
  ⟨by rw [blk_cell h]; rfl, by rw [blk_cell h]; rfl, by rw [blk_cell h]; rfl, by rw [blk_cell h]; rfl, by rw [blk_cell h]; rfl⟩
theorem cell6 {w : World} {b : Nat} {t : TypeId} {x y z u v p : Value} (h : w.heap[b]? = some (.cells #[x, y, z, u, v, p] t (0, 0))) : w.cell? ⟨b, 0, none⟩ = some x ∧ w.cell? ⟨b, 1, none⟩ = some y ∧ w.cell? ⟨b, 2, none⟩ = some z ∧ w.cell? ⟨b, 3, none⟩ = some u ∧ w.cell? ⟨b, 4, none⟩ = some v ∧ w.cell? ⟨b, 5, none⟩ = some p :=
  ⟨by rw [blk_cell h]; rfl, by rw [blk_cell h]; rfl, by rw [blk_cell h]; rfl, by rw [blk_cell h]; rfl, by rw [blk_cell h]; rfl, by rw [blk_cell h]; rfl⟩
theorem txt_of (s : ByteArray) : ∃ l, s = txt l ∧ s.data.toList = l ∧ s.size = l.length := ⟨s.data.toList, (txt_list _).symm, rfl, rfl⟩
/-- What a row's places say: it is read, and its sizes are sizes. -/
structure RowGood (w : World) (key : ByteArray) (s : Stm) (A : Option Addr) (hs : List AttH) : Prop where
  atts : AttsAt w A hs
  sz : ∀ h ∈ hs, AttSz h
  few : hs.length ≤ 9223372036854775807
theorem RowGood.quiet {w w' : World} {key : ByteArray} {s : Stm} {A : Option Addr} {hs : List AttH} (h : RowGood w key s A hs) (q : Qt w w') : RowGood w' key s A hs := ⟨h.atts.quiet q, h.sz, h.few⟩
end Go.Proofs.YtpjeohellehgjaaDoor
end

section
/- Rows: whether they are the same, by the program and by the document. Conditions: the rows read. -/
set_option linter.unusedVariables false
set_option linter.unusedSimpArgs false
set_option maxRecDepth 100000
namespace Go.Proofs.YtpjeohellehgjaaDoor
open Go.RowKit Go.Cn
theorem beq_ba (x y : ByteArray) : (x.toList == y.toList) = decide (x = y) := by
  rw [ByteArray.toList_eq, ByteArray.toList_eq]
  by_cases h : x = y
  · rw [h, decide_eq_true rfl]; exact beq_self_eq_true _
  · rw [decide_eq_false h, beq_eq_false_iff_ne]; exact fun e => h (data_inj e)
set_option maxHeartbeats 1000000 in
theorem sameOne_any {a b : AttH} {w : World} {K : Value → World → Prop} (ra : Reads w a.2.2.1 (ints a.2.1.2.2.2)) (rb : Reads w b.2.2.1 (ints b.2.1.2.2.2)) (za : AttSz a) (zb : AttSz b)
    (hK : ∀ w', Qt w w' → K (.bool (decide (a.1 = b.1) && decide (cmpV a.2.1 b.2.1 = 0))) w') : CallK Tryd.prog 87 #[attV a, attV b] K w := by
  refine F87_calls _ _ _ _ ?_; unfold F87
  simp (maxSteps := 1000000) (disch := omega) only [genAll, decAll, tk_nil, st87]
  obtain ⟨na, va, A, c⟩ := a
  obtain ⟨nb, vb', B, d⟩ := b
  simp only at ra rb hK
  obtain ⟨_, _, z3⟩ := za
  obtain ⟨_, _, u3⟩ := zb
  simp only at z3 u3
  obtain ⟨q1, h1, e1⟩ := newb w #[.string na, .int .i64 va.1, .int .i64 va.2.1, .string va.2.2.1, .slice A va.2.2.2.length c] 128
  generalize (w.alloc (.cells #[.string na, .int .i64 va.1, .int .i64 va.2.1, .string va.2.2.1, .slice A va.2.2.2.length c] 128)) = w1 at *
  obtain ⟨q2, h2, e2⟩ := newb w1 #[.string nb, .int .i64 vb'.1, .int .i64 vb'.2.1, .string vb'.2.2.1, .slice B vb'.2.2.2.length d] 128
  generalize (w1.alloc (.cells #[.string nb, .int .i64 vb'.1, .int .i64 vb'.2.1, .string vb'.2.2.1, .slice B vb'.2.2.2.length d] 128)) = w2 at *
  rw [e1] at h2
  obtain ⟨x0, x1, x2, x3, x4⟩ := cell5 (q2.heap h1 (fun h => h))
  obtain ⟨y0, y1, y2, y3, y4⟩ := cell5 h2
  have q02 := q1.trans q2
  generalize w.heap.size = b at *
  by_cases hk : na = nb
  case neg =>
    rw [decide_eq_false hk] at hK
    simp (maxSteps := 1000000) (disch := omega) only [genAll, decAll, tk_nil, st87, x0, y0, beq_ba, decide_eq_false hk, guardK_u]
    exact hK _ q02
  rw [decide_eq_true hk] at hK
  simp (maxSteps := 1000000) (disch := omega) only [genAll, decAll, tk_nil, st87, x0, y0, x1, x2, x3, x4, y1, y2, y3, y4, beq_ba, decide_eq_true hk]
  refine ck88 (same19 (a := va) (b := vb') (ra.quiet q02) (rb.quiet q02) z3 u3 ?_)
  intro w3 q3
  simp (maxSteps := 1000000) (disch := omega) only [genAll, decAll, tk_nil, st87]
  exact hK _ (q02.trans q3)
set_option maxHeartbeats 2000000 in
theorem sameA_any {ha hb : List AttH} {A B : Option Addr} {c d : Nat} {w : World} {K : Value → World → Prop} (ra : AttsAt w A ha) (rb : AttsAt w B hb) (za : ∀ h ∈ ha, AttSz h) (zb : ∀ h ∈ hb, AttSz h) (la : ha.length ≤ 9223372036854775807) (lb : hb.length ≤ 9223372036854775807)
    (hK : ∀ w', Qt w w' → K (.bool (sameAs (ha.map attP) (hb.map attP))) w') : CallK Tryd.prog 60 #[.slice A ha.length c, .slice B hb.length d] K w := by
  refine F60_calls _ _ _ _ ?_; unfold F60
  refine ck86 ?_
  refine F86_calls _ _ _ _ _ ?_; unfold F86
  by_cases hn : ha.length = hb.length
  case neg =>
    have e : (((ha.length : Nat) : Int) != (hb.length : Nat)) = true := by rw [bne_iff_ne]; omega
    rw [sameAs_ne (by rw [attP_len, attP_len]; exact hn)] at hK
    simp (maxSteps := 1000000) (disch := omega) only [genAll, decAll, tk_nil, st86, e]
    exact hK w Qt.refl
  have e : (((ha.length : Nat) : Int) != (hb.length : Nat)) = false := by rw [hn]; simp
  simp (maxSteps := 1000000) (disch := omega) only [genAll, decAll, tk_nil, st86, e]
  refine loopK1 (fun v w' => ∃ i : Nat, v = .int .i64 i ∧ i ≤ ha.length ∧ sameAs (ha.map attP) (hb.map attP) = sameAs ((ha.map attP).drop i) ((hb.map attP).drop i) ∧ Qt w w') (fun v _ => ha.length - (intOf v).toNat) ⟨0, rfl, by omega, rfl, Qt.refl⟩ ?_
  rintro _ _ w1 ⟨i, rfl, hi, hlo, q1⟩
  by_cases hlt : i < ha.length
  · rw [sameAs_at (by rw [attP_len]; exact hlt) (by rw [attP_len]; omega), attP_getD, attP_getD] at hlo
    obtain ⟨g, o, rfl, z0, z1, z2, z3, z4⟩ := att_at (ra.1.quiet q1) hlt
    have hL := (ra.2.get hlt).quiet q1
    have sa := za _ (getD_mem hlt)
    have Z := fun w' (q : Qt w1 w') => att_at (rb.1.quiet (q1.trans q)) (show i < hb.length by omega)
    have hM := (rb.2.get (show i < hb.length by omega)).quiet q1
    have sb := zb _ (getD_mem (show i < hb.length by omega))
    obtain ⟨g2, o2, hB, _⟩ := Z w1 Qt.refl
    subst hB
    generalize ha.getD i default = a at *
    generalize hb.getD i default = b at *
    have hlo : sameAs (ha.map attP) (hb.map attP) = (decide (a.1 = b.1) && decide (cmpV a.2.1 b.2.1 = 0) && sameAs ((ha.map attP).drop (i + 1)) ((hb.map attP).drop (i + 1))) := hlo
    obtain ⟨q2, h2, e2⟩ := newb w1 #[.string a.1, .int .i64 a.2.1.1, .int .i64 a.2.1.2.1, .string a.2.1.2.2.1, .slice a.2.2.1 a.2.1.2.2.2.length a.2.2.2] 128
    simp (maxSteps := 1000000) (disch := omega) only [genAll, decAll, tk_nil, st86, z0, z1, z2, z3, z4]
    generalize (w1.alloc (.cells #[.string a.1, .int .i64 a.2.1.1, .int .i64 a.2.1.2.1, .string a.2.1.2.2.1, .slice a.2.2.1 a.2.1.2.2.2.length a.2.2.2] 128)) = w2 at *
    obtain ⟨_, _, he, y0, y1, y2, y3, y4⟩ := Z w2 q2
    cases he
    obtain ⟨q3, h3, e3⟩ := newb w2 #[.string b.1, .int .i64 b.2.1.1, .int .i64 b.2.1.2.1, .string b.2.1.2.2.1, .slice b.2.2.1 b.2.1.2.2.2.length b.2.2.2] 128
    simp (maxSteps := 1000000) (disch := omega) only [genAll, decAll, tk_nil, st86, y0, y1, y2, y3, y4]
    generalize (w2.alloc (.cells #[.string b.1, .int .i64 b.2.1.1, .int .i64 b.2.1.2.1, .string b.2.1.2.2.1, .slice b.2.2.1 b.2.1.2.2.2.length b.2.2.2] 128)) = w3 at *
    obtain ⟨u0, u1, u2, u3, u4⟩ := cell5 (q3.heap h2 (fun h => h))
    obtain ⟨v0, v1, v2, v3, v4⟩ := cell5 h3
    simp (maxSteps := 1000000) (disch := omega) only [genAll, decAll, tk_nil, st86, u0, u1, u2, u3, u4, v0, v1, v2, v3, v4]
    refine ck87 (sameOne_any (a := a) (b := b) (hL.quiet (q2.trans q3)) (hM.quiet (q2.trans q3)) sa sb ?_)
    intro w4 q4
    have q04 := q1.trans ((q2.trans q3).trans q4)
    cases hs : (decide (a.1 = b.1) && decide (cmpV a.2.1 b.2.1 = 0)) with
    | false =>
      rw [hs, Bool.false_and] at hlo
      rw [hlo] at hK
      simp (maxSteps := 1000000) (disch := omega) only [genAll, decAll, tk_nil, st86]
      exact hK _ q04
    | true =>
      rw [hs, Bool.true_and] at hlo
      simp (maxSteps := 1000000) (disch := omega) only [genAll, decAll, tk_nil, st86]
      exact ⟨⟨i + 1, by go_num, by omega, hlo, q04⟩, by simp [rel, intOf]; omega⟩
  · have e0 : (ha.map attP).drop i = [] := List.drop_eq_nil_of_le (by rw [attP_len]; omega)
    have e1 : (hb.map attP).drop i = [] := List.drop_eq_nil_of_le (by rw [attP_len]; omega)
    rw [e0, e1] at hlo
    rw [hlo] at hK
    simp (maxSteps := 1000000) (disch := omega) only [genAll, decAll, tk_nil, st86]
    exact hK _ q1
set_option maxHeartbeats 2000000 in
theorem sameAR_any {ha hb : List AttH} {A B : Option Addr} {c d : Nat} {w : World} {K : Value → World → Prop} (ra : AttsAt w A ha) (rb : AttsAt w B hb) (za : ∀ h ∈ ha, AttSz h) (zb : ∀ h ∈ hb, AttSz h) (la : ha.length ≤ 9223372036854775807) (lb : hb.length ≤ 9223372036854775807)
    (hK : ∀ w', Qt w w' → K (.bool (sameAs (ha.map attP) (hb.map attP))) w') : CallK Tryd.prog 89 #[.slice A ha.length c, .slice B hb.length d] K w := by
  refine F89_calls _ _ _ _ ?_; unfold F89
  by_cases hn : ha.length = hb.length
  case neg =>
    have e : (((ha.length : Nat) : Int) != (hb.length : Nat)) = true := by rw [bne_iff_ne]; omega
    rw [sameAs_ne (by rw [attP_len, attP_len]; exact hn)] at hK
    simp (maxSteps := 1000000) (disch := omega) only [genAll, decAll, tk_nil, st89, e]
    exact hK w Qt.refl
  have e : (((ha.length : Nat) : Int) != (hb.length : Nat)) = false := by rw [hn]; simp
  simp (maxSteps := 1000000) (disch := omega) only [genAll, decAll, tk_nil, st89, e]
  refine loopK1 (fun v w' => ∃ i : Nat, v = .int .i64 i ∧ i ≤ ha.length ∧ sameAs (ha.map attP) (hb.map attP) = sameAs ((ha.map attP).drop i) ((hb.map attP).drop i) ∧ Qt w w') (fun v _ => ha.length - (intOf v).toNat) ⟨0, rfl, by omega, rfl, Qt.refl⟩ ?_
  rintro _ _ w1 ⟨i, rfl, hi, hlo, q1⟩
  by_cases hlt : i < ha.length
  · rw [sameAs_at (by rw [attP_len]; exact hlt) (by rw [attP_len]; omega), attP_getD, attP_getD] at hlo
    have X := fun w' (q : Quiets w w') => att_at (Reads.quiet ra.1 q) hlt
    have Y := fun w' (q : Quiets w w') => att_at (Reads.quiet rb.1 q) (show i < hb.length by omega)
    have hL := (ra.2.get hlt).quiet q1
    have sa := za _ (getD_mem hlt)
    have hM := (rb.2.get (show i < hb.length by omega)).quiet q1
    have sb := zb _ (getD_mem (show i < hb.length by omega))
    obtain ⟨g, o, hA, _⟩ := X w Qt.refl
    obtain ⟨g2, o2, hB, _⟩ := Y w Qt.refl
    subst hA hB
    generalize ha.getD i default = a at *
    generalize hb.getD i default = b at *
    have hlo : sameAs (ha.map attP) (hb.map attP) = (decide (a.1 = b.1) && decide (cmpV a.2.1 b.2.1 = 0) && sameAs ((ha.map attP).drop (i + 1)) ((hb.map attP).drop (i + 1))) := hlo
    have X0 : ∀ w', Quiets w w' → w'.cell? ⟨g, o + i * 5, none⟩ = some (.string a.1) := fun w' q => by obtain ⟨_, _, he, h, _⟩ := X w' q; cases he; exact h
    have X1 : ∀ w', Quiets w w' → w'.cell? ⟨g, o + (i * 5 + 1), none⟩ = some (.int .i64 a.2.1.1) ∧ w'.cell? ⟨g, o + (i * 5 + 1) + 1, none⟩ = some (.int .i64 a.2.1.2.1) ∧ w'.cell? ⟨g, o + (i * 5 + 1) + 2, none⟩ = some (.string a.2.1.2.2.1) ∧ w'.cell? ⟨g, o + (i * 5 + 1) + 3, none⟩ = some (.slice a.2.2.1 a.2.1.2.2.2.length a.2.2.2) := fun w' q => by obtain ⟨_, _, he, _, h1, h2, h3, h4⟩ := X w' q; cases he; exact ⟨h1, h2, h3, h4⟩
    have Y0 : ∀ w', Quiets w w' → w'.cell? ⟨g2, o2 + i * 5, none⟩ = some (.string b.1) := fun w' q => by obtain ⟨_, _, he, h, _⟩ := Y w' q; cases he; exact h
    have Y1 : ∀ w', Quiets w w' → w'.cell? ⟨g2, o2 + (i * 5 + 1), none⟩ = some (.int .i64 b.2.1.1) ∧ w'.cell? ⟨g2, o2 + (i * 5 + 1) + 1, none⟩ = some (.int .i64 b.2.1.2.1) ∧ w'.cell? ⟨g2, o2 + (i * 5 + 1) + 2, none⟩ = some (.string b.2.1.2.2.1) ∧ w'.cell? ⟨g2, o2 + (i * 5 + 1) + 3, none⟩ = some (.slice b.2.2.1 b.2.1.2.2.2.length b.2.2.2) := fun w' q => by obtain ⟨_, _, he, _, h1, h2, h3, h4⟩ := Y w' q; cases he; exact ⟨h1, h2, h3, h4⟩
    have q1d : Qt w w1.drew := q1.trans (Qt.drew Qt.refl)
    have eab : Qt w1 w1.drew := Qt.drew Qt.refl
    simp (maxSteps := 1000000) (disch := omega) only [genAll, decAll, tk_nil, st89]
    refine drawQ w q1d ?_
    generalize w1.drew = wd at *
    by_cases hk : a.1 = b.1
    case neg =>
      rw [decide_eq_false hk, Bool.false_and, Bool.false_and] at hlo
      rw [hlo] at hK
      have e : (!decide (a.1 = b.1)) = true := by rw [decide_eq_false hk]; rfl
      simp (maxSteps := 1000000) (disch := omega) only [genAll, decAll, tk_nil, st89, qkld9 X0, qkld9 Y0, beq_ba, e, takeG_u, guardK_u]
      exact ⟨⟨q1d, hK _ q1d⟩, trivial⟩
    rw [decide_eq_true hk, Bool.true_and] at hlo
    have ek : (!decide (a.1 = b.1)) = false := by rw [decide_eq_true hk]; rfl
    simp (maxSteps := 1000000) (disch := omega) only [genAll, decAll, tk_nil, st89, qkld9 X0, qkld9 Y0, qkld121 X1, qkld121 Y1, beq_ba, ek]
    refine ⟨?_, trivial⟩
    refine ck102 (cmp14 (a := a.2.1) (b := b.2.1) (hL.quiet eab) (hM.quiet eab) sa.2.2 sb.2.2 ?_)
    intro w4 q4
    have q04 := q1d.trans q4
    by_cases hv : cmpV a.2.1 b.2.1 = 0
    · have e : (cmpV a.2.1 b.2.1 != 0) = false := by rw [hv]; rfl
      rw [decide_eq_true hv, Bool.true_and] at hlo
      simp (maxSteps := 1000000) (disch := omega) only [genAll, decAll, tk_nil, st89, e, beq_ba, ek]
      exact ⟨q04, ⟨i + 1, by go_num, by omega, hlo, q04⟩, by simp [rel, intOf]; omega⟩
    · have e : (cmpV a.2.1 b.2.1 != 0) = true := by rw [bne_iff_ne]; exact hv
      rw [decide_eq_false hv, Bool.false_and] at hlo
      rw [hlo] at hK
      simp (maxSteps := 1000000) (disch := omega) only [genAll, decAll, tk_nil, st89, e, beq_ba, ek]
      exact ⟨q04, hK _ q04⟩
  · have e0 : (ha.map attP).drop i = [] := List.drop_eq_nil_of_le (by rw [attP_len]; omega)
    have e1 : (hb.map attP).drop i = [] := List.drop_eq_nil_of_le (by rw [attP_len]; omega)
    rw [e0, e1] at hlo
    rw [hlo] at hK
    simp (maxSteps := 1000000) (disch := omega) only [genAll, decAll, tk_nil, st89]
    exact hK _ q1
set_option maxHeartbeats 2000000 in
theorem same_any {k1 k2 : ByteArray} {s1 s2 : Stm} {ha hb : List AttH} {A B : Option Addr} {c d : Nat} {w : World} {K : Value → World → Prop} (ga : RowGood w k1 s1 A ha) (gb : RowGood w k2 s2 B hb)
    (hK : ∀ w', Qt w w' → K (.bool (sameR (k1, s1, ha.map attP) (k2, s2, hb.map attP))) w') : CallK Tryd.prog 27 #[rowV k1 s1 A ha.length c, rowV k2 s2 B hb.length d] K w := by
  refine F27_calls _ _ _ _ ?_; unfold F27
  unfold sameR at hK
  simp only at hK
  simp (maxSteps := 1000000) (disch := omega) only [genAll, decAll, tk_nil, st27]
  obtain ⟨q1, h1, e1⟩ := newb w #[.string k1, .int .i64 s1.1, .int .i64 s1.2.1, .int .i64 s1.2.2.1, .string s1.2.2.2, .slice A ha.length c] 55
  generalize (w.alloc (.cells #[.string k1, .int .i64 s1.1, .int .i64 s1.2.1, .int .i64 s1.2.2.1, .string s1.2.2.2, .slice A ha.length c] 55)) = w1 at *
  obtain ⟨q2, h2, e2⟩ := newb w1 #[.string k2, .int .i64 s2.1, .int .i64 s2.2.1, .int .i64 s2.2.2.1, .string s2.2.2.2, .slice B hb.length d] 55
  generalize (w1.alloc (.cells #[.string k2, .int .i64 s2.1, .int .i64 s2.2.1, .int .i64 s2.2.2.1, .string s2.2.2.2, .slice B hb.length d] 55)) = w2 at *
  rw [e1] at h2
  have X := fun w' (q : Qt w2 w') => cell6 ((q2.trans q).heap h1 (fun h => h))
  have Y := fun w' (q : Qt w2 w') => cell6 (q.heap h2 (fun h => h))
  have q02 := q1.trans q2
  have hf := fun w' (q : Qt w2 w') => hK w' (q02.trans q)
  have ra := ga.atts.quiet q02
  have rb := gb.atts.quiet q02
  have za := ga.sz
  have zb := gb.sz
  have la := ga.few
  have lb := gb.few
  clear hK ga gb
  generalize w.heap.size = b at *
  obtain ⟨x0, x1, x2, x3, x4, x5⟩ := X w2 Qt.refl
  obtain ⟨y0, y1, y2, y3, y4, y5⟩ := Y w2 Qt.refl
  by_cases hk : k1 = k2
  case neg =>
    rw [decide_eq_false hk] at hf
    simp (maxSteps := 1000000) (disch := omega) only [genAll, decAll, tk_nil, st27, x0, y0, beq_ba, decide_eq_false hk, guardK_u]
    exact hf _ Qt.refl
  rw [decide_eq_true hk] at hf
  simp (maxSteps := 1000000) (disch := omega) only [genAll, decAll, tk_nil, st27, x0, y0, x1, x2, x3, x4, y1, y2, y3, y4, beq_ba, decide_eq_true hk]
  refine ck26 (cmpSt_any ?_)
  intro w3 q3
  obtain ⟨x0, x1, x2, x3, x4, x5⟩ := X w3 q3
  obtain ⟨y0, y1, y2, y3, y4, y5⟩ := Y w3 q3
  by_cases hv : cmpStm s1 s2 = 0
  case neg =>
    have e : (cmpStm s1 s2 == 0) = false := beq_eq_false_iff_ne.2 hv
    rw [decide_eq_false hv] at hf
    simp (maxSteps := 1000000) (disch := omega) only [genAll, decAll, tk_nil, st27, e, guardK_u]
    exact hf _ q3
  have e : (cmpStm s1 s2 == 0) = true := by rw [hv]; rfl
  rw [decide_eq_true hv] at hf
  simp (maxSteps := 1000000) (disch := omega) only [genAll, decAll, tk_nil, st27, e, x5, y5]
  refine ck60 (sameA_any (ra.quiet q3) (rb.quiet q3) za zb la lb ?_)
  intro w4 q4
  simp (maxSteps := 1000000) (disch := omega) only [genAll, decAll, tk_nil, st27]
  exact hf _ (q3.trans q4)
set_option maxHeartbeats 2000000 in
theorem sameR_any {k1 k2 : ByteArray} {s1 s2 : Stm} {ha hb : List AttH} {A B : Option Addr} {c d : Nat} {w : World} {K : Value → World → Prop} (ga : RowGood w k1 s1 A ha) (gb : RowGood w k2 s2 B hb)
    (hK : ∀ w', Qt w w' → K (.bool (sameR (k1, s1, ha.map attP) (k2, s2, hb.map attP))) w') : CallK Tryd.prog 65 #[rowV k1 s1 A ha.length c, rowV k2 s2 B hb.length d] K w := by
  refine F65_calls _ _ _ _ ?_; unfold F65
  unfold sameR at hK
  simp only at hK
  simp (maxSteps := 1000000) (disch := omega) only [genAll, decAll, tk_nil, st65]
  obtain ⟨q1, h1, e1⟩ := newb w #[.string k1, .int .i64 s1.1, .int .i64 s1.2.1, .int .i64 s1.2.2.1, .string s1.2.2.2, .slice A ha.length c] 65
  generalize (w.alloc (.cells #[.string k1, .int .i64 s1.1, .int .i64 s1.2.1, .int .i64 s1.2.2.1, .string s1.2.2.2, .slice A ha.length c] 65)) = w1 at *
  obtain ⟨q2, h2, e2⟩ := newb w1 #[.string k2, .int .i64 s2.1, .int .i64 s2.2.1, .int .i64 s2.2.2.1, .string s2.2.2.2, .slice B hb.length d] 65
  generalize (w1.alloc (.cells #[.string k2, .int .i64 s2.1, .int .i64 s2.2.1, .int .i64 s2.2.2.1, .string s2.2.2.2, .slice B hb.length d] 65)) = w2 at *
  rw [e1] at h2
  have X := fun w' (q : Qt w2 w') => cell6 ((q2.trans q).heap h1 (fun h => h))
  have Y := fun w' (q : Qt w2 w') => cell6 (q.heap h2 (fun h => h))
  have q02 := q1.trans q2
  have hf := fun w' (q : Qt w2 w') => hK w' (q02.trans q)
  have ra := ga.atts.quiet q02
  have rb := gb.atts.quiet q02
  have za := ga.sz
  have zb := gb.sz
  have la := ga.few
  have lb := gb.few
  clear hK ga gb
  generalize w.heap.size = b at *
  obtain ⟨x0, x1, x2, x3, x4, x5⟩ := X w2 Qt.refl
  obtain ⟨y0, y1, y2, y3, y4, y5⟩ := Y w2 Qt.refl
  by_cases hk : k1 = k2
  case neg =>
    rw [decide_eq_false hk] at hf
    simp (maxSteps := 1000000) (disch := omega) only [genAll, decAll, tk_nil, st65, x0, y0, beq_ba, decide_eq_false hk, guardK_u]
    exact hf _ Qt.refl
  rw [decide_eq_true hk] at hf
  simp (maxSteps := 1000000) (disch := omega) only [genAll, decAll, tk_nil, st65, x0, y0, x1, x2, x3, x4, y1, y2, y3, y4, beq_ba, decide_eq_true hk]
  refine ck53 (cmpStR_any ?_)
  intro w3 q3
  obtain ⟨x0, x1, x2, x3, x4, x5⟩ := X w3 q3
  obtain ⟨y0, y1, y2, y3, y4, y5⟩ := Y w3 q3
  by_cases hv : cmpStm s1 s2 = 0
  case neg =>
    have e : (cmpStm s1 s2 == 0) = false := beq_eq_false_iff_ne.2 hv
    rw [decide_eq_false hv] at hf
    simp (maxSteps := 1000000) (disch := omega) only [genAll, decAll, tk_nil, st65, e, guardK_u]
    exact hf _ q3
  have e : (cmpStm s1 s2 == 0) = true := by rw [hv]; rfl
  rw [decide_eq_true hv] at hf
  simp (maxSteps := 1000000) (disch := omega) only [genAll, decAll, tk_nil, st65, e, x5, y5]
  refine ck89 (sameAR_any (ra.quiet q3) (rb.quiet q3) za zb la lb ?_)
  intro w4 q4
  simp (maxSteps := 1000000) (disch := omega) only [genAll, decAll, tk_nil, st65]
  exact hf _ (q3.trans q4)
end Go.Proofs.YtpjeohellehgjaaDoor
end

section
/- Own rows read. -/
set_option linter.unusedVariables false
set_option linter.unusedSimpArgs false
namespace Go.Proofs.YtpjeohellehgjaaDoor
open Go.RowKit Go.Cn
theorem reads_own {w : World} {e : TypeId} {sz : Nat} {A : Option Addr} {n c : Nat} {xs : List Value} {F : Option Nat} (h : Own w e sz (.slice A n c) n xs F) : Reads w A xs := by
  rcases h with ⟨_, _, rfl, _⟩ | ⟨g, cap, hv, _, hr⟩
  · exact .inl rfl
  · cases hv
    refine .inr ⟨g, 0, rfl, fun j hj => ?_⟩
    have := hr.1
    rw [Nat.zero_add]
    exact hr.cell j (by rw [← this]; exact hj)
theorem own_cases {w : World} {e : TypeId} {sz : Nat} {A : Option Addr} {n c : Nat} {xs : List Value} {F : Option Nat} (h : Own w e sz (.slice A n c) n xs F) : (A = none ∧ n = 0 ∧ c = 0 ∧ xs = []) ∨ ∃ g, A = some ⟨g, 0, none⟩ ∧ F = some g ∧ n ≤ c ∧ c ≤ 9223372036854775807 := by
  obtain ⟨_, _, e, h1, h2⟩ := h.shape
  injection e with ea eb ec
  subst ec
  rcases h with ⟨e, h0, h3, h4⟩ | ⟨g, cap, e, hF, hr⟩
  · injection e with e1 e2 e3
    exact .inl ⟨e1, h0, e3, h3⟩
  · injection e with e1 e2 e3
    exact .inr ⟨g, e1, hF, h1, h2⟩
theorem own_block {w : World} {e : TypeId} {sz : Nat} {A : Option Addr} {n c B : Nat} {xs : List Value} {F : Option Nat} (h : Own w e sz (.slice A n c) n xs F) (hF : ∀ k, F = some k → B ≤ k) : ∀ ad, A = some ad → B ≤ ad.block := by
  intro ad ha
  rcases own_cases h with ⟨e, _⟩ | ⟨g, e, hf, _⟩
  · rw [e] at ha; cases ha
  · rw [e] at ha; cases ha; exact hF g hf
end Go.Proofs.YtpjeohellehgjaaDoor
end

section
/- Rows told over to the document; few rows. Conditions: the rows read. -/
set_option linter.unusedVariables false
set_option linter.unusedSimpArgs false
set_option maxRecDepth 100000
namespace Go.Proofs.YtpjeohellehgjaaDoor
open Go.RowKit Go.Cn
theorem infoAR : (Tryd.prog.info? 133).map (fun i => (i.zero, i.size, i.bytes)) = some (some (.agg #[.string ByteArray.empty, .int .i64 0, .int .i64 0, .string ByteArray.empty, .slice none 0 0]), 5, 72) := by kernel_rfl
theorem tyAR : ElemTy Tryd.prog 63 133 (.agg #[.string ByteArray.empty, .int .i64 0, .int .i64 0, .string ByteArray.empty, .slice none 0 0]) 5 72 := ElemTy.mk' Tryd.underlying63 infoAR rfl (by decide)
theorem infoRR : (Tryd.prog.info? 65).map (fun i => (i.zero, i.size, i.bytes)) = some (some (.agg #[.string ByteArray.empty, .int .i64 0, .int .i64 0, .int .i64 0, .string ByteArray.empty, .slice none 0 0]), 6, 80) := by kernel_rfl
theorem tyRR : ElemTy Tryd.prog 33 65 (.agg #[.string ByteArray.empty, .int .i64 0, .int .i64 0, .int .i64 0, .string ByteArray.empty, .slice none 0 0]) 6 80 := ElemTy.mk' Tryd.underlying33 infoRR rfl (by decide)
theorem att_snoc (hs : List AttH) (i : Nat) (hi : i < hs.length) : (hs.take (i + 1)).flatMap attC = (hs.take i).flatMap attC ++ attC (hs.getD i default) := by
  have e : hs.getD i default = hs[i] := by simp [hi]
  rw [e, List.take_succ_eq_append_getElem hi, List.flatMap_append]; simp
theorem row_snoc (rs : List RowH) (i : Nat) (hi : i < rs.length) : (rs.take (i + 1)).flatMap rowC = (rs.take i).flatMap rowC ++ rowC (rs.getD i default) := by
  have e : rs.getD i default = rs[i] := by simp [hi]
  rw [e, List.take_succ_eq_append_getElem hi, List.flatMap_append]; simp
set_option maxHeartbeats 2000000 in
theorem ofA_any {hs : List AttH} {A : Option Addr} {c : Nat} {w : World} {K : Value → World → Prop} (ha : AttsAt w A hs) (hn : hs.length ≤ 100000)
    (hK : ∀ A' c' F w', Own w' 133 5 (.slice A' hs.length c') hs.length (hs.flatMap attC) F → Qt w w' → (∀ k, F = some k → w.heap.size ≤ k) → K (.slice A' hs.length c') w') : CallK Tryd.prog 80 #[.slice A hs.length c] K w := by
  refine F80_calls _ _ _ ?_; unfold F80
  refine loopK2 (fun x v w' => ∃ (i : Nat) (A' : Option Addr) (c' : Nat) (F : Option Nat), v = .int .i64 i ∧ i ≤ hs.length ∧ x = .slice A' i c' ∧ Own w' 133 5 (.slice A' i c') i ((hs.take i).flatMap attC) F ∧ Qt w w' ∧ (∀ k, F = some k → w.heap.size ≤ k)) (fun _ v _ => hs.length - (intOf v).toNat) ⟨0, none, 0, none, rfl, by omega, rfl, Own.nil _ _ _, Qt.refl, fun _ h => by cases h⟩ ?_
  rintro _ _ _ w1 ⟨i, A1, c1, F1, rfl, hi, rfl, o1, q1, f1⟩
  by_cases hlt : i < hs.length
  · have X := fun w' (q : Quiets w w') => att_at (Reads.quiet ha.1 q) hlt
    obtain ⟨g, o, hA, _⟩ := X w Qt.refl
    subst hA
    have hsn := att_snoc hs i hlt
    generalize hs.getD i default = a at *
    have X0 : ∀ w', Quiets w w' → w'.cell? ⟨g, o + i * 5, none⟩ = some (.string a.1) := fun w' q => by obtain ⟨_, _, he, h, _⟩ := X w' q; cases he; exact h
    have X1 : ∀ w', Quiets w w' → w'.cell? ⟨g, o + (i * 5 + 1), none⟩ = some (.int .i64 a.2.1.1) ∧ w'.cell? ⟨g, o + (i * 5 + 1) + 1, none⟩ = some (.int .i64 a.2.1.2.1) ∧ w'.cell? ⟨g, o + (i * 5 + 1) + 2, none⟩ = some (.string a.2.1.2.2.1) ∧ w'.cell? ⟨g, o + (i * 5 + 1) + 3, none⟩ = some (.slice a.2.2.1 a.2.1.2.2.2.length a.2.2.2) := fun w' q => by obtain ⟨_, _, he, _, h1, h2, h3, h4⟩ := X w' q; cases he; exact ⟨h1, h2, h3, h4⟩
    have q1d : Qt w w1.drew := q1.trans (Qt.drew Qt.refl)
    have o1d := o1.chg (S := fun _ => False) (Qt.drew Qt.refl) (fun _ _ h => h)
    simp (maxSteps := 1000000) (disch := omega) only [genAll, decAll, tk_nil, st80]
    refine drawQ w q1d ?_
    generalize w1.drew = wd at *
    simp (maxSteps := 1000000) (disch := omega) only [genAll, decAll, tk_nil, st80, qkld9 X0, qkld126 X1]
    refine ⟨?_, trivial⟩
    refine ck98 (of12 (a := a.2.1) ?_)
    intro w2 q2
    have o2 := o1d.chg q2 (fun _ _ h => h)
    have q02 := q1d.trans q2
    obtain ⟨q3, h3, s3⟩ := newb w2 #[.string a.1, .int .i64 a.2.1.1, .int .i64 a.2.1.2.1, .string a.2.1.2.2.1, .slice a.2.2.1 a.2.1.2.2.2.length a.2.2.2] 133
    obtain ⟨A4, c4, F4, w4, p4, o4, k4, f4⟩ := pushN_run (P := Tryd.prog) tyAR (o2.chg q3 (fun _ _ h => h)) (attC a) rfl (attC_one a) h3 (by omega) (by omega) 63
    have q03 := q02.trans q3
    have q04 := Qt.then q03 k4 f1
    simp (maxSteps := 1000000) (disch := omega) only [genAll, decAll, tk_nil, st80]
    refine ⟨q02, ⟨q02, ⟨q03, ?_⟩, trivial⟩, trivial⟩
    refine ⟨?_, trivial⟩
    refine appK p4 ?_
    simp (maxSteps := 1000000) (disch := omega) only [genAll, decAll, tk_nil, st80]
    refine ⟨q04, ⟨i + 1, A4, c4, F4, by go_num, by omega, rfl, by rw [hsn]; exact o4, q04, fun k hk => ?_⟩, by simp [rel, intOf]; omega⟩
    rcases f4 k hk with h | h
    · exact f1 k h
    · have := q03.size; omega
  · obtain rfl : i = hs.length := by omega
    rw [List.take_length] at o1
    simp (maxSteps := 1000000) (disch := omega) only [genAll, decAll, tk_nil, st80]
    exact hK _ _ _ _ o1 q1 f1
theorem thereN {w : World} {b : Nat} {t : TypeId} {C : Array Value} {n : Nat} (h : w.heap[b]? = some (.cells C t (0, 0))) (hn : n ≤ C.size) : World.there w b 0 n := fun j hj => by
  rw [Nat.zero_add, blk_cell h, blk_frozen h j]
  exact ⟨by rw [Array.getElem?_eq_getElem (by omega)]; rfl, rfl⟩
theorem storeN {w : World} {b : Nat} {t : TypeId} {C : Array Value} (cs : List Value) (h : w.heap[b]? = some (.cells C t (0, 0))) (hn : cs.length = C.size) : (w.setCells b 0 cs).heap[b]? = some (.cells cs.toArray t (0, 0)) ∧ Chg (fun q => q = b) w (w.setCells b 0 cs) := by
  refine ⟨?_, Chg.sets⟩
  have := blk_setCells cs 0 w C h (by omega)
  rw [this]
  congr 2
  apply Array.ext'
  simp only [List.toList_toArray]
  obtain ⟨l⟩ := C
  have hl : cs.length = l.length := hn
  simp [List.take_of_length_le, List.drop_eq_nil_of_le, hl]
theorem aggStoreN {P : Program} {ty : TypeId} {b : Nat} {C : Array Value} {t : TypeId} {cs : List Value} {K : Value → World → Prop} {w : World} (h : w.heap[b]? = some (.cells C t (0, 0))) (hn : cs.length = C.size) (hi : (P.info? ty).map (·.size) = some cs.length) (h1 : ∀ u ∈ cs, u.oneCell' = true)
    (hK : K undef (w.setCells b 0 cs)) : StoreK P ty (.pointer (some ⟨b, 0, none⟩)) (.agg cs.toArray) K w :=
  aggStoreK (cells := cs.toArray) (thereN h (by simp; omega)) (by simpa using hi) (by rw [← Array.all_toList]; simpa using h1) (by simpa using hK)
end Go.Proofs.YtpjeohellehgjaaDoor
end

section
/- A row, rows told over to the document; few rows. Conditions: the rows read. -/
set_option linter.unusedVariables false
set_option linter.unusedSimpArgs false
set_option maxRecDepth 100000
namespace Go.Proofs.YtpjeohellehgjaaDoor
open Go.RowKit Go.Cn
set_option maxHeartbeats 2000000 in
theorem ofR_any {key : ByteArray} {s : Stm} {hs : List AttH} {A : Option Addr} {c : Nat} {w : World} {K : Value → World → Prop} (ha : AttsAt w A hs) (hn : hs.length ≤ 100000)
    (hK : ∀ A' c' w', AttsAt w' A' hs → Qt w w' → (∀ ad, A' = some ad → w.heap.size ≤ ad.block) → K (rowV key s A' hs.length c') w') : CallK Tryd.prog 44 #[rowV key s A hs.length c] K w := by
  refine F44_calls _ _ _ ?_; unfold F44
  simp (maxSteps := 1000000) (disch := omega) only [genAll, decAll, tk_nil, st44]
  obtain ⟨q1, h1, e1⟩ := newb w #[.string key, .int .i64 s.1, .int .i64 s.2.1, .int .i64 s.2.2.1, .string s.2.2.2, .slice A hs.length c] 55
  generalize (w.alloc (.cells #[.string key, .int .i64 s.1, .int .i64 s.2.1, .int .i64 s.2.2.1, .string s.2.2.2, .slice A hs.length c] 55)) = w1 at *
  obtain ⟨q2, h2, e2⟩ := newb w1 #[.string ByteArray.empty, .int .i64 0, .int .i64 0, .int .i64 0, .string ByteArray.empty, .slice none 0 0] 65
  generalize (w1.alloc (.cells #[.string ByteArray.empty, .int .i64 0, .int .i64 0, .int .i64 0, .string ByteArray.empty, .slice none 0 0] 65)) = w2 at *
  rw [e1] at h2
  have X := fun w' (q : Quiets w1 w') => cell6 (Chg.heap q h1 (fun h => h))
  generalize hb : w.heap.size = b at *
  have q2d : Qt w1 w2.drew := q2.trans (Qt.drew Qt.refl)
  have h2d := (Qt.drew (w := w2) Qt.refl).heap h2 (fun h => h)
  refine drawQ w1 q2d ?_
  generalize w2.drew = wd at *
  have X1 : ∀ w', Quiets w1 w' → w'.cell? ⟨b, 1, none⟩ = some (.int .i64 s.1) ∧ w'.cell? ⟨b, 1 + 1, none⟩ = some (.int .i64 s.2.1) ∧ w'.cell? ⟨b, 1 + 2, none⟩ = some (.int .i64 s.2.2.1) ∧ w'.cell? ⟨b, 1 + 3, none⟩ = some (.string s.2.2.2) := fun w' q => by
    obtain ⟨_, h1, h2, h3, h4, _⟩ := X w' q; exact ⟨h1, h2, h3, h4⟩
  simp (maxSteps := 1000000) (disch := omega) only [genAll, decAll, tk_nil, st44, qkld9 (fun w' q => (X w' q).1), qkld52 X1, qkld53 (fun w' q => (X w' q).2.2.2.2.2)]
  refine ⟨?_, trivial⟩
  refine ck38 (stOf_any ?_)
  intro w3 q3
  have q13 := q2d.trans q3
  simp (maxSteps := 1000000) (disch := omega) only [genAll, decAll, tk_nil, st44]
  refine ⟨q13, ?_, trivial⟩
  refine ck80 (ofA_any ((ha.quiet q1).quiet q13) hn ?_)
  intro A4 c4 F4 w4 o4 q4 f4
  have q14 := q13.trans q4
  have h4 := (q3.trans q4).heap h2d (fun h => h)
  simp (maxSteps := 1000000) (disch := omega) only [genAll, decAll, tk_nil, st44]
  refine ⟨q14, ⟨q14, ?_⟩, trivial⟩
  refine ⟨?_, trivial⟩
  have hst := storeN (w := w4) [.string key, .int .i64 s.1, .int .i64 s.2.1, .int .i64 s.2.2.1, .string s.2.2.2, .slice A4 hs.length c4] h4 rfl
  refine aggStoreN (cs := [.string key, .int .i64 s.1, .int .i64 s.2.1, .int .i64 s.2.2.1, .string s.2.2.2, .slice A4 hs.length c4]) h4 rfl (by kernel_rfl) (by intro u hu; simp at hu; rcases hu with rfl | rfl | rfl | rfl | rfl | rfl <;> rfl) ?_
  obtain ⟨h5, k5⟩ := hst
  have s3 := q13.size
  have q15 : Qt w1 (w4.setCells (b + 1) 0 [.string key, .int .i64 s.1, .int .i64 s.2.1, .int .i64 s.2.2.1, .string s.2.2.2, .slice A4 hs.length c4]) := Qt.then q14 k5 (fun k hk => by omega)
  generalize (w4.setCells (b + 1) 0 [.string key, .int .i64 s.1, .int .i64 s.2.1, .int .i64 s.2.2.1, .string s.2.2.2, .slice A4 hs.length c4]) = w5 at *
  have x5 := cell6 h5
  obtain ⟨x0, x1, x2, x3, x4, x5⟩ := x5
  have hfr := own_block o4 f4
  have s2 := blk_lt h2d
  have r5 : AttsAt w5 A4 hs := by
    refine ⟨(reads_own o4).chg k5 (fun ad h e => by have := hfr ad h; have := q3.size; omega), ?_⟩
    exact (ha.2.quiet q1).quiet q15
  simp (maxSteps := 1000000) (disch := omega) only [genAll, decAll, tk_nil, st44, x0, x1, x2, x3, x4, x5]
  exact ⟨q15, hK A4 c4 w5 r5 (q1.trans q15) (fun ad h => by have := hfr ad h; have := q1.size; omega)⟩
/-- Rows told one behind the other: none of them lies in the row's own block. -/
theorem attsSep_push {F F4 : Option Nat} {w3 : World} {A : Option Addr} {hs : List AttH} (h : AttsSep (fun k => F = some k) A hs) (ha : AttsAt w3 A hs) (f4 : ∀ k, F4 = some k → F = some k ∨ w3.heap.size ≤ k) : AttsSep (fun k => F4 = some k) A hs :=
  (h.or (ha.low (S := fun k => w3.heap.size ≤ k) (fun _ h => h))).mono f4
theorem rowP_map (rs rs' : List RowH) (r r' : RowH) (h : rs'.map rowP = rs.map rowP) (h2 : rowP r' = rowP r) : (rs' ++ [r']).map rowP = (rs ++ [r]).map rowP := by
  rw [List.map_append, List.map_append, h]; simp [h2]
set_option maxHeartbeats 2000000 in
theorem ofRows_any {rs : List RowH} {A : Option Addr} {c : Nat} {w : World} {K : Value → World → Prop} (ha : RowsAt w A rs) (hn : rs.length ≤ 100000) (hl : ∀ r ∈ rs, r.2.2.2.2.length ≤ 100000)
    (hK : ∀ A' c' rs' w', rs'.map rowP = rs.map rowP → RowsAt w' A' rs' → Qt w w' → K (.slice A' rs.length c') w') : CallK Tryd.prog 15 #[.slice A rs.length c] K w := by
  refine F15_calls _ _ _ ?_; unfold F15
  refine loopK2 (fun x v w' => ∃ (i : Nat) (A' : Option Addr) (c' : Nat) (F : Option Nat) (rs' : List RowH), v = .int .i64 i ∧ i ≤ rs.length ∧ x = .slice A' i c' ∧ rs'.map rowP = (rs.take i).map rowP ∧ Own w' 65 6 (.slice A' i c') i (rs'.flatMap rowC) F ∧ (∀ r ∈ rs', AttsAt w' r.2.2.1 r.2.2.2.2 ∧ AttsSep (fun k => F = some k) r.2.2.1 r.2.2.2.2) ∧ Qt w w' ∧ (∀ k, F = some k → w.heap.size ≤ k)) (fun _ v _ => rs.length - (intOf v).toNat) ⟨0, none, 0, none, [], rfl, by omega, rfl, rfl, Own.nil _ _ _, fun _ h => (by cases h), Qt.refl, fun _ h => by cases h⟩ ?_
  rintro _ _ _ w1 ⟨i, A1, c1, F1, rs', rfl, hi, rfl, hmap, o1, hr1, q1, f1⟩
  by_cases hlt : i < rs.length
  · obtain ⟨g, o, rfl, z0, z1, z2, z3, z4, z5⟩ := row_at (ha.1.quiet q1) hlt
    have hat := (ha.get hlt).quiet q1
    have hln := hl _ (getD_mem hlt)
    have htk : rs.take (i + 1) = rs.take i ++ [rs.getD i default] := by
      rw [List.take_succ_eq_append_getElem hlt]; simp [hlt]
    have hlow := ((ha.get hlt).2).low (S := fun k => w.heap.size ≤ k) (fun _ h => h)
    generalize rs.getD i default = r at *
    obtain ⟨key, s, B, d, hs⟩ := r
    simp only at z0 z1 z2 z3 z4 z5 hat hln hlow
    simp (maxSteps := 1000000) (disch := omega) only [genAll, decAll, tk_nil, st15, z0, z1, z2, z3, z4, z5]
    refine ck44 (ofR_any (c := d) hat hln ?_)
    intro B2 d2 w2 a2 q2 f2
    have o2 := o1.chg q2 (fun _ _ h => h)
    obtain ⟨q3, h3, s3⟩ := newb w2 #[.string key, .int .i64 s.1, .int .i64 s.2.1, .int .i64 s.2.2.1, .string s.2.2.2, .slice B2 hs.length d2] 65
    obtain ⟨A4, c4, F4, w4, p4, o4, k4, f4⟩ := pushN_run (P := Tryd.prog) tyRR (o2.chg q3 (fun _ _ h => h)) (rowC (key, s, B2, d2, hs)) rfl (rowC_one _) h3 (by omega) (by omega) 33
    simp (maxSteps := 1000000) (disch := omega) only [genAll, decAll, tk_nil, st15]
    generalize (w2.alloc (.cells #[.string key, .int .i64 s.1, .int .i64 s.2.1, .int .i64 s.2.2.1, .string s.2.2.2, .slice B2 hs.length d2] 65)) = w3 at *
    have q13 := q2.trans q3
    have q03 := q1.trans q13
    have q04 := Qt.then q03 k4 f1
    refine appK p4 ?_
    simp (maxSteps := 1000000) (disch := omega) only [genAll, decAll, tk_nil, st15]
    have f4' : ∀ k, F4 = some k → F1 = some k ∨ w3.heap.size ≤ k := fun k hk => (f4 k hk).elim .inl (fun h => .inr (by omega))
    refine ⟨⟨i + 1, A4, c4, F4, rs' ++ [(key, s, B2, d2, hs)], by go_num, by omega, rfl, ?_, ?_, ?_, q04, fun k hk => ?_⟩, by simp [rel, intOf]; omega⟩
    · rw [htk]; exact rowP_map _ _ _ _ hmap rfl
    · rw [List.flatMap_append]
      simpa using o4
    · intro r hr
      rcases List.mem_append.1 hr with hr | hr
      · obtain ⟨y1, y2⟩ := hr1 r hr
        have y3 := y1.quiet q13
        exact ⟨y3.sep k4 y2, attsSep_push y2 y3 f4'⟩
      · have : r = (key, s, B2, d2, hs) := by simpa using hr
        subst this
        have y3 := a2.quiet q3
        have y2 : AttsSep (fun k => F1 = some k) B2 hs := by
          refine ⟨fun hx ad h e => ?_, hlow.mono f1⟩
          have h1 := f2 ad h
          have h2 := o1.lt e
          omega
        exact ⟨y3.sep k4 y2, attsSep_push y2 y3 f4'⟩
    · rcases f4 k hk with h | h
      · exact f1 k h
      · have := q03.size; omega
  · obtain rfl : i = rs.length := by omega
    rw [List.take_length] at hmap
    simp (maxSteps := 1000000) (disch := omega) only [genAll, decAll, tk_nil, st15]
    exact hK _ _ rs' _ hmap ⟨reads_own o1, fun r hr => (hr1 r hr).1⟩ q1
/-- Few, and short. -/
def FewA (h : AttH) : Prop := h.1.size ≤ 100 ∧ h.2.1.2.2.1.size ≤ 200 ∧ h.2.1.2.2.2.length ≤ 40
set_option maxHeartbeats 2000000 in
theorem fewA_any {hs : List AttH} {A : Option Addr} {c : Nat} {w : World} {K : Value → World → Prop} (ha : AttsAt w A hs)
    (hK : ∀ (b : Bool) w', Qt w w' → (b = true → hs.length ≤ 40 ∧ ∀ h ∈ hs, FewA h) → K (.bool b) w') : CallK Tryd.prog 97 #[.slice A hs.length c] K w := by
  refine F97_calls _ _ _ ?_; unfold F97
  by_cases h40 : 40 < hs.length
  · simp (maxSteps := 1000000) (disch := omega) only [genAll, decAll, tk_nil, st97]
    exact hK false w Qt.refl (fun h => by cases h)
  simp (maxSteps := 1000000) (disch := omega) only [genAll, decAll, tk_nil, st97]
  refine loopK1 (fun v w' => ∃ i : Nat, v = .int .i64 i ∧ i ≤ hs.length ∧ (∀ j, j < i → FewA (hs.getD j default)) ∧ Qt w w') (fun v _ => hs.length - (intOf v).toNat) ⟨0, rfl, by omega, fun j h => by omega, Qt.refl⟩ ?_
  rintro _ _ w1 ⟨i, rfl, hi, hlo, q1⟩
  by_cases hlt : i < hs.length
  · obtain ⟨g, o, rfl, z0, z1, z2, z3, z4⟩ := att_at (ha.1.quiet q1) hlt
    have hnew : FewA (hs.getD i default) → ∀ j, j < i + 1 → FewA (hs.getD j default) := fun h j hj => by
      by_cases e : j = i
      · subst e; exact h
      · exact hlo j (by omega)
    generalize hs.getD i default = a at *
    by_cases h100 : 100 < a.1.size
    · simp (maxSteps := 1000000) (disch := omega) only [genAll, decAll, tk_nil, st97, z0, guardK_u]
      exact hK false _ q1 (fun h => by cases h)
    simp (maxSteps := 1000000) (disch := omega) only [genAll, decAll, tk_nil, st97, z0, z1, z2, z3, z4]
    refine ck110 (few10 (a := a.2.1) ?_)
    intro b w2 q2 hb
    cases b with
    | false =>
      simp (maxSteps := 1000000) (disch := omega) only [genAll, decAll, tk_nil, st97]
      exact hK false _ (q1.trans q2) (fun h => by cases h)
    | true =>
      obtain ⟨g1, g2⟩ := hb.1 rfl
      simp (maxSteps := 1000000) (disch := omega) only [genAll, decAll, tk_nil, st97]
      exact ⟨⟨i + 1, by go_num, by omega, hnew ⟨by omega, g1, g2⟩, q1.trans q2⟩, by simp [rel, intOf]; omega⟩
  · simp (maxSteps := 1000000) (disch := omega) only [genAll, decAll, tk_nil, st97]
    refine hK true _ q1 (fun _ => ⟨by omega, fun h hh => ?_⟩)
    obtain ⟨j, hj, rfl⟩ := List.mem_iff_getElem.1 hh
    have := hlo j (by omega)
    simpa [hj] using this
def FewR (r : RowH) : Prop := r.1.size ≤ 100 ∧ r.2.1.2.2.2.size ≤ 100 ∧ r.2.2.2.2.length ≤ 40 ∧ ∀ h ∈ r.2.2.2.2, FewA h
set_option maxHeartbeats 1000000 in
theorem fewR_any {key : ByteArray} {s : Stm} {hs : List AttH} {A : Option Addr} {c : Nat} {w : World} {K : Value → World → Prop} (ha : AttsAt w A hs)
    (hK : ∀ (b : Bool) w', Qt w w' → (b = true → FewR (key, s, A, c, hs)) → K (.bool b) w') : CallK Tryd.prog 78 #[rowV key s A hs.length c] K w := by
  refine F78_calls _ _ _ ?_; unfold F78
  simp (maxSteps := 1000000) (disch := omega) only [genAll, decAll, tk_nil, st78]
  obtain ⟨q1, h1, e1⟩ := newb w #[.string key, .int .i64 s.1, .int .i64 s.2.1, .int .i64 s.2.2.1, .string s.2.2.2, .slice A hs.length c] 55
  generalize (w.alloc (.cells #[.string key, .int .i64 s.1, .int .i64 s.2.1, .int .i64 s.2.2.1, .string s.2.2.2, .slice A hs.length c] 55)) = w1 at *
  obtain ⟨x0, x1, x2, x3, x4, x5⟩ := cell6 h1
  generalize w.heap.size = b at *
  by_cases g1 : key.size ≤ 100
  case neg =>
    simp (maxSteps := 1000000) (disch := omega) only [genAll, decAll, tk_nil, st78, x0, guardK_u]
    exact hK false _ q1 (fun h => by cases h)
  by_cases g2 : s.2.2.2.size ≤ 100
  case neg =>
    simp (maxSteps := 1000000) (disch := omega) only [genAll, decAll, tk_nil, st78, x0, x4, guardK_u]
    exact hK false _ q1 (fun h => by cases h)
  simp (maxSteps := 1000000) (disch := omega) only [genAll, decAll, tk_nil, st78, x0, x4, x5]
  refine ck97 (fewA_any (ha.quiet q1) ?_)
  intro b w2 q2 hb
  simp (maxSteps := 1000000) (disch := omega) only [genAll, decAll, tk_nil, st78]
  exact hK b _ (q1.trans q2) (fun h => ⟨g1, g2, (hb h).1, (hb h).2⟩)
set_option maxHeartbeats 2000000 in
theorem fewRows_any {rs : List RowH} {A : Option Addr} {c : Nat} {w : World} {K : Value → World → Prop} (ha : RowsAt w A rs)
    (hK : ∀ (b : Bool) w', Qt w w' → (b = true → rs.length ≤ 70 ∧ ∀ r ∈ rs, FewR r) → K (.bool b) w') : CallK Tryd.prog 42 #[.slice A rs.length c] K w := by
  refine F42_calls _ _ _ ?_; unfold F42
  by_cases h70 : 70 < rs.length
  · simp (maxSteps := 1000000) (disch := omega) only [genAll, decAll, tk_nil, st42]
    exact hK false w Qt.refl (fun h => by cases h)
  simp (maxSteps := 1000000) (disch := omega) only [genAll, decAll, tk_nil, st42]
  refine loopK1 (fun v w' => ∃ i : Nat, v = .int .i64 i ∧ i ≤ rs.length ∧ (∀ j, j < i → FewR (rs.getD j default)) ∧ Qt w w') (fun v _ => rs.length - (intOf v).toNat) ⟨0, rfl, by omega, fun j h => by omega, Qt.refl⟩ ?_
  rintro _ _ w1 ⟨i, rfl, hi, hlo, q1⟩
  by_cases hlt : i < rs.length
  · obtain ⟨g, o, rfl, z0, z1, z2, z3, z4, z5⟩ := row_at (ha.1.quiet q1) hlt
    have hat := (ha.get hlt).quiet q1
    have hnew : FewR (rs.getD i default) → ∀ j, j < i + 1 → FewR (rs.getD j default) := fun h j hj => by
      by_cases e : j = i
      · subst e; exact h
      · exact hlo j (by omega)
    generalize rs.getD i default = r at *
    obtain ⟨key, s, B, d, hs⟩ := r
    simp only at z0 z1 z2 z3 z4 z5 hat
    simp (maxSteps := 1000000) (disch := omega) only [genAll, decAll, tk_nil, st42, z0, z1, z2, z3, z4, z5]
    refine ck78 (fewR_any (c := d) hat ?_)
    intro b w2 q2 hb
    cases b with
    | false =>
      simp (maxSteps := 1000000) (disch := omega) only [genAll, decAll, tk_nil, st42]
      exact hK false _ (q1.trans q2) (fun h => by cases h)
    | true =>
      simp (maxSteps := 1000000) (disch := omega) only [genAll, decAll, tk_nil, st42]
      exact ⟨⟨i + 1, by go_num, by omega, hnew (hb rfl), q1.trans q2⟩, by simp [rel, intOf]; omega⟩
  · simp (maxSteps := 1000000) (disch := omega) only [genAll, decAll, tk_nil, st42]
    refine hK true _ q1 (fun _ => ⟨by omega, fun h hh => ?_⟩)
    obtain ⟨j, hj, rfl⟩ := List.mem_iff_getElem.1 hh
    have := hlo j (by omega)
    simpa [hj] using this
end Go.Proofs.YtpjeohellehgjaaDoor
end

section
/- Marks of rows: the program's and the document's; marks told over. Conditions: the rows read. -/
set_option linter.unusedVariables false
set_option linter.unusedSimpArgs false
set_option maxRecDepth 100000
namespace Go.Proofs.YtpjeohellehgjaaDoor
open Go.RowKit Go.Cn
theorem infoM : (Tryd.prog.info? 85).map (fun i => (i.zero, i.size, i.bytes)) = some (some (.agg #[.string ByteArray.empty, .int .i64 0, .int .i64 0, .int .i64 0, .string ByteArray.empty]), 5, 56) := by kernel_rfl
theorem tyM : ElemTy Tryd.prog 23 85 (.agg #[.string ByteArray.empty, .int .i64 0, .int .i64 0, .int .i64 0, .string ByteArray.empty]) 5 56 := ElemTy.mk' Tryd.underlying23 infoM rfl (by decide)
theorem infoMR : (Tryd.prog.info? 40).map (fun i => (i.zero, i.size, i.bytes)) = some (some (.agg #[.string ByteArray.empty, .int .i64 0, .int .i64 0, .int .i64 0, .string ByteArray.empty]), 5, 56) := by kernel_rfl
theorem tyMR : ElemTy Tryd.prog 28 40 (.agg #[.string ByteArray.empty, .int .i64 0, .int .i64 0, .int .i64 0, .string ByteArray.empty]) 5 56 := ElemTy.mk' Tryd.underlying28 infoMR rfl (by decide)
theorem clipM_any {w : World} {n c : Nat} {A : Option Addr} {xs : List Value} {F : Option Nat} {K : Value → World → Prop} (o : Own w 85 5 (.slice A n c) n xs F) (hK : K (.slice A n n) w) : CallK Tryd.prog 45 #[.slice A n c] K w := by
  refine F45_calls _ _ _ ?_; unfold F45
  rcases own_cases o with ⟨rfl, rfl, rfl, _⟩ | ⟨g, rfl, _, h1, h2⟩
  · have e0 : ((0 : Nat) : Int) = 0 := rfl
    simp (maxSteps := 1000000) (disch := omega) only [genAll, decAll, tk_nil, st45, e0]
    exact hK
  · simp (maxSteps := 1000000) (disch := omega) only [genAll, decAll, tk_nil, st45]
    exact hK
theorem clipR_any {w : World} {n c : Nat} {A : Option Addr} {xs : List Value} {F : Option Nat} {K : Value → World → Prop} (o : Own w 55 6 (.slice A n c) n xs F) (hK : K (.slice A n n) w) : CallK Tryd.prog 52 #[.slice A n c] K w := by
  refine F52_calls _ _ _ ?_; unfold F52
  rcases own_cases o with ⟨rfl, rfl, rfl, _⟩ | ⟨g, rfl, _, h1, h2⟩
  · have e0 : ((0 : Nat) : Int) = 0 := rfl
    simp (maxSteps := 1000000) (disch := omega) only [genAll, decAll, tk_nil, st52, e0]
    exact hK
  · simp (maxSteps := 1000000) (disch := omega) only [genAll, decAll, tk_nil, st52]
    exact hK
theorem clipA_any {w : World} {n c : Nat} {A : Option Addr} {xs : List Value} {F : Option Nat} {K : Value → World → Prop} (o : Own w 128 5 (.slice A n c) n xs F) (hK : K (.slice A n n) w) : CallK Tryd.prog 100 #[.slice A n c] K w := by
  refine F100_calls _ _ _ ?_; unfold F100
  rcases own_cases o with ⟨rfl, rfl, rfl, _⟩ | ⟨g, rfl, _, h1, h2⟩
  · have e0 : ((0 : Nat) : Int) = 0 := rfl
    simp (maxSteps := 1000000) (disch := omega) only [genAll, decAll, tk_nil, st100, e0]
    exact hK
  · simp (maxSteps := 1000000) (disch := omega) only [genAll, decAll, tk_nil, st100]
    exact hK
theorem clipI_any {w : World} {n c : Nat} {A : Option Addr} {xs : List Value} {F : Option Nat} {K : Value → World → Prop} (o : Own w 2 1 (.slice A n c) n xs F) (hK : K (.slice A n n) w) : CallK Tryd.prog 111 #[.slice A n c] K w := by
  refine F111_calls _ _ _ ?_; unfold F111
  rcases own_cases o with ⟨rfl, rfl, rfl, _⟩ | ⟨g, rfl, _, h1, h2⟩
  · have e0 : ((0 : Nat) : Int) = 0 := rfl
    simp (maxSteps := 1000000) (disch := omega) only [genAll, decAll, tk_nil, st111, e0]
    exact hK
  · simp (maxSteps := 1000000) (disch := omega) only [genAll, decAll, tk_nil, st111]
    exact hK
theorem clipS_any {w : World} {n c : Nat} {A : Option Addr} {xs : List Value} {F : Option Nat} {K : Value → World → Prop} (o : Own w 9 1 (.slice A n c) n xs F) (hK : K (.slice A n n) w) : CallK Tryd.prog 56 #[.slice A n c] K w := by
  refine F56_calls _ _ _ ?_; unfold F56
  rcases own_cases o with ⟨rfl, rfl, rfl, _⟩ | ⟨g, rfl, _, h1, h2⟩
  · have e0 : ((0 : Nat) : Int) = 0 := rfl
    simp (maxSteps := 1000000) (disch := omega) only [genAll, decAll, tk_nil, st56, e0]
    exact hK
  · simp (maxSteps := 1000000) (disch := omega) only [genAll, decAll, tk_nil, st56]
    exact hK
theorem mk_snoc (rs : List RowH) (i : Nat) (hi : i < rs.length) : ((rs.map mkH).take (i + 1)).flatMap markC = ((rs.map mkH).take i).flatMap markC ++ markC (mkH (rs.getD i default)) := by
  rw [mark_snoc _ _ (by rw [List.length_map]; exact hi), mkH_getD]
set_option maxHeartbeats 2000000 in
theorem dOf_any {rs : List RowH} {A : Option Addr} {c : Nat} {w : World} {K : Value → World → Prop} (ha : Reads w A (rs.flatMap rowC)) (hn : rs.length ≤ 100000)
    (hK : ∀ A' w', Reads w' A' ((rs.map mkH).flatMap markC) → Qt w w' → (∀ ad, A' = some ad → w.heap.size ≤ ad.block) → K (.slice A' rs.length rs.length) w') : CallK Tryd.prog 16 #[.slice A rs.length c] K w := by
  refine F16_calls _ _ _ ?_; unfold F16
  simp (maxSteps := 1000000) (disch := omega) only [genAll, decAll, tk_nil, st16]
  refine loopK2 (fun x v w' => ∃ (i : Nat) (A' : Option Addr) (c' : Nat) (F : Option Nat), v = .int .i64 i ∧ i ≤ rs.length ∧ x = .slice A' i c' ∧ Own w' 85 5 (.slice A' i c') i (((rs.map mkH).take i).flatMap markC) F ∧ Qt w w' ∧ (∀ k, F = some k → w.heap.size ≤ k)) (fun _ v _ => rs.length - (intOf v).toNat) ⟨0, none, 0, none, rfl, by omega, rfl, Own.nil _ _ _, Qt.refl, fun _ h => by cases h⟩ ?_
  rintro _ _ _ w1 ⟨i, A1, c1, F1, rfl, hi, rfl, o1, q1, f1⟩
  by_cases hlt : i < rs.length
  · obtain ⟨g, o, rfl, z0, z1, z2, z3, z4, z5⟩ := row_at (ha.quiet q1) hlt
    have hsn := mk_snoc rs i hlt
    generalize rs.getD i default = r at *
    obtain ⟨key, s, B, d, hs⟩ := r
    simp only at z0 z1 z2 z3 z4 z5
    obtain ⟨q2, h2, s2⟩ := newb w1 #[.string key, .int .i64 s.1, .int .i64 s.2.1, .int .i64 s.2.2.1, .string s.2.2.2, .slice B hs.length d] 55
    simp (maxSteps := 1000000) (disch := omega) only [genAll, decAll, tk_nil, st16, z0, z1, z2, z3, z4, z5]
    generalize (w1.alloc (.cells #[.string key, .int .i64 s.1, .int .i64 s.2.1, .int .i64 s.2.2.1, .string s.2.2.2, .slice B hs.length d] 55)) = w2 at *
    generalize hb1 : w1.heap.size = b1 at *
    obtain ⟨x0, x1, x2, x3, x4, x5⟩ := cell6 h2
    have q02 := q1.trans q2
    have o2 := o1.chg q2 (fun _ _ h => h)
    obtain ⟨q3, h3, s3⟩ := newb w2 #[.string key, .int .i64 s.1, .int .i64 s.2.1, .int .i64 s.2.2.1, .string s.2.2.2] 85
    obtain ⟨A4, c4, F4, w4, p4, o4, k4, f4⟩ := pushN_run (P := Tryd.prog) tyM (o2.chg q3 (fun _ _ h => h)) (markC (key, s)) rfl (markC_one (key, s)) h3 (by omega) (by omega) 23
    have q03 := q02.trans q3
    have q04 := Qt.then q03 k4 f1
    simp (maxSteps := 1000000) (disch := omega) only [genAll, decAll, tk_nil, st16, x0, x1, x2, x3, x4]
    refine appK p4 ?_
    simp (maxSteps := 1000000) (disch := omega) only [genAll, decAll, tk_nil, st16]
    refine ⟨⟨i + 1, A4, c4, F4, by go_num, by omega, rfl, by rw [hsn]; exact o4, q04, fun k hk => ?_⟩, by simp [rel, intOf]; omega⟩
    rcases f4 k hk with h | h
    · exact f1 k h
    · have := q03.size; omega
  · obtain rfl : i = rs.length := by omega
    rw [List.take_of_length_le (by rw [List.length_map]; omega)] at o1
    simp (maxSteps := 1000000) (disch := omega) only [genAll, decAll, tk_nil, st16]
    refine ck45 (clipM_any o1 ?_)
    simp (maxSteps := 1000000) (disch := omega) only [genAll, decAll, tk_nil, st16]
    exact hK _ _ (reads_own o1) q1 (own_block o1 f1)
end Go.Proofs.YtpjeohellehgjaaDoor
end

section
/- A row's own copy: what it tells is the same, and it shares nothing. Condition: the row reads. -/
set_option linter.unusedVariables false
set_option linter.unusedSimpArgs false
set_option maxRecDepth 100000
namespace Go.Proofs.YtpjeohellehgjaaDoor
open Go.RowKit Go.Cn
theorem infoI : (Tryd.prog.info? 2).map (fun i => (i.zero, i.size, i.bytes)) = some (some (.int .i64 0), 1, 8) := by kernel_rfl
theorem tyI : ElemTy Tryd.prog 80 2 (.int .i64 0) 1 8 := ElemTy.mk' Tryd.underlying80 infoI rfl (by decide)
theorem infoA : (Tryd.prog.info? 128).map (fun i => (i.zero, i.size, i.bytes)) = some (some (.agg #[.string ByteArray.empty, .int .i64 0, .int .i64 0, .string ByteArray.empty, .slice none 0 0]), 5, 72) := by kernel_rfl
theorem tyA : ElemTy Tryd.prog 53 128 (.agg #[.string ByteArray.empty, .int .i64 0, .int .i64 0, .string ByteArray.empty, .slice none 0 0]) 5 72 := ElemTy.mk' Tryd.underlying53 infoA rfl (by decide)
theorem infoR : (Tryd.prog.info? 55).map (fun i => (i.zero, i.size, i.bytes)) = some (some (.agg #[.string ByteArray.empty, .int .i64 0, .int .i64 0, .int .i64 0, .string ByteArray.empty, .slice none 0 0]), 6, 80) := by kernel_rfl
theorem tyR : ElemTy Tryd.prog 22 55 (.agg #[.string ByteArray.empty, .int .i64 0, .int .i64 0, .int .i64 0, .string ByteArray.empty, .slice none 0 0]) 6 80 := ElemTy.mk' Tryd.underlying22 infoR rfl (by decide)
theorem ints_one (l : List Int) : ∀ u ∈ ints l, u.oneCell' = true := fun u hu => by
  obtain ⟨x, _, rfl⟩ := List.mem_map.1 hu; rfl
theorem cloneI_any {l : List Int} {A : Option Addr} {c : Nat} {w : World} {K : Value → World → Prop} (hr : Reads w A (ints l)) (hl : l.length ≤ 100000)
    (hK : ∀ A' c' F w', Own w' 2 1 (.slice A' l.length c') l.length (ints l) F → Qt w w' → (∀ k, F = some k → w.heap.size ≤ k) → K (.slice A' l.length c') w') : CallK Tryd.prog 112 #[.slice A l.length c] K w := by
  refine F112_calls _ _ _ ?_; unfold F112
  match A, hr with
  | none, hr =>
    obtain rfl : l = [] := by
      rcases hr with h | ⟨g, o, h, _⟩
      · exact List.map_eq_nil_iff.1 h
      · cases h
    simp (maxSteps := 1000000) (disch := omega) only [genAll, decAll, tk_nil, st112]
    exact hK none 0 none w (Own.nil _ _ _) Qt.refl (fun _ h => by cases h)
  | some ad, hr =>
    simp (maxSteps := 1000000) (disch := omega) only [genAll, decAll, tk_nil, st112]
    obtain ⟨A', cap, F', w', h, ho, hc, hf⟩ := apart_run (P := Tryd.prog) (w := w) tyI (some ad) l.length c (ints l) (by simp [ints]) hr.src (ints_one l) (by omega) (by omega) 80
    refine appK h ?_
    simp (maxSteps := 1000000) (disch := omega) only [genAll, decAll, tk_nil, st112]
    exact hK A' cap F' w' ho hc hf
set_option maxHeartbeats 1000000 in
theorem apartV_any {v : Val} {A : Option Addr} {c : Nat} {w : World} {K : Value → World → Prop} (hr : Reads w A (ints v.2.2.2)) (hl : v.2.2.2.length ≤ 100000)
    (hK : ∀ A' w', Reads w' A' (ints v.2.2.2) → Qt w w' → (∀ ad, A' = some ad → w.heap.size ≤ ad.block) → K (vv v A' v.2.2.2.length) w') : CallK Tryd.prog 99 #[vv v A c] K w := by
  refine F99_calls _ _ _ ?_; unfold F99
  obtain ⟨q1, h1, s1⟩ := newb w #[.int .i64 v.1, .int .i64 v.2.1, .string v.2.2.1, .slice A v.2.2.2.length c] 126
  simp (maxSteps := 1000000) (disch := omega) only [genAll, decAll, tk_nil, st99]
  generalize (w.alloc (.cells #[.int .i64 v.1, .int .i64 v.2.1, .string v.2.2.1, .slice A v.2.2.2.length c] 126)) = w1 at *
  obtain ⟨q2, h2, s2⟩ := newb w1 #[.int .i64 0, .int .i64 0, .string ByteArray.empty, .slice none 0 0] 126
  rw [s1] at h2 s2
  generalize (w1.alloc (.cells #[.int .i64 0, .int .i64 0, .string ByteArray.empty, .slice none 0 0] 126)) = w2 at *
  have h12 := q2.heap h1 (fun h => h)
  obtain ⟨x0, x1, x2, x3⟩ := cell4 h12
  have q02 := q1.trans q2
  generalize hb : w.heap.size = b at *
  simp (maxSteps := 1000000) (disch := omega) only [genAll, decAll, tk_nil, st99, x3]
  refine ck112 (cloneI_any (hr.quiet q02) hl ?_)
  intro A3 c3 F3 w3 o3 q3 f3
  simp (maxSteps := 1000000) (disch := omega) only [genAll, decAll, tk_nil, st99]
  refine ck111 (clipI_any o3 ?_)
  have h13 := q3.heap h12 (fun h => h)
  have h23 := q3.heap h2 (fun h => h)
  obtain ⟨x0, x1, x2, x3⟩ := cell4 h13
  have fz := blk_frozen h13 3
  simp (maxSteps := 1000000) (disch := omega) only [genAll, decAll, tk_nil, st99, x3, fz]
  have h14 : (w3.setCell ⟨b, 3, none⟩ (.slice A3 v.2.2.2.length v.2.2.2.length)).heap[b]? = some (.cells #[.int .i64 v.1, .int .i64 v.2.1, .string v.2.2.1, .slice A3 v.2.2.2.length v.2.2.2.length] 126 (0, 0)) := by rw [blk_set h13]; rfl
  have h24 := blk_far (p := ⟨b, 3, none⟩) h23 (show b + 1 ≠ b by omega) (.slice A3 v.2.2.2.length v.2.2.2.length)
  have k4 : Chg (fun k => k = b) w3 (w3.setCell ⟨b, 3, none⟩ (.slice A3 v.2.2.2.length v.2.2.2.length)) := (Chg.refl (fun k => k = b) w3).setCell (p := ⟨b, 3, none⟩) (.inl rfl) _
  have q04 : Qt w (w3.setCell ⟨b, 3, none⟩ (.slice A3 v.2.2.2.length v.2.2.2.length)) := Qt.then (q02.trans q3) k4 (fun k hk => by omega)
  have hfr := own_block o3 f3
  have r4 := (reads_own o3).chg k4 (fun ad h e => by have := hfr ad h; omega)
  generalize w3.setCell ⟨b, 3, none⟩ (.slice A3 v.2.2.2.length v.2.2.2.length) = w4 at *
  obtain ⟨x0, x1, x2, x3⟩ := cell4 h14
  simp (maxSteps := 1000000) (disch := omega) only [genAll, decAll, tk_nil, st99, x0, x1, x2, x3]
  refine aggStoreN (cs := [.int .i64 v.1, .int .i64 v.2.1, .string v.2.2.1, .slice A3 v.2.2.2.length v.2.2.2.length]) h24 rfl (by kernel_rfl) (by intro u hu; simp at hu; rcases hu with rfl | rfl | rfl | rfl <;> rfl) ?_
  obtain ⟨h5, k5⟩ := storeN (w := w4) [.int .i64 v.1, .int .i64 v.2.1, .string v.2.2.1, .slice A3 v.2.2.2.length v.2.2.2.length] h24 rfl
  have q05 : Qt w (w4.setCells (b + 1) 0 [.int .i64 v.1, .int .i64 v.2.1, .string v.2.2.1, .slice A3 v.2.2.2.length v.2.2.2.length]) := Qt.then q04 k5 (fun k hk => by omega)
  have r5 := r4.chg k5 (fun ad h e => by have := hfr ad h; omega)
  generalize w4.setCells (b + 1) 0 [.int .i64 v.1, .int .i64 v.2.1, .string v.2.2.1, .slice A3 v.2.2.2.length v.2.2.2.length] = w5 at *
  obtain ⟨y0, y1, y2, y3⟩ := cell4 h5
  simp (maxSteps := 1000000) (disch := omega) only [genAll, decAll, tk_nil, st99, y0, y1, y2, y3]
  exact hK A3 _ r5 q05 (fun ad h => by have := hfr ad h; omega)
set_option maxHeartbeats 2000000 in
theorem cloneA_any {hs : List AttH} {A : Option Addr} {c : Nat} {w : World} {K : Value → World → Prop} (ha : AttsAt w A hs) (hn : hs.length ≤ 100000) (hl : ∀ h ∈ hs, h.2.1.2.2.2.length ≤ 100000)
    (hK : ∀ A' hs' w', hs'.map attP = hs.map attP → AttsAt w' A' hs' → AttsSep (fun k => k < w.heap.size) A' hs' → Qt w w' → K (.slice A' hs.length hs.length) w') : CallK Tryd.prog 81 #[.slice A hs.length c] K w := by
  refine F81_calls _ _ _ ?_; unfold F81
  simp (maxSteps := 1000000) (disch := omega) only [genAll, decAll, tk_nil, st81]
  refine loopK2 (fun x v w' => ∃ (i : Nat) (A' : Option Addr) (c' : Nat) (F : Option Nat) (hs' : List AttH), v = .int .i64 i ∧ i ≤ hs.length ∧ x = .slice A' i c' ∧ hs'.map attP = (hs.take i).map attP ∧ Own w' 128 5 (.slice A' i c') i (hs'.flatMap attC) F ∧ (∀ h ∈ hs', Reads w' h.2.2.1 (ints' h.2.1.2.2.2) ∧ Sep (fun k => k < w.heap.size ∨ F = some k) h.2.2.1 (ints' h.2.1.2.2.2)) ∧ Qt w w' ∧ (∀ k, F = some k → w.heap.size ≤ k)) (fun _ v _ => hs.length - (intOf v).toNat) ⟨0, none, 0, none, [], rfl, by omega, rfl, rfl, Own.nil _ _ _, fun _ h => (by cases h), Qt.refl, fun _ h => by cases h⟩ ?_
  rintro _ _ _ w1 ⟨i, A1, c1, F1, hs', rfl, hi, rfl, hmap, o1, hr1, q1, f1⟩
  by_cases hlt : i < hs.length
  · obtain ⟨g, o, rfl, z0, z1, z2, z3, z4⟩ := att_at (ha.1.quiet q1) hlt
    have hL := (ha.2.get hlt).quiet q1
    have hln := hl _ (getD_mem hlt)
    have htk : hs.take (i + 1) = hs.take i ++ [hs.getD i default] := by
      rw [List.take_succ_eq_append_getElem hlt]; simp [hlt]
    generalize hs.getD i default = h at *
    obtain ⟨nm, v, B, d⟩ := h
    simp only at z0 z1 z2 z3 z4 hL hln
    obtain ⟨q2, h2, s2⟩ := newb w1 #[.string nm, .int .i64 v.1, .int .i64 v.2.1, .string v.2.2.1, .slice B v.2.2.2.length d] 128
    simp (maxSteps := 1000000) (disch := omega) only [genAll, decAll, tk_nil, st81, z0, z1, z2, z3, z4]
    generalize (w1.alloc (.cells #[.string nm, .int .i64 v.1, .int .i64 v.2.1, .string v.2.2.1, .slice B v.2.2.2.length d] 128)) = w2 at *
    have q02 := q1.trans q2
    have s02 := q02.size
    generalize hb : w1.heap.size = b at *
    have hF1 : ¬ F1 = some b := fun e => by have := o1.lt e; omega
    have Z := fun w' (q : Chg (fun k => F1 = some k) w2 w') => cell5 (q.heap h2 hF1)
    have Z1 : ∀ w', Chs (fun k => F1 = some k) w2 w' → w'.cell? ⟨b, 1, none⟩ = some (.int .i64 v.1) ∧ w'.cell? ⟨b, 1 + 1, none⟩ = some (.int .i64 v.2.1) ∧ w'.cell? ⟨b, 1 + 2, none⟩ = some (.string v.2.2.1) ∧ w'.cell? ⟨b, 1 + 3, none⟩ = some (.slice B v.2.2.2.length d) := fun w' q => by
      obtain ⟨_, h1, h2, h3, h4⟩ := Z w' q; exact ⟨h1, h2, h3, h4⟩
    have qd : Qt w2 w2.drew := Qt.drew Qt.refl
    refine drawC (fun k => F1 = some k) w2 (qd.mono (fun _ _ h => h.elim)) ?_
    have o2d := (o1.chg q2 (fun _ _ h => h)).chg (S := fun _ => False) qd (fun _ _ h => h)
    generalize w2.drew = wd at *
    simp (maxSteps := 1000000) (disch := omega) only [genAll, decAll, tk_nil, st81, qkld9 (fun w' q => (Z w' q).1), qkld126 Z1]
    refine ⟨?_, trivial⟩
    refine ck99 (apartV_any ((hL.quiet q2).quiet qd) hln ?_)
    intro B3 w3 r3 q3 f3
    have q23 := qd.trans q3
    have o3 := o2d.chg q3 (fun _ _ h => h)
    obtain ⟨q4, h4, s4⟩ := newb w3 #[.string nm, .int .i64 v.1, .int .i64 v.2.1, .string v.2.2.1, .slice B3 v.2.2.2.length v.2.2.2.length] 128
    obtain ⟨A5, c5, F5, w5, p5, o5, k5, f5⟩ := pushN_run (P := Tryd.prog) tyA (o3.chg q4 (fun _ _ h => h)) (attC (nm, v, B3, v.2.2.2.length)) rfl (attC_one (nm, v, B3, v.2.2.2.length)) h4 (by omega) (by omega) 53
    simp (maxSteps := 1000000) (disch := omega) only [genAll, decAll, tk_nil, st81]
    generalize (w3.alloc (.cells #[.string nm, .int .i64 v.1, .int .i64 v.2.1, .string v.2.2.1, .slice B3 v.2.2.2.length v.2.2.2.length] 128)) = w4 at *
    have q24 := q23.trans q4
    have q04 := q02.trans q24
    have q05 := Qt.then q04 k5 f1
    have k24 : Chg (fun k => F1 = some k) w2 w4 := q24.mono (fun _ _ h => h.elim)
    refine ⟨q23.mono (fun _ _ h => h.elim), ⟨q23.mono (fun _ _ h => h.elim), ⟨k24, ?_⟩, trivial⟩, trivial⟩
    refine ⟨?_, trivial⟩
    refine appK p5 ?_
    simp (maxSteps := 1000000) (disch := omega) only [genAll, decAll, tk_nil, st81]
    refine ⟨k24.trans k5, ⟨i + 1, A5, c5, F5, hs' ++ [(nm, v, B3, v.2.2.2.length)], by go_num, by omega, rfl, ?_, ?_, ?_, q05, fun k hk => ?_⟩, by simp [rel, intOf]; omega⟩
    · rw [htk, List.map_append, List.map_append, hmap]; rfl
    · rw [List.flatMap_append]
      simpa using o5
    · have f5' : ∀ k, F5 = some k → F1 = some k ∨ w4.heap.size ≤ k := fun k hk => (f5 k hk).elim .inl (fun h => .inr (by omega))
      intro h hh
      rcases List.mem_append.1 hh with hh | hh
      · obtain ⟨y1, y2⟩ := hr1 h hh
        have y3 := y1.quiet (q2.trans q24)
        refine ⟨y3.sep k5 (y2.mono (fun k hk => .inr hk)), ?_⟩
        exact (y2.or (Sep.low y3.low (S := fun k => w4.heap.size ≤ k) (fun _ h => h))).mono (fun k hk => hk.elim (fun h => .inl (.inl h)) (fun h => (f5' k h).elim (fun h => .inl (.inr h)) .inr))
      · have : h = (nm, v, B3, v.2.2.2.length) := by simpa using hh
        subst this
        have y3 := r3.quiet q4
        have hd := qd.size
        have y2 : Sep (fun k => k < w.heap.size ∨ F1 = some k) B3 (ints' v.2.2.2) := fun hx ad ha e => by
          have h3 := f3 ad ha
          rcases e with e | e
          · omega
          · have := o1.lt e; omega
        refine ⟨y3.sep k5 (y2.mono (fun k hk => .inr hk)), ?_⟩
        exact (y2.or (Sep.low y3.low (S := fun k => w4.heap.size ≤ k) (fun _ h => h))).mono (fun k hk => hk.elim (fun h => .inl (.inl h)) (fun h => (f5' k h).elim (fun h => .inl (.inr h)) .inr))
    · rcases f5 k hk with h | h
      · exact f1 k h
      · have := q04.size; omega
  · obtain rfl : i = hs.length := by omega
    rw [List.take_length] at hmap
    simp (maxSteps := 1000000) (disch := omega) only [genAll, decAll, tk_nil, st81]
    refine ck100 (clipA_any o1 ?_)
    simp (maxSteps := 1000000) (disch := omega) only [genAll, decAll, tk_nil, st81]
    have hfr := own_block o1 f1
    exact hK _ hs' _ hmap ⟨reads_own o1, fun h hh => (hr1 h hh).1⟩ ⟨fun _ ad ha e => by have := hfr ad ha; omega, fun h hh => ((hr1 h hh).2).mono (fun k hk => .inl hk)⟩ q1
end Go.Proofs.YtpjeohellehgjaaDoor
end

section
/- A row's own copy. -/
set_option linter.unusedVariables false
set_option linter.unusedSimpArgs false
set_option maxRecDepth 100000
namespace Go.Proofs.YtpjeohellehgjaaDoor
open Go.RowKit Go.Cn
theorem aggStoreW {P : Program} {ty : TypeId} {b : Nat} {C : Array Value} {t : TypeId} {cs : List Value} {K : Value → World → Prop} {w : World} (h : w.heap[b]? = some (.cells C t (0, 0))) (hn : cs.length = C.size) (hi : (P.info? ty).map (·.size) = some cs.length) (h1 : ∀ u ∈ cs, u.oneCell' = true)
    (hK : ∀ w', w'.heap[b]? = some (.cells cs.toArray t (0, 0)) → Chg (fun q => q = b) w w' → K undef w') : StoreK P ty (.pointer (some ⟨b, 0, none⟩)) (.agg cs.toArray) K w :=
  aggStoreN h hn hi h1 (hK _ (storeN cs h hn).1 (storeN cs h hn).2)
set_option maxHeartbeats 1000000 in
theorem apartR_any {key : ByteArray} {s : Stm} {hs : List AttH} {A : Option Addr} {c : Nat} {w : World} {K : Value → World → Prop} (ha : AttsAt w A hs) (hn : hs.length ≤ 100000) (hl : ∀ h ∈ hs, h.2.1.2.2.2.length ≤ 100000)
    (hK : ∀ A' hs' w', hs'.map attP = hs.map attP → AttsAt w' A' hs' → AttsSep (fun k => k < w.heap.size) A' hs' → Qt w w' → K (rowV key s A' hs.length hs.length) w') : CallK Tryd.prog 51 #[rowV key s A hs.length c] K w := by
  refine F51_calls _ _ _ ?_; unfold F51
  obtain ⟨q1, h1, s1⟩ := newb w #[.string key, .int .i64 s.1, .int .i64 s.2.1, .int .i64 s.2.2.1, .string s.2.2.2, .slice A hs.length c] 55
  simp (maxSteps := 1000000) (disch := omega) only [genAll, decAll, tk_nil, st51]
  generalize (w.alloc (.cells #[.string key, .int .i64 s.1, .int .i64 s.2.1, .int .i64 s.2.2.1, .string s.2.2.2, .slice A hs.length c] 55)) = w1 at *
  obtain ⟨q2, h2, s2⟩ := newb w1 #[.string ByteArray.empty, .int .i64 0, .int .i64 0, .int .i64 0, .string ByteArray.empty, .slice none 0 0] 55
  rw [s1] at h2 s2
  generalize (w1.alloc (.cells #[.string ByteArray.empty, .int .i64 0, .int .i64 0, .int .i64 0, .string ByteArray.empty, .slice none 0 0] 55)) = w2 at *
  have h12 := q2.heap h1 (fun h => h)
  obtain ⟨x0, x1, x2, x3, x4, x5⟩ := cell6 h12
  have q02 := q1.trans q2
  generalize hb : w.heap.size = b at *
  simp (maxSteps := 1000000) (disch := omega) only [genAll, decAll, tk_nil, st51, x5]
  refine ck81 (cloneA_any (ha.quiet q02) hn hl ?_)
  intro A3 hs3 w3 m3 a3 p3 q3
  have h13 := q3.heap h12 (fun h => h)
  have h23 := q3.heap h2 (fun h => h)
  have l3 : hs3.length = hs.length := by have := congrArg List.length m3; simpa using this
  obtain ⟨x0, x1, x2, x3, x4, x5⟩ := cell6 h13
  have fz := blk_frozen h13 5
  simp (maxSteps := 1000000) (disch := omega) only [genAll, decAll, tk_nil, st51, x5, fz]
  have h14 : (w3.setCell ⟨b, 5, none⟩ (.slice A3 hs.length hs.length)).heap[b]? = some (.cells #[.string key, .int .i64 s.1, .int .i64 s.2.1, .int .i64 s.2.2.1, .string s.2.2.2, .slice A3 hs.length hs.length] 55 (0, 0)) := by rw [blk_set h13]; rfl
  have h24 := blk_far (p := ⟨b, 5, none⟩) h23 (show b + 1 ≠ b by omega) (.slice A3 hs.length hs.length)
  have k4 : Chg (fun k => k = b) w3 (w3.setCell ⟨b, 5, none⟩ (.slice A3 hs.length hs.length)) := (Chg.refl (fun k => k = b) w3).setCell (p := ⟨b, 5, none⟩) (.inl rfl) _
  have q04 : Qt w (w3.setCell ⟨b, 5, none⟩ (.slice A3 hs.length hs.length)) := Qt.then (q02.trans q3) k4 (fun k hk => by omega)
  have a4 := a3.sep k4 (p3.mono (fun k hk => by omega))
  generalize w3.setCell ⟨b, 5, none⟩ (.slice A3 hs.length hs.length) = w4 at *
  obtain ⟨x0, x1, x2, x3, x4, x5⟩ := cell6 h14
  simp (maxSteps := 1000000) (disch := omega) only [genAll, decAll, tk_nil, st51, x0, x1, x2, x3, x4, x5]
  refine aggStoreW (cs := [.string key, .int .i64 s.1, .int .i64 s.2.1, .int .i64 s.2.2.1, .string s.2.2.2, .slice A3 hs.length hs.length]) h24 rfl (by kernel_rfl) (rowC_one (key, s, A3, hs.length, hs)) ?_
  intro w5 h5 k5
  have q05 : Qt w w5 := Qt.then q04 k5 (fun k hk => by omega)
  have a5 := a4.sep k5 (p3.mono (fun k hk => by omega))
  obtain ⟨y0, y1, y2, y3, y4, y5⟩ := cell6 h5
  simp (maxSteps := 1000000) (disch := omega) only [genAll, decAll, tk_nil, st51, y0, y1, y2, y3, y4, y5]
  exact hK A3 hs3 _ m3 a5 (p3.mono (fun k hk => by omega)) q05
end Go.Proofs.YtpjeohellehgjaaDoor
end

section
/- Marks of the document's rows; marks told over; few marks. Conditions: the rows read. -/
set_option linter.unusedVariables false
set_option linter.unusedSimpArgs false
set_option maxRecDepth 100000
namespace Go.Proofs.YtpjeohellehgjaaDoor
open Go.RowKit Go.Cn
set_option maxHeartbeats 2000000 in
theorem marksR_any {rs : List RowH} {A : Option Addr} {c : Nat} {w : World} {K : Value → World → Prop} (ha : Reads w A (rs.flatMap rowC)) (hn : rs.length ≤ 100000)
    (hK : ∀ A' c' w', Reads w' A' ((rs.map mkH).flatMap markC) → Qt w w' → K (.slice A' rs.length c') w') : CallK Tryd.prog 17 #[.slice A rs.length c] K w := by
  refine F17_calls _ _ _ ?_; unfold F17
  refine loopK2 (fun x v w' => ∃ (i : Nat) (A' : Option Addr) (c' : Nat) (F : Option Nat), v = .int .i64 i ∧ i ≤ rs.length ∧ x = .slice A' i c' ∧ Own w' 40 5 (.slice A' i c') i (((rs.map mkH).take i).flatMap markC) F ∧ Qt w w' ∧ (∀ k, F = some k → w.heap.size ≤ k)) (fun _ v _ => rs.length - (intOf v).toNat) ⟨0, none, 0, none, rfl, by omega, rfl, Own.nil _ _ _, Qt.refl, fun _ h => by cases h⟩ ?_
  rintro _ _ _ w1 ⟨i, A1, c1, F1, rfl, hi, rfl, o1, q1, f1⟩
  by_cases hlt : i < rs.length
  · have X := fun w' (q : Quiets w w') => row_at (Reads.quiet ha q) hlt
    obtain ⟨g, o, hA, _⟩ := X w Qt.refl
    subst hA
    have hsn := mk_snoc rs i hlt
    generalize rs.getD i default = r at *
    obtain ⟨key, s, B, d, hs⟩ := r
    have X0 : ∀ w', Quiets w w' → w'.cell? ⟨g, o + i * 6, none⟩ = some (.string key) := fun w' q => by obtain ⟨_, _, he, h, _⟩ := X w' q; cases he; exact h
    have X1 : ∀ w', Quiets w w' → w'.cell? ⟨g, o + (i * 6 + 1), none⟩ = some (.int .i64 s.1) ∧ w'.cell? ⟨g, o + (i * 6 + 1) + 1, none⟩ = some (.int .i64 s.2.1) ∧ w'.cell? ⟨g, o + (i * 6 + 1) + 2, none⟩ = some (.int .i64 s.2.2.1) ∧ w'.cell? ⟨g, o + (i * 6 + 1) + 3, none⟩ = some (.string s.2.2.2) := fun w' q => by obtain ⟨_, _, he, _, h1, h2, h3, h4, _⟩ := X w' q; cases he; exact ⟨h1, h2, h3, h4⟩
    have q1d : Qt w w1.drew := q1.trans (Qt.drew Qt.refl)
    have o1d := o1.chg (S := fun _ => False) (Qt.drew Qt.refl) (fun _ _ h => h)
    simp (maxSteps := 1000000) (disch := omega) only [genAll, decAll, tk_nil, st17]
    refine drawQ w q1d ?_
    generalize w1.drew = wd at *
    obtain ⟨q3, h3, s3⟩ := newb wd #[.string key, .int .i64 s.1, .int .i64 s.2.1, .int .i64 s.2.2.1, .string s.2.2.2] 40
    obtain ⟨A4, c4, F4, w4, p4, o4, k4, f4⟩ := pushN_run (P := Tryd.prog) tyMR (o1d.chg q3 (fun _ _ h => h)) (markC (key, s)) rfl (markC_one (key, s)) h3 (by omega) (by omega) 28
    have q03 := q1d.trans q3
    have q04 := Qt.then q03 k4 f1
    simp (maxSteps := 1000000) (disch := omega) only [genAll, decAll, tk_nil, st17, qkld9 X0, qkld38 X1]
    refine ⟨⟨q1d, ⟨q03, ?_⟩, trivial⟩, trivial⟩
    refine ⟨?_, trivial⟩
    refine appK p4 ?_
    simp (maxSteps := 1000000) (disch := omega) only [genAll, decAll, tk_nil, st17]
    refine ⟨q04, ⟨i + 1, A4, c4, F4, by go_num, by omega, rfl, by rw [hsn]; exact o4, q04, fun k hk => ?_⟩, by simp [rel, intOf]; omega⟩
    rcases f4 k hk with h | h
    · exact f1 k h
    · have := q03.size; omega
  · obtain rfl : i = rs.length := by omega
    rw [List.take_of_length_le (by rw [List.length_map]; omega)] at o1
    simp (maxSteps := 1000000) (disch := omega) only [genAll, decAll, tk_nil, st17]
    exact hK _ _ _ (reads_own o1) q1
set_option maxHeartbeats 2000000 in
theorem ofM_any {ms : List MarkD} {A : Option Addr} {c : Nat} {w : World} {K : Value → World → Prop} (ha : Reads w A (ms.flatMap markC)) (hn : ms.length ≤ 100000)
    (hK : ∀ A' c' w', Reads w' A' (ms.flatMap markC) → Qt w w' → K (.slice A' ms.length c') w') : CallK Tryd.prog 12 #[.slice A ms.length c] K w := by
  refine F12_calls _ _ _ ?_; unfold F12
  refine loopK2 (fun x v w' => ∃ (i : Nat) (A' : Option Addr) (c' : Nat) (F : Option Nat), v = .int .i64 i ∧ i ≤ ms.length ∧ x = .slice A' i c' ∧ Own w' 40 5 (.slice A' i c') i ((ms.take i).flatMap markC) F ∧ Qt w w' ∧ (∀ k, F = some k → w.heap.size ≤ k)) (fun _ v _ => ms.length - (intOf v).toNat) ⟨0, none, 0, none, rfl, by omega, rfl, Own.nil _ _ _, Qt.refl, fun _ h => by cases h⟩ ?_
  rintro _ _ _ w1 ⟨i, A1, c1, F1, rfl, hi, rfl, o1, q1, f1⟩
  by_cases hlt : i < ms.length
  · have X := fun w' (q : Quiets w w') => mark_at (Reads.quiet ha q) hlt
    obtain ⟨g, o, hA, _⟩ := X w Qt.refl
    subst hA
    have hsn := mark_snoc ms i hlt
    generalize ms.getD i default = r at *
    obtain ⟨key, s⟩ := r
    have X0 : ∀ w', Quiets w w' → w'.cell? ⟨g, o + i * 5, none⟩ = some (.string key) := fun w' q => by obtain ⟨_, _, he, h, _⟩ := X w' q; cases he; exact h
    have X1 : ∀ w', Quiets w w' → w'.cell? ⟨g, o + (i * 5 + 1), none⟩ = some (.int .i64 s.1) ∧ w'.cell? ⟨g, o + (i * 5 + 1) + 1, none⟩ = some (.int .i64 s.2.1) ∧ w'.cell? ⟨g, o + (i * 5 + 1) + 2, none⟩ = some (.int .i64 s.2.2.1) ∧ w'.cell? ⟨g, o + (i * 5 + 1) + 3, none⟩ = some (.string s.2.2.2) := fun w' q => by obtain ⟨_, _, he, _, h1, h2, h3, h4⟩ := X w' q; cases he; exact ⟨h1, h2, h3, h4⟩
    have q1d : Qt w w1.drew := q1.trans (Qt.drew Qt.refl)
    have o1d := o1.chg (S := fun _ => False) (Qt.drew Qt.refl) (fun _ _ h => h)
    simp (maxSteps := 1000000) (disch := omega) only [genAll, decAll, tk_nil, st12]
    refine drawQ w q1d ?_
    generalize w1.drew = wd at *
    simp (maxSteps := 1000000) (disch := omega) only [genAll, decAll, tk_nil, st12, qkld9 X0, qkld52 X1]
    refine ⟨?_, trivial⟩
    refine ck38 (stOf_any ?_)
    intro w2 q2
    have o2 := o1d.chg q2 (fun _ _ h => h)
    have q02 := q1d.trans q2
    obtain ⟨q3, h3, s3⟩ := newb w2 #[.string key, .int .i64 s.1, .int .i64 s.2.1, .int .i64 s.2.2.1, .string s.2.2.2] 40
    obtain ⟨A4, c4, F4, w4, p4, o4, k4, f4⟩ := pushN_run (P := Tryd.prog) tyMR (o2.chg q3 (fun _ _ h => h)) (markC (key, s)) rfl (markC_one (key, s)) h3 (by omega) (by omega) 28
    have q03 := q02.trans q3
    have q04 := Qt.then q03 k4 f1
    simp (maxSteps := 1000000) (disch := omega) only [genAll, decAll, tk_nil, st12]
    refine ⟨q02, ⟨q02, ⟨q03, ?_⟩, trivial⟩, trivial⟩
    refine ⟨?_, trivial⟩
    refine appK p4 ?_
    simp (maxSteps := 1000000) (disch := omega) only [genAll, decAll, tk_nil, st12]
    refine ⟨q04, ⟨i + 1, A4, c4, F4, by go_num, by omega, rfl, by rw [hsn]; exact o4, q04, fun k hk => ?_⟩, by simp [rel, intOf]; omega⟩
    rcases f4 k hk with h | h
    · exact f1 k h
    · have := q03.size; omega
  · obtain rfl : i = ms.length := by omega
    rw [List.take_length] at o1
    simp (maxSteps := 1000000) (disch := omega) only [genAll, decAll, tk_nil, st12]
    exact hK _ _ _ (reads_own o1) q1
def FewM (ms : List MarkD) : Prop := ms.length ≤ 70 ∧ ∀ m ∈ ms, m.1.size ≤ 100 ∧ m.2.2.2.2.size ≤ 100
set_option maxHeartbeats 2000000 in
theorem fewM_any {ms : List MarkD} {A : Option Addr} {c : Nat} {w : World} {K : Value → World → Prop} (ha : Reads w A (ms.flatMap markC))
    (hK : ∀ (b : Bool), (b = true → FewM ms) → K (.bool b) w) : CallK Tryd.prog 10 #[.slice A ms.length c] K w := by
  refine F10_calls _ _ _ ?_; unfold F10
  by_cases h70 : 70 < ms.length
  · simp (maxSteps := 1000000) (disch := omega) only [genAll, decAll, tk_nil, st10]
    exact hK false (fun h => by cases h)
  simp (maxSteps := 1000000) (disch := omega) only [genAll, decAll, tk_nil, st10]
  refine loopK1 (fun v w' => ∃ i : Nat, v = .int .i64 i ∧ i ≤ ms.length ∧ (∀ j, j < i → (ms.getD j default).1.size ≤ 100 ∧ (ms.getD j default).2.2.2.2.size ≤ 100) ∧ w' = w) (fun v _ => ms.length - (intOf v).toNat) ⟨0, rfl, by omega, fun j h => by omega, rfl⟩ ?_
  rintro _ _ _ ⟨i, rfl, hi, hlo, rfl⟩
  by_cases hlt : i < ms.length
  · obtain ⟨g, o, rfl, z0, z1, z2, z3, z4⟩ := mark_at ha hlt
    have hnew : (ms.getD i default).1.size ≤ 100 ∧ (ms.getD i default).2.2.2.2.size ≤ 100 → ∀ j, j < i + 1 → (ms.getD j default).1.size ≤ 100 ∧ (ms.getD j default).2.2.2.2.size ≤ 100 := fun h j hj => by
      by_cases e : j = i
      · subst e; exact h
      · exact hlo j (by omega)
    generalize ms.getD i default = a at *
    by_cases h1 : 100 < a.1.size
    · simp (maxSteps := 1000000) (disch := omega) only [genAll, decAll, tk_nil, st10, z0, guardK_u]
      exact hK false (fun h => by cases h)
    by_cases h2 : 100 < a.2.2.2.2.size
    · simp (maxSteps := 1000000) (disch := omega) only [genAll, decAll, tk_nil, st10, z0, z4, guardK_u]
      exact hK false (fun h => by cases h)
    simp (maxSteps := 1000000) (disch := omega) only [genAll, decAll, tk_nil, st10, z0, z4]
    exact ⟨⟨i + 1, by go_num, by omega, hnew ⟨by omega, by omega⟩, rfl⟩, by simp [rel, intOf]; omega⟩
  · simp (maxSteps := 1000000) (disch := omega) only [genAll, decAll, tk_nil, st10]
    refine hK true (fun _ => ⟨by omega, fun h hh => ?_⟩)
    obtain ⟨j, hj, rfl⟩ := List.mem_iff_getElem.1 hh
    have := hlo j (by omega)
    simpa [hj] using this
end Go.Proofs.YtpjeohellehgjaaDoor
end

section
/- A function value that holds things of its own, called. -/
set_option linter.unusedVariables false
set_option linter.unusedSimpArgs false
set_option maxRecDepth 100000
namespace Go.Cn
open Go.RowKit
theorem callV_bound {P : Program} {f : FuncId} {fn : Func} (hf : P.funcs[f]? = some fn) (hb : fn.body.isNone = false) (hn : (fn.name == "runtime.NumGoroutine") = false) {args B : Array Value} {K : Value → World → Prop} {w : World} (h : CallK P f (args ++ B) K w) : CallV P (.func (.func f) #[] B) args K w := by
  unfold CallV
  have hn' : ¬ fn.name = "runtime.NumGoroutine" := by simpa using hn
  have hb' : ¬ fn.body = none := fun h => by rw [h] at hb; cases hb
  simp only [Sem.run_bind, Deferred.ofValue]
  simp [Sem.run_bind, invoke, callFunc, hf, hb', hn', NextK]
  exact h
end Go.Cn
namespace Go.Proofs.YtpjeohellehgjaaDoor
open Go.RowKit Go.Cn
theorem cb49 {args B : Array Value} {K : Value → World → Prop} {w : World} (h : CallK Tryd.prog 49 (args ++ B) K w) : CallV Tryd.prog (.func (.func 49) #[] B) args K w := callV_bound Tryd.func49 (by kernel_rfl) (by kernel_rfl) h
theorem cb55 {args B : Array Value} {K : Value → World → Prop} {w : World} (h : CallK Tryd.prog 55 (args ++ B) K w) : CallV Tryd.prog (.func (.func 55) #[] B) args K w := callV_bound Tryd.func55 (by kernel_rfl) (by kernel_rfl) h
end Go.Proofs.YtpjeohellehgjaaDoor
end

section
/- digest.beside: each of the first row with the one of its key in the second. Conditions: the rows rise, the function handed keeps a relation. -/
set_option linter.unusedVariables false
set_option linter.unusedSimpArgs false
set_option maxRecDepth 100000
namespace Go.Proofs.YtpjeohellehgjaaDoor
open Go.RowKit Go.Cn
theorem ltS_trans {a b c : ByteArray} (h : ltS a b = true) (h2 : ltS b c = true) : ltS a c = true := by
  rw [ltS_iff] at *
  have := cmpL_trans (bts a.data.toList) (bts b.data.toList) (bts c.data.toList) (by show cmpS a b ≤ 0; omega) (by show cmpS b c ≤ 0; omega)
  have h3 : cmpS a c < 0 := this.2.2 (.inl (by show cmpS a b < 0; omega))
  rcases cmpL_three (bts a.data.toList) (bts c.data.toList) with e | e | e
  · exact e
  · have e : cmpS a c = 0 := e
    omega
  · have e : cmpS a c = 1 := e
    omega
theorem ltS_self (a : ByteArray) : ltS a a = false := by
  cases h : ltS a a with
  | false => rfl
  | true =>
    rw [ltS_iff] at h
    have : cmpS a a = 0 := cmpL_self _
    omega
theorem upK_at {α : Type} [Inhabited α] {f : α → ByteArray} {l : List α} (h : UpK (l.map f)) {i j : Nat} (hij : i < j) (hj : j < l.length) : ltS (f (l.getD i default)) (f (l.getD j default)) = true := by
  have := List.pairwise_iff_getElem.1 h i j (by rw [List.length_map]; omega) (by rw [List.length_map]; omega) hij
  have e1 : l.getD i default = l[i] := by simp [show i < l.length by omega]
  have e2 : l.getD j default = l[j] := by simp [hj]
  rw [e1, e2]
  simpa using this
theorem keyR_any {key : ByteArray} {s : Stm} {A : Option Addr} {n c : Nat} {w : World} {K : Value → World → Prop} (hK : ∀ w', Qt w w' → K (.string key) w') : CallK Tryd.prog 47 #[rowV key s A n c] K w := by
  refine F47_calls _ _ _ ?_; unfold F47
  obtain ⟨q1, h1, s1⟩ := newb w #[.string key, .int .i64 s.1, .int .i64 s.2.1, .int .i64 s.2.2.1, .string s.2.2.2, .slice A n c] 55
  simp (maxSteps := 1000000) (disch := omega) only [genAll, decAll, tk_nil, st47]
  generalize (w.alloc (.cells #[.string key, .int .i64 s.1, .int .i64 s.2.1, .int .i64 s.2.2.1, .string s.2.2.2, .slice A n c] 55)) = w1 at *
  have x0 := (cell6 h1).1
  simp (maxSteps := 1000000) (disch := omega) only [genAll, decAll, tk_nil, st47, x0]
  exact hK _ q1
theorem keyM_any {m : MarkD} {w : World} {K : Value → World → Prop} (hK : ∀ w', Qt w w' → K (.string m.1) w') : CallK Tryd.prog 48 #[markV m] K w := by
  refine F48_calls _ _ _ ?_; unfold F48
  obtain ⟨q1, h1, s1⟩ := newb w #[.string m.1, .int .i64 m.2.1, .int .i64 m.2.2.1, .int .i64 m.2.2.2.1, .string m.2.2.2.2] 85
  simp (maxSteps := 1000000) (disch := omega) only [genAll, decAll, tk_nil, st48]
  generalize (w.alloc (.cells #[.string m.1, .int .i64 m.2.1, .int .i64 m.2.2.1, .int .i64 m.2.2.2.1, .string m.2.2.2.2] 85)) = w1 at *
  have x0 := (cell5 h1).1
  simp (maxSteps := 1000000) (disch := omega) only [genAll, decAll, tk_nil, st48, x0]
  exact hK _ q1
set_option maxHeartbeats 4000000 in
theorem besRM_any {xs : List RowH} {ys : List MarkD} {A B : Option Addr} {c d : Nat} {X : Value} {w : World} {K : Value → World → Prop} (I : Nat → World → Prop)
    (hra : ∀ i w', I i w' → Reads w' A (xs.flatMap rowC)) (hrb : ∀ i w', I i w' → Reads w' B (ys.flatMap markC)) (hq : ∀ i w' w'', I i w' → Qt w' w'' → I i w'')
    (lx : xs.length ≤ 100000) (ly : ys.length ≤ 100000) (ua : UpK (xs.map (·.1))) (ub : UpK (ys.map (·.1))) (h0 : I 0 w)
    (hI : ∀ i w' (is : Bool) (b : Value) (K' : Value → World → Prop), i < xs.length → I i w' → ((is = true ∧ ∃ j, j < ys.length ∧ (ys.getD j default).1 = (xs.getD i default).1 ∧ b = markV (ys.getD j default)) ∨ (is = false ∧ (∀ y ∈ ys, y.1 ≠ (xs.getD i default).1) ∧ b = .agg #[.string ByteArray.empty, .int .i64 0, .int .i64 0, .int .i64 0, .string ByteArray.empty])) → (∀ v w'', I (i + 1) w'' → K' v w'') → CallV Tryd.prog X #[rowV (xs.getD i default).1 (xs.getD i default).2.1 (xs.getD i default).2.2.1 (xs.getD i default).2.2.2.2.length (xs.getD i default).2.2.2.1, b, .bool is] K' w')
    (hK : ∀ w', I xs.length w' → K (.tuple #[]) w') : CallK Tryd.prog 46 #[.slice A xs.length c, .slice B ys.length d, .func (.func 47) #[] #[], .func (.func 48) #[] #[], X] K w := by
  refine F46_calls _ _ _ _ _ _ _ ?_; unfold F46
  simp (maxSteps := 1000000) (disch := omega) only [genAll, decAll, tk_nil, st46]
  refine loopK2 (fun a v w' => ∃ i j : Nat, v = .int .i64 i ∧ i ≤ xs.length ∧ a = .int .i64 j ∧ j ≤ ys.length ∧ (∀ j', j' < j → ∀ i', i ≤ i' → i' < xs.length → ltS (ys.getD j' default).1 (xs.getD i' default).1 = true) ∧ I i w') (fun _ v _ => xs.length - (intOf v).toNat) ⟨0, 0, rfl, by omega, rfl, by omega, fun j' h => by omega, h0⟩ ?_
  rintro _ _ _ w1 ⟨i, j, rfl, hi, rfl, hj, hlo, i1⟩
  by_cases hlt : i < xs.length
  · obtain ⟨g, o, hA, z0, z1, z2, z3, z4, z5⟩ := row_at (hra i w1 i1) hlt
    subst hA
    have hup : ∀ i', i ≤ i' → i' < xs.length → i' = i ∨ ltS (xs.getD i default).1 (xs.getD i' default).1 = true := fun i' h1 h2 => by
      by_cases e : i' = i
      · exact .inl e
      · exact .inr (upK_at ua (show i < i' by omega) h2)
    have hIi := fun w' is b K' => hI i w' is b K' hlt
    generalize hra' : xs.getD i default = ra at *
    obtain ⟨q2, b2, s2⟩ := newb w1 #[.string ra.1, .int .i64 ra.2.1.1, .int .i64 ra.2.1.2.1, .int .i64 ra.2.1.2.2.1, .string ra.2.1.2.2.2, .slice ra.2.2.1 ra.2.2.2.2.length ra.2.2.2.1] 55
    simp (maxSteps := 1000000) (disch := omega) only [genAll, decAll, tk_nil, st46, z0, z1, z2, z3, z4, z5]
    generalize (w1.alloc (.cells #[.string ra.1, .int .i64 ra.2.1.1, .int .i64 ra.2.1.2.1, .int .i64 ra.2.1.2.2.1, .string ra.2.1.2.2.2, .slice ra.2.2.1 ra.2.2.2.2.length ra.2.2.2.1] 55)) = w2 at *
    generalize hb : w1.heap.size = b at *
    have Z : ∀ w', Quiets w2 w' → w'.cell? ⟨b, 0, none⟩ = some (.string ra.1) ∧ w'.cell? ⟨b, 0 + 1, none⟩ = some (.int .i64 ra.2.1.1) ∧ w'.cell? ⟨b, 0 + 2, none⟩ = some (.int .i64 ra.2.1.2.1) ∧ w'.cell? ⟨b, 0 + 3, none⟩ = some (.int .i64 ra.2.1.2.2.1) ∧ w'.cell? ⟨b, 0 + 4, none⟩ = some (.string ra.2.1.2.2.2) ∧ w'.cell? ⟨b, 0 + 5, none⟩ = some (.slice ra.2.2.1 ra.2.2.2.2.length ra.2.2.2.1) := fun w' q => cell6 (Chg.heap q b2 (fun h => h))
    have Zc : ∀ w', Quiets w2 w' → _ := fun w' q => cell6 (Chg.heap q b2 (fun h => h))
    have i2 := hq _ _ _ i1 q2
    refine cutK1 (fun a w' => ∃ j : Nat, a = .int .i64 j ∧ j ≤ ys.length ∧ (∀ j', j' < j → ∀ i', i ≤ i' → i' < xs.length → ltS (ys.getD j' default).1 (xs.getD i' default).1 = true) ∧ (j < ys.length → ltS (ys.getD j default).1 ra.1 = false) ∧ Qt w2 w') ?_ ?_
    · refine loopK1 (fun a w' => ∃ j : Nat, a = .int .i64 j ∧ j ≤ ys.length ∧ (∀ j', j' < j → ∀ i', i ≤ i' → i' < xs.length → ltS (ys.getD j' default).1 (xs.getD i' default).1 = true) ∧ Qt w2 w') (fun a _ => ys.length - (intOf a).toNat) ⟨j, rfl, hj, hlo, Qt.refl⟩ ?_
      rintro _ _ w3 ⟨j, rfl, hj, hlo, q3⟩
      have q3d : Qt w2 w3.drew := q3.trans (Qt.drew Qt.refl)
      by_cases hjl : j < ys.length
      · have X := fun w' (q : Quiets w2 w') => mark_at (hrb i w' (hq _ _ _ i2 q)) hjl
        obtain ⟨g2, o2, hB, _⟩ := X w2 Qt.refl
        subst hB
        have hnew : ltS (ys.getD j default).1 ra.1 = true → ∀ j', j' < j + 1 → ∀ i', i ≤ i' → i' < xs.length → ltS (ys.getD j' default).1 (xs.getD i' default).1 = true := fun h j' h1 i' h2 h3 => by
          by_cases e : j' = j
          · subst e
            rcases hup i' h2 h3 with e | e
            · subst e; rw [hra']; exact h
            · exact ltS_trans h e
          · exact hlo j' (by omega) i' h2 h3
        generalize hrb' : ys.getD j default = rb at *
        have Y : ∀ w', Quiets w2 w' → w'.cell? ⟨g2, o2 + j * 5, none⟩ = some (.string rb.1) ∧ w'.cell? ⟨g2, o2 + j * 5 + 1, none⟩ = some (.int .i64 rb.2.1) ∧ w'.cell? ⟨g2, o2 + j * 5 + 2, none⟩ = some (.int .i64 rb.2.2.1) ∧ w'.cell? ⟨g2, o2 + j * 5 + 3, none⟩ = some (.int .i64 rb.2.2.2.1) ∧ w'.cell? ⟨g2, o2 + j * 5 + 4, none⟩ = some (.string rb.2.2.2.2) := fun w' q => by
          obtain ⟨_, _, he, h0, h1, h2, h3, h4⟩ := X w' q; cases he; exact ⟨h0, h1, h2, h3, h4⟩
        refine drawQ w2 q3d ?_
        generalize w3.drew = wd at *
        simp (maxSteps := 1000000) (disch := omega) only [genAll, decAll, tk_nil, st46, qkld85 Y, qkld55 Z]
        refine ⟨?_, trivial⟩
        refine ck48 (keyM_any ?_)
        intro w4 q4
        have q24 := q3d.trans q4
        simp (maxSteps := 1000000) (disch := omega) only [genAll, decAll, tk_nil, st46]
        refine ⟨q24, ?_, trivial⟩
        refine ck47 (keyR_any ?_)
        intro w5 q5
        have q25 := q24.trans q5
        cases hl : ltS rb.1 ra.1 with
        | true =>
          simp (maxSteps := 1000000) (disch := omega) only [genAll, decAll, tk_nil, st46, less_lt, hl]
          exact ⟨q25, ⟨j + 1, by go_num, by omega, hnew hl, q25⟩, by simp [rel, intOf]; omega⟩
        | false =>
          simp (maxSteps := 1000000) (disch := omega) only [genAll, decAll, tk_nil, st46, less_lt, hl]
          exact ⟨q25, j, rfl, hj, hlo, fun _ => by rw [hrb']; exact hl, q25⟩
      · obtain rfl : j = ys.length := by omega
        refine drawQ w2 q3d ?_
        generalize w3.drew = wd at *
        simp (maxSteps := 1000000) (disch := omega) only [genAll, decAll, tk_nil, st46, takeG_u, guardK_u]
        exact ⟨⟨q3d, ⟨q3d, ys.length, rfl, by omega, hlo, fun h => absurd h (by omega), q3d⟩, trivial⟩, trivial⟩
    · clear hlo hj
      rintro _ _ w3 ⟨j, rfl, hj, hlo, hge, q3⟩
      obtain ⟨q4, b4, s4⟩ := newb w3 #[.string ByteArray.empty, .int .i64 0, .int .i64 0, .int .i64 0, .string ByteArray.empty] 85
      simp (maxSteps := 1000000) (disch := omega) only [genAll, decAll, tk_nil, st46]
      generalize (w3.alloc (.cells #[.string ByteArray.empty, .int .i64 0, .int .i64 0, .int .i64 0, .string ByteArray.empty] 85)) = w4 at *
      have q24 := q3.trans q4
      have hq3 := q3.size
      generalize hb3 : w3.heap.size = b3 at *
      have q4d : Qt w2 w4.drew := q24.trans (Qt.drew Qt.refl)
      have b4d := (Qt.drew (w := w4) Qt.refl).heap b4 (fun h => h)
      have hfin : ∀ (is : Bool) (w' : World) (C : Array Value) (b : Value) , True := fun _ _ _ _ => trivial
      clear hfin
      by_cases hjl : j < ys.length
      · have X := fun w' (q : Quiets w2 w') => mark_at (hrb i w' (hq _ _ _ i2 q)) hjl
        obtain ⟨g2, o2, hB, _⟩ := X w2 Qt.refl
        subst hB
        have hge := hge hjl
        have hsame : (ys.getD j default).1 ≠ ra.1 → ∀ y ∈ ys, y.1 ≠ ra.1 := fun hne y hy e => by
          obtain ⟨m, hm, rfl⟩ := List.mem_iff_getElem.1 hy
          have e3 : ys.getD m default = ys[m] := by simp [hm]
          rw [← e3] at e
          rcases Nat.lt_trichotomy m j with h | h | h
          · have := hlo m h i (by omega) hlt
            rw [hra', e, ltS_self] at this; cases this
          · subst h; exact hne e
          · have h2 := upK_at ub h hm
            rw [e, hge] at h2; cases h2
        have hyes : (ys.getD j default).1 = ra.1 → ∃ j', j' < ys.length ∧ (ys.getD j' default).1 = ra.1 ∧ (ys.getD j default) = (ys.getD j' default) := fun h => ⟨j, hjl, h, rfl⟩
        generalize ys.getD j default = rb at *
        have Y : ∀ w', Quiets w2 w' → w'.cell? ⟨g2, o2 + j * 5, none⟩ = some (.string rb.1) ∧ w'.cell? ⟨g2, o2 + j * 5 + 1, none⟩ = some (.int .i64 rb.2.1) ∧ w'.cell? ⟨g2, o2 + j * 5 + 2, none⟩ = some (.int .i64 rb.2.2.1) ∧ w'.cell? ⟨g2, o2 + j * 5 + 3, none⟩ = some (.int .i64 rb.2.2.2.1) ∧ w'.cell? ⟨g2, o2 + j * 5 + 4, none⟩ = some (.string rb.2.2.2.2) := fun w' q => by
          obtain ⟨_, _, he, h0, h1, h2, h3, h4⟩ := X w' q; cases he; exact ⟨h0, h1, h2, h3, h4⟩
        refine drawQ w2 q4d ?_
        generalize w4.drew = wd at *
        simp (maxSteps := 1000000) (disch := omega) only [genAll, decAll, tk_nil, st46, qkld85 Y, qkld55 Z]
        refine ⟨?_, trivial⟩
        refine ck48 (keyM_any ?_)
        intro w5 q5
        have q25 := q4d.trans q5
        simp (maxSteps := 1000000) (disch := omega) only [genAll, decAll, tk_nil, st46]
        refine ⟨q25, ?_, trivial⟩
        refine ck47 (keyR_any ?_)
        intro w6 q6
        have q26 := q25.trans q6
        have b6 := (q5.trans q6).heap b4d (fun h => h)
        by_cases hl : rb.1 = ra.1
        · have e := decide_eq_true hl
          simp (maxSteps := 1000000) (disch := omega) only [genAll, decAll, tk_nil, st46, beq_ba, e]
          refine ⟨q26, ?_⟩
          refine cutK0 (fun w' => Qt w2 w' ∧ w'.heap[b3]? = some (.cells #[.string rb.1, .int .i64 rb.2.1, .int .i64 rb.2.2.1, .int .i64 rb.2.2.2.1, .string rb.2.2.2.2] 85 (0, 0))) ?_ ?_
          · obtain ⟨_, _, he, y0, y1, y2, y3, y4⟩ := X w6 q26
            cases he
            simp (maxSteps := 1000000) (disch := omega) only [genAll, decAll, tk_nil, st46, y0, y1, y2, y3, y4]
            refine aggStoreW (cs := markC rb) b6 rfl (by kernel_rfl) (markC_one rb) ?_
            intro w7 b7 k7
            simp (maxSteps := 1000000) (disch := omega) only [genAll, decAll, tk_nil, st46]
            exact ⟨Qt.then q26 k7 (fun k hk => by omega), b7⟩
          · rintro _ w7 ⟨q27, b7⟩
            obtain ⟨x0, x1, x2, x3, x4, x5⟩ := Zc w7 q27
            obtain ⟨y0, y1, y2, y3, y4⟩ := cell5 b7
            simp (maxSteps := 1000000) (disch := omega) only [genAll, decAll, tk_nil, st46, x0, x1, x2, x3, x4, x5, y0, y1, y2, y3, y4]
            obtain ⟨j', h1, h2, h3⟩ := hyes hl
            refine hIi w7 true _ _ (hq _ _ _ i2 q27) (.inl ⟨rfl, j', h1, h2, by rw [← h3]⟩) ?_
            intro v w8 i8
            simp (maxSteps := 1000000) (disch := omega) only [genAll, decAll, tk_nil, st46]
            exact ⟨⟨i + 1, j, by go_num, by omega, rfl, hj, fun j' h1 i' h2 h3 => hlo j' h1 i' (by omega) h3, i8⟩, by simp [rel, intOf]; omega⟩
        · have e := decide_eq_false hl
          simp (maxSteps := 1000000) (disch := omega) only [genAll, decAll, tk_nil, st46, beq_ba, e]
          refine ⟨q26, ?_⟩
          refine cutK0 (fun w' => w' = w6) rfl ?_
          rintro _ w7 rfl
          obtain ⟨x0, x1, x2, x3, x4, x5⟩ := Zc w7 q26
          obtain ⟨y0, y1, y2, y3, y4⟩ := cell5 b6
          simp (maxSteps := 1000000) (disch := omega) only [genAll, decAll, tk_nil, st46, x0, x1, x2, x3, x4, x5, y0, y1, y2, y3, y4]
          refine hIi w7 false _ _ (hq _ _ _ i2 q26) (.inr ⟨rfl, hsame hl, rfl⟩) ?_
          intro v w8 i8
          simp (maxSteps := 1000000) (disch := omega) only [genAll, decAll, tk_nil, st46]
          exact ⟨⟨i + 1, j, by go_num, by omega, rfl, hj, fun j' h1 i' h2 h3 => hlo j' h1 i' (by omega) h3, i8⟩, by simp [rel, intOf]; omega⟩
      · obtain rfl : j = ys.length := by omega
        refine drawQ w2 q4d ?_
        generalize w4.drew = wd at *
        simp (maxSteps := 1000000) (disch := omega) only [genAll, decAll, tk_nil, st46, takeG_u, guardK_u]
        refine ⟨⟨q4d, ⟨q4d, ?_⟩, trivial⟩, trivial⟩
        refine cutK0 (fun w' => w' = wd) rfl ?_
        rintro _ w7 rfl
        obtain ⟨x0, x1, x2, x3, x4, x5⟩ := Zc w7 q4d
        obtain ⟨y0, y1, y2, y3, y4⟩ := cell5 b4d
        simp (maxSteps := 1000000) (disch := omega) only [genAll, decAll, tk_nil, st46, x0, x1, x2, x3, x4, x5, y0, y1, y2, y3, y4]
        refine hIi w7 false _ _ (hq _ _ _ i2 q4d) (.inr ⟨rfl, fun y hy e => ?_, rfl⟩) ?_
        · obtain ⟨m, hm, rfl⟩ := List.mem_iff_getElem.1 hy
          have e3 : ys.getD m default = ys[m] := by simp [hm]
          have := hlo m hm i (by omega) hlt
          rw [hra', e3, e, ltS_self] at this; cases this
        intro v w8 i8
        simp (maxSteps := 1000000) (disch := omega) only [genAll, decAll, tk_nil, st46]
        exact ⟨⟨i + 1, ys.length, by go_num, by omega, rfl, by omega, fun j' h1 i' h2 h3 => hlo j' h1 i' (by omega) h3, i8⟩, by simp [rel, intOf]; omega⟩
  · obtain rfl : i = xs.length := by omega
    simp (maxSteps := 1000000) (disch := omega) only [genAll, decAll, tk_nil, st46]
    exact hK _ i1
set_option maxHeartbeats 4000000 in
theorem besMR_any {xs : List MarkD} {ys : List RowH} {A B : Option Addr} {c d : Nat} {X : Value} {w : World} {K : Value → World → Prop} (I : Nat → World → Prop)
    (hra : ∀ i w', I i w' → Reads w' A (xs.flatMap markC)) (hrb : ∀ i w', I i w' → Reads w' B (ys.flatMap rowC)) (hq : ∀ i w' w'', I i w' → Qt w' w'' → I i w'')
    (lx : xs.length ≤ 100000) (ly : ys.length ≤ 100000) (ua : UpK (xs.map (·.1))) (ub : UpK (ys.map (·.1))) (h0 : I 0 w)
    (hI : ∀ i w' (is : Bool) (b : Value) (K' : Value → World → Prop), i < xs.length → I i w' → ((is = true ∧ ∃ j, j < ys.length ∧ (ys.getD j default).1 = (xs.getD i default).1 ∧ b = rowV (ys.getD j default).1 (ys.getD j default).2.1 (ys.getD j default).2.2.1 (ys.getD j default).2.2.2.2.length (ys.getD j default).2.2.2.1) ∨ (is = false ∧ (∀ y ∈ ys, y.1 ≠ (xs.getD i default).1) ∧ b = .agg #[.string ByteArray.empty, .int .i64 0, .int .i64 0, .int .i64 0, .string ByteArray.empty, .slice none 0 0])) → (∀ v w'', I (i + 1) w'' → K' v w'') → CallV Tryd.prog X #[markV (xs.getD i default), b, .bool is] K' w')
    (hK : ∀ w', I xs.length w' → K (.tuple #[]) w') : CallK Tryd.prog 54 #[.slice A xs.length c, .slice B ys.length d, .func (.func 48) #[] #[], .func (.func 47) #[] #[], X] K w := by
  refine F54_calls _ _ _ _ _ _ _ ?_; unfold F54
  simp (maxSteps := 1000000) (disch := omega) only [genAll, decAll, tk_nil, st54]
  refine loopK2 (fun a v w' => ∃ i j : Nat, v = .int .i64 i ∧ i ≤ xs.length ∧ a = .int .i64 j ∧ j ≤ ys.length ∧ (∀ j', j' < j → ∀ i', i ≤ i' → i' < xs.length → ltS (ys.getD j' default).1 (xs.getD i' default).1 = true) ∧ I i w') (fun _ v _ => xs.length - (intOf v).toNat) ⟨0, 0, rfl, by omega, rfl, by omega, fun j' h => by omega, h0⟩ ?_
  rintro _ _ _ w1 ⟨i, j, rfl, hi, rfl, hj, hlo, i1⟩
  by_cases hlt : i < xs.length
  · obtain ⟨g, o, hA, z0, z1, z2, z3, z4⟩ := mark_at (hra i w1 i1) hlt
    subst hA
    have hup : ∀ i', i ≤ i' → i' < xs.length → i' = i ∨ ltS (xs.getD i default).1 (xs.getD i' default).1 = true := fun i' h1 h2 => by
      by_cases e : i' = i
      · exact .inl e
      · exact .inr (upK_at ua (show i < i' by omega) h2)
    have hIi := fun w' is b K' => hI i w' is b K' hlt
    generalize hra' : xs.getD i default = ra at *
    obtain ⟨q2, b2, s2⟩ := newb w1 #[.string ra.1, .int .i64 ra.2.1, .int .i64 ra.2.2.1, .int .i64 ra.2.2.2.1, .string ra.2.2.2.2] 85
    simp (maxSteps := 1000000) (disch := omega) only [genAll, decAll, tk_nil, st54, z0, z1, z2, z3, z4]
    generalize (w1.alloc (.cells #[.string ra.1, .int .i64 ra.2.1, .int .i64 ra.2.2.1, .int .i64 ra.2.2.2.1, .string ra.2.2.2.2] 85)) = w2 at *
    generalize hb : w1.heap.size = b at *
    have Z : ∀ w', Quiets w2 w' → w'.cell? ⟨b, 0, none⟩ = some (.string ra.1) ∧ w'.cell? ⟨b, 0 + 1, none⟩ = some (.int .i64 ra.2.1) ∧ w'.cell? ⟨b, 0 + 2, none⟩ = some (.int .i64 ra.2.2.1) ∧ w'.cell? ⟨b, 0 + 3, none⟩ = some (.int .i64 ra.2.2.2.1) ∧ w'.cell? ⟨b, 0 + 4, none⟩ = some (.string ra.2.2.2.2) := fun w' q => cell5 (Chg.heap q b2 (fun h => h))
    have Zc : ∀ w', Quiets w2 w' → _ := fun w' q => cell5 (Chg.heap q b2 (fun h => h))
    have i2 := hq _ _ _ i1 q2
    refine cutK1 (fun a w' => ∃ j : Nat, a = .int .i64 j ∧ j ≤ ys.length ∧ (∀ j', j' < j → ∀ i', i ≤ i' → i' < xs.length → ltS (ys.getD j' default).1 (xs.getD i' default).1 = true) ∧ (j < ys.length → ltS (ys.getD j default).1 ra.1 = false) ∧ Qt w2 w') ?_ ?_
    · refine loopK1 (fun a w' => ∃ j : Nat, a = .int .i64 j ∧ j ≤ ys.length ∧ (∀ j', j' < j → ∀ i', i ≤ i' → i' < xs.length → ltS (ys.getD j' default).1 (xs.getD i' default).1 = true) ∧ Qt w2 w') (fun a _ => ys.length - (intOf a).toNat) ⟨j, rfl, hj, hlo, Qt.refl⟩ ?_
      rintro _ _ w3 ⟨j, rfl, hj, hlo, q3⟩
      have q3d : Qt w2 w3.drew := q3.trans (Qt.drew Qt.refl)
      by_cases hjl : j < ys.length
      · have X := fun w' (q : Quiets w2 w') => row_at (hrb i w' (hq _ _ _ i2 q)) hjl
        obtain ⟨g2, o2, hB, _⟩ := X w2 Qt.refl
        subst hB
        have hnew : ltS (ys.getD j default).1 ra.1 = true → ∀ j', j' < j + 1 → ∀ i', i ≤ i' → i' < xs.length → ltS (ys.getD j' default).1 (xs.getD i' default).1 = true := fun h j' h1 i' h2 h3 => by
          by_cases e : j' = j
          · subst e
            rcases hup i' h2 h3 with e | e
            · subst e; rw [hra']; exact h
            · exact ltS_trans h e
          · exact hlo j' (by omega) i' h2 h3
        generalize hrb' : ys.getD j default = rb at *
        have Y : ∀ w', Quiets w2 w' → w'.cell? ⟨g2, o2 + j * 6, none⟩ = some (.string rb.1) ∧ w'.cell? ⟨g2, o2 + j * 6 + 1, none⟩ = some (.int .i64 rb.2.1.1) ∧ w'.cell? ⟨g2, o2 + j * 6 + 2, none⟩ = some (.int .i64 rb.2.1.2.1) ∧ w'.cell? ⟨g2, o2 + j * 6 + 3, none⟩ = some (.int .i64 rb.2.1.2.2.1) ∧ w'.cell? ⟨g2, o2 + j * 6 + 4, none⟩ = some (.string rb.2.1.2.2.2) ∧ w'.cell? ⟨g2, o2 + j * 6 + 5, none⟩ = some (.slice rb.2.2.1 rb.2.2.2.2.length rb.2.2.2.1) := fun w' q => by
          obtain ⟨_, _, he, h0, h1, h2, h3, h4, h5⟩ := X w' q; cases he; exact ⟨h0, h1, h2, h3, h4, h5⟩
        refine drawQ w2 q3d ?_
        generalize w3.drew = wd at *
        simp (maxSteps := 1000000) (disch := omega) only [genAll, decAll, tk_nil, st54, qkld55 Y, qkld85 Z]
        refine ⟨?_, trivial⟩
        refine ck47 (keyR_any ?_)
        intro w4 q4
        have q24 := q3d.trans q4
        simp (maxSteps := 1000000) (disch := omega) only [genAll, decAll, tk_nil, st54]
        refine ⟨q24, ?_, trivial⟩
        refine ck48 (keyM_any ?_)
        intro w5 q5
        have q25 := q24.trans q5
        cases hl : ltS rb.1 ra.1 with
        | true =>
          simp (maxSteps := 1000000) (disch := omega) only [genAll, decAll, tk_nil, st54, less_lt, hl]
          exact ⟨q25, ⟨j + 1, by go_num, by omega, hnew hl, q25⟩, by simp [rel, intOf]; omega⟩
        | false =>
          simp (maxSteps := 1000000) (disch := omega) only [genAll, decAll, tk_nil, st54, less_lt, hl]
          exact ⟨q25, j, rfl, hj, hlo, fun _ => by rw [hrb']; exact hl, q25⟩
      · obtain rfl : j = ys.length := by omega
        refine drawQ w2 q3d ?_
        generalize w3.drew = wd at *
        simp (maxSteps := 1000000) (disch := omega) only [genAll, decAll, tk_nil, st54, takeG_u, guardK_u]
        exact ⟨⟨q3d, ⟨q3d, ys.length, rfl, by omega, hlo, fun h => absurd h (by omega), q3d⟩, trivial⟩, trivial⟩
    · clear hlo hj
      rintro _ _ w3 ⟨j, rfl, hj, hlo, hge, q3⟩
      obtain ⟨q4, b4, s4⟩ := newb w3 #[.string ByteArray.empty, .int .i64 0, .int .i64 0, .int .i64 0, .string ByteArray.empty, .slice none 0 0] 55
      simp (maxSteps := 1000000) (disch := omega) only [genAll, decAll, tk_nil, st54]
      generalize (w3.alloc (.cells #[.string ByteArray.empty, .int .i64 0, .int .i64 0, .int .i64 0, .string ByteArray.empty, .slice none 0 0] 55)) = w4 at *
      have q24 := q3.trans q4
      have hq3 := q3.size
      generalize hb3 : w3.heap.size = b3 at *
      have q4d : Qt w2 w4.drew := q24.trans (Qt.drew Qt.refl)
      have b4d := (Qt.drew (w := w4) Qt.refl).heap b4 (fun h => h)
      have hfin : ∀ (is : Bool) (w' : World) (C : Array Value) (b : Value) , True := fun _ _ _ _ => trivial
      clear hfin
      by_cases hjl : j < ys.length
      · have X := fun w' (q : Quiets w2 w') => row_at (hrb i w' (hq _ _ _ i2 q)) hjl
        obtain ⟨g2, o2, hB, _⟩ := X w2 Qt.refl
        subst hB
        have hge := hge hjl
        have hsame : (ys.getD j default).1 ≠ ra.1 → ∀ y ∈ ys, y.1 ≠ ra.1 := fun hne y hy e => by
          obtain ⟨m, hm, rfl⟩ := List.mem_iff_getElem.1 hy
          have e3 : ys.getD m default = ys[m] := by simp [hm]
          rw [← e3] at e
          rcases Nat.lt_trichotomy m j with h | h | h
          · have := hlo m h i (by omega) hlt
            rw [hra', e, ltS_self] at this; cases this
          · subst h; exact hne e
          · have h2 := upK_at ub h hm
            rw [e, hge] at h2; cases h2
        have hyes : (ys.getD j default).1 = ra.1 → ∃ j', j' < ys.length ∧ (ys.getD j' default).1 = ra.1 ∧ (ys.getD j default) = (ys.getD j' default) := fun h => ⟨j, hjl, h, rfl⟩
        generalize ys.getD j default = rb at *
        have Y : ∀ w', Quiets w2 w' → w'.cell? ⟨g2, o2 + j * 6, none⟩ = some (.string rb.1) ∧ w'.cell? ⟨g2, o2 + j * 6 + 1, none⟩ = some (.int .i64 rb.2.1.1) ∧ w'.cell? ⟨g2, o2 + j * 6 + 2, none⟩ = some (.int .i64 rb.2.1.2.1) ∧ w'.cell? ⟨g2, o2 + j * 6 + 3, none⟩ = some (.int .i64 rb.2.1.2.2.1) ∧ w'.cell? ⟨g2, o2 + j * 6 + 4, none⟩ = some (.string rb.2.1.2.2.2) ∧ w'.cell? ⟨g2, o2 + j * 6 + 5, none⟩ = some (.slice rb.2.2.1 rb.2.2.2.2.length rb.2.2.2.1) := fun w' q => by
          obtain ⟨_, _, he, h0, h1, h2, h3, h4, h5⟩ := X w' q; cases he; exact ⟨h0, h1, h2, h3, h4, h5⟩
        refine drawQ w2 q4d ?_
        generalize w4.drew = wd at *
        simp (maxSteps := 1000000) (disch := omega) only [genAll, decAll, tk_nil, st54, qkld55 Y, qkld85 Z]
        refine ⟨?_, trivial⟩
        refine ck47 (keyR_any ?_)
        intro w5 q5
        have q25 := q4d.trans q5
        simp (maxSteps := 1000000) (disch := omega) only [genAll, decAll, tk_nil, st54]
        refine ⟨q25, ?_, trivial⟩
        refine ck48 (keyM_any ?_)
        intro w6 q6
        have q26 := q25.trans q6
        have b6 := (q5.trans q6).heap b4d (fun h => h)
        by_cases hl : rb.1 = ra.1
        · have e := decide_eq_true hl
          simp (maxSteps := 1000000) (disch := omega) only [genAll, decAll, tk_nil, st54, beq_ba, e]
          refine ⟨q26, ?_⟩
          refine cutK0 (fun w' => Qt w2 w' ∧ w'.heap[b3]? = some (.cells #[.string rb.1, .int .i64 rb.2.1.1, .int .i64 rb.2.1.2.1, .int .i64 rb.2.1.2.2.1, .string rb.2.1.2.2.2, .slice rb.2.2.1 rb.2.2.2.2.length rb.2.2.2.1] 55 (0, 0))) ?_ ?_
          · obtain ⟨_, _, he, y0, y1, y2, y3, y4, y5⟩ := X w6 q26
            cases he
            simp (maxSteps := 1000000) (disch := omega) only [genAll, decAll, tk_nil, st54, y0, y1, y2, y3, y4, y5]
            refine aggStoreW (cs := rowC rb) b6 rfl (by kernel_rfl) (rowC_one rb) ?_
            intro w7 b7 k7
            simp (maxSteps := 1000000) (disch := omega) only [genAll, decAll, tk_nil, st54]
            exact ⟨Qt.then q26 k7 (fun k hk => by omega), b7⟩
          · rintro _ w7 ⟨q27, b7⟩
            obtain ⟨x0, x1, x2, x3, x4⟩ := Zc w7 q27
            obtain ⟨y0, y1, y2, y3, y4, y5⟩ := cell6 b7
            simp (maxSteps := 1000000) (disch := omega) only [genAll, decAll, tk_nil, st54, x0, x1, x2, x3, x4, y0, y1, y2, y3, y4, y5]
            obtain ⟨j', h1, h2, h3⟩ := hyes hl
            refine hIi w7 true _ _ (hq _ _ _ i2 q27) (.inl ⟨rfl, j', h1, h2, by rw [← h3]⟩) ?_
            intro v w8 i8
            simp (maxSteps := 1000000) (disch := omega) only [genAll, decAll, tk_nil, st54]
            exact ⟨⟨i + 1, j, by go_num, by omega, rfl, hj, fun j' h1 i' h2 h3 => hlo j' h1 i' (by omega) h3, i8⟩, by simp [rel, intOf]; omega⟩
        · have e := decide_eq_false hl
          simp (maxSteps := 1000000) (disch := omega) only [genAll, decAll, tk_nil, st54, beq_ba, e]
          refine ⟨q26, ?_⟩
          refine cutK0 (fun w' => w' = w6) rfl ?_
          rintro _ w7 rfl
          obtain ⟨x0, x1, x2, x3, x4⟩ := Zc w7 q26
          obtain ⟨y0, y1, y2, y3, y4, y5⟩ := cell6 b6
          simp (maxSteps := 1000000) (disch := omega) only [genAll, decAll, tk_nil, st54, x0, x1, x2, x3, x4, y0, y1, y2, y3, y4, y5]
          refine hIi w7 false _ _ (hq _ _ _ i2 q26) (.inr ⟨rfl, hsame hl, rfl⟩) ?_
          intro v w8 i8
          simp (maxSteps := 1000000) (disch := omega) only [genAll, decAll, tk_nil, st54]
          exact ⟨⟨i + 1, j, by go_num, by omega, rfl, hj, fun j' h1 i' h2 h3 => hlo j' h1 i' (by omega) h3, i8⟩, by simp [rel, intOf]; omega⟩
      · obtain rfl : j = ys.length := by omega
        refine drawQ w2 q4d ?_
        generalize w4.drew = wd at *
        simp (maxSteps := 1000000) (disch := omega) only [genAll, decAll, tk_nil, st54, takeG_u, guardK_u]
        refine ⟨⟨q4d, ⟨q4d, ?_⟩, trivial⟩, trivial⟩
        refine cutK0 (fun w' => w' = wd) rfl ?_
        rintro _ w7 rfl
        obtain ⟨x0, x1, x2, x3, x4⟩ := Zc w7 q4d
        obtain ⟨y0, y1, y2, y3, y4, y5⟩ := cell6 b4d
        simp (maxSteps := 1000000) (disch := omega) only [genAll, decAll, tk_nil, st54, x0, x1, x2, x3, x4, y0, y1, y2, y3, y4, y5]
        refine hIi w7 false _ _ (hq _ _ _ i2 q4d) (.inr ⟨rfl, fun y hy e => ?_, rfl⟩) ?_
        · obtain ⟨m, hm, rfl⟩ := List.mem_iff_getElem.1 hy
          have e3 : ys.getD m default = ys[m] := by simp [hm]
          have := hlo m hm i (by omega) hlt
          rw [hra', e3, e, ltS_self] at this; cases this
        intro v w8 i8
        simp (maxSteps := 1000000) (disch := omega) only [genAll, decAll, tk_nil, st54]
        exact ⟨⟨i + 1, ys.length, by go_num, by omega, rfl, by omega, fun j' h1 i' h2 h3 => hlo j' h1 i' (by omega) h3, i8⟩, by simp [rel, intOf]; omega⟩
  · obtain rfl : i = xs.length := by omega
    simp (maxSteps := 1000000) (disch := omega) only [genAll, decAll, tk_nil, st54]
    exact hK _ i1
end Go.Proofs.YtpjeohellehgjaaDoor
end

import Derived.Test.YtpjeohellehgjaaGreatDoorZC
section
/- Rows: whether they may be. Conditions: the rows read. -/
set_option linter.unusedVariables false
set_option linter.unusedSimpArgs false
set_option maxRecDepth 100000
namespace Go.Proofs.YtpjeohellehgjaaGreatDoor
open Go.RowKit Go.Cn
abbrev attV (h : AttH) : Value := .agg #[.string h.1, .int .i64 h.2.1.1, .int .i64 h.2.1.2.1, .string h.2.1.2.2.1, .slice h.2.2.1 h.2.1.2.2.2.length h.2.2.2]
abbrev rowV (key : ByteArray) (s : Stm) (A : Option Addr) (n c : Nat) : Value := .agg #[.string key, .int .i64 s.1, .int .i64 s.2.1, .int .i64 s.2.2.1, .string s.2.2.2, .slice A n c]
def AttSz (h : AttH) : Prop := h.1.size ≤ 9223372036854775807 ∧ h.2.1.2.2.1.size ≤ 9223372036854775807 ∧ h.2.1.2.2.2.length ≤ 9223372036854775807
theorem less_lt (x y : ByteArray) : Op.bytesLess x.toList y.toList = ltS x y := by
  rw [ByteArray.toList_eq, ByteArray.toList_eq]; rfl
theorem getD_mem {α : Type} [Inhabited α] {l : List α} {i : Nat} (h : i < l.length) : l.getD i default ∈ l := by
  have e : l.getD i default = l[i] := by simp [h]
  rw [e]; exact List.getElem_mem h
theorem cell5 {w : World} {b : Nat} {t : TypeId} {x y z u v : Value} (h : w.heap[b]? = some (.cells #[x, y, z, u, v] t (0, 0))) : w.cell? ⟨b, 0, none⟩ = some x ∧ w.cell? ⟨b, 1, none⟩ = some y ∧ w.cell? ⟨b, 2, none⟩ = some z ∧ w.cell? ⟨b, 3, none⟩ = some u ∧ w.cell? ⟨b, 4, none⟩ = some v :=
  ⟨by rw [blk_cell h]; rfl, by rw [blk_cell h]; rfl, by rw [blk_cell h]; rfl, by rw [blk_cell h]; rfl, by rw [blk_cell h]; rfl⟩
theorem cell6 {w : World} {b : Nat} {t : TypeId} {x y z u v p : Value} (h : w.heap[b]? = some (.cells #[x, y, z, u, v, p] t (0, 0))) : w.cell? ⟨b, 0, none⟩ = some x ∧ w.cell? ⟨b, 1, none⟩ = some y ∧ w.cell? ⟨b, 2, none⟩ = some z ∧ w.cell? ⟨b, 3, none⟩ = some u ∧ w.cell? ⟨b, 4, none⟩ = some v ∧ w.cell? ⟨b, 5, none⟩ = some p :=
  ⟨by rw [blk_cell h]; rfl, by rw [blk_cell h]; rfl, by rw [blk_cell h]; rfl, by rw [blk_cell h]; rfl, by rw [blk_cell h]; rfl, by rw [blk_cell h]; rfl⟩
theorem txt_of (s : ByteArray) : ∃ l, s = txt l ∧ s.data.toList = l ∧ s.size = l.length := ⟨s.data.toList, (txt_list _).symm, rfl, rfl⟩
set_option maxHeartbeats 2000000 in
theorem attrs_any {hs : List AttH} {A : Option Addr} {c : Nat} {w : World} {K : Value → World → Prop} (ha : AttsAt w A hs) (hz : ∀ h ∈ hs, AttSz h)
    (hK : ∀ w', Qt w w' → K (.int .i64 (checkAs (hs.map attP))) w') : CallK Tryz.prog 89 #[.slice A hs.length c] K w := by
  refine F89_calls _ _ _ ?_; unfold F89
  unfold checkAs at hK
  rw [attP_len] at hK
  by_cases h32 : 32 < hs.length
  · rw [if_pos h32] at hK
    simp (maxSteps := 1000000) (disch := omega) only [genAll, decAll, tk_nil, st89]
    exact hK w Qt.refl
  rw [if_neg h32] at hK
  simp (maxSteps := 1000000) (disch := omega) only [genAll, decAll, tk_nil, st89]
  refine loopK1 (fun v w' => ∃ i : Nat, v = .int .i64 i ∧ i ≤ hs.length ∧ chkAs none (hs.map attP) = chkAs (prevA (hs.map attP) i) ((hs.map attP).drop i) ∧ Qt w w') (fun v _ => hs.length - (intOf v).toNat) ⟨0, rfl, by omega, by simp [prevA], Qt.refl⟩ ?_
  rintro _ _ w1 ⟨i, rfl, hi, hlo, q1⟩
  by_cases hlt : i < hs.length
  · rw [chkAs_at (by rw [attP_len]; exact hlt), attP_getD] at hlo
    obtain ⟨g, o, rfl, z0, z1, z2, z3, z4⟩ := att_at (ha.1.quiet q1) hlt
    have hL := (ha.2.get hlt).quiet q1
    obtain ⟨n1, n2, n3⟩ := hz _ (getD_mem hlt)
    have hn1 : ((i : Int) - 1).toNat = i - 1 := by omega
    have hpr : 0 < i → ∀ w', Qt w w' → prevA (hs.map attP) i = some (hs.getD (i - 1) default).1 ∧ w'.cell? ⟨g, o + (i - 1) * 5, none⟩ = some (.string (hs.getD (i - 1) default).1) := fun h0 w' q => by
      obtain ⟨g', o', he, y0, _⟩ := att_at (ha.1.quiet q) (show i - 1 < hs.length by omega)
      cases he
      refine ⟨?_, y0⟩
      unfold prevA
      rw [if_neg (by omega), attP_getD]; rfl
    generalize (hs.getD (i - 1) default).1 = pn at *
    generalize hs.getD i default = h at *
    obtain ⟨nm, v, B, d⟩ := h
    have hlo : chkAs none (hs.map attP) = stepA (prevA (hs.map attP) i) (nm, v) (chkAs (prevA (hs.map attP) (i + 1)) ((hs.map attP).drop (i + 1))) := hlo
    simp only at n1 n2 n3 hL z0 z1 z2 z3 z4
    obtain ⟨q2, h2, s2⟩ := newb w1 #[.string nm, .int .i64 v.1, .int .i64 v.2.1, .string v.2.2.1, .slice B v.2.2.2.length d] 64
    simp (maxSteps := 1000000) (disch := omega) only [genAll, decAll, tk_nil, st89, z0, z1, z2, z3, z4]
    generalize (w1.alloc (.cells #[.string nm, .int .i64 v.1, .int .i64 v.2.1, .string v.2.2.1, .slice B v.2.2.2.length d] 64)) = w2 at *
    generalize w1.heap.size = b at *
    obtain ⟨x0, x1, x2, x3, x4⟩ := cell5 h2
    have q02 := q1.trans q2
    obtain ⟨l, hl, hd, hs'⟩ := txt_of nm
    have x0' := x0
    rw [hl] at x0'
    simp (maxSteps := 1000000) (disch := omega) only [genAll, decAll, tk_nil, st89, x0']
    refine ck87 (name_any ?_)
    rw [← hd]
    cases hnm : nameL nm.data.toList with
    | false =>
      rw [stepA_name hnm] at hlo
      rw [hlo] at hK
      simp (maxSteps := 1000000) (disch := omega) only [genAll, decAll, tk_nil, st89]
      exact hK _ q02
    | true =>
    simp (maxSteps := 1000000) (disch := omega) only [genAll, decAll, tk_nil, st89]
    have hc : (prevA (hs.map attP) i).all (fun q => ltS q nm) = decide (i = 0 ∨ ltS pn nm = true) := by
      by_cases h0 : i = 0
      · subst h0; simp [prevA]
      · rw [(hpr (by omega) w Qt.refl).1]
        simp [h0]
    cases hall : (prevA (hs.map attP) i).all (fun q => ltS q nm) with
    | false =>
      rw [stepA_twice hnm hall] at hlo
      rw [hlo] at hK
      rw [hall] at hc
      have hno := of_decide_eq_false hc.symm
      have hi0 : ¬ i = 0 := fun h => hno (.inl h)
      have hlt' : ltS pn nm = false := by
        cases h : ltS pn nm with
        | false => rfl
        | true => exact absurd (.inr h) hno
      have y0 := (hpr (by omega) w2 q02).2
      refine drawK_here ?_
      simp (maxSteps := 1000000) (disch := omega) only [genAll, decAll, tk_nil, st89, hn1, y0, x0, less_lt, hlt']
      exact hK _ (q02.trans (Qt.drew Qt.refl))
    | true =>
    rw [stepA_val hnm hall] at hlo
    rw [hall] at hc
    have hyes := of_decide_eq_true hc.symm
    refine drawK_here ?_
    have q02d : Qt w w2.drew := q02.trans (Qt.drew Qt.refl)
    by_cases hi0 : i = 0
    case' pos => simp (maxSteps := 1000000) (disch := omega) only [genAll, decAll, tk_nil, st89, x1, x2, x3, x4, takeG_u, guardK_u]
    case' neg =>
      have y0 := (hpr (by omega) w2 q02).2
      have hlt' : ltS pn nm = true := hyes.elim (fun h => absurd h hi0) (fun h => h)
      simp (maxSteps := 1000000) (disch := omega) only [genAll, decAll, tk_nil, st89, hn1, y0, x0, x1, x2, x3, x4, less_lt, hlt']
    all_goals
      refine ck111 (check13 (a := v) ((hL.quiet q2).quiet (Qt.drew Qt.refl)) n3 n2 ?_)
      intro w4 q4
      by_cases hv : checkV v = 0
      · have e : (checkV v != 0) = false := by rw [hv]; rfl
        rw [if_neg (fun h => h hv)] at hlo
        simp (maxSteps := 1000000) (disch := omega) only [genAll, decAll, tk_nil, st89, e]
        exact ⟨⟨i + 1, by go_num, by omega, hlo, q02d.trans q4⟩, by simp [rel, intOf]; omega⟩
      · have e : (checkV v != 0) = true := by rw [bne_iff_ne]; exact hv
        rw [if_pos hv] at hlo
        rw [hlo] at hK
        simp (maxSteps := 1000000) (disch := omega) only [genAll, decAll, tk_nil, st89, e]
        exact hK _ (q02d.trans q4)
  · rw [chkAs_end (by rw [attP_len]; omega)] at hlo
    rw [hlo] at hK
    simp (maxSteps := 1000000) (disch := omega) only [genAll, decAll, tk_nil, st89]
    exact hK _ q1
/-- What a row's places say: it is read, and its sizes are sizes. -/
structure RowGood (w : World) (key : ByteArray) (s : Stm) (A : Option Addr) (hs : List AttH) : Prop where
  atts : AttsAt w A hs
  sz : ∀ h ∈ hs, AttSz h
  few : hs.length ≤ 9223372036854775807
theorem RowGood.quiet {w w' : World} {key : ByteArray} {s : Stm} {A : Option Addr} {hs : List AttH} (h : RowGood w key s A hs) (q : Qt w w') : RowGood w' key s A hs := ⟨h.atts.quiet q, h.sz, h.few⟩
set_option maxHeartbeats 1000000 in
theorem checkR_any {key : ByteArray} {s : Stm} {hs : List AttH} {A : Option Addr} {c : Nat} {w : World} {K : Value → World → Prop} (hg : RowGood w key s A hs) (ho : s.2.2.2.size ≤ 20000) (hm : MaxAt w)
    (hK : ∀ w', Qt w w' → K (.int .i64 (checkR (key, s, hs.map attP))) w') : CallK Tryz.prog 44 #[rowV key s A hs.length c] K w := by
  refine F44_calls _ _ _ ?_; unfold F44
  unfold checkR at hK
  simp only at hK
  obtain ⟨q1, h1, s1⟩ := newb w #[.string key, .int .i64 s.1, .int .i64 s.2.1, .int .i64 s.2.2.1, .string s.2.2.2, .slice A hs.length c] 26
  simp (maxSteps := 1000000) (disch := omega) only [genAll, decAll, tk_nil, st44]
  generalize (w.alloc (.cells #[.string key, .int .i64 s.1, .int .i64 s.2.1, .int .i64 s.2.2.1, .string s.2.2.2, .slice A hs.length c] 26)) = w1 at *
  have X := fun w' (q : Qt w1 w') => cell6 (q.heap h1 (fun h => h))
  generalize w.heap.size = b at *
  obtain ⟨x0, x1, x2, x3, x4, x5⟩ := X w1 Qt.refl
  obtain ⟨l, hl, hd, hs'⟩ := txt_of key
  have x0' := x0
  rw [hl] at x0'
  simp (maxSteps := 1000000) (disch := omega) only [genAll, decAll, tk_nil, st44, x0']
  refine ck87 (name_any ?_)
  rw [← hd]
  cases hnm : nameL key.data.toList with
  | false =>
    simp only [hnm, if_true] at hK
    simp (maxSteps := 1000000) (disch := omega) only [genAll, decAll, tk_nil, st44]
    exact hK _ q1
  | true =>
  simp only [hnm, Bool.true_eq_false, if_false] at hK
  simp (maxSteps := 1000000) (disch := omega) only [genAll, decAll, tk_nil, st44, x1, x2, x3, x4]
  refine ck88 (checkS_any ho (hm.quiet q1) ?_)
  intro w2 q2
  obtain ⟨x0, x1, x2, x3, x4, x5⟩ := X w2 q2
  by_cases hv : checkS s = 0
  · have e : (checkS s != 0) = false := by rw [hv]; rfl
    rw [if_neg (fun h => h hv)] at hK
    simp (maxSteps := 1000000) (disch := omega) only [genAll, decAll, tk_nil, st44, e, x5]
    refine ck89 (attrs_any ((hg.atts.quiet q1).quiet q2) hg.sz ?_)
    intro w3 q3
    simp (maxSteps := 1000000) (disch := omega) only [genAll, decAll, tk_nil, st44]
    exact hK _ (q1.trans (q2.trans q3))
  · have e : (checkS s != 0) = true := by rw [bne_iff_ne]; exact hv
    rw [if_pos hv] at hK
    simp (maxSteps := 1000000) (disch := omega) only [genAll, decAll, tk_nil, st44, e]
    exact hK _ (q1.trans q2)
end Go.Proofs.YtpjeohellehgjaaGreatDoor
end

section
/- Rows: whether they are the same, by the program and by the document. Conditions: the rows read. -/
set_option linter.unusedVariables false
set_option linter.unusedSimpArgs false
set_option maxRecDepth 100000
namespace Go.Proofs.YtpjeohellehgjaaGreatDoor
open Go.RowKit Go.Cn
theorem beq_ba (x y : ByteArray) : (x.toList == y.toList) = decide (x = y) := by
  rw [ByteArray.toList_eq, ByteArray.toList_eq]
  by_cases h : x = y
  · rw [h, decide_eq_true rfl]; exact beq_self_eq_true _
  · rw [decide_eq_false h, beq_eq_false_iff_ne]; exact fun e => h (data_inj e)
set_option maxHeartbeats 1000000 in
theorem sameOne_any {a b : AttH} {w : World} {K : Value → World → Prop} (ra : Reads w a.2.2.1 (ints a.2.1.2.2.2)) (rb : Reads w b.2.2.1 (ints b.2.1.2.2.2)) (za : AttSz a) (zb : AttSz b)
    (hK : ∀ w', Qt w w' → K (.bool (decide (a.1 = b.1) && decide (cmpV a.2.1 b.2.1 = 0))) w') : CallK Tryz.prog 107 #[attV a, attV b] K w := by
  refine F107_calls _ _ _ _ ?_; unfold F107
  simp (maxSteps := 1000000) (disch := omega) only [genAll, decAll, tk_nil, st107]
  obtain ⟨na, va, A, c⟩ := a
  obtain ⟨nb, vb', B, d⟩ := b
  simp only at ra rb hK
  obtain ⟨_, _, z3⟩ := za
  obtain ⟨_, _, u3⟩ := zb
  simp only at z3 u3
  obtain ⟨q1, h1, e1⟩ := newb w #[.string na, .int .i64 va.1, .int .i64 va.2.1, .string va.2.2.1, .slice A va.2.2.2.length c] 64
  generalize (w.alloc (.cells #[.string na, .int .i64 va.1, .int .i64 va.2.1, .string va.2.2.1, .slice A va.2.2.2.length c] 64)) = w1 at *
  obtain ⟨q2, h2, e2⟩ := newb w1 #[.string nb, .int .i64 vb'.1, .int .i64 vb'.2.1, .string vb'.2.2.1, .slice B vb'.2.2.2.length d] 64
  generalize (w1.alloc (.cells #[.string nb, .int .i64 vb'.1, .int .i64 vb'.2.1, .string vb'.2.2.1, .slice B vb'.2.2.2.length d] 64)) = w2 at *
  rw [e1] at h2
  obtain ⟨x0, x1, x2, x3, x4⟩ := cell5 (q2.heap h1 (fun h => h))
  obtain ⟨y0, y1, y2, y3, y4⟩ := cell5 h2
  have q02 := q1.trans q2
  generalize w.heap.size = b at *
  by_cases hk : na = nb
  case neg =>
    rw [decide_eq_false hk] at hK
    simp (maxSteps := 1000000) (disch := omega) only [genAll, decAll, tk_nil, st107, x0, y0, beq_ba, decide_eq_false hk, guardK_u]
    exact hK _ q02
  rw [decide_eq_true hk] at hK
  simp (maxSteps := 1000000) (disch := omega) only [genAll, decAll, tk_nil, st107, x0, y0, x1, x2, x3, x4, y1, y2, y3, y4, beq_ba, decide_eq_true hk]
  refine ck108 (same19 (a := va) (b := vb') (ra.quiet q02) (rb.quiet q02) z3 u3 ?_)
  intro w3 q3
  simp (maxSteps := 1000000) (disch := omega) only [genAll, decAll, tk_nil, st107]
  exact hK _ (q02.trans q3)
set_option maxHeartbeats 2000000 in
theorem sameA_any {ha hb : List AttH} {A B : Option Addr} {c d : Nat} {w : World} {K : Value → World → Prop} (ra : AttsAt w A ha) (rb : AttsAt w B hb) (za : ∀ h ∈ ha, AttSz h) (zb : ∀ h ∈ hb, AttSz h) (la : ha.length ≤ 9223372036854775807) (lb : hb.length ≤ 9223372036854775807)
    (hK : ∀ w', Qt w w' → K (.bool (sameAs (ha.map attP) (hb.map attP))) w') : CallK Tryz.prog 86 #[.slice A ha.length c, .slice B hb.length d] K w := by
  refine F86_calls _ _ _ _ ?_; unfold F86
  refine ck106 ?_
  refine F106_calls _ _ _ _ _ ?_; unfold F106
  by_cases hn : ha.length = hb.length
  case neg =>
    have e : (((ha.length : Nat) : Int) != (hb.length : Nat)) = true := by rw [bne_iff_ne]; omega
    rw [sameAs_ne (by rw [attP_len, attP_len]; exact hn)] at hK
    simp (maxSteps := 1000000) (disch := omega) only [genAll, decAll, tk_nil, st106, e]
    exact hK w Qt.refl
  have e : (((ha.length : Nat) : Int) != (hb.length : Nat)) = false := by rw [hn]; simp
  simp (maxSteps := 1000000) (disch := omega) only [genAll, decAll, tk_nil, st106, e]
  refine loopK1 (fun v w' => ∃ i : Nat, v = .int .i64 i ∧ i ≤ ha.length ∧ sameAs (ha.map attP) (hb.map attP) = sameAs ((ha.map attP).drop i) ((hb.map attP).drop i) ∧ Qt w w') (fun v _ => ha.length - (intOf v).toNat) ⟨0, rfl, by omega, rfl, Qt.refl⟩ ?_
  rintro _ _ w1 ⟨i, rfl, hi, hlo, q1⟩
  by_cases hlt : i < ha.length
  · rw [sameAs_at (by rw [attP_len]; exact hlt) (by rw [attP_len]; omega), attP_getD, attP_getD] at hlo
    obtain ⟨g, o, rfl, z0, z1, z2, z3, z4⟩ := att_at (ra.1.quiet q1) hlt
    have hL := (ra.2.get hlt).quiet q1
    have sa := za _ (getD_mem hlt)
    have Z := fun w' (q : Qt w1 w') => att_at (rb.1.quiet (q1.trans q)) (show i < hb.length by omega)
    have hM := (rb.2.get (show i < hb.length by omega)).quiet q1
    have sb := zb _ (getD_mem (show i < hb.length by omega))
    obtain ⟨g2, o2, hB, _⟩ := Z w1 Qt.refl
    subst hB
    generalize ha.getD i default = a at *
    generalize hb.getD i default = b at *
    have hlo : sameAs (ha.map attP) (hb.map attP) = (decide (a.1 = b.1) && decide (cmpV a.2.1 b.2.1 = 0) && sameAs ((ha.map attP).drop (i + 1)) ((hb.map attP).drop (i + 1))) := hlo
    obtain ⟨q2, h2, e2⟩ := newb w1 #[.string a.1, .int .i64 a.2.1.1, .int .i64 a.2.1.2.1, .string a.2.1.2.2.1, .slice a.2.2.1 a.2.1.2.2.2.length a.2.2.2] 64
    simp (maxSteps := 1000000) (disch := omega) only [genAll, decAll, tk_nil, st106, z0, z1, z2, z3, z4]
    generalize (w1.alloc (.cells #[.string a.1, .int .i64 a.2.1.1, .int .i64 a.2.1.2.1, .string a.2.1.2.2.1, .slice a.2.2.1 a.2.1.2.2.2.length a.2.2.2] 64)) = w2 at *
    obtain ⟨_, _, he, y0, y1, y2, y3, y4⟩ := Z w2 q2
    cases he
    obtain ⟨q3, h3, e3⟩ := newb w2 #[.string b.1, .int .i64 b.2.1.1, .int .i64 b.2.1.2.1, .string b.2.1.2.2.1, .slice b.2.2.1 b.2.1.2.2.2.length b.2.2.2] 64
    simp (maxSteps := 1000000) (disch := omega) only [genAll, decAll, tk_nil, st106, y0, y1, y2, y3, y4]
    generalize (w2.alloc (.cells #[.string b.1, .int .i64 b.2.1.1, .int .i64 b.2.1.2.1, .string b.2.1.2.2.1, .slice b.2.2.1 b.2.1.2.2.2.length b.2.2.2] 64)) = w3 at *
    obtain ⟨u0, u1, u2, u3, u4⟩ := cell5 (q3.heap h2 (fun h => h))
    obtain ⟨v0, v1, v2, v3, v4⟩ := cell5 h3
    simp (maxSteps := 1000000) (disch := omega) only [genAll, decAll, tk_nil, st106, u0, u1, u2, u3, u4, v0, v1, v2, v3, v4]
    refine ck107 (sameOne_any (a := a) (b := b) (hL.quiet (q2.trans q3)) (hM.quiet (q2.trans q3)) sa sb ?_)
    intro w4 q4
    have q04 := q1.trans ((q2.trans q3).trans q4)
    cases hs : (decide (a.1 = b.1) && decide (cmpV a.2.1 b.2.1 = 0)) with
    | false =>
      rw [hs, Bool.false_and] at hlo
      rw [hlo] at hK
      simp (maxSteps := 1000000) (disch := omega) only [genAll, decAll, tk_nil, st106]
      exact hK _ q04
    | true =>
      rw [hs, Bool.true_and] at hlo
      simp (maxSteps := 1000000) (disch := omega) only [genAll, decAll, tk_nil, st106]
      exact ⟨⟨i + 1, by go_num, by omega, hlo, q04⟩, by simp [rel, intOf]; omega⟩
  · have e0 : (ha.map attP).drop i = [] := List.drop_eq_nil_of_le (by rw [attP_len]; omega)
    have e1 : (hb.map attP).drop i = [] := List.drop_eq_nil_of_le (by rw [attP_len]; omega)
    rw [e0, e1] at hlo
    rw [hlo] at hK
    simp (maxSteps := 1000000) (disch := omega) only [genAll, decAll, tk_nil, st106]
    exact hK _ q1
set_option maxHeartbeats 2000000 in
theorem sameAR_any {ha hb : List AttH} {A B : Option Addr} {c d : Nat} {w : World} {K : Value → World → Prop} (ra : AttsAt w A ha) (rb : AttsAt w B hb) (za : ∀ h ∈ ha, AttSz h) (zb : ∀ h ∈ hb, AttSz h) (la : ha.length ≤ 9223372036854775807) (lb : hb.length ≤ 9223372036854775807)
    (hK : ∀ w', Qt w w' → K (.bool (sameAs (ha.map attP) (hb.map attP))) w') : CallK Tryz.prog 49 #[.slice A ha.length c, .slice B hb.length d] K w := by
  refine F49_calls _ _ _ _ ?_; unfold F49
  by_cases hn : ha.length = hb.length
  case neg =>
    have e : (((ha.length : Nat) : Int) != (hb.length : Nat)) = true := by rw [bne_iff_ne]; omega
    rw [sameAs_ne (by rw [attP_len, attP_len]; exact hn)] at hK
    simp (maxSteps := 1000000) (disch := omega) only [genAll, decAll, tk_nil, st49, e]
    exact hK w Qt.refl
  have e : (((ha.length : Nat) : Int) != (hb.length : Nat)) = false := by rw [hn]; simp
  simp (maxSteps := 1000000) (disch := omega) only [genAll, decAll, tk_nil, st49, e]
  refine loopK1 (fun v w' => ∃ i : Nat, v = .int .i64 i ∧ i ≤ ha.length ∧ sameAs (ha.map attP) (hb.map attP) = sameAs ((ha.map attP).drop i) ((hb.map attP).drop i) ∧ Qt w w') (fun v _ => ha.length - (intOf v).toNat) ⟨0, rfl, by omega, rfl, Qt.refl⟩ ?_
  rintro _ _ w1 ⟨i, rfl, hi, hlo, q1⟩
  by_cases hlt : i < ha.length
  · rw [sameAs_at (by rw [attP_len]; exact hlt) (by rw [attP_len]; omega), attP_getD, attP_getD] at hlo
    have X := fun w' (q : Quiets w w') => att_at (Reads.quiet ra.1 q) hlt
    have Y := fun w' (q : Quiets w w') => att_at (Reads.quiet rb.1 q) (show i < hb.length by omega)
    have hL := (ra.2.get hlt).quiet q1
    have sa := za _ (getD_mem hlt)
    have hM := (rb.2.get (show i < hb.length by omega)).quiet q1
    have sb := zb _ (getD_mem (show i < hb.length by omega))
    obtain ⟨g, o, hA, _⟩ := X w Qt.refl
    obtain ⟨g2, o2, hB, _⟩ := Y w Qt.refl
    subst hA hB
    generalize ha.getD i default = a at *
    generalize hb.getD i default = b at *
    have hlo : sameAs (ha.map attP) (hb.map attP) = (decide (a.1 = b.1) && decide (cmpV a.2.1 b.2.1 = 0) && sameAs ((ha.map attP).drop (i + 1)) ((hb.map attP).drop (i + 1))) := hlo
    have X0 : ∀ w', Quiets w w' → w'.cell? ⟨g, o + i * 5, none⟩ = some (.string a.1) := fun w' q => by obtain ⟨_, _, he, h, _⟩ := X w' q; cases he; exact h
    have X1 : ∀ w', Quiets w w' → w'.cell? ⟨g, o + (i * 5 + 1), none⟩ = some (.int .i64 a.2.1.1) ∧ w'.cell? ⟨g, o + (i * 5 + 1) + 1, none⟩ = some (.int .i64 a.2.1.2.1) ∧ w'.cell? ⟨g, o + (i * 5 + 1) + 2, none⟩ = some (.string a.2.1.2.2.1) ∧ w'.cell? ⟨g, o + (i * 5 + 1) + 3, none⟩ = some (.slice a.2.2.1 a.2.1.2.2.2.length a.2.2.2) := fun w' q => by obtain ⟨_, _, he, _, h1, h2, h3, h4⟩ := X w' q; cases he; exact ⟨h1, h2, h3, h4⟩
    have Y0 : ∀ w', Quiets w w' → w'.cell? ⟨g2, o2 + i * 5, none⟩ = some (.string b.1) := fun w' q => by obtain ⟨_, _, he, h, _⟩ := Y w' q; cases he; exact h
    have Y1 : ∀ w', Quiets w w' → w'.cell? ⟨g2, o2 + (i * 5 + 1), none⟩ = some (.int .i64 b.2.1.1) ∧ w'.cell? ⟨g2, o2 + (i * 5 + 1) + 1, none⟩ = some (.int .i64 b.2.1.2.1) ∧ w'.cell? ⟨g2, o2 + (i * 5 + 1) + 2, none⟩ = some (.string b.2.1.2.2.1) ∧ w'.cell? ⟨g2, o2 + (i * 5 + 1) + 3, none⟩ = some (.slice b.2.2.1 b.2.1.2.2.2.length b.2.2.2) := fun w' q => by obtain ⟨_, _, he, _, h1, h2, h3, h4⟩ := Y w' q; cases he; exact ⟨h1, h2, h3, h4⟩
    have q1d : Qt w w1.drew := q1.trans (Qt.drew Qt.refl)
    have eab : Qt w1 w1.drew := Qt.drew Qt.refl
    simp (maxSteps := 1000000) (disch := omega) only [genAll, decAll, tk_nil, st49]
    refine drawQ w q1d ?_
    generalize w1.drew = wd at *
    by_cases hk : a.1 = b.1
    case neg =>
      rw [decide_eq_false hk, Bool.false_and, Bool.false_and] at hlo
      rw [hlo] at hK
      have e : (!decide (a.1 = b.1)) = true := by rw [decide_eq_false hk]; rfl
      simp (maxSteps := 1000000) (disch := omega) only [genAll, decAll, tk_nil, st49, qkld9 X0, qkld9 Y0, beq_ba, e, takeG_u, guardK_u]
      exact ⟨⟨q1d, hK _ q1d⟩, trivial⟩
    rw [decide_eq_true hk, Bool.true_and] at hlo
    have ek : (!decide (a.1 = b.1)) = false := by rw [decide_eq_true hk]; rfl
    simp (maxSteps := 1000000) (disch := omega) only [genAll, decAll, tk_nil, st49, qkld9 X0, qkld9 Y0, qkld72 X1, qkld72 Y1, beq_ba, ek]
    refine ⟨?_, trivial⟩
    refine ck38 (cmp14 (a := a.2.1) (b := b.2.1) (hL.quiet eab) (hM.quiet eab) sa.2.2 sb.2.2 ?_)
    intro w4 q4
    have q04 := q1d.trans q4
    by_cases hv : cmpV a.2.1 b.2.1 = 0
    · have e : (cmpV a.2.1 b.2.1 != 0) = false := by rw [hv]; rfl
      rw [decide_eq_true hv, Bool.true_and] at hlo
      simp (maxSteps := 1000000) (disch := omega) only [genAll, decAll, tk_nil, st49, e, beq_ba, ek]
      exact ⟨q04, ⟨i + 1, by go_num, by omega, hlo, q04⟩, by simp [rel, intOf]; omega⟩
    · have e : (cmpV a.2.1 b.2.1 != 0) = true := by rw [bne_iff_ne]; exact hv
      rw [decide_eq_false hv, Bool.false_and] at hlo
      rw [hlo] at hK
      simp (maxSteps := 1000000) (disch := omega) only [genAll, decAll, tk_nil, st49, e, beq_ba, ek]
      exact ⟨q04, hK _ q04⟩
  · have e0 : (ha.map attP).drop i = [] := List.drop_eq_nil_of_le (by rw [attP_len]; omega)
    have e1 : (hb.map attP).drop i = [] := List.drop_eq_nil_of_le (by rw [attP_len]; omega)
    rw [e0, e1] at hlo
    rw [hlo] at hK
    simp (maxSteps := 1000000) (disch := omega) only [genAll, decAll, tk_nil, st49]
    exact hK _ q1
set_option maxHeartbeats 2000000 in
theorem same_any {k1 k2 : ByteArray} {s1 s2 : Stm} {ha hb : List AttH} {A B : Option Addr} {c d : Nat} {w : World} {K : Value → World → Prop} (ga : RowGood w k1 s1 A ha) (gb : RowGood w k2 s2 B hb)
    (hK : ∀ w', Qt w w' → K (.bool (sameR (k1, s1, ha.map attP) (k2, s2, hb.map attP))) w') : CallK Tryz.prog 42 #[rowV k1 s1 A ha.length c, rowV k2 s2 B hb.length d] K w := by
  refine F42_calls _ _ _ _ ?_; unfold F42
  unfold sameR at hK
  simp only at hK
  simp (maxSteps := 1000000) (disch := omega) only [genAll, decAll, tk_nil, st42]
  obtain ⟨q1, h1, e1⟩ := newb w #[.string k1, .int .i64 s1.1, .int .i64 s1.2.1, .int .i64 s1.2.2.1, .string s1.2.2.2, .slice A ha.length c] 26
  generalize (w.alloc (.cells #[.string k1, .int .i64 s1.1, .int .i64 s1.2.1, .int .i64 s1.2.2.1, .string s1.2.2.2, .slice A ha.length c] 26)) = w1 at *
  obtain ⟨q2, h2, e2⟩ := newb w1 #[.string k2, .int .i64 s2.1, .int .i64 s2.2.1, .int .i64 s2.2.2.1, .string s2.2.2.2, .slice B hb.length d] 26
  generalize (w1.alloc (.cells #[.string k2, .int .i64 s2.1, .int .i64 s2.2.1, .int .i64 s2.2.2.1, .string s2.2.2.2, .slice B hb.length d] 26)) = w2 at *
  rw [e1] at h2
  have X := fun w' (q : Qt w2 w') => cell6 ((q2.trans q).heap h1 (fun h => h))
  have Y := fun w' (q : Qt w2 w') => cell6 (q.heap h2 (fun h => h))
  have q02 := q1.trans q2
  have hf := fun w' (q : Qt w2 w') => hK w' (q02.trans q)
  have ra := ga.atts.quiet q02
  have rb := gb.atts.quiet q02
  have za := ga.sz
  have zb := gb.sz
  have la := ga.few
  have lb := gb.few
  clear hK ga gb
  generalize w.heap.size = b at *
  obtain ⟨x0, x1, x2, x3, x4, x5⟩ := X w2 Qt.refl
  obtain ⟨y0, y1, y2, y3, y4, y5⟩ := Y w2 Qt.refl
  by_cases hk : k1 = k2
  case neg =>
    rw [decide_eq_false hk] at hf
    simp (maxSteps := 1000000) (disch := omega) only [genAll, decAll, tk_nil, st42, x0, y0, beq_ba, decide_eq_false hk, guardK_u]
    exact hf _ Qt.refl
  rw [decide_eq_true hk] at hf
  simp (maxSteps := 1000000) (disch := omega) only [genAll, decAll, tk_nil, st42, x0, y0, x1, x2, x3, x4, y1, y2, y3, y4, beq_ba, decide_eq_true hk]
  refine ck85 (cmpSt_any ?_)
  intro w3 q3
  obtain ⟨x0, x1, x2, x3, x4, x5⟩ := X w3 q3
  obtain ⟨y0, y1, y2, y3, y4, y5⟩ := Y w3 q3
  by_cases hv : cmpStm s1 s2 = 0
  case neg =>
    have e : (cmpStm s1 s2 == 0) = false := beq_eq_false_iff_ne.2 hv
    rw [decide_eq_false hv] at hf
    simp (maxSteps := 1000000) (disch := omega) only [genAll, decAll, tk_nil, st42, e, guardK_u]
    exact hf _ q3
  have e : (cmpStm s1 s2 == 0) = true := by rw [hv]; rfl
  rw [decide_eq_true hv] at hf
  simp (maxSteps := 1000000) (disch := omega) only [genAll, decAll, tk_nil, st42, e, x5, y5]
  refine ck86 (sameA_any (ra.quiet q3) (rb.quiet q3) za zb la lb ?_)
  intro w4 q4
  simp (maxSteps := 1000000) (disch := omega) only [genAll, decAll, tk_nil, st42]
  exact hf _ (q3.trans q4)
set_option maxHeartbeats 2000000 in
theorem sameR_any {k1 k2 : ByteArray} {s1 s2 : Stm} {ha hb : List AttH} {A B : Option Addr} {c d : Nat} {w : World} {K : Value → World → Prop} (ga : RowGood w k1 s1 A ha) (gb : RowGood w k2 s2 B hb)
    (hK : ∀ w', Qt w w' → K (.bool (sameR (k1, s1, ha.map attP) (k2, s2, hb.map attP))) w') : CallK Tryz.prog 14 #[rowV k1 s1 A ha.length c, rowV k2 s2 B hb.length d] K w := by
  refine F14_calls _ _ _ _ ?_; unfold F14
  unfold sameR at hK
  simp only at hK
  simp (maxSteps := 1000000) (disch := omega) only [genAll, decAll, tk_nil, st14]
  obtain ⟨q1, h1, e1⟩ := newb w #[.string k1, .int .i64 s1.1, .int .i64 s1.2.1, .int .i64 s1.2.2.1, .string s1.2.2.2, .slice A ha.length c] 38
  generalize (w.alloc (.cells #[.string k1, .int .i64 s1.1, .int .i64 s1.2.1, .int .i64 s1.2.2.1, .string s1.2.2.2, .slice A ha.length c] 38)) = w1 at *
  obtain ⟨q2, h2, e2⟩ := newb w1 #[.string k2, .int .i64 s2.1, .int .i64 s2.2.1, .int .i64 s2.2.2.1, .string s2.2.2.2, .slice B hb.length d] 38
  generalize (w1.alloc (.cells #[.string k2, .int .i64 s2.1, .int .i64 s2.2.1, .int .i64 s2.2.2.1, .string s2.2.2.2, .slice B hb.length d] 38)) = w2 at *
  rw [e1] at h2
  have X := fun w' (q : Qt w2 w') => cell6 ((q2.trans q).heap h1 (fun h => h))
  have Y := fun w' (q : Qt w2 w') => cell6 (q.heap h2 (fun h => h))
  have q02 := q1.trans q2
  have hf := fun w' (q : Qt w2 w') => hK w' (q02.trans q)
  have ra := ga.atts.quiet q02
  have rb := gb.atts.quiet q02
  have za := ga.sz
  have zb := gb.sz
  have la := ga.few
  have lb := gb.few
  clear hK ga gb
  generalize w.heap.size = b at *
  obtain ⟨x0, x1, x2, x3, x4, x5⟩ := X w2 Qt.refl
  obtain ⟨y0, y1, y2, y3, y4, y5⟩ := Y w2 Qt.refl
  by_cases hk : k1 = k2
  case neg =>
    rw [decide_eq_false hk] at hf
    simp (maxSteps := 1000000) (disch := omega) only [genAll, decAll, tk_nil, st14, x0, y0, beq_ba, decide_eq_false hk, guardK_u]
    exact hf _ Qt.refl
  rw [decide_eq_true hk] at hf
  simp (maxSteps := 1000000) (disch := omega) only [genAll, decAll, tk_nil, st14, x0, y0, x1, x2, x3, x4, y1, y2, y3, y4, beq_ba, decide_eq_true hk]
  refine ck48 (cmpStR_any ?_)
  intro w3 q3
  obtain ⟨x0, x1, x2, x3, x4, x5⟩ := X w3 q3
  obtain ⟨y0, y1, y2, y3, y4, y5⟩ := Y w3 q3
  by_cases hv : cmpStm s1 s2 = 0
  case neg =>
    have e : (cmpStm s1 s2 == 0) = false := beq_eq_false_iff_ne.2 hv
    rw [decide_eq_false hv] at hf
    simp (maxSteps := 1000000) (disch := omega) only [genAll, decAll, tk_nil, st14, e, guardK_u]
    exact hf _ q3
  have e : (cmpStm s1 s2 == 0) = true := by rw [hv]; rfl
  rw [decide_eq_true hv] at hf
  simp (maxSteps := 1000000) (disch := omega) only [genAll, decAll, tk_nil, st14, e, x5, y5]
  refine ck49 (sameAR_any (ra.quiet q3) (rb.quiet q3) za zb la lb ?_)
  intro w4 q4
  simp (maxSteps := 1000000) (disch := omega) only [genAll, decAll, tk_nil, st14]
  exact hf _ (q3.trans q4)
end Go.Proofs.YtpjeohellehgjaaGreatDoor
end

section
/- Own rows read. -/
set_option linter.unusedVariables false
set_option linter.unusedSimpArgs false
namespace Go.Proofs.YtpjeohellehgjaaGreatDoor
open Go.RowKit Go.Cn
theorem reads_own {w : World} {e : TypeId} {sz : Nat} {A : Option Addr} {n c : Nat} {xs : List Value} {F : Option Nat} (h : Own w e sz (.slice A n c) n xs F) : Reads w A xs := by
  rcases h with ⟨_, _, rfl, _⟩ | ⟨g, cap, hv, _, hr⟩
  · exact .inl rfl
  · cases hv
    refine .inr ⟨g, 0, rfl, fun j hj => ?_⟩
    have := hr.1
    rw [Nat.zero_add]
    exact hr.cell j (by rw [← this]; exact hj)
theorem own_cases {w : World} {e : TypeId} {sz : Nat} {A : Option Addr} {n c : Nat} {xs : List Value} {F : Option Nat} (h : Own w e sz (.slice A n c) n xs F) : (A = none ∧ n = 0 ∧ c = 0 ∧ xs = []) ∨ ∃ g, A = some ⟨g, 0, none⟩ ∧ F = some g ∧ n ≤ c ∧ c ≤ 9223372036854775807 := by
  obtain ⟨_, _, e, h1, h2⟩ := h.shape
  injection e with ea eb ec
  subst ec
  rcases h with ⟨e, h0, h3, h4⟩ | ⟨g, cap, e, hF, hr⟩
  · injection e with e1 e2 e3
    exact .inl ⟨e1, h0, e3, h3⟩
  · injection e with e1 e2 e3
    exact .inr ⟨g, e1, hF, h1, h2⟩
theorem own_block {w : World} {e : TypeId} {sz : Nat} {A : Option Addr} {n c B : Nat} {xs : List Value} {F : Option Nat} (h : Own w e sz (.slice A n c) n xs F) (hF : ∀ k, F = some k → B ≤ k) : ∀ ad, A = some ad → B ≤ ad.block := by
  intro ad ha
  rcases own_cases h with ⟨e, _⟩ | ⟨g, e, hf, _⟩
  · rw [e] at ha; cases ha
  · rw [e] at ha; cases ha; exact hF g hf
end Go.Proofs.YtpjeohellehgjaaGreatDoor
end

section
/- Rows told over to the document; few rows. Conditions: the rows read. -/
set_option linter.unusedVariables false
set_option linter.unusedSimpArgs false
set_option maxRecDepth 100000
namespace Go.Proofs.YtpjeohellehgjaaGreatDoor
open Go.RowKit Go.Cn
theorem infoAR : (Tryz.prog.info? 123).map (fun i => (i.zero, i.size, i.bytes)) = some (some (.agg #[.string ByteArray.empty, .int .i64 0, .int .i64 0, .string ByteArray.empty, .slice none 0 0]), 5, 72) := by kernel_rfl
theorem tyAR : ElemTy Tryz.prog 36 123 (.agg #[.string ByteArray.empty, .int .i64 0, .int .i64 0, .string ByteArray.empty, .slice none 0 0]) 5 72 := ElemTy.mk' Tryz.underlying36 infoAR rfl (by decide)
theorem infoRR : (Tryz.prog.info? 38).map (fun i => (i.zero, i.size, i.bytes)) = some (some (.agg #[.string ByteArray.empty, .int .i64 0, .int .i64 0, .int .i64 0, .string ByteArray.empty, .slice none 0 0]), 6, 80) := by kernel_rfl
theorem tyRR : ElemTy Tryz.prog 47 38 (.agg #[.string ByteArray.empty, .int .i64 0, .int .i64 0, .int .i64 0, .string ByteArray.empty, .slice none 0 0]) 6 80 := ElemTy.mk' Tryz.underlying47 infoRR rfl (by decide)
theorem att_snoc (hs : List AttH) (i : Nat) (hi : i < hs.length) : (hs.take (i + 1)).flatMap attC = (hs.take i).flatMap attC ++ attC (hs.getD i default) := by
  have e : hs.getD i default = hs[i] := by simp [hi]
  rw [e, List.take_succ_eq_append_getElem hi, List.flatMap_append]; simp
theorem row_snoc (rs : List RowH) (i : Nat) (hi : i < rs.length) : (rs.take (i + 1)).flatMap rowC = (rs.take i).flatMap rowC ++ rowC (rs.getD i default) := by
  have e : rs.getD i default = rs[i] := by simp [hi]
  rw [e, List.take_succ_eq_append_getElem hi, List.flatMap_append]; simp
set_option maxHeartbeats 2000000 in
theorem ofA_any {hs : List AttH} {A : Option Addr} {c : Nat} {w : World} {K : Value → World → Prop} (ha : AttsAt w A hs) (hn : hs.length ≤ 100000)
    (hK : ∀ A' c' F w', Own w' 123 5 (.slice A' hs.length c') hs.length (hs.flatMap attC) F → Qt w w' → (∀ k, F = some k → w.heap.size ≤ k) → K (.slice A' hs.length c') w') : CallK Tryz.prog 46 #[.slice A hs.length c] K w := by
  refine F46_calls _ _ _ ?_; unfold F46
  refine loopK2 (fun x v w' => ∃ (i : Nat) (A' : Option Addr) (c' : Nat) (F : Option Nat), v = .int .i64 i ∧ i ≤ hs.length ∧ x = .slice A' i c' ∧ Own w' 123 5 (.slice A' i c') i ((hs.take i).flatMap attC) F ∧ Qt w w' ∧ (∀ k, F = some k → w.heap.size ≤ k)) (fun _ v _ => hs.length - (intOf v).toNat) ⟨0, none, 0, none, rfl, by omega, rfl, Own.nil _ _ _, Qt.refl, fun _ h => by cases h⟩ ?_
  rintro _ _ _ w1 ⟨i, A1, c1, F1, rfl, hi, rfl, o1, q1, f1⟩
  by_cases hlt : i < hs.length
  · have X := fun w' (q : Quiets w w') => att_at (Reads.quiet ha.1 q) hlt
    obtain ⟨g, o, hA, _⟩ := X w Qt.refl
    subst hA
    have hsn := att_snoc hs i hlt
    generalize hs.getD i default = a at *
    have X0 : ∀ w', Quiets w w' → w'.cell? ⟨g, o + i * 5, none⟩ = some (.string a.1) := fun w' q => by obtain ⟨_, _, he, h, _⟩ := X w' q; cases he; exact h
    have X1 : ∀ w', Quiets w w' → w'.cell? ⟨g, o + (i * 5 + 1), none⟩ = some (.int .i64 a.2.1.1) ∧ w'.cell? ⟨g, o + (i * 5 + 1) + 1, none⟩ = some (.int .i64 a.2.1.2.1) ∧ w'.cell? ⟨g, o + (i * 5 + 1) + 2, none⟩ = some (.string a.2.1.2.2.1) ∧ w'.cell? ⟨g, o + (i * 5 + 1) + 3, none⟩ = some (.slice a.2.2.1 a.2.1.2.2.2.length a.2.2.2) := fun w' q => by obtain ⟨_, _, he, _, h1, h2, h3, h4⟩ := X w' q; cases he; exact ⟨h1, h2, h3, h4⟩
    have q1d : Qt w w1.drew := q1.trans (Qt.drew Qt.refl)
    have o1d := o1.chg (S := fun _ => False) (Qt.drew Qt.refl) (fun _ _ h => h)
    simp (maxSteps := 1000000) (disch := omega) only [genAll, decAll, tk_nil, st46]
    refine drawQ w q1d ?_
    generalize w1.drew = wd at *
    simp (maxSteps := 1000000) (disch := omega) only [genAll, decAll, tk_nil, st46, qkld9 X0, qkld61 X1]
    refine ⟨?_, trivial⟩
    refine ck29 (of12 (a := a.2.1) ?_)
    intro w2 q2
    have o2 := o1d.chg q2 (fun _ _ h => h)
    have q02 := q1d.trans q2
    obtain ⟨q3, h3, s3⟩ := newb w2 #[.string a.1, .int .i64 a.2.1.1, .int .i64 a.2.1.2.1, .string a.2.1.2.2.1, .slice a.2.2.1 a.2.1.2.2.2.length a.2.2.2] 123
    obtain ⟨A4, c4, F4, w4, p4, o4, k4, f4⟩ := pushN_run (P := Tryz.prog) tyAR (o2.chg q3 (fun _ _ h => h)) (attC a) rfl (attC_one a) h3 (by omega) (by omega) 36
    have q03 := q02.trans q3
    have q04 := Qt.then q03 k4 f1
    simp (maxSteps := 1000000) (disch := omega) only [genAll, decAll, tk_nil, st46]
    refine ⟨q02, ⟨q02, ⟨q03, ?_⟩, trivial⟩, trivial⟩
    refine ⟨?_, trivial⟩
    refine appK p4 ?_
    simp (maxSteps := 1000000) (disch := omega) only [genAll, decAll, tk_nil, st46]
    refine ⟨q04, ⟨i + 1, A4, c4, F4, by go_num, by omega, rfl, by rw [hsn]; exact o4, q04, fun k hk => ?_⟩, by simp [rel, intOf]; omega⟩
    rcases f4 k hk with h | h
    · exact f1 k h
    · have := q03.size; omega
  · obtain rfl : i = hs.length := by omega
    rw [List.take_length] at o1
    simp (maxSteps := 1000000) (disch := omega) only [genAll, decAll, tk_nil, st46]
    exact hK _ _ _ _ o1 q1 f1
theorem thereN {w : World} {b : Nat} {t : TypeId} {C : Array Value} {n : Nat} (h : w.heap[b]? = some (.cells C t (0, 0))) (hn : n ≤ C.size) : World.there w b 0 n := fun j hj => by
  rw [Nat.zero_add, blk_cell h, blk_frozen h j]
  exact ⟨by rw [Array.getElem?_eq_getElem (by omega)]; rfl, rfl⟩
theorem storeN {w : World} {b : Nat} {t : TypeId} {C : Array Value} (cs : List Value) (h : w.heap[b]? = some (.cells C t (0, 0))) (hn : cs.length = C.size) : (w.setCells b 0 cs).heap[b]? = some (.cells cs.toArray t (0, 0)) ∧ Chg (fun q => q = b) w (w.setCells b 0 cs) := by
  refine ⟨?_, Chg.sets⟩
  have := blk_setCells cs 0 w C h (by omega)
  rw [this]
  congr 2
  apply Array.ext'
  simp only [List.toList_toArray]
  obtain ⟨l⟩ := C
  have hl : cs.length = l.length := hn
  simp [List.take_of_length_le, List.drop_eq_nil_of_le, hl]
theorem aggStoreN {P : Program} {ty : TypeId} {b : Nat} {C : Array Value} {t : TypeId} {cs : List Value} {K : Value → World → Prop} {w : World} (h : w.heap[b]? = some (.cells C t (0, 0))) (hn : cs.length = C.size) (hi : (P.info? ty).map (·.size) = some cs.length) (h1 : ∀ u ∈ cs, u.oneCell' = true)
    (hK : K undef (w.setCells b 0 cs)) : StoreK P ty (.pointer (some ⟨b, 0, none⟩)) (.agg cs.toArray) K w :=
  aggStoreK (cells := cs.toArray) (thereN h (by simp; omega)) (by simpa using hi) (by rw [← Array.all_toList]; simpa using h1) (by simpa using hK)
end Go.Proofs.YtpjeohellehgjaaGreatDoor
end

section
/- A row, rows told over to the document; few rows. Conditions: the rows read. -/
set_option linter.unusedVariables false
set_option linter.unusedSimpArgs false
set_option maxRecDepth 100000
namespace Go.Proofs.YtpjeohellehgjaaGreatDoor
open Go.RowKit Go.Cn
set_option maxHeartbeats 2000000 in
theorem ofR_any {key : ByteArray} {s : Stm} {hs : List AttH} {A : Option Addr} {c : Nat} {w : World} {K : Value → World → Prop} (ha : AttsAt w A hs) (hn : hs.length ≤ 100000)
    (hK : ∀ A' c' w', AttsAt w' A' hs → Qt w w' → (∀ ad, A' = some ad → w.heap.size ≤ ad.block) → K (rowV key s A' hs.length c') w') : CallK Tryz.prog 12 #[rowV key s A hs.length c] K w := by
  refine F12_calls _ _ _ ?_; unfold F12
  simp (maxSteps := 1000000) (disch := omega) only [genAll, decAll, tk_nil, st12]
  obtain ⟨q1, h1, e1⟩ := newb w #[.string key, .int .i64 s.1, .int .i64 s.2.1, .int .i64 s.2.2.1, .string s.2.2.2, .slice A hs.length c] 26
  generalize (w.alloc (.cells #[.string key, .int .i64 s.1, .int .i64 s.2.1, .int .i64 s.2.2.1, .string s.2.2.2, .slice A hs.length c] 26)) = w1 at *
  obtain ⟨q2, h2, e2⟩ := newb w1 #[.string ByteArray.empty, .int .i64 0, .int .i64 0, .int .i64 0, .string ByteArray.empty, .slice none 0 0] 38
  generalize (w1.alloc (.cells #[.string ByteArray.empty, .int .i64 0, .int .i64 0, .int .i64 0, .string ByteArray.empty, .slice none 0 0] 38)) = w2 at *
  rw [e1] at h2
  have X := fun w' (q : Quiets w1 w') => cell6 (Chg.heap q h1 (fun h => h))
  generalize hb : w.heap.size = b at *
  have q2d : Qt w1 w2.drew := q2.trans (Qt.drew Qt.refl)
  have h2d := (Qt.drew (w := w2) Qt.refl).heap h2 (fun h => h)
  refine drawQ w1 q2d ?_
  generalize w2.drew = wd at *
  have X1 : ∀ w', Quiets w1 w' → w'.cell? ⟨b, 1, none⟩ = some (.int .i64 s.1) ∧ w'.cell? ⟨b, 1 + 1, none⟩ = some (.int .i64 s.2.1) ∧ w'.cell? ⟨b, 1 + 2, none⟩ = some (.int .i64 s.2.2.1) ∧ w'.cell? ⟨b, 1 + 3, none⟩ = some (.string s.2.2.2) := fun w' q => by
    obtain ⟨_, h1, h2, h3, h4, _⟩ := X w' q; exact ⟨h1, h2, h3, h4⟩
  simp (maxSteps := 1000000) (disch := omega) only [genAll, decAll, tk_nil, st12, qkld9 (fun w' q => (X w' q).1), qkld23 X1, qkld24 (fun w' q => (X w' q).2.2.2.2.2)]
  refine ⟨?_, trivial⟩
  refine ck31 (stOf_any ?_)
  intro w3 q3
  have q13 := q2d.trans q3
  simp (maxSteps := 1000000) (disch := omega) only [genAll, decAll, tk_nil, st12]
  refine ⟨q13, ?_, trivial⟩
  refine ck46 (ofA_any ((ha.quiet q1).quiet q13) hn ?_)
  intro A4 c4 F4 w4 o4 q4 f4
  have q14 := q13.trans q4
  have h4 := (q3.trans q4).heap h2d (fun h => h)
  simp (maxSteps := 1000000) (disch := omega) only [genAll, decAll, tk_nil, st12]
  refine ⟨q14, ⟨q14, ?_⟩, trivial⟩
  refine ⟨?_, trivial⟩
  have hst := storeN (w := w4) [.string key, .int .i64 s.1, .int .i64 s.2.1, .int .i64 s.2.2.1, .string s.2.2.2, .slice A4 hs.length c4] h4 rfl
  refine aggStoreN (cs := [.string key, .int .i64 s.1, .int .i64 s.2.1, .int .i64 s.2.2.1, .string s.2.2.2, .slice A4 hs.length c4]) h4 rfl (by kernel_rfl) (by intro u hu; simp at hu; rcases hu with rfl | rfl | rfl | rfl | rfl | rfl <;> rfl) ?_
  obtain ⟨h5, k5⟩ := hst
  have s3 := q13.size
  have q15 : Qt w1 (w4.setCells (b + 1) 0 [.string key, .int .i64 s.1, .int .i64 s.2.1, .int .i64 s.2.2.1, .string s.2.2.2, .slice A4 hs.length c4]) := Qt.then q14 k5 (fun k hk => by omega)
  generalize (w4.setCells (b + 1) 0 [.string key, .int .i64 s.1, .int .i64 s.2.1, .int .i64 s.2.2.1, .string s.2.2.2, .slice A4 hs.length c4]) = w5 at *
  have x5 := cell6 h5
  obtain ⟨x0, x1, x2, x3, x4, x5⟩ := x5
  have hfr := own_block o4 f4
  have s2 := blk_lt h2d
  have r5 : AttsAt w5 A4 hs := by
    refine ⟨(reads_own o4).chg k5 (fun ad h e => by have := hfr ad h; have := q3.size; omega), ?_⟩
    exact (ha.2.quiet q1).quiet q15
  simp (maxSteps := 1000000) (disch := omega) only [genAll, decAll, tk_nil, st12, x0, x1, x2, x3, x4, x5]
  exact ⟨q15, hK A4 c4 w5 r5 (q1.trans q15) (fun ad h => by have := hfr ad h; have := q1.size; omega)⟩
/-- Rows told one behind the other: none of them lies in the row's own block. -/
theorem attsSep_push {F F4 : Option Nat} {w3 : World} {A : Option Addr} {hs : List AttH} (h : AttsSep (fun k => F = some k) A hs) (ha : AttsAt w3 A hs) (f4 : ∀ k, F4 = some k → F = some k ∨ w3.heap.size ≤ k) : AttsSep (fun k => F4 = some k) A hs :=
  (h.or (ha.low (S := fun k => w3.heap.size ≤ k) (fun _ h => h))).mono f4
theorem rowP_map (rs rs' : List RowH) (r r' : RowH) (h : rs'.map rowP = rs.map rowP) (h2 : rowP r' = rowP r) : (rs' ++ [r']).map rowP = (rs ++ [r]).map rowP := by
  rw [List.map_append, List.map_append, h]; simp [h2]
set_option maxHeartbeats 2000000 in
theorem ofRows_any {rs : List RowH} {A : Option Addr} {c : Nat} {w : World} {K : Value → World → Prop} (ha : RowsAt w A rs) (hn : rs.length ≤ 100000) (hl : ∀ r ∈ rs, r.2.2.2.2.length ≤ 100000)
    (hK : ∀ A' c' rs' w', rs'.map rowP = rs.map rowP → RowsAt w' A' rs' → Qt w w' → K (.slice A' rs.length c') w') : CallK Tryz.prog 18 #[.slice A rs.length c] K w := by
  refine F18_calls _ _ _ ?_; unfold F18
  refine loopK2 (fun x v w' => ∃ (i : Nat) (A' : Option Addr) (c' : Nat) (F : Option Nat) (rs' : List RowH), v = .int .i64 i ∧ i ≤ rs.length ∧ x = .slice A' i c' ∧ rs'.map rowP = (rs.take i).map rowP ∧ Own w' 38 6 (.slice A' i c') i (rs'.flatMap rowC) F ∧ (∀ r ∈ rs', AttsAt w' r.2.2.1 r.2.2.2.2 ∧ AttsSep (fun k => F = some k) r.2.2.1 r.2.2.2.2) ∧ Qt w w' ∧ (∀ k, F = some k → w.heap.size ≤ k)) (fun _ v _ => rs.length - (intOf v).toNat) ⟨0, none, 0, none, [], rfl, by omega, rfl, rfl, Own.nil _ _ _, fun _ h => (by cases h), Qt.refl, fun _ h => by cases h⟩ ?_
  rintro _ _ _ w1 ⟨i, A1, c1, F1, rs', rfl, hi, rfl, hmap, o1, hr1, q1, f1⟩
  by_cases hlt : i < rs.length
  · obtain ⟨g, o, rfl, z0, z1, z2, z3, z4, z5⟩ := row_at (ha.1.quiet q1) hlt
    have hat := (ha.get hlt).quiet q1
    have hln := hl _ (getD_mem hlt)
    have htk : rs.take (i + 1) = rs.take i ++ [rs.getD i default] := by
      rw [List.take_succ_eq_append_getElem hlt]; simp [hlt]
    have hlow := ((ha.get hlt).2).low (S := fun k => w.heap.size ≤ k) (fun _ h => h)
    generalize rs.getD i default = r at *
    obtain ⟨key, s, B, d, hs⟩ := r
    simp only at z0 z1 z2 z3 z4 z5 hat hln hlow
    simp (maxSteps := 1000000) (disch := omega) only [genAll, decAll, tk_nil, st18, z0, z1, z2, z3, z4, z5]
    refine ck12 (ofR_any (c := d) hat hln ?_)
    intro B2 d2 w2 a2 q2 f2
    have o2 := o1.chg q2 (fun _ _ h => h)
    obtain ⟨q3, h3, s3⟩ := newb w2 #[.string key, .int .i64 s.1, .int .i64 s.2.1, .int .i64 s.2.2.1, .string s.2.2.2, .slice B2 hs.length d2] 38
    obtain ⟨A4, c4, F4, w4, p4, o4, k4, f4⟩ := pushN_run (P := Tryz.prog) tyRR (o2.chg q3 (fun _ _ h => h)) (rowC (key, s, B2, d2, hs)) rfl (rowC_one _) h3 (by omega) (by omega) 47
    simp (maxSteps := 1000000) (disch := omega) only [genAll, decAll, tk_nil, st18]
    generalize (w2.alloc (.cells #[.string key, .int .i64 s.1, .int .i64 s.2.1, .int .i64 s.2.2.1, .string s.2.2.2, .slice B2 hs.length d2] 38)) = w3 at *
    have q13 := q2.trans q3
    have q03 := q1.trans q13
    have q04 := Qt.then q03 k4 f1
    refine appK p4 ?_
    simp (maxSteps := 1000000) (disch := omega) only [genAll, decAll, tk_nil, st18]
    have f4' : ∀ k, F4 = some k → F1 = some k ∨ w3.heap.size ≤ k := fun k hk => (f4 k hk).elim .inl (fun h => .inr (by omega))
    refine ⟨⟨i + 1, A4, c4, F4, rs' ++ [(key, s, B2, d2, hs)], by go_num, by omega, rfl, ?_, ?_, ?_, q04, fun k hk => ?_⟩, by simp [rel, intOf]; omega⟩
    · rw [htk]; exact rowP_map _ _ _ _ hmap rfl
    · rw [List.flatMap_append]
      simpa using o4
    · intro r hr
      rcases List.mem_append.1 hr with hr | hr
      · obtain ⟨y1, y2⟩ := hr1 r hr
        have y3 := y1.quiet q13
        exact ⟨y3.sep k4 y2, attsSep_push y2 y3 f4'⟩
      · have : r = (key, s, B2, d2, hs) := by simpa using hr
        subst this
        have y3 := a2.quiet q3
        have y2 : AttsSep (fun k => F1 = some k) B2 hs := by
          refine ⟨fun hx ad h e => ?_, hlow.mono f1⟩
          have h1 := f2 ad h
          have h2 := o1.lt e
          omega
        exact ⟨y3.sep k4 y2, attsSep_push y2 y3 f4'⟩
    · rcases f4 k hk with h | h
      · exact f1 k h
      · have := q03.size; omega
  · obtain rfl : i = rs.length := by omega
    rw [List.take_length] at hmap
    simp (maxSteps := 1000000) (disch := omega) only [genAll, decAll, tk_nil, st18]
    exact hK _ _ rs' _ hmap ⟨reads_own o1, fun r hr => (hr1 r hr).1⟩ q1
/-- Few, and short. -/
def FewA (h : AttH) : Prop := h.1.size ≤ 100 ∧ h.2.1.2.2.1.size ≤ 200 ∧ h.2.1.2.2.2.length ≤ 40
set_option maxHeartbeats 2000000 in
theorem fewA_any {hs : List AttH} {A : Option Addr} {c : Nat} {w : World} {K : Value → World → Prop} (ha : AttsAt w A hs)
    (hK : ∀ (b : Bool) w', Qt w w' → (b = true → hs.length ≤ 40 ∧ ∀ h ∈ hs, FewA h) → K (.bool b) w') : CallK Tryz.prog 43 #[.slice A hs.length c] K w := by
  refine F43_calls _ _ _ ?_; unfold F43
  by_cases h40 : 40 < hs.length
  · simp (maxSteps := 1000000) (disch := omega) only [genAll, decAll, tk_nil, st43]
    exact hK false w Qt.refl (fun h => by cases h)
  simp (maxSteps := 1000000) (disch := omega) only [genAll, decAll, tk_nil, st43]
  refine loopK1 (fun v w' => ∃ i : Nat, v = .int .i64 i ∧ i ≤ hs.length ∧ (∀ j, j < i → FewA (hs.getD j default)) ∧ Qt w w') (fun v _ => hs.length - (intOf v).toNat) ⟨0, rfl, by omega, fun j h => by omega, Qt.refl⟩ ?_
  rintro _ _ w1 ⟨i, rfl, hi, hlo, q1⟩
  by_cases hlt : i < hs.length
  · obtain ⟨g, o, rfl, z0, z1, z2, z3, z4⟩ := att_at (ha.1.quiet q1) hlt
    have hnew : FewA (hs.getD i default) → ∀ j, j < i + 1 → FewA (hs.getD j default) := fun h j hj => by
      by_cases e : j = i
      · subst e; exact h
      · exact hlo j (by omega)
    generalize hs.getD i default = a at *
    by_cases h100 : 100 < a.1.size
    · simp (maxSteps := 1000000) (disch := omega) only [genAll, decAll, tk_nil, st43, z0, guardK_u]
      exact hK false _ q1 (fun h => by cases h)
    simp (maxSteps := 1000000) (disch := omega) only [genAll, decAll, tk_nil, st43, z0, z1, z2, z3, z4]
    refine ck24 (few10 (a := a.2.1) ?_)
    intro b w2 q2 hb
    cases b with
    | false =>
      simp (maxSteps := 1000000) (disch := omega) only [genAll, decAll, tk_nil, st43]
      exact hK false _ (q1.trans q2) (fun h => by cases h)
    | true =>
      obtain ⟨g1, g2⟩ := hb.1 rfl
      simp (maxSteps := 1000000) (disch := omega) only [genAll, decAll, tk_nil, st43]
      exact ⟨⟨i + 1, by go_num, by omega, hnew ⟨by omega, g1, g2⟩, q1.trans q2⟩, by simp [rel, intOf]; omega⟩
  · simp (maxSteps := 1000000) (disch := omega) only [genAll, decAll, tk_nil, st43]
    refine hK true _ q1 (fun _ => ⟨by omega, fun h hh => ?_⟩)
    obtain ⟨j, hj, rfl⟩ := List.mem_iff_getElem.1 hh
    have := hlo j (by omega)
    simpa [hj] using this
def FewR (r : RowH) : Prop := r.1.size ≤ 100 ∧ r.2.1.2.2.2.size ≤ 100 ∧ r.2.2.2.2.length ≤ 40 ∧ ∀ h ∈ r.2.2.2.2, FewA h
set_option maxHeartbeats 1000000 in
theorem fewR_any {key : ByteArray} {s : Stm} {hs : List AttH} {A : Option Addr} {c : Nat} {w : World} {K : Value → World → Prop} (ha : AttsAt w A hs)
    (hK : ∀ (b : Bool) w', Qt w w' → (b = true → FewR (key, s, A, c, hs)) → K (.bool b) w') : CallK Tryz.prog 9 #[rowV key s A hs.length c] K w := by
  refine F9_calls _ _ _ ?_; unfold F9
  simp (maxSteps := 1000000) (disch := omega) only [genAll, decAll, tk_nil, st9]
  obtain ⟨q1, h1, e1⟩ := newb w #[.string key, .int .i64 s.1, .int .i64 s.2.1, .int .i64 s.2.2.1, .string s.2.2.2, .slice A hs.length c] 26
  generalize (w.alloc (.cells #[.string key, .int .i64 s.1, .int .i64 s.2.1, .int .i64 s.2.2.1, .string s.2.2.2, .slice A hs.length c] 26)) = w1 at *
  obtain ⟨x0, x1, x2, x3, x4, x5⟩ := cell6 h1
  generalize w.heap.size = b at *
  by_cases g1 : key.size ≤ 100
  case neg =>
    simp (maxSteps := 1000000) (disch := omega) only [genAll, decAll, tk_nil, st9, x0, guardK_u]
    exact hK false _ q1 (fun h => by cases h)
  by_cases g2 : s.2.2.2.size ≤ 100
  case neg =>
    simp (maxSteps := 1000000) (disch := omega) only [genAll, decAll, tk_nil, st9, x0, x4, guardK_u]
    exact hK false _ q1 (fun h => by cases h)
  simp (maxSteps := 1000000) (disch := omega) only [genAll, decAll, tk_nil, st9, x0, x4, x5]
  refine ck43 (fewA_any (ha.quiet q1) ?_)
  intro b w2 q2 hb
  simp (maxSteps := 1000000) (disch := omega) only [genAll, decAll, tk_nil, st9]
  exact hK b _ (q1.trans q2) (fun h => ⟨g1, g2, (hb h).1, (hb h).2⟩)
set_option maxHeartbeats 2000000 in
theorem fewRows_any {rs : List RowH} {A : Option Addr} {c : Nat} {w : World} {K : Value → World → Prop} (ha : RowsAt w A rs)
    (hK : ∀ (b : Bool) w', Qt w w' → (b = true → rs.length ≤ 70 ∧ ∀ r ∈ rs, FewR r) → K (.bool b) w') : CallK Tryz.prog 15 #[.slice A rs.length c] K w := by
  refine F15_calls _ _ _ ?_; unfold F15
  by_cases h70 : 70 < rs.length
  · simp (maxSteps := 1000000) (disch := omega) only [genAll, decAll, tk_nil, st15]
    exact hK false w Qt.refl (fun h => by cases h)
  simp (maxSteps := 1000000) (disch := omega) only [genAll, decAll, tk_nil, st15]
  refine loopK1 (fun v w' => ∃ i : Nat, v = .int .i64 i ∧ i ≤ rs.length ∧ (∀ j, j < i → FewR (rs.getD j default)) ∧ Qt w w') (fun v _ => rs.length - (intOf v).toNat) ⟨0, rfl, by omega, fun j h => by omega, Qt.refl⟩ ?_
  rintro _ _ w1 ⟨i, rfl, hi, hlo, q1⟩
  by_cases hlt : i < rs.length
  · obtain ⟨g, o, rfl, z0, z1, z2, z3, z4, z5⟩ := row_at (ha.1.quiet q1) hlt
    have hat := (ha.get hlt).quiet q1
    have hnew : FewR (rs.getD i default) → ∀ j, j < i + 1 → FewR (rs.getD j default) := fun h j hj => by
      by_cases e : j = i
      · subst e; exact h
      · exact hlo j (by omega)
    generalize rs.getD i default = r at *
    obtain ⟨key, s, B, d, hs⟩ := r
    simp only at z0 z1 z2 z3 z4 z5 hat
    simp (maxSteps := 1000000) (disch := omega) only [genAll, decAll, tk_nil, st15, z0, z1, z2, z3, z4, z5]
    refine ck9 (fewR_any (c := d) hat ?_)
    intro b w2 q2 hb
    cases b with
    | false =>
      simp (maxSteps := 1000000) (disch := omega) only [genAll, decAll, tk_nil, st15]
      exact hK false _ (q1.trans q2) (fun h => by cases h)
    | true =>
      simp (maxSteps := 1000000) (disch := omega) only [genAll, decAll, tk_nil, st15]
      exact ⟨⟨i + 1, by go_num, by omega, hnew (hb rfl), q1.trans q2⟩, by simp [rel, intOf]; omega⟩
  · simp (maxSteps := 1000000) (disch := omega) only [genAll, decAll, tk_nil, st15]
    refine hK true _ q1 (fun _ => ⟨by omega, fun h hh => ?_⟩)
    obtain ⟨j, hj, rfl⟩ := List.mem_iff_getElem.1 hh
    have := hlo j (by omega)
    simpa [hj] using this
end Go.Proofs.YtpjeohellehgjaaGreatDoor
end

section
/- Values, stamps, rows out of bytes: what reading them tells; what was written is told back. No program in sight. -/
set_option linter.unusedVariables false
set_option linter.unusedSimpArgs false
set_option maxRecDepth 100000
namespace Go.Proofs.YtpjeohellehgjaaGreatDoor
open Go.RowKit Go.Cn Go.Cn.Num
theorem intD_put (n : Int) (h : in64 n) (r : List UInt8) : intD 0 (putInt n ++ r) = (n, 0, r) := by
  unfold intD putInt
  rw [num_put (zz n) (zz_lt n h.1 h.2) r, if_pos rfl, if_pos rfl, uz_zz]
theorem textD_put (s : List UInt8) (h : s.length ≤ 9223372036854775807) (r : List UInt8) : textD 0 (putText s ++ r) = (s, 0, r) := by
  unfold textD putText
  rw [List.append_assoc, intD_put _ ⟨by omega, by omega⟩]
  simp
  rw [if_neg (by omega), if_neg (by omega)]
theorem manyD_put (n : Nat) (most : Int) (h : (n : Int) ≤ most) (h64 : (n : Int) ≤ 9223372036854775807) (r : List UInt8) : manyD 0 (putInt n ++ r) most = ((n : Int), 0, r) := by
  unfold manyD
  rw [intD_put _ ⟨by omega, by omega⟩]
  simp
  omega
/-- Something read so often. -/
def manyF {α : Type} (f : Int → List UInt8 → α × Int × List UInt8) : Nat → Int → List UInt8 → List α × Int × List UInt8
  | 0, e, r => ([], e, r)
  | n + 1, e, r => let x := manyF f n e r; let y := f x.2.1 x.2.2; (x.1 ++ [y.1], y.2.1, y.2.2)
theorem manyF_len {α : Type} (f : Int → List UInt8 → α × Int × List UInt8) : ∀ (n : Nat) (e : Int) (r : List UInt8), (manyF f n e r).1.length = n
  | 0, e, r => rfl
  | n + 1, e, r => by rw [manyF]; simp [manyF_len f n e r]
theorem manyF_rest {α : Type} (f : Int → List UInt8 → α × Int × List UInt8) (hf : ∀ e r, (f e r).2.2.length ≤ r.length) : ∀ (n : Nat) (e : Int) (r : List UInt8), (manyF f n e r).2.2.length ≤ r.length
  | 0, e, r => Nat.le_refl _
  | n + 1, e, r => by
    rw [manyF]
    exact Nat.le_trans (hf _ _) (manyF_rest f hf n e r)
theorem manyF_put' {α β : Type} (f : Int → List UInt8 → α × Int × List UInt8) (enc : β → List UInt8) (g : β → α) (l : List β) (hf : ∀ x ∈ l, ∀ r, f 0 (enc x ++ r) = (g x, 0, r)) (r : List UInt8) : manyF f l.length 0 (l.flatMap enc ++ r) = (l.map g, 0, r) := by
  have key : ∀ n, n ≤ l.length → ∀ r, manyF f n 0 ((l.take n).flatMap enc ++ r) = ((l.take n).map g, 0, r) := by
    intro n
    induction n with
    | zero => intro _ r; simp [manyF]
    | succ n ih =>
      intro hn r
      have hlt : n < l.length := by omega
      rw [List.take_succ_eq_append_getElem hlt, manyF, List.flatMap_append, List.append_assoc, ih (by omega)]
      simp only [List.flatMap_cons, List.flatMap_nil, List.append_nil]
      rw [hf _ (List.getElem_mem hlt)]
      simp only [List.map_append, List.map_cons, List.map_nil]
  have := key l.length (Nat.le_refl _) r
  rwa [List.take_length] at this
/-- What was read, if nothing went wrong. -/
def wholeD {α : Type} (none : α) (x : α × Int × List UInt8) : α × Int × List UInt8 := (if x.2.1 = 0 then x.1 else none, x.2.1, x.2.2)
def valD0 (e : Int) (r : List UInt8) : Val × Int × List UInt8 :=
  let k := intD e r
  if k.1 = 1 then let x := intD k.2.1 k.2.2; ((1, x.1, ByteArray.empty, []), x.2.1, x.2.2)
  else if k.1 = 2 then let x := textD k.2.1 k.2.2; ((2, 0, txt x.1, []), x.2.1, x.2.2)
  else if k.1 = 3 then let m := manyD k.2.1 k.2.2 16; let x := manyF intD m.1.toNat m.2.1 m.2.2; ((3, 0, ByteArray.empty, x.1), x.2.1, x.2.2)
  else ((k.1, 0, ByteArray.empty, []), k.2.1, k.2.2)
def valD (e : Int) (r : List UInt8) : Val × Int × List UInt8 := wholeD v0 (valD0 e r)
def s0 : Stm := (0, 0, 0, ByteArray.empty)
def stmD0 (e : Int) (r : List UInt8) : Stm × Int × List UInt8 :=
  let a := intD e r; let b := intD a.2.1 a.2.2; let c := intD b.2.1 b.2.2; let d := textD c.2.1 c.2.2
  ((a.1, b.1, c.1, txt d.1), d.2.1, d.2.2)
def stmD (e : Int) (r : List UInt8) : Stm × Int × List UInt8 := wholeD s0 (stmD0 e r)
def attD (e : Int) (r : List UInt8) : Att × Int × List UInt8 := let a := textD e r; let b := valD a.2.1 a.2.2; ((txt a.1, b.1), b.2.1, b.2.2)
def r0 : RowD := (ByteArray.empty, s0, [])
def rowD0 (e : Int) (r : List UInt8) : RowD × Int × List UInt8 :=
  let k := textD e r; let s := stmD k.2.1 k.2.2; let m := manyD s.2.1 s.2.2 32; let x := manyF attD m.1.toNat m.2.1 m.2.2
  ((txt k.1, s.1, x.1), x.2.1, x.2.2)
def rowD (e : Int) (r : List UInt8) : RowD × Int × List UInt8 := wholeD r0 (rowD0 e r)
def rowsD (e : Int) (r : List UInt8) : List RowD × Int × List UInt8 := let m := manyD e r 64; manyF rowD m.1.toNat m.2.1 m.2.2
theorem valD_put (v : Val) (h1 : in64 v.1) (h2 : in64 v.2.1) (h3 : ∀ x ∈ v.2.2.2, in64 x) (h4 : v.1 = 3 → v.2.2.2.length ≤ 16) (h5 : v.2.2.1.size ≤ 9223372036854775807) (r : List UInt8) : valD 0 (valB v ++ r) = (normV v, 0, r) := by
  have key : valD0 0 (valB v ++ r) = (normV v, 0, r) := by
    obtain ⟨k, n, s, l⟩ := v
    simp only at h1 h2 h3 h4 h5
    have d21 : ((2 : Int) = 1) = False := by simp
    have d31 : ((3 : Int) = 1) = False := by simp
    have d32 : ((3 : Int) = 2) = False := by simp
    unfold valD0 valB normV
    simp only
    rw [List.append_assoc, intD_put _ h1]
    by_cases k1 : k = 1
    · subst k1
      simp only [if_true]
      rw [intD_put _ h2]; simp
    · by_cases k2 : k = 2
      · subst k2
        simp only [d21, if_true, if_false]
        rw [textD_put _ (by have : s.data.toList.length = s.size := rfl; omega)]; simp [txt_list]
      · by_cases k3 : k = 3
        · subst k3
          have hl := h4 rfl
          simp only [d31, d32, if_true, if_false]
          rw [List.append_assoc, manyD_put _ 16 (by omega) (by omega)]
          simp only [Int.toNat_natCast]
          rw [manyF_put' intD putInt id _ (fun x hx r => by rw [intD_put _ (h3 x hx)]; rfl)]
          simp
        · simp only [if_neg k1, if_neg k2, if_neg k3]; simp
  unfold valD wholeD
  rw [key]; rfl
theorem stmD_put (s : Stm) (h1 : in64 s.1) (h2 : in64 s.2.1) (h3 : in64 s.2.2.1) (h5 : s.2.2.2.size ≤ 9223372036854775807) (r : List UInt8) : stmD 0 (stmB s ++ r) = (s, 0, r) := by
  have key : stmD0 0 (stmB s ++ r) = (s, 0, r) := by
    unfold stmD0 stmB
    simp only [List.append_assoc]
    rw [intD_put _ h1, intD_put _ h2, intD_put _ h3, textD_put _ (by have : s.2.2.2.data.toList.length = s.2.2.2.size := rfl; omega)]
    simp only [txt_list]
  unfold stmD wholeD
  rw [key]; rfl
/-- What a row's numbers are, and its texts. -/
def AttOk (a : Att) : Prop := a.1.size ≤ 9223372036854775807 ∧ in64 a.2.1 ∧ in64 a.2.2.1 ∧ (∀ x ∈ a.2.2.2.2, in64 x) ∧ a.2.2.2.1.size ≤ 9223372036854775807
def StmOk (s : Stm) : Prop := in64 s.1 ∧ in64 s.2.1 ∧ in64 s.2.2.1 ∧ s.2.2.2.size ≤ 9223372036854775807
def RowOk (r : RowD) : Prop := r.1.size ≤ 9223372036854775807 ∧ StmOk r.2.1 ∧ ∀ a ∈ r.2.2, AttOk a
theorem attD_put (a : Att) (h : AttOk a) (h4 : a.2.1 = 3 → a.2.2.2.2.length ≤ 16) (r : List UInt8) : attD 0 (attB a ++ r) = (normA a, 0, r) := by
  unfold attD attB
  obtain ⟨g1, g2, g3, g4, g5⟩ := h
  rw [List.append_assoc, textD_put _ (by have : a.1.data.toList.length = a.1.size := rfl; omega)]
  simp only
  rw [valD_put _ g2 g3 g4 h4 g5]
  simp only [txt_list]; rfl
theorem rowD_put (x : RowD) (h : RowOk x) (hn : x.2.2.length ≤ 32) (h4 : ∀ a ∈ x.2.2, a.2.1 = 3 → a.2.2.2.2.length ≤ 16) (r : List UInt8) : rowD 0 (rowB x ++ r) = (normR x, 0, r) := by
  obtain ⟨g1, g2, g3⟩ := h
  have key : rowD0 0 (rowB x ++ r) = (normR x, 0, r) := by
    unfold rowD0 rowB
    simp only [List.append_assoc]
    rw [textD_put _ (by have : x.1.data.toList.length = x.1.size := rfl; omega)]
    simp only
    rw [stmD_put _ g2.1 g2.2.1 g2.2.2.1 g2.2.2.2]
    simp only
    rw [manyD_put _ 32 (by omega) (by omega)]
    simp only [Int.toNat_natCast]
    rw [manyF_put' attD attB normA _ (fun a ha r => attD_put a (g3 a ha) (h4 a ha) r)]
    simp only [txt_list]; rfl
  unfold rowD wholeD
  rw [key]; rfl
theorem rowsD_put (l : List RowD) (hn : l.length ≤ 64) (h : ∀ x ∈ l, RowOk x ∧ x.2.2.length ≤ 32 ∧ ∀ a ∈ x.2.2, a.2.1 = 3 → a.2.2.2.2.length ≤ 16) (r : List UInt8) : rowsD 0 (rowsB l ++ r) = (l.map normR, 0, r) := by
  unfold rowsD rowsB
  rw [List.append_assoc, manyD_put _ 64 (by omega) (by omega)]
  simp only [Int.toNat_natCast]
  exact manyF_put' rowD rowB normR _ (fun x hx r => rowD_put x (h x hx).1 (h x hx).2.1 (h x hx).2.2 r) r
theorem textD_len (e : Int) (r : List UInt8) : (textD e r).2.2.length ≤ r.length ∧ (textD e r).1.length ≤ r.length := by
  have h := intD_len e r
  unfold textD
  split
  · exact ⟨h, by simp⟩
  · split
    · exact ⟨h, by simp⟩
    · split
      · exact ⟨h, by simp⟩
      · exact ⟨by simp; omega, by simp; omega⟩
theorem manyD_len (e most : Int) (r : List UInt8) : (manyD e r most).2.2.length ≤ r.length := by
  have h := intD_len e r
  unfold manyD
  split
  · exact h
  · split <;> exact h
theorem manyD_in (e most : Int) (r : List UInt8) (h : 0 ≤ most) : 0 ≤ (manyD e r most).1 ∧ (manyD e r most).1 ≤ most := by
  unfold manyD
  split
  · simp [h]
  · split
    · simp [h]
    · rename_i h1
      simp only; omega
theorem valD_len (e : Int) (r : List UInt8) : (valD e r).2.2.length ≤ r.length := by
  have h0 := intD_len e r
  show (valD0 e r).2.2.length ≤ _
  unfold valD0
  simp only
  split
  · exact Nat.le_trans (intD_len _ _) h0
  · split
    · exact Nat.le_trans (textD_len _ _).1 h0
    · split
      · exact Nat.le_trans (manyF_rest intD intD_len _ _ _) (Nat.le_trans (manyD_len _ _ _) h0)
      · exact h0
theorem stmD_len (e : Int) (r : List UInt8) : (stmD e r).2.2.length ≤ r.length :=
  Nat.le_trans (textD_len _ _).1 (Nat.le_trans (intD_len _ _) (Nat.le_trans (intD_len _ _) (intD_len _ _)))
theorem attD_len (e : Int) (r : List UInt8) : (attD e r).2.2.length ≤ r.length := Nat.le_trans (valD_len _ _) (textD_len _ _).1
theorem rowD_len (e : Int) (r : List UInt8) : (rowD e r).2.2.length ≤ r.length :=
  Nat.le_trans (manyF_rest attD attD_len _ _ _) (Nat.le_trans (manyD_len _ _ _) (Nat.le_trans (stmD_len _ _) (textD_len _ _).1))
end Go.Proofs.YtpjeohellehgjaaGreatDoor
end

section
/- Values, stamps, rows in bytes: the document's. Conditions: the rows read, the numbers are int64, the sizes small. -/
set_option linter.unusedVariables false
set_option linter.unusedSimpArgs false
set_option maxRecDepth 100000
namespace Go.Proofs.YtpjeohellehgjaaGreatDoor
open Go.RowKit Go.Cn Go.Cn.Num
/-- Bytes of one's own. -/
abbrev OwnB (w : World) (bs : List UInt8) (A : Option Addr) (c : Nat) (F : Option Nat) : Prop := Own w 5 1 (.slice A bs.length c) bs.length (bs.map vb) F
theorem appB {xs ys : List UInt8} {A B : Option Addr} {c d : Nat} {F : Option Nat} {w : World} {K : Value → World → Prop} (o : OwnB w xs A c F) (r : Reads w B (ys.map vb)) (hsz : xs.length + ys.length ≤ 100000000)
    (hK : ∀ A' c' F' w', OwnB w' (xs ++ ys) A' c' F' → Chg (fun k => F = some k) w w' → (∀ k, F' = some k → F = some k ∨ w.heap.size ≤ k) → K (.slice A' (xs ++ ys).length c') w') :
    BuiltinK Tryz.prog .append #[29, 29] 29 #[false, false] #[.slice A xs.length c, .slice B ys.length d] (@Cn.hid _ ⟨K⟩) w := by
  obtain ⟨A', cap, F', w', p, o', k, f⟩ := app_run (P := Tryz.prog) tyU8 o B ys.length d (ys.map vb) (by simp) r.src (vb_one ys) (by omega) (by omega) 29
  refine appK p ?_
  have e : xs.length + ys.length = (xs ++ ys).length := by simp
  rw [e] at o' ⊢
  rw [← List.map_append] at o'
  exact hK _ _ _ _ o' k (fun i hi => (f i hi).elim .inl (fun h => .inr (by omega)))
theorem ownB_quiet {w w' : World} {bs : List UInt8} {A : Option Addr} {c : Nat} {F : Option Nat} (o : OwnB w bs A c F) (q : Qt w w') : OwnB w' bs A c F := o.chg q (fun _ _ h => h)
theorem up_qt {w w1 w' : World} {F F' : Option Nat} (q : Qt w w1) (k : Chg (fun k => F = some k) w1 w') (f : ∀ k, F = some k → w.heap.size ≤ k) (f' : ∀ k, F' = some k → F = some k ∨ w1.heap.size ≤ k) : Qt w w' ∧ ∀ k, F' = some k → w.heap.size ≤ k :=
  ⟨Qt.then q k f, fun i hi => (f' i hi).elim (f i) (fun h => Nat.le_trans q.size h)⟩
theorem ints_snoc (l : List Int) (i : Nat) (hi : i < l.length) : (l.take (i + 1)).flatMap putInt = (l.take i).flatMap putInt ++ putInt (l.getD i 0) := by
  have e : l.getD i 0 = l[i] := by simp [hi]
  rw [e, List.take_succ_eq_append_getElem hi, List.flatMap_append]; simp
theorem ints_len (l : List Int) (i : Nat) (h : ∀ x ∈ l, in64 x) : ((l.take i).flatMap putInt).length ≤ l.length * 10 := by
  have h1 := flat_putInt_len (l.take i) (fun x hx => h x (List.mem_of_mem_take hx))
  have h2 : (l.take i).length ≤ l.length := by rw [List.length_take]; omega
  have := Nat.mul_le_mul_right 10 h2
  omega
theorem pI_len {n : Int} (h : in64 n) : (putInt n).length ≤ 10 := (putInt_len n h.1 h.2).2
theorem in64_nat {n : Nat} (h : n ≤ 1000000) : in64 (n : Int) := ⟨by omega, by omega⟩
set_option maxHeartbeats 4000000 in
theorem putVR_any {v : Val} {A : Option Addr} {c : Nat} {w : World} {K : Value → World → Prop} (hr : Reads w A (ints v.2.2.2)) (h1 : in64 v.1) (h2 : in64 v.2.1) (h3 : ∀ x ∈ v.2.2.2, in64 x) (h4 : v.2.2.2.length ≤ 1000) (h5 : v.2.2.1.size ≤ 100000)
    (hK : ∀ A' c' F w', OwnB w' (valB v) A' c' F → Qt w w' → (∀ k, F = some k → w.heap.size ≤ k) → K (.slice A' (valB v).length c') w') : CallK Tryz.prog 28 #[vv v A c] K w := by
  refine F28_calls _ _ _ ?_; unfold F28
  simp (maxSteps := 1000000) (disch := omega) only [genAll, decAll, tk_nil, st28]
  obtain ⟨q1, b1⟩ := box4 w v A c 72
  generalize (w.alloc (.cells #[.int .i64 v.1, .int .i64 v.2.1, .string v.2.2.1, .slice A v.2.2.2.length c] 72)) = w1 at *
  have X := fun w' (q : Qt w1 w') => cell4 (q.heap b1 (fun h => h))
  have hs1 := q1.size
  generalize hb : w.heap.size = b at *
  obtain ⟨x0, x1, x2, x3⟩ := X w1 Qt.refl
  simp (maxSteps := 1000000) (disch := omega) only [genAll, decAll, tk_nil, st28, x0]
  refine ck54 (putInt_any h1.1 h1.2 ?_)
  intro A2 c2 F2 w2 o2 q2 f2
  have hl1 := pI_len h1
  obtain ⟨x0, x1, x2, x3⟩ := X w2 q2
  have f2' : ∀ k, F2 = some k → b ≤ k := fun k hk => by have := f2 k hk; omega
  have q02 := q1.trans q2
  unfold valB at hK
  by_cases k1 : v.1 = 1
  · have e1 : (v.1 == 1) = true := by rw [k1]; rfl
    rw [if_pos k1] at hK
    simp (maxSteps := 1000000) (disch := omega) only [genAll, decAll, tk_nil, st28, x0, e1, x1]
    refine ck54 (putInt_any h2.1 h2.2 ?_)
    intro A3 c3 F3 w3 o3 q3 f3
    have hl2 := pI_len h2
    simp (maxSteps := 1000000) (disch := omega) only [genAll, decAll, tk_nil, st28]
    refine appB (ownB_quiet o2 q3) (reads_own o3) (by omega) ?_
    intro A4 c4 F4 w4 o4 k4 f4
    obtain ⟨q04, g4⟩ := up_qt (q02.trans q3) k4 (by rw [hb]; exact f2') f4
    exact hK _ _ _ _ o4 q04 (by rw [← hb]; exact g4)
  · have e1 : (v.1 == 1) = false := beq_eq_false_iff_ne.2 k1
    rw [if_neg k1] at hK
    by_cases k2 : v.1 = 2
    · have e2 : (v.1 == 2) = true := by rw [k2]; rfl
      rw [if_pos k2] at hK
      simp (maxSteps := 1000000) (disch := omega) only [genAll, decAll, tk_nil, st28, x0, e1, e2, x2]
      refine ck69 (putText_any (by omega) ?_)
      intro A3 c3 F3 w3 o3 q3 f3
      have hl2 := putText_len v.2.2.1.data.toList (by have : v.2.2.1.data.toList.length = v.2.2.1.size := rfl; omega)
      have hl3 : v.2.2.1.data.toList.length = v.2.2.1.size := rfl
      simp (maxSteps := 1000000) (disch := omega) only [genAll, decAll, tk_nil, st28]
      refine appB (ownB_quiet o2 q3) (reads_own o3) (by omega) ?_
      intro A4 c4 F4 w4 o4 k4 f4
      obtain ⟨q04, g4⟩ := up_qt (q02.trans q3) k4 (by rw [hb]; exact f2') f4
      exact hK _ _ _ _ o4 q04 (by rw [← hb]; exact g4)
    · have e2 : (v.1 == 2) = false := beq_eq_false_iff_ne.2 k2
      rw [if_neg k2] at hK
      by_cases k3 : v.1 = 3
      · have e3 : (v.1 == 3) = true := by rw [k3]; rfl
        rw [if_pos k3] at hK
        have hln := in64_nat (n := v.2.2.2.length) (by omega)
        simp (maxSteps := 1000000) (disch := omega) only [genAll, decAll, tk_nil, st28, x0, e1, e2, e3, x3]
        refine ck54 (putInt_any hln.1 hln.2 ?_)
        intro A3 c3 F3 w3 o3 q3 f3
        have hl2 := pI_len hln
        simp (maxSteps := 1000000) (disch := omega) only [genAll, decAll, tk_nil, st28]
        refine appB (ownB_quiet o2 q3) (reads_own o3) (by omega) ?_
        intro A4 c4 F4 w4 o4 k4 f4
        obtain ⟨q04, g4⟩ := up_qt (q02.trans q3) k4 (by rw [hb]; exact f2') f4
        rw [hb] at g4
        have q14 : Qt w1 w4 := Qt.then (q2.trans q3) k4 f2
        have g4' : ∀ k, F4 = some k → w1.heap.size ≤ k := fun k hk => (f4 k hk).elim (f2 k) (fun h => by have := (q2.trans q3).size; omega)
        generalize hl : v.2.2.2 = l at *
        refine loopK2 (fun x u w' => ∃ (i : Nat) (A' : Option Addr) (c' : Nat) (F : Option Nat), u = .int .i64 i ∧ i ≤ l.length ∧ x = .slice A' (putInt v.1 ++ putInt l.length ++ (l.take i).flatMap putInt).length c' ∧ OwnB w' (putInt v.1 ++ putInt l.length ++ (l.take i).flatMap putInt) A' c' F ∧ Qt w1 w' ∧ (∀ k, F = some k → w1.heap.size ≤ k)) (fun _ u _ => l.length - (intOf u).toNat) ⟨0, A4, c4, F4, rfl, by omega, by simp, by simpa using o4, q14, g4'⟩ ?_
        rintro _ _ _ w5 ⟨i, A5, c5, F5, rfl, hi, rfl, o5, q5, f5⟩
        obtain ⟨x0, x1, x2, x3⟩ := X w5 q5
        by_cases hlt : i < l.length
        · obtain ⟨g, o, hA, z⟩ := int_at ((hr.quiet q1).quiet q5) hlt
          subst hA
          have hx := h3 _ (getD_mem hlt)
          have hx : in64 (l.getD i 0) := hx
          have hsn := ints_snoc l i hlt
          have hsz := ints_len l i h3
          generalize l.getD i 0 = n at *
          simp (maxSteps := 1000000) (disch := omega) only [genAll, decAll, tk_nil, st28, x3, z]
          refine ck54 (putInt_any hx.1 hx.2 ?_)
          intro A6 c6 F6 w6 o6 q6 f6
          have hl6 := pI_len hx
          simp (maxSteps := 1000000) (disch := omega) only [genAll, decAll, tk_nil, st28]
          refine appB (ownB_quiet o5 q6) (reads_own o6) (by simp only [List.length_append]; omega) ?_
          intro A7 c7 F7 w7 o7 k7 f7
          obtain ⟨q17, g7⟩ := up_qt (q5.trans q6) k7 f5 f7
          simp (maxSteps := 1000000) (disch := omega) only [genAll, decAll, tk_nil, st28]
          rw [List.append_assoc (putInt v.1 ++ putInt l.length), ← hsn] at o7 ⊢
          exact ⟨⟨i + 1, A7, c7, F7, by go_num, by omega, rfl, o7, q17, g7⟩, by simp [rel, intOf]; omega⟩
        · obtain rfl : i = l.length := by omega
          rw [List.take_length, List.append_assoc] at o5 ⊢
          simp (maxSteps := 1000000) (disch := omega) only [genAll, decAll, tk_nil, st28, x3]
          exact hK _ _ _ _ o5 (q1.trans q5) (fun k hk => by have := f5 k hk; omega)
      · have e3 : (v.1 == 3) = false := beq_eq_false_iff_ne.2 k3
        rw [if_neg k3] at hK
        simp (maxSteps := 1000000) (disch := omega) only [genAll, decAll, tk_nil, st28, x0, e1, e2, e3]
        rw [List.append_nil] at hK
        exact hK _ _ _ _ o2 q02 f2'
end Go.Proofs.YtpjeohellehgjaaGreatDoor
end

section
/- The document's Check of rows. Conditions: the rows read. -/
set_option linter.unusedVariables false
set_option linter.unusedSimpArgs false
set_option maxRecDepth 100000
namespace Go.Proofs.YtpjeohellehgjaaGreatDoor
open Go.RowKit Go.Cn
set_option maxHeartbeats 4000000 in
theorem checkRR_any {key : ByteArray} {s : Stm} {hs : List AttH} {A : Option Addr} {c : Nat} {w : World} {K : Value → World → Prop} (hg : RowGood w key s A hs) (ho : s.2.2.2.size ≤ 20000)
    (hK : ∀ w', Qt w w' → K (.int .i64 (checkR (key, s, hs.map attP))) w') : CallK Tryz.prog 41 #[rowV key s A hs.length c] K w := by
  refine F41_calls _ _ _ ?_; unfold F41
  unfold checkR at hK
  simp only at hK
  obtain ⟨q1, h1, s1⟩ := newb w #[.string key, .int .i64 s.1, .int .i64 s.2.1, .int .i64 s.2.2.1, .string s.2.2.2, .slice A hs.length c] 38
  simp (maxSteps := 1000000) (disch := omega) only [genAll, decAll, tk_nil, st41]
  generalize (w.alloc (.cells #[.string key, .int .i64 s.1, .int .i64 s.2.1, .int .i64 s.2.2.1, .string s.2.2.2, .slice A hs.length c] 38)) = w1 at *
  have X := fun w' (q : Qt w1 w') => cell6 (q.heap h1 (fun h => h))
  generalize w.heap.size = b at *
  obtain ⟨x0, x1, x2, x3, x4, x5⟩ := X w1 Qt.refl
  obtain ⟨l, hl, hd, hs'⟩ := txt_of key
  have x0' := x0
  rw [hl] at x0'
  simp (maxSteps := 1000000) (disch := omega) only [genAll, decAll, tk_nil, st41, x0']
  refine ck82 (nameR_any ?_)
  rw [← hd]
  cases hnm : nameL key.data.toList with
  | false =>
    simp only [hnm, if_true] at hK
    simp (maxSteps := 1000000) (disch := omega) only [genAll, decAll, tk_nil, st41]
    exact hK _ q1
  | true =>
  simp only [hnm, Bool.true_eq_false, if_false] at hK
  simp (maxSteps := 1000000) (disch := omega) only [genAll, decAll, tk_nil, st41, x1, x2, x3, x4]
  refine ck83 (checkSR_any ho ?_)
  intro w2 q2
  obtain ⟨x0, x1, x2, x3, x4, x5⟩ := X w2 q2
  by_cases hv : checkS s = 0
  case neg =>
    have e : (checkS s != 0) = true := by rw [bne_iff_ne]; exact hv
    rw [if_pos hv] at hK
    simp (maxSteps := 1000000) (disch := omega) only [genAll, decAll, tk_nil, st41, e]
    exact hK _ (q1.trans q2)
  have e : (checkS s != 0) = false := by rw [hv]; rfl
  rw [if_neg (fun h => h hv)] at hK
  unfold checkAs at hK
  rw [attP_len] at hK
  have hf := fun w' (q : Qt w1 w') => hK w' (q1.trans q)
  by_cases h32 : 32 < hs.length
  · rw [if_pos h32] at hf
    simp (maxSteps := 1000000) (disch := omega) only [genAll, decAll, tk_nil, st41, e, x5]
    exact hf _ q2
  rw [if_neg h32] at hf
  clear hK
  have ha := hg.atts.quiet q1
  have hz := hg.sz
  clear hg
  simp (maxSteps := 1000000) (disch := omega) only [genAll, decAll, tk_nil, st41, e, x5]
  refine loopK1 (fun v w' => ∃ i : Nat, v = .int .i64 i ∧ i ≤ hs.length ∧ chkAs none (hs.map attP) = chkAs (prevA (hs.map attP) i) ((hs.map attP).drop i) ∧ Qt w1 w') (fun v _ => hs.length - (intOf v).toNat) ⟨0, rfl, by omega, by simp [prevA], q2⟩ ?_
  clear x0 x1 x2 x3 x4 x5 x0'
  rintro _ _ w3 ⟨i, rfl, hi, hlo, q3⟩
  have x5 := (X w3 q3).2.2.2.2.2
  by_cases hlt : i < hs.length
  · rw [chkAs_at (by rw [attP_len]; exact hlt), attP_getD] at hlo
    obtain ⟨g, o, rfl, z0, z1, z2, z3, z4⟩ := att_at (ha.1.quiet q3) hlt
    have hL := (ha.2.get hlt).quiet q3
    obtain ⟨n1, n2, n3⟩ := hz _ (getD_mem hlt)
    have hn1 : ((i : Int) - 1).toNat = i - 1 := by omega
    have hpr : 0 < i → ∀ w', Qt w1 w' → prevA (hs.map attP) i = some (hs.getD (i - 1) default).1 ∧ w'.cell? ⟨g, o + (i - 1) * 5, none⟩ = some (.string (hs.getD (i - 1) default).1) := fun h0 w' q => by
      obtain ⟨g', o', he, y0, _⟩ := att_at (ha.1.quiet q) (show i - 1 < hs.length by omega)
      cases he
      refine ⟨?_, y0⟩
      unfold prevA
      rw [if_neg (by omega), attP_getD]; rfl
    have hcur : ∀ w', Qt w1 w' → w'.cell? ⟨g, o + i * 5, none⟩ = some (.string (hs.getD i default).1) := fun w' q => by
      obtain ⟨g', o', he, y0, _⟩ := att_at (ha.1.quiet q) hlt
      cases he; exact y0
    generalize (hs.getD (i - 1) default).1 = pn at *
    generalize hs.getD i default = h at *
    obtain ⟨nm, v, B, d⟩ := h
    have hlo : chkAs none (hs.map attP) = stepA (prevA (hs.map attP) i) (nm, v) (chkAs (prevA (hs.map attP) (i + 1)) ((hs.map attP).drop (i + 1))) := hlo
    simp only at n1 n2 n3 hL z0 z1 z2 z3 z4 hcur
    simp (maxSteps := 1000000) (disch := omega) only [genAll, decAll, tk_nil, st41, x5, z1, z2, z3, z4]
    refine ck84 (check11 (a := v) hL n3 n2 ?_)
    intro w4 q4
    have q04 := q3.trans q4
    have x5 := (X w4 q04).2.2.2.2.2
    obtain ⟨l, hl, hd, hs'⟩ := txt_of nm
    have z0' := hcur w4 q04
    rw [hl] at z0'
    simp (maxSteps := 1000000) (disch := omega) only [genAll, decAll, tk_nil, st41, x5, z0']
    refine ck82 (nameR_any ?_)
    rw [← hd]
    cases hnm : nameL nm.data.toList with
    | false =>
      rw [stepA_name hnm] at hlo
      rw [hlo] at hf
      simp (maxSteps := 1000000) (disch := omega) only [genAll, decAll, tk_nil, st41]
      exact hf _ q04
    | true =>
    simp (maxSteps := 1000000) (disch := omega) only [genAll, decAll, tk_nil, st41]
    have z0 := hcur w4 q04
    have q04d : Qt w1 w4.drew := q04.trans (Qt.drew Qt.refl)
    have hc : (prevA (hs.map attP) i).all (fun q => ltS q nm) = decide (i = 0 ∨ ltS pn nm = true) := by
      by_cases h0 : i = 0
      · subst h0; simp [prevA]
      · rw [(hpr (by omega) w4 q04).1]
        simp [h0]
    cases hall : (prevA (hs.map attP) i).all (fun q => ltS q nm) with
    | false =>
      rw [stepA_twice hnm hall] at hlo
      rw [hlo] at hf
      rw [hall] at hc
      have hno := of_decide_eq_false hc.symm
      have hi0 : ¬ i = 0 := fun h => hno (.inl h)
      have hlt' : ltS pn nm = false := by
        cases h : ltS pn nm with
        | false => rfl
        | true => exact absurd (.inr h) hno
      have y0 := (hpr (by omega) w4 q04).2
      refine drawK_here ?_
      simp (maxSteps := 1000000) (disch := omega) only [genAll, decAll, tk_nil, st41, hn1, y0, z0, x5, less_lt, hlt']
      exact hf _ q04d
    | true =>
    rw [stepA_val hnm hall] at hlo
    rw [hall] at hc
    have hyes := of_decide_eq_true hc.symm
    refine drawK_here ?_
    have ev : (checkV v != 0) = decide (checkV v ≠ 0) := by
      by_cases h : checkV v = 0
      · rw [h]; rfl
      · rw [decide_eq_true h, bne_iff_ne]; exact h
    by_cases hv : checkV v = 0
    · have e : (checkV v != 0) = false := by rw [hv]; rfl
      rw [if_neg (fun h => h hv)] at hlo
      by_cases hi0 : i = 0
      case' pos => simp (maxSteps := 1000000) (disch := omega) only [genAll, decAll, tk_nil, st41, e, takeG_u, guardK_u]
      case' neg =>
        have y0 := (hpr (by omega) w4 q04).2
        have hlt' : ltS pn nm = true := hyes.elim (fun h => absurd h hi0) (fun h => h)
        simp (maxSteps := 1000000) (disch := omega) only [genAll, decAll, tk_nil, st41, hn1, y0, z0, x5, less_lt, hlt', e]
      all_goals exact ⟨⟨i + 1, by go_num, by omega, hlo, q04d⟩, by simp [rel, intOf]; omega⟩
    · have e : (checkV v != 0) = true := by rw [bne_iff_ne]; exact hv
      rw [if_pos hv] at hlo
      rw [hlo] at hf
      by_cases hi0 : i = 0
      case' pos => simp (maxSteps := 1000000) (disch := omega) only [genAll, decAll, tk_nil, st41, e, takeG_u, guardK_u]
      case' neg =>
        have y0 := (hpr (by omega) w4 q04).2
        have hlt' : ltS pn nm = true := hyes.elim (fun h => absurd h hi0) (fun h => h)
        simp (maxSteps := 1000000) (disch := omega) only [genAll, decAll, tk_nil, st41, hn1, y0, z0, x5, less_lt, hlt', e]
      all_goals exact hf _ q04d
  · rw [chkAs_end (by rw [attP_len]; omega)] at hlo
    rw [hlo] at hf
    simp (maxSteps := 1000000) (disch := omega) only [genAll, decAll, tk_nil, st41, x5]
    exact hf _ q3
end Go.Proofs.YtpjeohellehgjaaGreatDoor
end

section
/- Stamps and rows in bytes, sealed: the document's. Conditions: the rows read, few and short; the numbers are int64. -/
set_option linter.unusedVariables false
set_option linter.unusedSimpArgs false
set_option maxRecDepth 100000
namespace Go.Proofs.YtpjeohellehgjaaGreatDoor
open Go.RowKit Go.Cn Go.Cn.Num
theorem pT_len (s : ByteArray) (h : s.size ≤ 1000) : (putText s.data.toList).length ≤ s.size + 10 := putText_len _ (by have : s.data.toList.length = s.size := rfl; omega)
theorem stmB_len {s : Stm} (h1 : in64 s.1) (h2 : in64 s.2.1) (h3 : in64 s.2.2.1) (h4 : s.2.2.2.size ≤ 1000) : (stmB s).length ≤ 1100 := by
  unfold stmB
  simp only [List.length_append]
  have := pI_len h1; have := pI_len h2; have := pI_len h3; have := pT_len s.2.2.2 h4
  omega
set_option maxHeartbeats 2000000 in
theorem putSR_any {s : Stm} {w : World} {K : Value → World → Prop} (h1 : in64 s.1) (h2 : in64 s.2.1) (h3 : in64 s.2.2.1) (h4 : s.2.2.2.size ≤ 1000)
    (hK : ∀ A' c' F w', OwnB w' (stmB s) A' c' F → Qt w w' → (∀ k, F = some k → w.heap.size ≤ k) → K (.slice A' (stmB s).length c') w') : CallK Tryz.prog 30 #[stV s] K w := by
  refine F30_calls _ _ _ ?_; unfold F30
  simp (maxSteps := 1000000) (disch := omega) only [genAll, decAll, tk_nil, st30]
  obtain ⟨q1, b1, s1⟩ := newb w #[.int .i64 s.1, .int .i64 s.2.1, .int .i64 s.2.2.1, .string s.2.2.2] 35
  generalize (w.alloc (.cells #[.int .i64 s.1, .int .i64 s.2.1, .int .i64 s.2.2.1, .string s.2.2.2] 35)) = w1 at *
  have X := fun w' (q : Quiets w1 w') => cell4 (Chg.heap q b1 (fun h => h))
  have hs1 := q1.size
  generalize hb : w.heap.size = b at *
  have qd : Qt w1 w1.drew := Qt.drew Qt.refl
  refine drawQ w1 qd ?_
  generalize w1.drew = wd at *
  have l1 := pI_len h1
  have l2 := pI_len h2
  have l3 := pI_len h3
  have l4 := pT_len s.2.2.2 h4
  simp (maxSteps := 1000000) (disch := omega) only [genAll, decAll, tk_nil, st30, qkld2 (fun w' q => (X w' q).1), qkld2 (fun w' q => (X w' q).2.1)]
  refine ⟨?_, trivial⟩
  refine ck54 (putInt_any h1.1 h1.2 ?_)
  intro A2 c2 F2 w2 o2 q2 f2
  have q12 := qd.trans q2
  simp (maxSteps := 1000000) (disch := omega) only [genAll, decAll, tk_nil, st30]
  refine ⟨q12, ?_, trivial⟩
  refine ck54 (putInt_any h2.1 h2.2 ?_)
  intro A3 c3 F3 w3 o3 q3 f3
  have q13 := q12.trans q3
  have f2' : ∀ k, F2 = some k → w1.heap.size ≤ k := fun k hk => by have := f2 k hk; have := qd.size; omega
  simp (maxSteps := 1000000) (disch := omega) only [genAll, decAll, tk_nil, st30]
  refine ⟨q13, ?_, trivial⟩
  refine appB (ownB_quiet o2 q3) (reads_own o3) (by omega) ?_
  intro A4 c4 F4 w4 o4 k4 f4
  obtain ⟨q14, g4⟩ := up_qt q13 k4 f2' f4
  obtain ⟨x0, x1, x2, x3⟩ := X w4 q14
  simp (maxSteps := 1000000) (disch := omega) only [genAll, decAll, tk_nil, st30, x2]
  refine ⟨q14, ?_⟩
  refine ck54 (putInt_any h3.1 h3.2 ?_)
  intro A5 c5 F5 w5 o5 q5 f5
  simp (maxSteps := 1000000) (disch := omega) only [genAll, decAll, tk_nil, st30]
  refine appB (ownB_quiet o4 q5) (reads_own o5) (by simp only [List.length_append]; omega) ?_
  intro A6 c6 F6 w6 o6 k6 f6
  obtain ⟨q16, g6⟩ := up_qt (q14.trans q5) k6 g4 f6
  obtain ⟨x0, x1, x2, x3⟩ := X w6 q16
  simp (maxSteps := 1000000) (disch := omega) only [genAll, decAll, tk_nil, st30, x3]
  refine ck69 (putText_any (by omega) ?_)
  intro A7 c7 F7 w7 o7 q7 f7
  simp (maxSteps := 1000000) (disch := omega) only [genAll, decAll, tk_nil, st30]
  refine appB (ownB_quiet o6 q7) (reads_own o7) (by simp only [List.length_append]; omega) ?_
  intro A8 c8 F8 w8 o8 k8 f8
  obtain ⟨q18, g8⟩ := up_qt (q16.trans q7) k8 g6 f8
  exact hK _ _ _ _ o8 (q1.trans q18) (fun k hk => by have := g8 k hk; omega)
/-- What a row's numbers and sizes are. -/
def SmallR (key : ByteArray) (s : Stm) (hs : List AttH) : Prop := key.size ≤ 100 ∧ s.2.2.2.size ≤ 100 ∧ hs.length ≤ 40 ∧ (∀ h ∈ hs, FewA h) ∧ RowOk (key, s, hs.map attP)
theorem attOk_of {hs : List AttH} {h : AttH} (hh : h ∈ hs) (hok : ∀ a ∈ hs.map attP, AttOk a) : AttOk (attP h) := hok _ (List.mem_map_of_mem hh)
theorem valB_len {v : Val} (h1 : in64 v.1) (h2 : in64 v.2.1) (h3 : ∀ x ∈ v.2.2.2, in64 x) (h4 : v.2.2.2.length ≤ 40) (h5 : v.2.2.1.size ≤ 200) : (valB v).length ≤ 430 := by
  unfold valB
  rw [List.length_append]
  have := pI_len h1
  split
  · have := pI_len h2; omega
  · split
    · have := pT_len v.2.2.1 (by omega); omega
    · split
      · rw [List.length_append]
        have := pI_len (in64_nat (n := v.2.2.2.length) (by omega))
        have := flat_putInt_len v.2.2.2 h3
        omega
      · simp; omega
theorem attB_len {h : AttH} (hf : FewA h) (ho : AttOk (attP h)) : (attB (attP h)).length ≤ 540 := by
  obtain ⟨f1, f2, f3⟩ := hf
  obtain ⟨o1, o2, o3, o4, o5⟩ := ho
  unfold attB
  rw [List.length_append]
  have := pT_len h.1 (by omega)
  have := valB_len (v := h.2.1) o2 o3 o4 f3 f2
  have e1 : (attP h).1 = h.1 := rfl
  have e2 : (attP h).2 = h.2.1 := rfl
  rw [e1, e2]; omega
theorem atts_len : ∀ (hs : List AttH), (∀ h ∈ hs, FewA h) → (∀ a ∈ hs.map attP, AttOk a) → ((hs.map attP).flatMap attB).length ≤ hs.length * 540
  | [], _, _ => by simp
  | h :: hs, hf, ho => by
    have ih := atts_len hs (fun x hx => hf x (by simp [hx])) (fun a ha => ho a (by rw [List.map_cons]; simp only [List.mem_cons]; exact .inr ha))
    have h1 := attB_len (hf h (by simp)) (ho (attP h) (by simp))
    rw [List.map_cons, List.flatMap_cons, List.length_append, List.length_cons, Nat.succ_mul]; omega
theorem attP_snoc (hs : List AttH) (i : Nat) (hi : i < hs.length) : ((hs.take (i + 1)).map attP).flatMap attB = ((hs.take i).map attP).flatMap attB ++ attB (attP (hs.getD i default)) := by
  have e : hs.getD i default = hs[i] := by simp [hi]
  rw [e, List.take_succ_eq_append_getElem hi, List.map_append, List.flatMap_append]; simp
theorem rowB_len {key : ByteArray} {s : Stm} {hs : List AttH} (h : SmallR key s hs) : (rowB (key, s, hs.map attP)).length ≤ 25000 := by
  obtain ⟨h1, h2, h3, h4, h5⟩ := h
  unfold rowB
  simp only [List.length_append, List.length_map]
  have := pT_len key (by omega)
  have := stmB_len (s := s) h5.2.1.1 h5.2.1.2.1 h5.2.1.2.2.1 (by omega)
  have := pI_len (in64_nat (n := hs.length) (by omega))
  have := atts_len hs h4 h5.2.2
  omega
set_option maxHeartbeats 8000000 in
theorem putRR_any {key : ByteArray} {s : Stm} {hs : List AttH} {A : Option Addr} {c : Nat} {w : World} {K : Value → World → Prop} (ha : AttsAt w A hs) (hsm : SmallR key s hs)
    (hK : ∀ A' c' F w', OwnB w' (rowB (key, s, hs.map attP)) A' c' F → Qt w w' → (∀ k, F = some k → w.heap.size ≤ k) → K (.slice A' (rowB (key, s, hs.map attP)).length c') w') : CallK Tryz.prog 32 #[rowV key s A hs.length c] K w := by
  refine F32_calls _ _ _ ?_; unfold F32
  simp (maxSteps := 1000000) (disch := omega) only [genAll, decAll, tk_nil, st32]
  obtain ⟨q1, b1, e1⟩ := newb w #[.string key, .int .i64 s.1, .int .i64 s.2.1, .int .i64 s.2.2.1, .string s.2.2.2, .slice A hs.length c] 38
  generalize (w.alloc (.cells #[.string key, .int .i64 s.1, .int .i64 s.2.1, .int .i64 s.2.2.1, .string s.2.2.2, .slice A hs.length c] 38)) = w1 at *
  have X := fun w' (q : Quiets w1 w') => cell6 (Chg.heap q b1 (fun h => h))
  have hs1 := q1.size
  generalize hb : w.heap.size = b at *
  have qd : Qt w1 w1.drew := Qt.drew Qt.refl
  refine drawQ w1 qd ?_
  generalize w1.drew = wd at *
  obtain ⟨g1, g2, g3, g4, g5⟩ := hsm
  obtain ⟨r1, ⟨r2, r3, r4, r5⟩, r6⟩ := g5
  have l1 := pT_len key (by omega)
  have l2 := stmB_len (s := s) r2 r3 r4 (by omega)
  have hln := in64_nat (n := hs.length) (by omega)
  have l3 := pI_len hln
  have l4 := atts_len hs g4 r6
  have X1 : ∀ w', Quiets w1 w' → w'.cell? ⟨b, 1, none⟩ = some (.int .i64 s.1) ∧ w'.cell? ⟨b, 1 + 1, none⟩ = some (.int .i64 s.2.1) ∧ w'.cell? ⟨b, 1 + 2, none⟩ = some (.int .i64 s.2.2.1) ∧ w'.cell? ⟨b, 1 + 3, none⟩ = some (.string s.2.2.2) := fun w' q => by
    obtain ⟨_, h1, h2, h3, h4, _⟩ := X w' q; exact ⟨h1, h2, h3, h4⟩
  simp (maxSteps := 1000000) (disch := omega) only [genAll, decAll, tk_nil, st32, qkld9 (fun w' q => (X w' q).1), qkld35 X1]
  refine ⟨?_, trivial⟩
  refine ck69 (putText_any (by omega) ?_)
  intro A2 c2 F2 w2 o2 q2 f2
  have q12 := qd.trans q2
  simp (maxSteps := 1000000) (disch := omega) only [genAll, decAll, tk_nil, st32]
  refine ⟨q12, ?_, trivial⟩
  refine ck30 (putSR_any r2 r3 r4 (by omega) ?_)
  intro A3 c3 F3 w3 o3 q3 f3
  have q13 := q12.trans q3
  have f2' : ∀ k, F2 = some k → w1.heap.size ≤ k := fun k hk => by have := f2 k hk; have := qd.size; omega
  simp (maxSteps := 1000000) (disch := omega) only [genAll, decAll, tk_nil, st32]
  refine ⟨q13, ?_, trivial⟩
  refine appB (ownB_quiet o2 q3) (reads_own o3) (by omega) ?_
  intro A4 c4 F4 w4 o4 k4 f4
  obtain ⟨q14, g4'⟩ := up_qt q13 k4 f2' f4
  obtain ⟨x0, x1, x2, x3, x4, x5⟩ := X w4 q14
  simp (maxSteps := 1000000) (disch := omega) only [genAll, decAll, tk_nil, st32, x5]
  refine ⟨q14, ?_⟩
  refine ck54 (putInt_any hln.1 hln.2 ?_)
  intro A5 c5 F5 w5 o5 q5 f5
  simp (maxSteps := 1000000) (disch := omega) only [genAll, decAll, tk_nil, st32]
  refine appB (ownB_quiet o4 q5) (reads_own o5) (by simp only [List.length_append]; omega) ?_
  intro A6 c6 F6 w6 o6 k6 f6
  obtain ⟨q16, g6⟩ := up_qt (q14.trans q5) k6 g4' f6
  unfold rowB at hK
  simp only [List.length_map] at hK
  generalize hpre : putText key.data.toList ++ stmB s ++ putInt (hs.length : Int) = pre at *
  have hpl : pre.length ≤ 2000 := by rw [← hpre]; simp only [List.length_append]; omega
  refine loopK2 (fun x u w' => ∃ (i : Nat) (A' : Option Addr) (c' : Nat) (F : Option Nat), u = .int .i64 i ∧ i ≤ hs.length ∧ x = .slice A' (pre ++ ((hs.take i).map attP).flatMap attB).length c' ∧ OwnB w' (pre ++ ((hs.take i).map attP).flatMap attB) A' c' F ∧ Qt w1 w' ∧ (∀ k, F = some k → w1.heap.size ≤ k)) (fun _ u _ => hs.length - (intOf u).toNat) ⟨0, A6, c6, F6, rfl, by omega, by simp, by simpa using o6, q16, g6⟩ ?_
  rintro _ _ _ w7 ⟨i, A7, c7, F7, rfl, hi, rfl, o7, q7, f7⟩
  obtain ⟨x0, x1, x2, x3, x4, x5⟩ := X w7 q7
  by_cases hlt : i < hs.length
  · have ha7 := (ha.quiet q1).quiet q7
    have Z := fun w' (q : Qt w1 w') => att_at (ha.1.quiet (q1.trans q)) hlt
    obtain ⟨g, o, hA, z0, z1, z2, z3, z4⟩ := Z w7 q7
    have hL := (ha.2.get hlt).quiet q1
    have hfa := g4 _ (getD_mem hlt)
    have hok := attOk_of (getD_mem hlt) r6
    have hbl := attB_len hfa hok
    have hsn := attP_snoc hs i hlt
    have hpf := atts_len (hs.take i) (fun h hh => g4 h (List.mem_of_mem_take hh)) (fun a ha => by
      obtain ⟨h, hh, rfl⟩ := List.mem_map.1 ha
      exact r6 _ (List.mem_map_of_mem (List.mem_of_mem_take hh)))
    rw [List.length_take] at hpf
    generalize hs.getD i default = a at *
    obtain ⟨p1, p2, p3⟩ := hfa
    obtain ⟨m1, m2, m3, m4, m5⟩ := hok
    have m2 : in64 a.2.1.1 := m2
    have m3 : in64 a.2.1.2.1 := m3
    have m4 : ∀ x ∈ a.2.1.2.2.2, in64 x := m4
    have la := pT_len a.1 (by omega)
    have lv := valB_len (v := a.2.1) m2 m3 m4 p3 p2
    have hmul : (min i hs.length) * 540 ≤ 40 * 540 := Nat.mul_le_mul_right 540 (by omega)
    subst hA
    simp (maxSteps := 1000000) (disch := omega) only [genAll, decAll, tk_nil, st32, x5, z0]
    refine ck69 (putText_any (by omega) ?_)
    intro A8 c8 F8 w8 o8 q8 f8
    simp (maxSteps := 1000000) (disch := omega) only [genAll, decAll, tk_nil, st32]
    refine appB (ownB_quiet o7 q8) (reads_own o8) (by simp only [List.length_append]; omega) ?_
    intro A9 c9 F9 w9 o9 k9 f9
    obtain ⟨q19, g9⟩ := up_qt (q7.trans q8) k9 f7 f9
    obtain ⟨x0, x1, x2, x3, x4, x5⟩ := X w9 q19
    obtain ⟨_, _, he, z0, z1, z2, z3, z4⟩ := Z w9 q19
    cases he
    simp (maxSteps := 1000000) (disch := omega) only [genAll, decAll, tk_nil, st32, x5, z1, z2, z3, z4]
    refine ck28 (putVR_any (v := a.2.1) (hL.quiet q19) m2 m3 m4 (by omega) (by omega) ?_)
    intro A10 c10 F10 w10 o10 q10 f10
    simp (maxSteps := 1000000) (disch := omega) only [genAll, decAll, tk_nil, st32]
    refine appB (ownB_quiet o9 q10) (reads_own o10) (by simp only [List.length_append]; omega) ?_
    intro A11 c11 F11 w11 o11 k11 f11
    obtain ⟨q111, g11⟩ := up_qt (q19.trans q10) k11 g9 f11
    simp (maxSteps := 1000000) (disch := omega) only [genAll, decAll, tk_nil, st32]
    have hatt : attB (attP a) = putText a.1.data.toList ++ valB a.2.1 := rfl
    have hcat : pre ++ ((hs.take i).map attP).flatMap attB ++ putText a.1.data.toList ++ valB a.2.1 = pre ++ ((hs.take (i + 1)).map attP).flatMap attB := by
      rw [hsn, hatt]; simp only [List.append_assoc]
    rw [hcat] at o11 ⊢
    exact ⟨⟨i + 1, A11, c11, F11, by go_num, by omega, rfl, o11, q111, g11⟩, by simp [rel, intOf]; omega⟩
  · obtain rfl : i = hs.length := by omega
    rw [List.take_length] at o7 ⊢
    simp (maxSteps := 1000000) (disch := omega) only [genAll, decAll, tk_nil, st32, x5]
    exact hK _ _ _ _ o7 (q1.trans q7) (fun k hk => by have := f7 k hk; omega)
end Go.Proofs.YtpjeohellehgjaaGreatDoor
end

section
/- Values and stamps in bytes, by the program. Conditions: the rows read, the numbers are int64, the sizes small. -/
set_option linter.unusedVariables false
set_option linter.unusedSimpArgs false
set_option maxRecDepth 100000
namespace Go.Proofs.YtpjeohellehgjaaGreatDoor
open Go.RowKit Go.Cn Go.Cn.Num
abbrev ES (g : Nat) (F : Option Nat) : Nat → Prop := fun k => k = g ∨ F = some k
/-- An encoder that held something at w0 and has bs now: what it may have turned. -/
structure EncTo (w0 : World) (g : Nat) (F0 : Option Nat) (bs : List UInt8) (F : Option Nat) (w : World) : Prop where
  here : EncAt w g bs F
  chg : Chg (ES g F0) w0 w
  new : ∀ k, F = some k → F0 = some k ∨ w0.heap.size ≤ k
theorem EncTo.start {w : World} {g : Nat} {bs : List UInt8} {F : Option Nat} (h : EncAt w g bs F) : EncTo w g F bs F w := ⟨h, Chg.refl _ _, fun _ h => .inl h⟩
theorem EncTo.step {w0 w1 w2 : World} {g : Nat} {F0 F1 F2 : Option Nat} {b1 b2 : List UInt8} (h : EncTo w0 g F0 b1 F1 w1) (he : EncAt w2 g b2 F2) (k : Chg (fun k => k = g ∨ F1 = some k) w1 w2) (f : ∀ k, F2 = some k → F1 = some k ∨ w1.heap.size ≤ k) : EncTo w0 g F0 b2 F2 w2 :=
  ⟨he, Chg.then h.chg k (fun i hi => hi.elim (fun e => .inl (.inl e)) (fun e => (h.new i e).elim (fun e => .inl (.inr e)) .inr)), fun i hi => (f i hi).elim (h.new i) (fun e => .inr (Nat.le_trans h.chg.size e))⟩
theorem EncTo.quiet {w0 w1 w2 : World} {g : Nat} {F0 F1 : Option Nat} {bs : List UInt8} (h : EncTo w0 g F0 bs F1 w1) (q : Qt w1 w2) : EncTo w0 g F0 bs F1 w2 :=
  ⟨h.here.chg q (fun h => h) (fun _ _ h => h), Chg.then h.chg q (fun _ h => h.elim), h.new⟩
theorem EncTo.comp {w0 w w1 w2 : World} {g : Nat} {F0 F F2 : Option Nat} {bs b2 : List UInt8} (h : EncTo w0 g F0 bs F w) (q : Qt w w1) (h2 : EncTo w1 g F b2 F2 w2) : EncTo w0 g F0 b2 F2 w2 :=
  EncTo.step (h.quiet q) h2.here h2.chg h2.new
theorem EncTo.sep {w0 w : World} {g : Nat} {F0 F : Option Nat} {bs : List UInt8} (h : EncTo w0 g F0 bs F w) {S : Nat → Prop} (hS : ∀ k, S k → (ES g F0) k ∨ w0.heap.size ≤ k) {A : Option Addr} {xs : List Value} (r : Reads w0 A xs) (s : Sep (ES g F0) A xs) : Sep S A xs :=
  fun hx ad ha e => by
    rcases hS _ e with e | e
    · exact s hx ad ha e
    · have := r.low ad ha hx; omega
theorem EncTo.es {w0 w : World} {g : Nat} {F0 F : Option Nat} {bs : List UInt8} (h : EncTo w0 g F0 bs F w) : ∀ k, ES g F k → ES g F0 k ∨ w0.heap.size ≤ k := fun k hk => hk.elim (fun e => .inl (.inl e)) (fun e => (h.new k e).elim (fun e => .inl (.inr e)) .inr)
theorem EncTo.lists {w0 w : World} {g : Nat} {F0 F : Option Nat} {bs : List UInt8} (h : EncTo w0 g F0 bs F w) {hs : List AttH} (r : ListsAt w0 hs) (s : ListsSep (ES g F0) hs) : ListsAt w hs ∧ ListsSep (ES g F) hs := ⟨r.sep h.chg s, fun x hx => h.sep h.es (r x hx) (s x hx)⟩
theorem EncTo.atts {w0 w : World} {g : Nat} {F0 F : Option Nat} {bs : List UInt8} (h : EncTo w0 g F0 bs F w) {A : Option Addr} {hs : List AttH} (r : AttsAt w0 A hs) (s : AttsSep (ES g F0) A hs) : AttsAt w A hs ∧ AttsSep (ES g F) A hs := ⟨r.sep h.chg s, h.sep h.es r.1 s.1, (h.lists r.2 s.2).2⟩
theorem EncTo.rows {w0 w : World} {g : Nat} {F0 F : Option Nat} {bs : List UInt8} (h : EncTo w0 g F0 bs F w) {A : Option Addr} {rs : List RowH} (r : RowsAt w0 A rs) (s : RowsSep (ES g F0) A rs) : RowsAt w A rs ∧ RowsSep (ES g F) A rs := ⟨r.sep h.chg s, h.sep h.es r.1 s.1, fun x hx => (h.atts (r.2 x hx) (s.2 x hx)).2⟩
theorem encI {n : Int} {w0 w : World} {g : Nat} {F0 F : Option Nat} {bs : List UInt8} {K : Value → World → Prop} (hn : in64 n) (h : EncTo w0 g F0 bs F w) (hsz : bs.length ≤ 5000000)
    (hK : ∀ F' w', EncTo w0 g F0 (bs ++ putInt n) F' w' → K (.tuple #[]) w') : CallK Tryz.prog 63 #[.pointer (some ⟨g, 0, none⟩), .slice (some ⟨w.heap.size, 0, none⟩) 1 1] K (w.alloc (.cells #[.int .i64 n] 2)) :=
  enc_int hn h.here (by omega) (fun F' w' he k f => hK F' w' (h.step he k f))
theorem encT {s : ByteArray} {w0 w : World} {g : Nat} {F0 F : Option Nat} {bs : List UInt8} {K : Value → World → Prop} (h : EncTo w0 g F0 bs F w) (hs : s.size ≤ 1000) (hsz : bs.length ≤ 5000000)
    (hK : ∀ F' w', EncTo w0 g F0 (bs ++ putText s.data.toList) F' w' → K (.tuple #[]) w') : CallK Tryz.prog 64 #[.pointer (some ⟨g, 0, none⟩), .slice (some ⟨w.heap.size, 0, none⟩) 1 1] K (w.alloc (.cells #[.string s] 9)) :=
  enc_text h.here (by omega) (fun F' w' he k f => hK F' w' (h.step he k f))
theorem encI3 {a b c : Int} {w0 w : World} {g : Nat} {F0 F : Option Nat} {bs : List UInt8} {K : Value → World → Prop} (ha : in64 a) (hb : in64 b) (hc : in64 c) (h : EncTo w0 g F0 bs F w) (hsz : bs.length ≤ 5000000)
    (hK : ∀ F' w', EncTo w0 g F0 (bs ++ (putInt a ++ (putInt b ++ putInt c))) F' w' → K (.tuple #[]) w') : CallK Tryz.prog 63 #[.pointer (some ⟨g, 0, none⟩), .slice (some ⟨w.heap.size, 0, none⟩) 3 3] K (w.alloc (.cells #[.int .i64 a, .int .i64 b, .int .i64 c] 2)) := by
  have hlt := h.here.lt
  have hc0 : Qt w (w.alloc (.cells #[.int .i64 a, .int .i64 b, .int .i64 c] 2)) := Chg.alloc Qt.refl _
  have hr := reads_new w (List.map (Value.int .i64) [a, b, c]) 2
  have h1 := h.quiet hc0
  refine enc_ints (ns := [a, b, c]) (by intro x hx; simp at hx; rcases hx with rfl | rfl | rfl <;> assumption) hr (fun ad e => ?_) h1.here (by simp; omega) ?_
  · cases e
    refine ⟨?_, ?_, by simp⟩
    · have := hlt.1; show ¬ w.heap.size = g; omega
    · intro e; have := hlt.2 _ e; exact absurd this (Nat.lt_irrefl _)
  · intro F' w' he k f
    have := hK F' w' (h1.step (by simpa using he) k f)
    exact this
end Go.Proofs.YtpjeohellehgjaaGreatDoor
end

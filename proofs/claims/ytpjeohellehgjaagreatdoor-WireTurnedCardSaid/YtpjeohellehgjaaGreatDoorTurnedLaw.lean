/- WireTurned: the walk. Conditions: the row reads, the numbers are int64. -/
import Derived.Test.YtpjeohellehgjaaGreatDoorBackLaw
import Derived.Test.YtpjeohellehgjaaGreatDoorTurn1
set_option linter.unusedVariables false
set_option linter.unusedSimpArgs false
set_option maxRecDepth 100000
namespace Go.Proofs.YtpjeohellehgjaaGreatDoor
open Go.RowKit Go.Cn Go.Cn.Num
theorem decode_ten {b : List UInt8} (h : openL b = (10, [])) : decodeL b = (r0, 10) := by
  unfold decodeL
  rw [h, if_pos (by decide)]
set_option maxHeartbeats 4000000 in
theorem wireTurned_any {key : ByteArray} {s : Stm} {hs : List AttH} {A : Option Addr} {c : Nat} {at' : Int} {t : UInt8} {w : World} {K : Value → World → Prop} (hm : MaxAt w) (ha : AttsAt w A hs) (hok : RowOk (key, s, hs.map attP)) (a0 : 0 ≤ at') (a1 : at' ≤ 65535) (hK : ∀ w', Qt w w' → K (.bool true) w') : CallK Tryz.prog 7 #[rowV key s A hs.length c, .int .u16 at', .int .u8 t.toNat] K w := by
  refine F7_calls _ _ _ _ _ ?_; unfold F7
  obtain ⟨q1, b1, e1⟩ := newb w #[.string key, .int .i64 s.1, .int .i64 s.2.1, .int .i64 s.2.2.1, .string s.2.2.2, .slice A hs.length c] 26
  simp (maxSteps := 1000000) (disch := omega) only [genAll, decAll, tk_nil, st7]
  generalize (w.alloc (.cells #[.string key, .int .i64 s.1, .int .i64 s.2.1, .int .i64 s.2.2.1, .string s.2.2.2, .slice A hs.length c] 26)) = w1 at *
  have X := fun w' (q : Qt w1 w') => cell6 (q.heap b1 (fun h => h))
  refine ck8 (known_any (hm.quiet q1) ?_)
  intro w2 q2
  have q02 := q1.trans q2
  obtain ⟨x0, x1, x2, x3, x4, x5⟩ := X w2 q2
  simp (maxSteps := 1000000) (disch := omega) only [genAll, decAll, tk_nil, st7, x0, x1, x2, x3, x4, x5]
  refine ck9 (fewR_any (ha.quiet q02) ?_)
  intro f w3 q3 hf
  have q13 := q2.trans q3
  have q03 := q02.trans q3
  cases f with
  | false =>
    simp (maxSteps := 1000000) (disch := omega) only [genAll, decAll, tk_nil, st7, guardK_u]
    exact hK _ q03
  | true =>
  obtain ⟨f1, f2, f3, f4⟩ := hf rfl
  simp only at f1 f2 f3 f4
  have hsm : SmallR key s hs := ⟨f1, f2, f3, f4, hok⟩
  by_cases ht : t = 0
  · have e : ((t.toNat : Int) == 0) = true := by rw [ht]; rfl
    simp (maxSteps := 1000000) (disch := omega) only [genAll, decAll, tk_nil, st7, guardK_u, e]
    exact hK _ q03
  have e : ((t.toNat : Int) == 0) = false := by
    rw [beq_eq_false_iff_ne]; intro h
    exact ht (UInt8.toNat_inj.1 (by simpa using h))
  obtain ⟨x0, x1, x2, x3, x4, x5⟩ := X w3 q13
  simp (maxSteps := 1000000) (disch := omega) only [genAll, decAll, tk_nil, st7, guardK_u, e, x0, x1, x2, x3, x4, x5]
  refine ck12 (ofR_any (ha.quiet q03) (by omega) ?_)
  intro A4 c4 w4 a4 q4 _
  have q14 := q13.trans q4
  have q04 := q03.trans q4
  simp (maxSteps := 1000000) (disch := omega) only [genAll, decAll, tk_nil, st7]
  refine ck41 (checkRR_any (good_of (r := (key, s, A4, c4, hs)) a4 hsm) (by omega) ?_)
  intro w5 q5
  have q15 := q14.trans q5
  have q05 := q04.trans q5
  by_cases hz : checkR (key, s, hs.map attP) = 0
  case neg =>
    have en : (checkR (key, s, hs.map attP) != 0) = true := by rw [bne_iff_ne]; exact hz
    simp (maxSteps := 1000000) (disch := omega) only [genAll, decAll, tk_nil, st7, en]
    exact hK _ q05
  have en : (checkR (key, s, hs.map attP) != 0) = false := by rw [hz]; rfl
  obtain ⟨x0, x1, x2, x3, x4, x5⟩ := X w5 q15
  simp (maxSteps := 1000000) (disch := omega) only [genAll, decAll, tk_nil, st7, en, x0, x1, x2, x3, x4, x5]
  refine ck10 (encode_any (ha.quiet q05) hsm (hm.quiet q05) ?_)
  rw [enc_zero hz]
  intro A6 c6 w6 r6 hc6 q6
  have q06 := q05.trans q6
  have hsl := seal_len (rowB (key, s, hs.map attP))
  have hrb := rowB_ok hz hok (by show s.2.2.2.size ≤ 100; omega)
  generalize rowB (key, s, hs.map attP) = b at *
  have e0 : (((sealed b).length : Int) == 0) = false := by rw [beq_eq_false_iff_ne]; omega
  obtain ⟨k, hk, hk2⟩ : ∃ k : Nat, at' % ((sealed b).length : Int) = k ∧ k < (sealed b).length := by
    have h1 : 0 ≤ at' % ((sealed b).length : Int) := Int.emod_nonneg _ (by omega)
    have h2 : at' % ((sealed b).length : Int) < ((sealed b).length : Int) := Int.emod_lt_of_pos _ (by omega)
    exact ⟨(at' % ((sealed b).length : Int)).toNat, by omega, by omega⟩
  simp (maxSteps := 1000000) (disch := omega) only [genAll, decAll, tk_nil, st7, guardK_u, e0, hk]
  obtain ⟨q7, b7, e7⟩ := newb w6 #[] 5
  generalize (w6.alloc (.cells #[] 5)) = w7 at *
  have o7 : Own w7 5 1 (.slice (some ⟨w6.heap.size, 0, none⟩) 0 0) 0 [] (some w6.heap.size) := .inr ⟨w6.heap.size, 0, rfl, rfl, rfl, #[], b7, by omega, by decide, rfl, rfl⟩
  obtain ⟨A8, c8, F8, w8, p8, o8, k8, f8⟩ := app_run (P := Tryz.prog) tyU8 o7 A6 (sealed b).length c6 ((sealed b).map vb) (by simp) (r6.quiet q7).src (vb_one _) (by omega) (by omega) 29
  rw [Nat.zero_add] at p8 o8
  rw [List.nil_append] at o8
  refine appK p8 ?_
  have q07 := q06.trans q7
  have s06 := q06.size
  have s16 := (q15.trans q6).size
  have sb1 := blk_lt b1
  rcases o8 with ⟨h, _⟩ | ⟨g, cc, hv, rfl, hrow⟩
  · exfalso
    injection h with h1 h2 h3
    omega
  injection hv with hv1 hv2 hv3
  subst hv1 hv3
  have hg : w1.heap.size ≤ g := by
    rcases f8 g rfl with h | h
    · injection h with h; omega
    · omega
  have q08 : Qt w w8 := Qt.then q07 k8 (fun k hk => by injection hk with hk; omega)
  have hcell := hrow.cell k (by simpa using hk2)
  have hfz := hrow.frozen k
  have hget : ((sealed b).map vb)[k]? = some (vb ((sealed b).getD k default)) := by simp [hk2]
  rw [hget] at hcell
  simp only [vb] at hcell
  have hx2 : bits .xor .u8 (((sealed b).getD k default).toNat : Int) (t.toNat : Int) = (((sealed b).getD k default ^^^ t).toNat : Int) := xor_u8 ((sealed b).getD k default).toBitVec t.toBitVec
  have hst := hrow.store k (vb ((sealed b).getD k default ^^^ t))
  have hset : ((sealed b).map vb).set k (vb ((sealed b).getD k default ^^^ t)) = ((sealed b).set k ((sealed b).getD k default ^^^ t)).map vb := by rw [List.map_set]
  rw [hset] at hst
  have hbad := turned1 b k t ht hk2
  simp (maxSteps := 1000000) (disch := omega) only [genAll, decAll, tk_nil, st7, hcell, hfz, hx2]
  have k9 : Chg (fun j => j = g) w8 (w8.setCell ⟨g, k, none⟩ (.int .u8 (((sealed b).getD k default ^^^ t).toNat : Int))) := (Chg.refl (fun j => j = g) w8).setCell (p := ⟨g, k, none⟩) (.inl rfl) _
  simp only [vb] at hst
  generalize (w8.setCell ⟨g, k, none⟩ (.int .u8 (((sealed b).getD k default ^^^ t).toNat : Int))) = w9 at *
  have q09 : Qt w w9 := Qt.then q08 k9 (fun j hj => by have := q1.size; omega)
  have hcc := hst.cap_le
  have hln : ((sealed b).set k ((sealed b).getD k default ^^^ t)).length = (sealed b).length := List.length_set
  generalize (sealed b).set k ((sealed b).getD k default ^^^ t) = x at *
  rw [← hln] at hst hcc ⊢
  refine ck13 (decode_any (Reads.of_own hst.own) (by omega) hcc.1 (hm.quiet q09) ?_)
  rw [decode_ten hbad]
  intro hs10 A10 c10 w10 m10 a10 q10
  have q010 := q09.trans q10
  have l10 : hs10.length = 0 := by have := congrArg List.length m10; simpa [r0] using this
  obtain ⟨q11, b11, e11⟩ := newb w10 #[.string r0.1, .int .i64 r0.2.1.1, .int .i64 r0.2.1.2.1, .int .i64 r0.2.1.2.2.1, .string r0.2.1.2.2.2, .slice A10 hs10.length c10] 26
  obtain ⟨y0, y1, y2, y3, y4, y5⟩ := cell6 b11
  have q011 := q010.trans q11
  have er : (r0.1.toList == (ByteArray.mk #[]).toList) = true := beq_self_eq_true _
  have el : ((hs10.length : Int) == 0) = true := by rw [l10]; rfl
  simp (maxSteps := 1000000) (disch := omega) only [genAll, decAll, tk_nil, st7, guardK_u, y0, y5, er, el]
  exact hK _ q011
end Go.Proofs.YtpjeohellehgjaaGreatDoor

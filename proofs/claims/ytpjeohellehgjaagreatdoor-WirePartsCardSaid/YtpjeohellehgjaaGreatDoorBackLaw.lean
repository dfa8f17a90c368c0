/- WireBack, WireRows: the walks. Conditions: the rows read, the numbers are int64. -/
import Derived.Test.YtpjeohellehgjaaGreatDoorZG
set_option linter.unusedVariables false
set_option linter.unusedSimpArgs false
set_option maxRecDepth 100000
namespace Go.Proofs.YtpjeohellehgjaaGreatDoor
open Go.RowKit Go.Cn Go.Cn.Num
theorem oks_of {r : RowH} {N : Nat} (hN : N ≤ 1000000) (h : SmallD N (rowP r)) : OkS r := by
  obtain ⟨h1, h2, h3, h4⟩ := h
  refine ⟨fun x hx => ?_, ?_⟩
  · obtain ⟨g1, g2, g3⟩ := h4 (attP x) (List.mem_map_of_mem hx)
    have g1 : x.1.size ≤ N := g1
    have g2 : x.2.1.2.2.1.size ≤ N := g2
    have g3 : x.2.1.2.2.2.length ≤ 16 := g3
    exact ⟨by omega, by omega, by omega⟩
  · have h3 : (r.2.2.2.2.map attP).length ≤ 32 := h3
    rw [List.length_map] at h3
    omega
theorem decode_small {b : List UInt8} {N : Nat} (hb : b.length ≤ N) : SmallD N (decodeL b).1 := by
  rw [decode_open]
  split
  · exact r0_small N
  · split
    · exact r0_small N
    · exact openRow_small hb
theorem rows_small {b : List UInt8} {N : Nat} (hb : b.length ≤ N) : ∀ x ∈ (rowsL b).1, SmallD N x := by
  rw [rows_open]
  split
  · exact fun _ h => by cases h
  · split
    · exact fun _ h => by cases h
    · exact openRows_small hb
theorem oks_small {r : RowH} (h : SmallH r) : OkS r := by
  obtain ⟨h1, h2, h3, h4, h5⟩ := h
  exact ⟨fun x hx => by
    obtain ⟨g1, g2, g3⟩ := h4 x hx
    exact ⟨by omega, by omega, by omega⟩, by omega⟩
theorem openRows_of {b : List UInt8} (h : (rowsL b).2 = 0) : (openRowsL b).1 = (rowsL b).1 := by
  rw [rows_open] at h ⊢
  by_cases h1 : (openRowsL b).2 ≠ 0
  · rw [if_pos h1] at h; exact absurd h h1
  · rw [if_neg h1] at h ⊢
    by_cases h2 : rightR (openRowsL b).1 ≠ 0
    · rw [if_pos h2] at h; exact absurd h h2
    · rw [if_neg h2]
theorem smallH_same {r x : RowH} (h : rowP x = rowP r) (hx : SmallH x) : SmallH r := by
  obtain ⟨h1, h2, h3, h4, h5⟩ := hx
  have e1 : x.1 = r.1 := congrArg (fun y : RowD => y.1) h
  have e2 : x.2.1 = r.2.1 := congrArg (fun y : RowD => y.2.1) h
  have e3 : x.2.2.2.2.map attP = r.2.2.2.2.map attP := congrArg (fun y : RowD => y.2.2) h
  have e4 : x.2.2.2.2.length = r.2.2.2.2.length := by have := congrArg List.length e3; simpa using this
  refine ⟨by rw [← e1]; exact h1, by rw [← e2]; exact h2, by rw [← e4]; exact h3, fun y hy => ?_, by rw [← e1, ← e2, ← e3]; exact h5⟩
  have hm : attP y ∈ x.2.2.2.2.map attP := e3 ▸ List.mem_map_of_mem hy
  obtain ⟨z, hz, he⟩ := List.mem_map.1 hm
  have i1 : z.1 = y.1 := congrArg (fun y : Att => y.1) he
  have i2 : z.2.1 = y.2.1 := congrArg (fun y : Att => y.2) he
  have := h4 z hz
  unfold FewA at this ⊢
  rw [← i1, ← i2]; exact this
set_option maxHeartbeats 4000000 in
theorem wireBack_any {key : ByteArray} {s : Stm} {hs : List AttH} {A : Option Addr} {c : Nat} {w : World} {K : Value → World → Prop} (hm : MaxAt w) (ha : AttsAt w A hs) (hok : RowOk (key, s, hs.map attP)) (hK : ∀ w', Qt w w' → K (.bool true) w') : CallK Tryz.prog 3 #[rowV key s A hs.length c] K w := by
  refine F3_calls _ _ _ ?_; unfold F3
  obtain ⟨q1, b1, e1⟩ := newb w #[.string key, .int .i64 s.1, .int .i64 s.2.1, .int .i64 s.2.2.1, .string s.2.2.2, .slice A hs.length c] 26
  simp (maxSteps := 1000000) (disch := omega) only [genAll, decAll, tk_nil, st3]
  generalize (w.alloc (.cells #[.string key, .int .i64 s.1, .int .i64 s.2.1, .int .i64 s.2.2.1, .string s.2.2.2, .slice A hs.length c] 26)) = w1 at *
  have X := fun w' (q : Qt w1 w') => cell6 (q.heap b1 (fun h => h))
  refine ck8 (known_any (hm.quiet q1) ?_)
  intro w2 q2
  have q02 := q1.trans q2
  obtain ⟨x0, x1, x2, x3, x4, x5⟩ := X w2 q2
  simp (maxSteps := 1000000) (disch := omega) only [genAll, decAll, tk_nil, st3, x0, x1, x2, x3, x4, x5]
  refine ck9 (fewR_any (ha.quiet q02) ?_)
  intro f w3 q3 hf
  have q13 := q2.trans q3
  have q03 := q02.trans q3
  cases f with
  | false =>
    simp (maxSteps := 1000000) (disch := omega) only [genAll, decAll, tk_nil, st3]
    exact hK _ q03
  | true =>
  obtain ⟨f1, f2, f3, f4⟩ := hf rfl
  simp only at f1 f2 f3 f4
  have hsm : SmallR key s hs := ⟨f1, f2, f3, f4, hok⟩
  obtain ⟨x0, x1, x2, x3, x4, x5⟩ := X w3 q13
  simp (maxSteps := 1000000) (disch := omega) only [genAll, decAll, tk_nil, st3, x0, x1, x2, x3, x4, x5]
  refine ck10 (encode_any (ha.quiet q03) hsm (hm.quiet q03) ?_)
  intro A4 c4 w4 r4 hc4 q4
  have q14 := q13.trans q4
  have q04 := q03.trans q4
  obtain ⟨x0, x1, x2, x3, x4, x5⟩ := X w4 q14
  simp (maxSteps := 1000000) (disch := omega) only [genAll, decAll, tk_nil, st3, x0, x1, x2, x3, x4, x5]
  refine ck12 (ofR_any (ha.quiet q04) (by omega) ?_)
  intro A5 c5 w5 a5 q5 _
  have q15 := q14.trans q5
  have q05 := q04.trans q5
  simp (maxSteps := 1000000) (disch := omega) only [genAll, decAll, tk_nil, st3]
  refine ck11 (encodeR_any a5 hsm ?_)
  intro A6 c6 w6 r6 hc6 q6
  have q16 := q15.trans q6
  have q06 := q05.trans q6
  have r46 := r4.quiet (q5.trans q6)
  have hee := enc_err (key, s, hs.map attP)
  have hback := wire_back (r := (key, s, hs.map attP)) hok
  have hlen : (encL (key, s, hs.map attP)).1.length ≤ 7004 := by
    unfold encL
    by_cases hc : checkR (key, s, hs.map attP) = 0
    · rw [if_neg (fun e => e hc), seal_len]
      have := rowB_ok hc hok (by show s.2.2.2.size ≤ 100; omega)
      omega
    · rw [if_pos hc]; exact Nat.zero_le _
  generalize hE : encL (key, s, hs.map attP) = E at *
  obtain ⟨l, e⟩ := E
  simp only at r4 r6 hc4 hc6 r46 hee hback hlen ⊢
  have ez : (e != e) = false := bne_self_eq_false _
  simp (maxSteps := 1000000) (disch := omega) only [genAll, decAll, tk_nil, st3, ez, guardK_u]
  refine convK Tryz.underlying29 Tryz.underlying5 Tryz.underlying9 r46 ?_
  simp (maxSteps := 1000000) (disch := omega) only [genAll, decAll, tk_nil, st3, guardK_u]
  refine convK Tryz.underlying29 Tryz.underlying5 Tryz.underlying9 r6 ?_
  have el : (!((txt l).toList == (txt l).toList)) = false := by rw [beq_self_eq_true]; rfl
  simp (maxSteps := 1000000) (disch := omega) only [genAll, decAll, tk_nil, st3, el]
  by_cases he : e = 0
  case neg =>
    have en : (e != 0) = true := by rw [bne_iff_ne]; exact he
    simp (maxSteps := 1000000) (disch := omega) only [genAll, decAll, tk_nil, st3, en]
    exact hK _ q06
  have en : (e != 0) = false := by rw [he]; rfl
  have hd := hback he
  simp (maxSteps := 1000000) (disch := omega) only [genAll, decAll, tk_nil, st3, en]
  refine ck13 (decode_any r46 (by omega) hc4 (hm.quiet q06) ?_)
  rw [hd]
  intro hs7 A7 c7 w7 m7 a7 q7
  have q17 := q16.trans q7
  have q07 := q06.trans q7
  obtain ⟨q8, b8, e8⟩ := newb w7 #[.string (normR (key, s, hs.map attP)).1, .int .i64 (normR (key, s, hs.map attP)).2.1.1, .int .i64 (normR (key, s, hs.map attP)).2.1.2.1, .int .i64 (normR (key, s, hs.map attP)).2.1.2.2.1, .string (normR (key, s, hs.map attP)).2.1.2.2.2, .slice A7 hs7.length c7] 26
  simp (maxSteps := 1000000) (disch := omega) only [genAll, decAll, tk_nil, st3]
  have q18 := q17.trans q8
  have q08 := q07.trans q8
  have a8 := a7.quiet q8
  have hsame := normR_same (key, s, hs.map attP)
  have hsmall : SmallD 20000 (normR (key, s, hs.map attP)) := by
    have h := decode_small (b := l) (N := 20000) (by omega)
    rw [hd] at h
    exact h
  generalize (w7.alloc (.cells #[.string (normR (key, s, hs.map attP)).1, .int .i64 (normR (key, s, hs.map attP)).2.1.1, .int .i64 (normR (key, s, hs.map attP)).2.1.2.1, .int .i64 (normR (key, s, hs.map attP)).2.1.2.2.1, .string (normR (key, s, hs.map attP)).2.1.2.2.2, .slice A7 hs7.length c7] 26)) = w8 at *
  generalize normR (key, s, hs.map attP) = d at *
  obtain ⟨k2, s2, as2⟩ := d
  simp only at m7 b8 hsame hsmall ⊢
  subst m7
  have qd : Qt w8 w8.drew := Qt.drew Qt.refl
  refine drawQ w8 qd ?_
  generalize w8.drew = wd at *
  have X8 : ∀ w', Quiets w8 w' → _ := fun w' q => cell6 (Chg.heap q b8 (fun h => h))
  have X1 : ∀ w', Quiets w8 w' → _ := fun w' q => X w' (q18.trans q)
  simp (maxSteps := 1000000) (disch := omega) only [genAll, decAll, tk_nil, st3, en, qkld26 X8, qkld26 X1]
  have hs8 : OkS (k2, s2, A7, c7, hs7) := oks_of (by omega) hsmall
  have hl8 : hs7.length ≤ 100000 := hs8.2
  refine ⟨?_, trivial⟩
  refine ck12 (ofR_any (a8.quiet qd) hl8 ?_)
  intro A9 c9 w9 a9 q9 _
  have q89 : Qt w8 w9 := qd.trans q9
  simp (maxSteps := 1000000) (disch := omega) only [genAll, decAll, tk_nil, st3]
  refine ⟨q89, ?_, trivial⟩
  refine ck12 (ofR_any ((ha.quiet q08).quiet q89) (by omega) ?_)
  intro A10 c10 w10 a10 q10 _
  have q810 := q89.trans q10
  simp (maxSteps := 1000000) (disch := omega) only [genAll, decAll, tk_nil, st3]
  refine ⟨q810, ?_, trivial⟩
  have ga : RowGood w10 k2 s2 A9 hs7 := ⟨a9.quiet q10, hs8.1, by omega⟩
  have gb : RowGood w10 key s A10 hs := good_of (r := (key, s, A10, c10, hs)) a10 hsm
  refine ck14 (sameR_any ga gb ?_)
  rw [hsame]
  intro w11 q11
  simp (maxSteps := 1000000) (disch := omega) only [genAll, decAll, tk_nil, st3]
  refine ⟨q810.trans q11, ?_⟩
  exact hK _ ((q08.trans q810).trans q11)
set_option maxHeartbeats 4000000 in
theorem wireRows_any {rs : List RowH} {A : Option Addr} {c : Nat} {w : World} {K : Value → World → Prop} (hm : MaxAt w) (ha : RowsAt w A rs) (hok : ∀ r ∈ rs, RowOk (rowP r)) (hK : ∀ w', Qt w w' → K (.bool true) w') : CallK Tryz.prog 4 #[.slice A rs.length c] K w := by
  refine F4_calls _ _ _ ?_; unfold F4
  refine ck8 (known_any hm ?_)
  intro w2 q2
  simp (maxSteps := 1000000) (disch := omega) only [genAll, decAll, tk_nil, st4]
  refine ck15 (fewRows_any (ha.quiet q2) ?_)
  intro f w3 q3 hf
  have q03 := q2.trans q3
  cases f with
  | false =>
    simp (maxSteps := 1000000) (disch := omega) only [genAll, decAll, tk_nil, st4]
    exact hK _ q03
  | true =>
  obtain ⟨f1, f2⟩ := hf rfl
  have hsm : ∀ r ∈ rs, SmallH r := fun r hr => by
    obtain ⟨g1, g2, g3, g4⟩ := f2 r hr
    exact ⟨g1, g2, g3, g4, hok r hr⟩
  simp (maxSteps := 1000000) (disch := omega) only [genAll, decAll, tk_nil, st4]
  refine ck16 (all_any (ha.quiet q03) hsm (hm.quiet q03) ?_)
  intro A4 c4 w4 r4 hc4 q4
  have q04 := q03.trans q4
  simp (maxSteps := 1000000) (disch := omega) only [genAll, decAll, tk_nil, st4]
  refine ck18 (ofRows_any (ha.quiet q04) (by omega) (fun r hr => by have := (hsm r hr).2.2.1; omega) ?_)
  intro A5 c5 rs5 w5 m5 a5 q5
  have q05 := q04.trans q5
  have l5 : rs5.length = rs.length := by have := congrArg List.length m5; simpa using this
  rw [show (.slice A5 rs.length c5 : Value) = .slice A5 rs5.length c5 by rw [l5]]
  have hsm5 : ∀ r ∈ rs5, SmallH r := fun r hr => by
    have h1 : rowP r ∈ rs.map rowP := m5 ▸ List.mem_map_of_mem hr
    obtain ⟨x, hx, he⟩ := List.mem_map.1 h1
    exact smallH_same he (hsm x hx)
  simp (maxSteps := 1000000) (disch := omega) only [genAll, decAll, tk_nil, st4]
  refine ck17 (allR_any a5 hsm5 ?_)
  rw [m5]
  intro A6 c6 w6 r6 hc6 q6
  have q06 := q05.trans q6
  have r46 := r4.quiet (q5.trans q6)
  have hee := all_err (rs.map rowP)
  have hback := wire_rows (l := rs.map rowP) (fun r hr => by
    obtain ⟨x, hx, rfl⟩ := List.mem_map.1 hr
    exact hok x hx)
  have hlen : (allL (rs.map rowP)).1.length ≤ 450000 := by
    unfold allL
    by_cases hc : rightR (rs.map rowP) = 0
    · rw [if_neg (fun e => e hc), seal_len, rowsB, List.length_append]
      obtain ⟨h64, hz⟩ := rightR_parts hc
      rw [List.length_map] at h64 ⊢
      have h := rowsB_ok rs (fun r hr => ⟨hsm r hr, hz _ (List.mem_map_of_mem hr)⟩)
      have hp := (putInt_len (rs.length : Int) (by omega) (by omega)).2
      omega
    · rw [if_pos hc]; exact Nat.zero_le _
  generalize hE : allL (rs.map rowP) = E at *
  obtain ⟨l, e⟩ := E
  simp only at r4 r6 hc4 hc6 r46 hee hback hlen ⊢
  have ez : (e != e) = false := bne_self_eq_false _
  simp (maxSteps := 1000000) (disch := omega) only [genAll, decAll, tk_nil, st4, ez, guardK_u]
  refine convK Tryz.underlying29 Tryz.underlying5 Tryz.underlying9 r46 ?_
  simp (maxSteps := 1000000) (disch := omega) only [genAll, decAll, tk_nil, st4, guardK_u]
  refine convK Tryz.underlying29 Tryz.underlying5 Tryz.underlying9 r6 ?_
  have el : (!((txt l).toList == (txt l).toList)) = false := by rw [beq_self_eq_true]; rfl
  simp (maxSteps := 1000000) (disch := omega) only [genAll, decAll, tk_nil, st4, el]
  by_cases he : e = 0
  case neg =>
    have en : (e != 0) = true := by rw [bne_iff_ne]; exact he
    simp (maxSteps := 1000000) (disch := omega) only [genAll, decAll, tk_nil, st4, en]
    exact hK _ q06
  have en : (e != 0) = false := by rw [he]; rfl
  have hd := hback he
  simp (maxSteps := 1000000) (disch := omega) only [genAll, decAll, tk_nil, st4, en]
  have ho : ∀ x ∈ (openRowsL l).1, x.2.1.2.2.2.size ≤ 20000 := by
    rw [openRows_of (by rw [hd]), hd]
    intro x hx
    simp only [List.map_map] at hx
    obtain ⟨r, hr, rfl⟩ := List.mem_map.1 hx
    have h : r.2.1.2.2.2.size ≤ 100 := (hsm r hr).2.1
    show r.2.1.2.2.2.size ≤ 20000
    omega
  refine ck19 (rowsO_any r46 (by omega) ho hc4 (hm.quiet q06) ?_)
  rw [hd]
  intro rs7 A7 w7 m7 a7 q7
  have q07 := q06.trans q7
  simp (maxSteps := 1000000) (disch := omega) only [genAll, decAll, tk_nil, st4, guardK_u]
  refine ck18 (ofRows_any (ha.quiet q07) (by omega) (fun r hr => by have := (hsm r hr).2.2.1; omega) ?_)
  intro A8 c8 rs8 w8 m8 a8 q8
  have l8 : rs8.length = rs.length := by have := congrArg List.length m8; simpa using this
  have l7 : rs7.length = rs.length := by have := congrArg List.length m7; simpa using this
  rw [show (.slice A8 rs.length c8 : Value) = .slice A8 rs8.length c8 by rw [l8]]
  have ok7 : ∀ r ∈ rs7, OkS r := fun r hr => by
    have h := rows_small (b := l) (N := 450000) (by omega)
    rw [hd, ← m7] at h
    exact oks_of (by omega) (h _ (List.mem_map_of_mem hr))
  have ok8 : ∀ r ∈ rs8, OkS r := fun r hr => by
    have h1 : rowP r ∈ rs.map rowP := m8 ▸ List.mem_map_of_mem hr
    obtain ⟨x, hx, he⟩ := List.mem_map.1 h1
    exact oks_small (smallH_same he (hsm x hx))
  simp (maxSteps := 1000000) (disch := omega) only [genAll, decAll, tk_nil, st4, guardK_u]
  refine ck20 (same7_any (a7.quiet q8) a8 ok7 ok8 (by omega) (by omega) ?_)
  rw [m7, m8, sameRs_norm]
  intro w9 q9
  simp (maxSteps := 1000000) (disch := omega) only [genAll, decAll, tk_nil, st4]
  exact hK _ ((q07.trans q8).trans q9)
end Go.Proofs.YtpjeohellehgjaaGreatDoor

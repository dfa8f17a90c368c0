/- WireBytes: the walk. Condition: the row reads as bytes. -/
import Derived.Test.YtpjeohellehgjaaGreatDoorBackLaw
set_option linter.unusedVariables false
set_option linter.unusedSimpArgs false
set_option maxRecDepth 100000
namespace Go.Proofs.YtpjeohellehgjaaGreatDoor
open Go.RowKit Go.Cn Go.Cn.Num
/-- Bytes out of numbers. -/
def ofN (l : List Int) : List UInt8 := l.map fun n => UInt8.ofNat n.toNat
theorem bytes_of {w : World} {A : Option Addr} {l : List Int} (h : RRow 1 (RInt .u8) w A l) : Reads w A ((ofN l).map vb) ∧ (ofN l).length = l.length := by
  have hr := Reads.of_row rint_one h
  have hb : ∀ x ∈ l, 0 ≤ x ∧ x ≤ 255 := by
    intro x hx
    obtain ⟨i, hi, rfl⟩ := List.mem_iff_getElem.1 hx
    obtain ⟨cs, hh⟩ := h.elem hi
    exact Go.bounds_u8 hh.2
  have e : (ofN l).map vb = l.map (Value.int .u8) := by
    unfold ofN
    rw [List.map_map]
    apply List.map_congr_left
    intro x hx
    have := hb x hx
    simp [vb]
    omega
  rw [e]
  exact ⟨hr, by simp [ofN]⟩
theorem rowsL_count (b : List UInt8) : (rowsL b).1.length ≤ 64 := by
  unfold rowsL
  have := rowsD_count 0 (openL b).2
  split
  · exact Nat.zero_le _
  · split
    · exact Nat.zero_le _
    · split
      · exact Nat.zero_le _
      · split
        · exact Nat.zero_le _
        · exact this
set_option maxHeartbeats 4000000 in
theorem wireBytes_any {l : List UInt8} {A : Option Addr} {c : Nat} {w : World} {K : Value → World → Prop} (hm : MaxAt w) (hr : Reads w A (l.map vb)) (hc : l.length ≤ c) (hK : ∀ w', Qt w w' → K (.bool true) w') : CallK Tryz.prog 5 #[.slice A l.length c] K w := by
  refine F5_calls _ _ _ ?_; unfold F5
  refine ck8 (known_any hm ?_)
  intro w1 q1
  by_cases h1500 : 1500 < l.length
  · simp (maxSteps := 1000000) (disch := omega) only [genAll, decAll, tk_nil, st5]
    exact hK _ q1
  simp (maxSteps := 1000000) (disch := omega) only [genAll, decAll, tk_nil, st5]
  refine ck21 (sealR2_any (hr.quiet q1) (by omega) ?_)
  intro A2 c2 w2 hc2 r2 q2
  have q02 := q1.trans q2
  obtain ⟨q3, b3, e3⟩ := newb w2 #[.slice A l.length c, .slice A2 (sealed l).length c2] 29
  simp (maxSteps := 1000000) (disch := omega) only [genAll, decAll, tk_nil, st5]
  generalize (w2.alloc (.cells #[.slice A l.length c, .slice A2 (sealed l).length c2] 29)) = w3 at *
  generalize w2.heap.size = b at *
  have q03 := q02.trans q3
  have hsl := seal_len l
  have Y : ∀ i, i < 2 → ∃ (y : List UInt8) (Ay : Option Addr) (cy : Nat), y.length ≤ 1504 ∧ y.length ≤ cy ∧ ∀ w', Qt w3 w' → w'.cell? ⟨b, i, none⟩ = some (.slice Ay y.length cy) ∧ Reads w' Ay (y.map vb) := by
    intro i hi
    by_cases h0 : i = 0
    · subst h0
      exact ⟨l, A, c, by omega, hc, fun w' q => ⟨by rw [blk_cell (q.heap b3 (fun h => h))]; rfl, hr.quiet (q03.trans q)⟩⟩
    · obtain rfl : i = 1 := by omega
      exact ⟨sealed l, A2, c2, by omega, hc2, fun w' q => ⟨by rw [blk_cell (q.heap b3 (fun h => h))]; rfl, r2.quiet (q3.trans q)⟩⟩
  refine loopK1 (fun v w' => ∃ i : Nat, v = .int .i64 i ∧ i ≤ 2 ∧ Qt w3 w') (fun v _ => 2 - (intOf v).toNat) ⟨0, rfl, by omega, Qt.refl⟩ ?_
  rintro _ _ w4 ⟨i, rfl, hi, q4⟩
  by_cases hlt : i < 2
  case neg =>
    simp (maxSteps := 1000000) (disch := omega) only [genAll, decAll, tk_nil, st5]
    exact hK _ (q03.trans q4)
  obtain ⟨y, Ay, cy, hy, hcy, Z⟩ := Y i hlt
  clear Y
  obtain ⟨z4, r4⟩ := Z w4 q4
  simp (maxSteps := 1000000) (disch := omega) only [genAll, decAll, tk_nil, st5, z4]
  refine ck13 (decode_any r4 (by omega) hcy (hm.quiet (q03.trans q4)) ?_)
  intro hs5 A5 c5 w5 m5 a5 q5
  have q35 := q4.trans q5
  have hsmall := decode_small (b := y) (N := 20000) (by omega)
  generalize hd : decodeL y = d at *
  obtain ⟨⟨dk, ds, da⟩, de⟩ := d
  simp only at m5 hsmall ⊢
  obtain ⟨q6, b6, e6⟩ := newb w5 #[.string dk, .int .i64 ds.1, .int .i64 ds.2.1, .int .i64 ds.2.2.1, .string ds.2.2.2, .slice A5 hs5.length c5] 26
  have q36 := q35.trans q6
  obtain ⟨z6, r6⟩ := Z _ q36
  simp (maxSteps := 1000000) (disch := omega) only [genAll, decAll, tk_nil, st5, z6]
  have a6 := a5.quiet q6
  generalize (w5.alloc (.cells #[.string dk, .int .i64 ds.1, .int .i64 ds.2.1, .int .i64 ds.2.2.1, .string ds.2.2.2, .slice A5 hs5.length c5] 26)) = w6 at *
  generalize w5.heap.size = g6 at *
  refine ck22 (decodeR_any r6 (by omega) hcy ?_)
  rw [hd]
  intro hs7 A7 c7 w7 m7 a7 q7
  have q37 := q36.trans q7
  have a67 := a6.quiet q7
  have b67 := q7.heap b6 (fun h => h)
  simp only at m7 ⊢
  obtain ⟨q8, b8, e8⟩ := newb w7 #[.string dk, .int .i64 ds.1, .int .i64 ds.2.1, .int .i64 ds.2.2.1, .string ds.2.2.2, .slice A7 hs7.length c7] 38
  have q38 := q37.trans q8
  obtain ⟨z8, r8⟩ := Z _ q38
  simp (maxSteps := 1000000) (disch := omega) only [genAll, decAll, tk_nil, st5, z8]
  have a8 := a7.quiet q8
  have a68 := a67.quiet q8
  have b68 := q8.heap b67 (fun h => h)
  generalize (w7.alloc (.cells #[.string dk, .int .i64 ds.1, .int .i64 ds.2.1, .int .i64 ds.2.2.1, .string ds.2.2.2, .slice A7 hs7.length c7] 38)) = w8 at *
  generalize w7.heap.size = g8 at *
  refine ck19 (rows_any r8 (by omega) hcy (hm.quiet (q03.trans q38)) ?_)
  intro rs9 A9 w9 m9 a9 q9
  have q39 := q38.trans q9
  obtain ⟨z9, r9⟩ := Z _ q39
  have hrs := rows_small (b := y) (N := 20000) (by omega)
  have hct := rowsL_count y
  simp (maxSteps := 1000000) (disch := omega) only [genAll, decAll, tk_nil, st5, z9]
  refine ck23 (rowsR_any r9 (by omega) hcy ?_)
  generalize rowsL y = dr at *
  intro rs10 A10 c10 w10 m10 a10 q10
  have q310 := q39.trans q10
  simp (maxSteps := 1000000) (disch := omega) only [genAll, decAll, tk_nil, st5]
  have q810 := q9.trans q10
  have X6 : ∀ w', Quiets w10 w' → _ := fun w' q => cell6 (Chg.heap q (q810.heap b68 (fun h => h)) (fun h => h))
  have X8 : ∀ w', Quiets w10 w' → _ := fun w' q => cell6 (Chg.heap q (q810.heap b8 (fun h => h)) (fun h => h))
  have qd : Qt w10 w10.drew := Qt.drew Qt.refl
  refine drawQ w10 qd ?_
  generalize w10.drew = wd at *
  have ez : (de != de) = false := bne_self_eq_false _
  have ez2 : (dr.2 != dr.2) = false := bne_self_eq_false _
  simp (maxSteps := 1000000) (disch := omega) only [genAll, decAll, tk_nil, st5, ez, ez2, qkld26 X6, qkld38 X8]
  subst m7
  have hP7 : (dk, ds, hs5.map attP) = (dk, ds, hs7.map attP) := by rw [m5]
  have hs5k : OkS (dk, ds, A5, c5, hs5) := oks_of (N := 20000) (by omega) (by show SmallD 20000 (dk, ds, hs5.map attP); rw [m5]; exact hsmall)
  have hs7k : OkS (dk, ds, A7, c7, hs7) := oks_of (N := 20000) (by omega) hsmall
  have l5 : hs5.length ≤ 100000 := hs5k.2
  have l7 : hs7.length ≤ 100000 := hs7k.2
  refine ⟨?_, trivial⟩
  refine ck12 (ofR_any ((a68.quiet q810).quiet qd) l5 ?_)
  intro A11 c11 w11 a11 q11 _
  have q1011 : Qt w10 w11 := qd.trans q11
  simp (maxSteps := 1000000) (disch := omega) only [genAll, decAll, tk_nil, st5]
  refine ⟨q1011, ?_, trivial⟩
  have ga : RowGood w11 dk ds A11 hs5 := ⟨a11, hs5k.1, by omega⟩
  have gb : RowGood w11 dk ds A7 hs7 := ⟨(a8.quiet q810).quiet q1011, hs7k.1, by omega⟩
  refine ck14 (sameR_any ga gb ?_)
  rw [hP7, sameR_self]
  intro w12 q12
  have q1012 := q1011.trans q12
  have o9 : ∀ r ∈ rs9, OkS r := fun r hr => oks_of (N := 20000) (by omega) (hrs _ (m9 ▸ List.mem_map_of_mem hr))
  have o10 : ∀ r ∈ rs10, OkS r := fun r hr => oks_of (N := 20000) (by omega) (hrs _ (m10 ▸ List.mem_map_of_mem hr))
  simp (maxSteps := 1000000) (disch := omega) only [genAll, decAll, tk_nil, st5, tk_not, ez2]
  refine ⟨q1012, ?_, trivial⟩
  have n9 : rs9.length ≤ 64 := by have := congrArg List.length m9; rw [List.length_map] at this; omega
  have n10 : rs10.length ≤ 64 := by have := congrArg List.length m10; rw [List.length_map] at this; omega
  refine ck20 (same7_any ((a9.quiet q10).quiet q1012) (a10.quiet q1012) o9 o10 (by omega) (by omega) ?_)
  rw [m9, m10, sameRs_self]
  intro w13 q13
  have q1013 := q1012.trans q13
  simp (maxSteps := 1000000) (disch := omega) only [genAll, decAll, tk_nil, st5, tk_not]
  refine ⟨q1013, ?_⟩
  exact ⟨⟨i + 1, by go_num, by omega, q310.trans q1013⟩, by simp [rel, intOf]; omega⟩
end Go.Proofs.YtpjeohellehgjaaGreatDoor

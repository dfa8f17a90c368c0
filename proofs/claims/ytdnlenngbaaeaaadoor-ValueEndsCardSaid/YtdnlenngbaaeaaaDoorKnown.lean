/- What the laws of this chapter ask first. -/
import Derived.Test.YtdnlenngbaaeaaaDoorArith2
set_option linter.unusedVariables false
set_option linter.unusedSimpArgs false
set_option maxRecDepth 100000
namespace Go.Proofs.YtdnlenngbaaeaaaDoor
open Go.RowKit Go.Cn
def kA : Val := (3, 0, ByteArray.empty, [1, 5])
def kB : Val := (2, 0, txt [120, 32, 121], [])
theorem pA : parseV [91, 49, 32, 53, 93] = (kA, 0) := by kernel_rfl
theorem pB : parseV [34, 120, 32, 121, 34] = (kB, 0) := by kernel_rfl
theorem pC : parseV [48, 49] = (v0, 2) := by kernel_rfl
theorem lA : (ByteArray.mk #[91, 49, 32, 53, 93]) = txt [91, 49, 32, 53, 93] := rfl
theorem lB : (ByteArray.mk #[34, 120, 32, 121, 34]) = txt [34, 120, 32, 121, 34] := rfl
theorem lC : (ByteArray.mk #[48, 49]) = txt [48, 49] := rfl
theorem lD : (ByteArray.mk #[120, 32, 121]) = txt [120, 32, 121] := rfl
theorem lE : (ByteArray.mk #[45, 51]) = txt [45, 51] := rfl
theorem tA : textV kA = [91, 49, 32, 53, 93] := (parse_back pA).1
theorem t3 : textV (1, -3, ByteArray.empty, []) = [45, 51] := by
  show Lib.itoa (-3) = _
  have h : numR [45, 51] = some (-3) := by kernel_rfl
  exact (numR_some h).2.symm
theorem cAB : cmpV kA kB = 1 := by kernel_rfl
theorem in64_lit (z : Int) (h : (decide (-9223372036854775808 ≤ z) && decide (z ≤ 9223372036854775807)) = true) : in64 z := by
  simpa [in64] using h
set_option maxHeartbeats 4000000 in
theorem known_any {w : World} {K : Value → World → Prop} (he : Env2 w) (hK : ∀ w', Qt w w' → K (.bool true) w') : CallK Tryd.prog 9 #[] K w := by
  refine F9_calls _ _ ?_; unfold F9
  rw [lA]
  refine ck18 (parse18 (by decide) he ?_)
  rw [pA]
  intro A1 c1 w1 q1 r1 _
  obtain ⟨q2, h2⟩ := box4 w1 kA A1 c1 24
  have q02 := q1.trans q2
  have rA := r1.quiet q2
  simp (maxSteps := 1000000) (disch := omega) only [hid1', hid2', guardK_u, takeG_u, wrap_in64, optK_some', fzK_false', nilK_ptr, brK_true', brK_false', guardK_tt', guardK_ff', guardK_tf', guardK_ft', takeG_tt', takeG_ff', takeG_tf', takeG_ft', pickK_t', pickK_f', pickT_t', pickT_f', notK, extract2_0', extract2_1', extract3_0', extract3_1', extract3_2', here_load, here_fieldAt, here_indexAt, here_extract, here_un, here_conv, here_slice, here_bin, here_nil, and_here, true_and, Nat.zero_add, Nat.add_assoc, Nat.add_zero, Int.toNat_natCast, size_alloc, World.cell?_drew, World.frozen?_drew, Bool.not_true, Bool.not_false, Int.toNat_zero, dec_t, dec_f, int_eq_t, int_eq_f, int_ne_t, int_ne_f, wrap_in, kld24, kal24, kst24f, kbeql3, kbeql9, kbeql2, kbadd3, kfa24_3, kld22, klen22, hlen22, kfa24_2, kld9, kbd24_0_1, kbd24_, lB]
  generalize (w1.alloc (.cells #[.int .i64 kA.1, .int .i64 kA.2.1, .string kA.2.2.1, .slice A1 kA.2.2.2.length c1] 24)) = w2 at *
  generalize w1.heap.size = b1 at *
  refine ck18 (parse18 (by decide) (he.quiet q02) ?_)
  rw [pB]
  intro A3 c3 w3 q3 r3 _
  obtain ⟨q4, h4⟩ := box4 w3 kB A3 c3 24
  have q04 := (q02.trans q3).trans q4
  have rB := r3.quiet q4
  have rA4 := rA.quiet (q3.trans q4)
  have hA4 := (q3.trans q4).heap h2 (fun h => h)
  simp (maxSteps := 1000000) (disch := omega) only [hid1', hid2', guardK_u, takeG_u, wrap_in64, optK_some', fzK_false', nilK_ptr, brK_true', brK_false', guardK_tt', guardK_ff', guardK_tf', guardK_ft', takeG_tt', takeG_ff', takeG_tf', takeG_ft', pickK_t', pickK_f', pickT_t', pickT_f', notK, extract2_0', extract2_1', extract3_0', extract3_1', extract3_2', here_load, here_fieldAt, here_indexAt, here_extract, here_un, here_conv, here_slice, here_bin, here_nil, and_here, true_and, Nat.zero_add, Nat.add_assoc, Nat.add_zero, Int.toNat_natCast, size_alloc, World.cell?_drew, World.frozen?_drew, Bool.not_true, Bool.not_false, Int.toNat_zero, dec_t, dec_f, int_eq_t, int_eq_f, int_ne_t, int_ne_f, wrap_in, kld24, kal24, kst24f, kbeql3, kbeql9, kbeql2, kbadd3, kfa24_3, kld22, klen22, hlen22, kfa24_2, kld9, kbd24_0_1, kbd24_, lC]
  generalize (w3.alloc (.cells #[.int .i64 kB.1, .int .i64 kB.2.1, .string kB.2.2.1, .slice A3 kB.2.2.2.length c3] 24)) = w4 at *
  generalize w3.heap.size = b3 at *
  refine ck18 (parse18 (by decide) (he.quiet q04) ?_)
  rw [pC]
  intro A5 c5 w5 q5 r5 _
  obtain ⟨q6, h6⟩ := box4 w5 v0 A5 c5 24
  have q06 := (q04.trans q5).trans q6
  have rA6 := rA4.quiet (q5.trans q6)
  have rB6 := rB.quiet (q5.trans q6)
  have hA6 := (q5.trans q6).heap hA4 (fun h => h)
  have hB6 := (q5.trans q6).heap h4 (fun h => h)
  simp (maxSteps := 1000000) (disch := omega) only [hid1', hid2', guardK_u, takeG_u, wrap_in64, optK_some', fzK_false', nilK_ptr, brK_true', brK_false', guardK_tt', guardK_ff', guardK_tf', guardK_ft', takeG_tt', takeG_ff', takeG_tf', takeG_ft', pickK_t', pickK_f', pickT_t', pickT_f', notK, extract2_0', extract2_1', extract3_0', extract3_1', extract3_2', here_load, here_fieldAt, here_indexAt, here_extract, here_un, here_conv, here_slice, here_bin, here_nil, and_here, true_and, Nat.zero_add, Nat.add_assoc, Nat.add_zero, Int.toNat_natCast, size_alloc, World.cell?_drew, World.frozen?_drew, Bool.not_true, Bool.not_false, Int.toNat_zero, dec_t, dec_f, int_eq_t, int_eq_f, int_ne_t, int_ne_f, wrap_in, kld24, kal24, kst24f, kbeql3, kbeql9, kbeql2, kbadd3, kfa24_3, kld22, klen22, hlen22, kfa24_2, kld9, kbd24_0_1, kbd24_]
  generalize (w5.alloc (.cells #[.int .i64 v0.1, .int .i64 v0.2.1, .string v0.2.2.1, .slice A5 v0.2.2.2.length c5] 24)) = w6 at *
  generalize w5.heap.size = b5 at *
  clear h2 q1 q2 q3 q4 q5 q6 q02 r1 r3 r5 rA rB rA4 hA4 h4 h6 q04
  have X := fun w' (q : Qt w6 w') => cell4 (q.heap hA6 (fun h => h))
  have Y := fun w' (q : Qt w6 w') => cell4 (q.heap hB6 (fun h => h))
  have i7 : in64 (-7) := in64_lit _ rfl
  have i2 : in64 2 := in64_lit _ rfl
  have i1 : in64 1 := in64_lit _ rfl
  have i0 : in64 0 := in64_lit _ rfl
  refine ck21 (div21 i7 i2 ?_)
  simp (maxSteps := 1000000) (disch := omega) only [hid1', hid2', guardK_u, takeG_u, wrap_in64, optK_some', fzK_false', nilK_ptr, brK_true', brK_false', guardK_tt', guardK_ff', guardK_tf', guardK_ft', takeG_tt', takeG_ff', takeG_tf', takeG_ft', pickK_t', pickK_f', pickT_t', pickT_f', notK, extract2_0', extract2_1', extract3_0', extract3_1', extract3_2', here_load, here_fieldAt, here_indexAt, here_extract, here_un, here_conv, here_slice, here_bin, here_nil, and_here, true_and, Nat.zero_add, Nat.add_assoc, Nat.add_zero, Int.toNat_natCast, size_alloc, World.cell?_drew, World.frozen?_drew, Bool.not_true, Bool.not_false, Int.toNat_zero, dec_t, dec_f, int_eq_t, int_eq_f, int_ne_t, int_ne_f, wrap_in, kld24, kal24, kst24f, kbeql3, kbeql9, kbeql2, kbadd3, kfa24_3, kld22, klen22, hlen22, kfa24_2, kld9, kbd24_0_1, kbd24_]
  refine ck22 (mod22 i7 i2 ?_)
  simp (maxSteps := 1000000) (disch := omega) only [hid1', hid2', guardK_u, takeG_u, wrap_in64, optK_some', fzK_false', nilK_ptr, brK_true', brK_false', guardK_tt', guardK_ff', guardK_tf', guardK_ft', takeG_tt', takeG_ff', takeG_tf', takeG_ft', pickK_t', pickK_f', pickT_t', pickT_f', notK, extract2_0', extract2_1', extract3_0', extract3_1', extract3_2', here_load, here_fieldAt, here_indexAt, here_extract, here_un, here_conv, here_slice, here_bin, here_nil, and_here, true_and, Nat.zero_add, Nat.add_assoc, Nat.add_zero, Int.toNat_natCast, size_alloc, World.cell?_drew, World.frozen?_drew, Bool.not_true, Bool.not_false, Int.toNat_zero, dec_t, dec_f, int_eq_t, int_eq_f, int_ne_t, int_ne_f, wrap_in, kld24, kal24, kst24f, kbeql3, kbeql9, kbeql2, kbadd3, kfa24_3, kld22, klen22, hlen22, kfa24_2, kld9, kbd24_0_1, kbd24_]
  refine ck21 (div21 i1 i0 ?_)
  have d1 : divI (-7) 2 = -3 := rfl
  have d2 : modI (-7) 2 = -1 := rfl
  have d3 : divI 1 0 = 0 := rfl
  obtain ⟨x0, x1, x2, x3⟩ := X w6 Qt.refl
  obtain ⟨y0, y1, y2, y3⟩ := Y w6 Qt.refl
  have e1 : (((kA.2.2.2.length : Nat) : Int) == 2) = true := rfl
  have e2 : ((kB.2.2.1).toList == (txt [120, 32, 121]).toList) = true := beq_self_eq_true _
  have z1 : ((0 : Int) + 0 == 0) = true := rfl
  have z2 : ((2 : Int) == 2) = true := rfl
  have z0 : ((0 : Int) == 0) = true := rfl
  simp (maxSteps := 1000000) (disch := omega) only [hid1', hid2', guardK_u, takeG_u, wrap_in64, optK_some', fzK_false', nilK_ptr, brK_true', brK_false', guardK_tt', guardK_ff', guardK_tf', guardK_ft', takeG_tt', takeG_ff', takeG_tf', takeG_ft', pickK_t', pickK_f', pickT_t', pickT_f', notK, extract2_0', extract2_1', extract3_0', extract3_1', extract3_2', here_load, here_fieldAt, here_indexAt, here_extract, here_un, here_conv, here_slice, here_bin, here_nil, and_here, true_and, Nat.zero_add, Nat.add_assoc, Nat.add_zero, Int.toNat_natCast, size_alloc, World.cell?_drew, World.frozen?_drew, Bool.not_true, Bool.not_false, Int.toNat_zero, dec_t, dec_f, int_eq_t, int_eq_f, int_ne_t, int_ne_f, wrap_in, kld24, kal24, kst24f, kbeql3, kbeql9, kbeql2, kbadd3, kfa24_3, kld22, klen22, hlen22, kfa24_2, kld9, kbd24_0_1, kbd24_, z0, z1, z2, x0, x1, x2, x3, y0, y1, y2, y3, e1, lD, e2]
  have he6 := he.quiet q06
  have inA : ∀ x ∈ kA.2.2.2, in64 x := fun x hx => by
    rcases List.mem_cons.1 hx with rfl | hx
    · exact in64_lit _ rfl
    · rw [List.mem_singleton.1 hx]; exact in64_lit _ rfl
  refine ck16 (text16 (a := kA) rA6 (by decide) (by decide) (in64_lit _ rfl) inA he6 ?_)
  intro w7 q7
  rw [tA]
  obtain ⟨x0, x1, x2, x3⟩ := X w7 q7
  obtain ⟨y0, y1, y2, y3⟩ := Y w7 q7
  simp (maxSteps := 1000000) (disch := omega) only [hid1', hid2', guardK_u, takeG_u, wrap_in64, optK_some', fzK_false', nilK_ptr, brK_true', brK_false', guardK_tt', guardK_ff', guardK_tf', guardK_ft', takeG_tt', takeG_ff', takeG_tf', takeG_ft', pickK_t', pickK_f', pickT_t', pickT_f', notK, extract2_0', extract2_1', extract3_0', extract3_1', extract3_2', here_load, here_fieldAt, here_indexAt, here_extract, here_un, here_conv, here_slice, here_bin, here_nil, and_here, true_and, Nat.zero_add, Nat.add_assoc, Nat.add_zero, Int.toNat_natCast, size_alloc, World.cell?_drew, World.frozen?_drew, Bool.not_true, Bool.not_false, Int.toNat_zero, dec_t, dec_f, int_eq_t, int_eq_f, int_ne_t, int_ne_f, wrap_in, kld24, kal24, kst24f, kbeql3, kbeql9, kbeql2, kbadd3, kfa24_3, kld22, klen22, hlen22, kfa24_2, kld9, kbd24_0_1, kbd24_, lA, beq_self_eq_true]
  refine ck16 (text16 (a := (1, -3, ByteArray.empty, [])) (A := none) (c := 0) (.inl rfl) (by decide) (by decide) (in64_lit _ rfl) (fun x hx => by cases hx) (he6.quiet q7) ?_)
  intro w8 q8
  rw [t3]
  have q68 := q7.trans q8
  obtain ⟨x0, x1, x2, x3⟩ := X w8 q68
  obtain ⟨y0, y1, y2, y3⟩ := Y w8 q68
  simp (maxSteps := 1000000) (disch := omega) only [hid1', hid2', guardK_u, takeG_u, wrap_in64, optK_some', fzK_false', nilK_ptr, brK_true', brK_false', guardK_tt', guardK_ff', guardK_tf', guardK_ft', takeG_tt', takeG_ff', takeG_tf', takeG_ft', pickK_t', pickK_f', pickT_t', pickT_f', notK, extract2_0', extract2_1', extract3_0', extract3_1', extract3_2', here_load, here_fieldAt, here_indexAt, here_extract, here_un, here_conv, here_slice, here_bin, here_nil, and_here, true_and, Nat.zero_add, Nat.add_assoc, Nat.add_zero, Int.toNat_natCast, size_alloc, World.cell?_drew, World.frozen?_drew, Bool.not_true, Bool.not_false, Int.toNat_zero, dec_t, dec_f, int_eq_t, int_eq_f, int_ne_t, int_ne_f, wrap_in, kld24, kal24, kst24f, kbeql3, kbeql9, kbeql2, kbadd3, kfa24_3, kld22, klen22, hlen22, kfa24_2, kld9, kbd24_0_1, kbd24_, lE, beq_self_eq_true, x0, x1, x2, x3, y0, y1, y2, y3]
  refine ck15 (cmp15 (a := kA) (b := kB) (rA6.quiet q68) (rB6.quiet q68) (by decide) (by decide) ?_)
  intro w9 q9
  rw [cAB]
  have q69 := q68.trans q9
  obtain ⟨x0, x1, x2, x3⟩ := X w9 q69
  have z3 : ((1 : Int) == 1) = true := rfl
  simp (maxSteps := 1000000) (disch := omega) only [hid1', hid2', guardK_u, takeG_u, wrap_in64, optK_some', fzK_false', nilK_ptr, brK_true', brK_false', guardK_tt', guardK_ff', guardK_tf', guardK_ft', takeG_tt', takeG_ff', takeG_tf', takeG_ft', pickK_t', pickK_f', pickT_t', pickT_f', notK, extract2_0', extract2_1', extract3_0', extract3_1', extract3_2', here_load, here_fieldAt, here_indexAt, here_extract, here_un, here_conv, here_slice, here_bin, here_nil, and_here, true_and, Nat.zero_add, Nat.add_assoc, Nat.add_zero, Int.toNat_natCast, size_alloc, World.cell?_drew, World.frozen?_drew, Bool.not_true, Bool.not_false, Int.toNat_zero, dec_t, dec_f, int_eq_t, int_eq_f, int_ne_t, int_ne_f, wrap_in, kld24, kal24, kst24f, kbeql3, kbeql9, kbeql2, kbadd3, kfa24_3, kld22, klen22, hlen22, kfa24_2, kld9, kbd24_0_1, kbd24_, z3, x0, x1, x2, x3]
  refine ck19 (same19 (a := kA) (b := kA) (rA6.quiet q69) (rA6.quiet q69) (by decide) (by decide) ?_)
  intro w10 q10
  have z4 : decide (cmpV kA kA = 0) = true := decide_eq_true (cmpL_self _)
  rw [z4]
  have q610 := q69.trans q10
  simp (maxSteps := 1000000) (disch := omega) only [hid1', hid2', guardK_u, takeG_u, wrap_in64, optK_some', fzK_false', nilK_ptr, brK_true', brK_false', guardK_tt', guardK_ff', guardK_tf', guardK_ft', takeG_tt', takeG_ff', takeG_tf', takeG_ft', pickK_t', pickK_f', pickT_t', pickT_f', notK, extract2_0', extract2_1', extract3_0', extract3_1', extract3_2', here_load, here_fieldAt, here_indexAt, here_extract, here_un, here_conv, here_slice, here_bin, here_nil, and_here, true_and, Nat.zero_add, Nat.add_assoc, Nat.add_zero, Int.toNat_natCast, size_alloc, World.cell?_drew, World.frozen?_drew, Bool.not_true, Bool.not_false, Int.toNat_zero, dec_t, dec_f, int_eq_t, int_eq_f, int_ne_t, int_ne_f, wrap_in, kld24, kal24, kst24f, kbeql3, kbeql9, kbeql2, kbadd3, kfa24_3, kld22, klen22, hlen22, kfa24_2, kld9, kbd24_0_1, kbd24_]
  refine ck25 (add25 (in64_lit _ rfl) (in64_lit _ rfl) ?_)
  have z5 : (cutI (4611686018427387904 + 4611686018427387904) == 9223372036854775807) = true := rfl
  have z6 : (divI (-7) 2 == -3) = true := rfl
  have z7 : (modI (-7) 2 == -1) = true := rfl
  have z8 : (!decide ((2 : Int) = 0)) = true := rfl
  have z9 : (!decide ((0 : Int) = 0)) = false := rfl
  simp (maxSteps := 1000000) (disch := omega) only [hid1', hid2', guardK_u, takeG_u, wrap_in64, optK_some', fzK_false', nilK_ptr, brK_true', brK_false', guardK_tt', guardK_ff', guardK_tf', guardK_ft', takeG_tt', takeG_ff', takeG_tf', takeG_ft', pickK_t', pickK_f', pickT_t', pickT_f', notK, extract2_0', extract2_1', extract3_0', extract3_1', extract3_2', here_load, here_fieldAt, here_indexAt, here_extract, here_un, here_conv, here_slice, here_bin, here_nil, and_here, true_and, Nat.zero_add, Nat.add_assoc, Nat.add_zero, Int.toNat_natCast, size_alloc, World.cell?_drew, World.frozen?_drew, Bool.not_true, Bool.not_false, Int.toNat_zero, dec_t, dec_f, int_eq_t, int_eq_f, int_ne_t, int_ne_f, wrap_in, kld24, kal24, kst24f, kbeql3, kbeql9, kbeql2, kbadd3, kfa24_3, kld22, klen22, hlen22, kfa24_2, kld9, kbd24_0_1, kbd24_, z5, z6, z7, z8, z9]
  refine ck13 (check13 (a := v0) (A := none) (c := 0) (.inl rfl) (by decide) (by decide) ?_)
  intro w11 q11
  have za : (checkV v0 == 7) = true := rfl
  simp (maxSteps := 1000000) (disch := omega) only [hid1', hid2', guardK_u, takeG_u, wrap_in64, optK_some', fzK_false', nilK_ptr, brK_true', brK_false', guardK_tt', guardK_ff', guardK_tf', guardK_ft', takeG_tt', takeG_ff', takeG_tf', takeG_ft', pickK_t', pickK_f', pickT_t', pickT_f', notK, extract2_0', extract2_1', extract3_0', extract3_1', extract3_2', here_load, here_fieldAt, here_indexAt, here_extract, here_un, here_conv, here_slice, here_bin, here_nil, and_here, true_and, Nat.zero_add, Nat.add_assoc, Nat.add_zero, Int.toNat_natCast, size_alloc, World.cell?_drew, World.frozen?_drew, Bool.not_true, Bool.not_false, Int.toNat_zero, dec_t, dec_f, int_eq_t, int_eq_f, int_ne_t, int_ne_f, wrap_in, kld24, kal24, kst24f, kbeql3, kbeql9, kbeql2, kbadd3, kfa24_3, kld22, klen22, hlen22, kfa24_2, kld9, kbd24_0_1, kbd24_, za]
  exact hK _ (q06.trans (q610.trans q11))
end Go.Proofs.YtdnlenngbaaeaaaDoor

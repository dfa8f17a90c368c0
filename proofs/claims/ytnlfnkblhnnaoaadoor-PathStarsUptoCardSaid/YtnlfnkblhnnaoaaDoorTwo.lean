/- Two paths: shared, Under, Common, of both packages. Conditions: at most 1000 bytes. -/
import Derived.Test.YtnlfnkblhnnaoaaDoorPairs
import Derived.Test.YtnlfnkblhnnaoaaDoorPath2
set_option linter.unusedVariables false
set_option linter.unusedSimpArgs false
set_option maxRecDepth 100000
namespace Go.Proofs.YtnlfnkblhnnaoaaDoor
open Go.RowKit Go.Cn
theorem min_here (a b : Nat) {K : Value → Prop} {w1 : World} : TakeO Tryd.prog (fun w' => w' = w1) (builtin Builtin.min #[3, 3] 3 #[false, false] #[.int .i64 a, .int .i64 b]) K = K (.int .i64 (min a b : Nat)) := here_o (fun w => by
  go_simp
  omega)
theorem shared_any {a b : List (List UInt8)} {A B : Option Addr} {c d : Nat} {w : World} {K : Value → World → Prop} (ha : Reads w A (strs a)) (hb : Reads w B (strs b)) (hla : a.length ≤ 1000) (hlb : b.length ≤ 1000)
    (hK : ∀ w', Qt w w' → K (.int .i64 (sharedN a b)) w') : CallK Tryd.prog 39 #[.slice A a.length c, .slice B b.length d] K w := by
  refine F39_calls _ _ _ _ ?_; unfold F39
  refine loopK1 (fun v w' => Qt w w' ∧ ∃ i : Nat, v = .int .i64 i ∧ i ≤ a.length ∧ i ≤ b.length ∧ a.take i = b.take i) (fun v _ => a.length - (intOf v).toNat) ⟨Qt.refl, 0, rfl, by omega, by omega, rfl⟩ ?_
  rintro _ _ w' ⟨q, i, rfl, hi1, hi2, hlo⟩
  have hmin := @min_here a.length b.length
  by_cases hlt : i < a.length ∧ i < b.length
  · obtain ⟨g, o, rfl, hc⟩ := strs_at (ha.quiet q) hlt.1
    obtain ⟨g2, o2, rfl, hc2⟩ := strs_at (hb.quiet q) hlt.2
    have htk : a.take (i + 1) = a.take i ++ [a[i]] := List.take_succ_eq_append_getElem hlt.1
    have htk2 : b.take (i + 1) = b.take i ++ [b[i]] := List.take_succ_eq_append_getElem hlt.2
    by_cases he : a[i] = b[i]
    · rw [← he] at hc2 htk2
      generalize a[i] = p at *
      have hd : decide True = true := rfl
      refine drawK_here ?_
      simp (maxSteps := 1000000) (disch := omega) only [hid1', hid2', guardK_u, takeG_u, wrap_in64, optK_some', fzK_false', nilK_ptr, brK_true', brK_false', guardK_tt', guardK_ff', guardK_tf', guardK_ft', takeG_tt', takeG_ff', takeG_tf', takeG_ft', pickK_t', pickK_f', pickT_t', pickT_f', notK, extract2_0', extract2_1', extract3_0', extract3_1', extract3_2', here_load, here_fieldAt, here_indexAt, here_extract, here_un, here_conv, here_slice, here_bin, here_nil, and_here, true_and, Nat.zero_add, Nat.add_assoc, Nat.add_zero, Int.toNat_natCast, size_alloc, World.cell?_drew, World.frozen?_drew, Bool.not_true, Bool.not_false, Int.toNat_zero, dec_t, dec_f, int_eq_t, int_eq_f, int_ne_t, int_ne_f, wrap_in, klen9, hlen9, kbgtr3, kbneq3, kbneq9, kbeql9, kbeql4, klen23, hlen23, kblss3, kia23, kld9, kbsub3, kbadd3, kbeql3, kbs23_1_0, kbneq4, kbs23_0, kcv5_3, kbrem3, kst9, kbneq24, kbgeq3, ksl23_010z, ksl23_010, kbeql24, kblss5, kbgtr5, kbneq5, kbeql5, ksl23_011, ksl23_011z, kbquo3, kbmul3, kal58, ksl23_100z, ksl23_100, kmin3_ff, kfa58_1, kld56, kst56, hc, hc2, hmin, eq_txt, hd]
      refine ⟨⟨q.drew, i + 1, by go_num, by omega, by omega, by rw [htk, htk2, hlo]⟩, by simp [rel, intOf]; omega⟩
    · have hs : sharedN a b = i := sharedN_eq [] a b i hi1 hi2 hlo (fun x y => by simpa [x, y] using he)
      have hd : decide (a[i] = b[i]) = false := decide_eq_false he
      have := hK w'.drew q.drew
      rw [hs] at this
      generalize a[i] = p at *
      generalize b[i] = p2 at *
      refine drawK_here ?_
      simp (maxSteps := 1000000) (disch := omega) only [hid1', hid2', guardK_u, takeG_u, wrap_in64, optK_some', fzK_false', nilK_ptr, brK_true', brK_false', guardK_tt', guardK_ff', guardK_tf', guardK_ft', takeG_tt', takeG_ff', takeG_tf', takeG_ft', pickK_t', pickK_f', pickT_t', pickT_f', notK, extract2_0', extract2_1', extract3_0', extract3_1', extract3_2', here_load, here_fieldAt, here_indexAt, here_extract, here_un, here_conv, here_slice, here_bin, here_nil, and_here, true_and, Nat.zero_add, Nat.add_assoc, Nat.add_zero, Int.toNat_natCast, size_alloc, World.cell?_drew, World.frozen?_drew, Bool.not_true, Bool.not_false, Int.toNat_zero, dec_t, dec_f, int_eq_t, int_eq_f, int_ne_t, int_ne_f, wrap_in, klen9, hlen9, kbgtr3, kbneq3, kbneq9, kbeql9, kbeql4, klen23, hlen23, kblss3, kia23, kld9, kbsub3, kbadd3, kbeql3, kbs23_1_0, kbneq4, kbs23_0, kcv5_3, kbrem3, kst9, kbneq24, kbgeq3, ksl23_010z, ksl23_010, kbeql24, kblss5, kbgtr5, kbneq5, kbeql5, ksl23_011, ksl23_011z, kbquo3, kbmul3, kal58, ksl23_100z, ksl23_100, kmin3_ff, kfa58_1, kld56, kst56, hc, hc2, hmin, eq_txt, hd]
      exact this
  · have hs : sharedN a b = i := sharedN_eq [] a b i hi1 hi2 hlo (fun x y => absurd ⟨x, y⟩ hlt)
    have := hK w'.drew q.drew
    rw [hs] at this
    refine drawK_here ?_
    simp (maxSteps := 1000000) (disch := omega) only [hid1', hid2', guardK_u, takeG_u, wrap_in64, optK_some', fzK_false', nilK_ptr, brK_true', brK_false', guardK_tt', guardK_ff', guardK_tf', guardK_ft', takeG_tt', takeG_ff', takeG_tf', takeG_ft', pickK_t', pickK_f', pickT_t', pickT_f', notK, extract2_0', extract2_1', extract3_0', extract3_1', extract3_2', here_load, here_fieldAt, here_indexAt, here_extract, here_un, here_conv, here_slice, here_bin, here_nil, and_here, true_and, Nat.zero_add, Nat.add_assoc, Nat.add_zero, Int.toNat_natCast, size_alloc, World.cell?_drew, World.frozen?_drew, Bool.not_true, Bool.not_false, Int.toNat_zero, dec_t, dec_f, int_eq_t, int_eq_f, int_ne_t, int_ne_f, wrap_in, klen9, hlen9, kbgtr3, kbneq3, kbneq9, kbeql9, kbeql4, klen23, hlen23, kblss3, kia23, kld9, kbsub3, kbadd3, kbeql3, kbs23_1_0, kbneq4, kbs23_0, kcv5_3, kbrem3, kst9, kbneq24, kbgeq3, ksl23_010z, ksl23_010, kbeql24, kblss5, kbgtr5, kbneq5, kbeql5, ksl23_011, ksl23_011z, kbquo3, kbmul3, kal58, ksl23_100z, ksl23_100, kmin3_ff, kfa58_1, kld56, kst56, hmin]
    exact this
theorem under_any {l z : List UInt8} {w : World} {K : Value → World → Prop} (hl : l.length ≤ 1000) (hz : z.length ≤ 1000) (hm : MaxAt w)
    (hK : ∀ w', Qt w w' → K (.bool (underL l z)) w') : CallK Tryd.prog 23 #[.string (txt l), .string (txt z)] K w := by
  refine F23_calls _ _ _ _ ?_; unfold F23
  refine ck9 (parse_any hl hm ?_)
  intro A c F w1 o1 q1 f1
  have hs1 := len_small l
  have r1 := Reads.of_own o1
  simp (maxSteps := 1000000) (disch := omega) only [hid1', hid2', guardK_u, takeG_u, wrap_in64, optK_some', fzK_false', nilK_ptr, brK_true', brK_false', guardK_tt', guardK_ff', guardK_tf', guardK_ft', takeG_tt', takeG_ff', takeG_tf', takeG_ft', pickK_t', pickK_f', pickT_t', pickT_f', notK, extract2_0', extract2_1', extract3_0', extract3_1', extract3_2', here_load, here_fieldAt, here_indexAt, here_extract, here_un, here_conv, here_slice, here_bin, here_nil, and_here, true_and, Nat.zero_add, Nat.add_assoc, Nat.add_zero, Int.toNat_natCast, size_alloc, World.cell?_drew, World.frozen?_drew, Bool.not_true, Bool.not_false, Int.toNat_zero, dec_t, dec_f, int_eq_t, int_eq_f, int_ne_t, int_ne_f, wrap_in, klen9, hlen9, kbgtr3, kbneq3, kbneq9, kbeql9, kbeql4, klen23, hlen23, kblss3, kia23, kld9, kbsub3, kbadd3, kbeql3, kbs23_1_0, kbneq4, kbs23_0, kcv5_3, kbrem3, kst9, kbneq24, kbgeq3, ksl23_010z, ksl23_010, kbeql24, kblss5, kbgtr5, kbneq5, kbeql5, ksl23_011, ksl23_011z, kbquo3, kbmul3, kal58, ksl23_100z, ksl23_100, kmin3_ff, kfa58_1, kld56, kst56]
  refine ck9 (parse_any hz (hm.quiet q1) ?_)
  intro B d G w2 o2 q2 f2
  have hs2 := len_small z
  have r2 := Reads.of_own o2
  have r1' := r1.quiet q2
  unfold underL at hK
  have hsh2 := o2.shape
  have q12 := q1.trans q2
  clear o1 o2
  by_cases h0 : (parseL l).1 = 0
  · by_cases h1 : (parseL z).1 = 0
    · rw [h0, h1] at hK
      generalize (parseL l).2 = a at *
      generalize (parseL z).2 = b at *
      have hd : decide ((0 : Int) = 0) = true := rfl
      rw [hd] at hK
      simp (maxSteps := 1000000) (disch := omega) only [hid1', hid2', guardK_u, takeG_u, wrap_in64, optK_some', fzK_false', nilK_ptr, brK_true', brK_false', guardK_tt', guardK_ff', guardK_tf', guardK_ft', takeG_tt', takeG_ff', takeG_tf', takeG_ft', pickK_t', pickK_f', pickT_t', pickT_f', notK, extract2_0', extract2_1', extract3_0', extract3_1', extract3_2', here_load, here_fieldAt, here_indexAt, here_extract, here_un, here_conv, here_slice, here_bin, here_nil, and_here, true_and, Nat.zero_add, Nat.add_assoc, Nat.add_zero, Int.toNat_natCast, size_alloc, World.cell?_drew, World.frozen?_drew, Bool.not_true, Bool.not_false, Int.toNat_zero, dec_t, dec_f, int_eq_t, int_eq_f, int_ne_t, int_ne_f, wrap_in, klen9, hlen9, kbgtr3, kbneq3, kbneq9, kbeql9, kbeql4, klen23, hlen23, kblss3, kia23, kld9, kbsub3, kbadd3, kbeql3, kbs23_1_0, kbneq4, kbs23_0, kcv5_3, kbrem3, kst9, kbneq24, kbgeq3, ksl23_010z, ksl23_010, kbeql24, kblss5, kbgtr5, kbneq5, kbeql5, ksl23_011, ksl23_011z, kbquo3, kbmul3, kal58, ksl23_100z, ksl23_100, kmin3_ff, kfa58_1, kld56, kst56, h0, h1]
      refine ck39 (shared_any r1' r2 (by omega) (by omega) ?_)
      intro w3 q3
      have e : ((sharedN a b : Int) == (b.length : Int)) = decide (sharedN a b = b.length) := by
        by_cases h : sharedN a b = b.length
        · rw [h]; simp
        · rw [decide_eq_false h, beq_eq_false_iff_ne]; omega
      have := hK w3 (q12.trans q3)
      simp only [Bool.true_and] at this
      simp (maxSteps := 1000000) (disch := omega) only [hid1', hid2', guardK_u, takeG_u, wrap_in64, optK_some', fzK_false', nilK_ptr, brK_true', brK_false', guardK_tt', guardK_ff', guardK_tf', guardK_ft', takeG_tt', takeG_ff', takeG_tf', takeG_ft', pickK_t', pickK_f', pickT_t', pickT_f', notK, extract2_0', extract2_1', extract3_0', extract3_1', extract3_2', here_load, here_fieldAt, here_indexAt, here_extract, here_un, here_conv, here_slice, here_bin, here_nil, and_here, true_and, Nat.zero_add, Nat.add_assoc, Nat.add_zero, Int.toNat_natCast, size_alloc, World.cell?_drew, World.frozen?_drew, Bool.not_true, Bool.not_false, Int.toNat_zero, dec_t, dec_f, int_eq_t, int_eq_f, int_ne_t, int_ne_f, wrap_in, klen9, hlen9, kbgtr3, kbneq3, kbneq9, kbeql9, kbeql4, klen23, hlen23, kblss3, kia23, kld9, kbsub3, kbadd3, kbeql3, kbs23_1_0, kbneq4, kbs23_0, kcv5_3, kbrem3, kst9, kbneq24, kbgeq3, ksl23_010z, ksl23_010, kbeql24, kblss5, kbgtr5, kbneq5, kbeql5, ksl23_011, ksl23_011z, kbquo3, kbmul3, kal58, ksl23_100z, ksl23_100, kmin3_ff, kfa58_1, kld56, kst56, e]
      exact this
    · have hd : decide ((parseL z).1 = 0) = false := decide_eq_false h1
      rw [h0, hd] at hK
      have := hK w2 q12
      simp only [Bool.and_false, Bool.false_and] at this
      simp (maxSteps := 1000000) (disch := omega) only [hid1', hid2', guardK_u, takeG_u, wrap_in64, optK_some', fzK_false', nilK_ptr, brK_true', brK_false', guardK_tt', guardK_ff', guardK_tf', guardK_ft', takeG_tt', takeG_ff', takeG_tf', takeG_ft', pickK_t', pickK_f', pickT_t', pickT_f', notK, extract2_0', extract2_1', extract3_0', extract3_1', extract3_2', here_load, here_fieldAt, here_indexAt, here_extract, here_un, here_conv, here_slice, here_bin, here_nil, and_here, true_and, Nat.zero_add, Nat.add_assoc, Nat.add_zero, Int.toNat_natCast, size_alloc, World.cell?_drew, World.frozen?_drew, Bool.not_true, Bool.not_false, Int.toNat_zero, dec_t, dec_f, int_eq_t, int_eq_f, int_ne_t, int_ne_f, wrap_in, klen9, hlen9, kbgtr3, kbneq3, kbneq9, kbeql9, kbeql4, klen23, hlen23, kblss3, kia23, kld9, kbsub3, kbadd3, kbeql3, kbs23_1_0, kbneq4, kbs23_0, kcv5_3, kbrem3, kst9, kbneq24, kbgeq3, ksl23_010z, ksl23_010, kbeql24, kblss5, kbgtr5, kbneq5, kbeql5, ksl23_011, ksl23_011z, kbquo3, kbmul3, kal58, ksl23_100z, ksl23_100, kmin3_ff, kfa58_1, kld56, kst56, h0, h1, guardK_u]
      exact this
  · have hd : decide ((parseL l).1 = 0) = false := decide_eq_false h0
    rw [hd] at hK
    have := hK w2 q12
    simp only [Bool.and_false, Bool.false_and] at this
    simp (maxSteps := 1000000) (disch := omega) only [hid1', hid2', guardK_u, takeG_u, wrap_in64, optK_some', fzK_false', nilK_ptr, brK_true', brK_false', guardK_tt', guardK_ff', guardK_tf', guardK_ft', takeG_tt', takeG_ff', takeG_tf', takeG_ft', pickK_t', pickK_f', pickT_t', pickT_f', notK, extract2_0', extract2_1', extract3_0', extract3_1', extract3_2', here_load, here_fieldAt, here_indexAt, here_extract, here_un, here_conv, here_slice, here_bin, here_nil, and_here, true_and, Nat.zero_add, Nat.add_assoc, Nat.add_zero, Int.toNat_natCast, size_alloc, World.cell?_drew, World.frozen?_drew, Bool.not_true, Bool.not_false, Int.toNat_zero, dec_t, dec_f, int_eq_t, int_eq_f, int_ne_t, int_ne_f, wrap_in, klen9, hlen9, kbgtr3, kbneq3, kbneq9, kbeql9, kbeql4, klen23, hlen23, kblss3, kia23, kld9, kbsub3, kbadd3, kbeql3, kbs23_1_0, kbneq4, kbs23_0, kcv5_3, kbrem3, kst9, kbneq24, kbgeq3, ksl23_010z, ksl23_010, kbeql24, kblss5, kbgtr5, kbneq5, kbeql5, ksl23_011, ksl23_011z, kbquo3, kbmul3, kal58, ksl23_100z, ksl23_100, kmin3_ff, kfa58_1, kld56, kst56, h0, guardK_u]
    exact this
theorem common_any {l z : List UInt8} {w : World} {K : Value → World → Prop} (hl : l.length ≤ 1000) (hz : z.length ≤ 1000) (hm : MaxAt w)
    (hK : ∀ w', Qt w w' → K (.string (txt (commonL l z))) w') : CallK Tryd.prog 25 #[.string (txt l), .string (txt z)] K w := by
  refine F25_calls _ _ _ _ ?_; unfold F25
  refine ck40 (is_any hl hm ?_)
  intro w1 q1
  unfold commonL at hK
  by_cases h0 : (parseL l).1 = 0
  · have hd0 : decide ((parseL l).1 = 0) = true := decide_eq_true h0
    simp (maxSteps := 1000000) (disch := omega) only [hid1', hid2', guardK_u, takeG_u, wrap_in64, optK_some', fzK_false', nilK_ptr, brK_true', brK_false', guardK_tt', guardK_ff', guardK_tf', guardK_ft', takeG_tt', takeG_ff', takeG_tf', takeG_ft', pickK_t', pickK_f', pickT_t', pickT_f', notK, extract2_0', extract2_1', extract3_0', extract3_1', extract3_2', here_load, here_fieldAt, here_indexAt, here_extract, here_un, here_conv, here_slice, here_bin, here_nil, and_here, true_and, Nat.zero_add, Nat.add_assoc, Nat.add_zero, Int.toNat_natCast, size_alloc, World.cell?_drew, World.frozen?_drew, Bool.not_true, Bool.not_false, Int.toNat_zero, dec_t, dec_f, int_eq_t, int_eq_f, int_ne_t, int_ne_f, wrap_in, klen9, hlen9, kbgtr3, kbneq3, kbneq9, kbeql9, kbeql4, klen23, hlen23, kblss3, kia23, kld9, kbsub3, kbadd3, kbeql3, kbs23_1_0, kbneq4, kbs23_0, kcv5_3, kbrem3, kst9, kbneq24, kbgeq3, ksl23_010z, ksl23_010, kbeql24, kblss5, kbgtr5, kbneq5, kbeql5, ksl23_011, ksl23_011z, kbquo3, kbmul3, kal58, ksl23_100z, ksl23_100, kmin3_ff, kfa58_1, kld56, kst56, hd0]
    refine ck40 (is_any hz (hm.quiet q1) ?_)
    intro w2 q2
    have q12 := q1.trans q2
    by_cases h1 : (parseL z).1 = 0
    · have hd1 : decide ((parseL z).1 = 0) = true := decide_eq_true h1
      rw [if_pos ⟨h0, h1⟩] at hK
      simp (maxSteps := 1000000) (disch := omega) only [hid1', hid2', guardK_u, takeG_u, wrap_in64, optK_some', fzK_false', nilK_ptr, brK_true', brK_false', guardK_tt', guardK_ff', guardK_tf', guardK_ft', takeG_tt', takeG_ff', takeG_tf', takeG_ft', pickK_t', pickK_f', pickT_t', pickT_f', notK, extract2_0', extract2_1', extract3_0', extract3_1', extract3_2', here_load, here_fieldAt, here_indexAt, here_extract, here_un, here_conv, here_slice, here_bin, here_nil, and_here, true_and, Nat.zero_add, Nat.add_assoc, Nat.add_zero, Int.toNat_natCast, size_alloc, World.cell?_drew, World.frozen?_drew, Bool.not_true, Bool.not_false, Int.toNat_zero, dec_t, dec_f, int_eq_t, int_eq_f, int_ne_t, int_ne_f, wrap_in, klen9, hlen9, kbgtr3, kbneq3, kbneq9, kbeql9, kbeql4, klen23, hlen23, kblss3, kia23, kld9, kbsub3, kbadd3, kbeql3, kbs23_1_0, kbneq4, kbs23_0, kcv5_3, kbrem3, kst9, kbneq24, kbgeq3, ksl23_010z, ksl23_010, kbeql24, kblss5, kbgtr5, kbneq5, kbeql5, ksl23_011, ksl23_011z, kbquo3, kbmul3, kal58, ksl23_100z, ksl23_100, kmin3_ff, kfa58_1, kld56, kst56, hd1]
      refine ck9 (parse_any hl (hm.quiet q12) ?_)
      intro A c F w3 o3 q3 f3
      have hs3 := len_small l
      have hp := (parts_small h0).2
      have r3 := Reads.of_own o3
      have hsh3 := o3.shape
      have q13 := q12.trans q3
      simp (maxSteps := 1000000) (disch := omega) only [hid1', hid2', guardK_u, takeG_u, wrap_in64, optK_some', fzK_false', nilK_ptr, brK_true', brK_false', guardK_tt', guardK_ff', guardK_tf', guardK_ft', takeG_tt', takeG_ff', takeG_tf', takeG_ft', pickK_t', pickK_f', pickT_t', pickT_f', notK, extract2_0', extract2_1', extract3_0', extract3_1', extract3_2', here_load, here_fieldAt, here_indexAt, here_extract, here_un, here_conv, here_slice, here_bin, here_nil, and_here, true_and, Nat.zero_add, Nat.add_assoc, Nat.add_zero, Int.toNat_natCast, size_alloc, World.cell?_drew, World.frozen?_drew, Bool.not_true, Bool.not_false, Int.toNat_zero, dec_t, dec_f, int_eq_t, int_eq_f, int_ne_t, int_ne_f, wrap_in, klen9, hlen9, kbgtr3, kbneq3, kbneq9, kbeql9, kbeql4, klen23, hlen23, kblss3, kia23, kld9, kbsub3, kbadd3, kbeql3, kbs23_1_0, kbneq4, kbs23_0, kcv5_3, kbrem3, kst9, kbneq24, kbgeq3, ksl23_010z, ksl23_010, kbeql24, kblss5, kbgtr5, kbneq5, kbeql5, ksl23_011, ksl23_011z, kbquo3, kbmul3, kal58, ksl23_100z, ksl23_100, kmin3_ff, kfa58_1, kld56, kst56]
      refine ck9 (parse_any hz (hm.quiet q13) ?_)
      intro B d G w4 o4 q4 f4
      have hs4 := len_small z
      have r4 := Reads.of_own o4
      have r3' := r3.quiet q4
      have q14 := q13.trans q4
      have hA : (parseL l).2 ≠ [] → ∃ g, A = some ⟨g, 0, none⟩ := fun h => by
        obtain ⟨g, cap, e1, _, _⟩ := o3.pos (List.length_pos_iff.2 h)
        injection e1 with e1 _ _
        exact ⟨g, e1⟩
      have hA0 : (parseL l).2 = [] → A = none ∧ c = 0 ∨ ∃ g, A = some ⟨g, 0, none⟩ := fun h => by
        rcases o3 with ⟨e, _, _, _⟩ | ⟨g, cap, e, _, _⟩
        · injection e with e1 _ e2; exact .inl ⟨e1, e2⟩
        · injection e with e1 _ e2; exact .inr ⟨g, e1⟩
      clear o3 o4
      generalize (parseL l).2 = a at *
      generalize (parseL z).2 = b at *
      simp (maxSteps := 1000000) (disch := omega) only [hid1', hid2', guardK_u, takeG_u, wrap_in64, optK_some', fzK_false', nilK_ptr, brK_true', brK_false', guardK_tt', guardK_ff', guardK_tf', guardK_ft', takeG_tt', takeG_ff', takeG_tf', takeG_ft', pickK_t', pickK_f', pickT_t', pickT_f', notK, extract2_0', extract2_1', extract3_0', extract3_1', extract3_2', here_load, here_fieldAt, here_indexAt, here_extract, here_un, here_conv, here_slice, here_bin, here_nil, and_here, true_and, Nat.zero_add, Nat.add_assoc, Nat.add_zero, Int.toNat_natCast, size_alloc, World.cell?_drew, World.frozen?_drew, Bool.not_true, Bool.not_false, Int.toNat_zero, dec_t, dec_f, int_eq_t, int_eq_f, int_ne_t, int_ne_f, wrap_in, klen9, hlen9, kbgtr3, kbneq3, kbneq9, kbeql9, kbeql4, klen23, hlen23, kblss3, kia23, kld9, kbsub3, kbadd3, kbeql3, kbs23_1_0, kbneq4, kbs23_0, kcv5_3, kbrem3, kst9, kbneq24, kbgeq3, ksl23_010z, ksl23_010, kbeql24, kblss5, kbgtr5, kbneq5, kbeql5, ksl23_011, ksl23_011z, kbquo3, kbmul3, kal58, ksl23_100z, ksl23_100, kmin3_ff, kfa58_1, kld56, kst56]
      refine ck39 (shared_any r3' r4 (by omega) (by omega) ?_)
      intro w5 q5
      have hle := sharedN_le a b
      have hr := reads_take (r3'.quiet q5) (sharedN a b)
      rw [strs_take] at hr
      have hc' : a.length ≤ c := by
        rcases hsh3 with ⟨_, c', e, h1, h2⟩
        injection e with _ _ e
        omega
      have hlt : (a.take (sharedN a b)).length = sharedN a b := by rw [List.length_take]; omega
      have fin : ∀ w6, Qt w5 w6 → K (.string (txt (pathL (a.take (sharedN a b))))) w6 := fun w6 q6 => hK w6 (q14.trans (q5.trans q6))
      generalize sharedN a b = n at *
      have hsl : ∀ (K : Value → World → Prop) (w : World), SliceK Tryd.prog 23 (.slice A a.length c) none (some (.int .i64 n)) none K w = K (.slice A n c) w := fun K w => by
        by_cases hz : a = []
        · have hn0 : n = 0 := by subst hz; simpa using hle.1
          subst hn0
          rcases hA0 hz with ⟨rfl, rfl⟩ | ⟨g, rfl⟩
          · subst hz
            show SliceK Tryd.prog 23 (.slice none 0 0) none (some (.int .i64 0)) none K w = _
            simp (maxSteps := 1000000) (disch := omega) only [hid1', hid2', guardK_u, takeG_u, wrap_in64, optK_some', fzK_false', nilK_ptr, brK_true', brK_false', guardK_tt', guardK_ff', guardK_tf', guardK_ft', takeG_tt', takeG_ff', takeG_tf', takeG_ft', pickK_t', pickK_f', pickT_t', pickT_f', notK, extract2_0', extract2_1', extract3_0', extract3_1', extract3_2', here_load, here_fieldAt, here_indexAt, here_extract, here_un, here_conv, here_slice, here_bin, here_nil, and_here, true_and, Nat.zero_add, Nat.add_assoc, Nat.add_zero, Int.toNat_natCast, size_alloc, World.cell?_drew, World.frozen?_drew, Bool.not_true, Bool.not_false, Int.toNat_zero, dec_t, dec_f, int_eq_t, int_eq_f, int_ne_t, int_ne_f, wrap_in, klen9, hlen9, kbgtr3, kbneq3, kbneq9, kbeql9, kbeql4, klen23, hlen23, kblss3, kia23, kld9, kbsub3, kbadd3, kbeql3, kbs23_1_0, kbneq4, kbs23_0, kcv5_3, kbrem3, kst9, kbneq24, kbgeq3, ksl23_010z, ksl23_010, kbeql24, kblss5, kbgtr5, kbneq5, kbeql5, ksl23_011, ksl23_011z, kbquo3, kbmul3, kal58, ksl23_100z, ksl23_100, kmin3_ff, kfa58_1, kld56, kst56]
          · simp (maxSteps := 1000000) (disch := omega) only [hid1', hid2', guardK_u, takeG_u, wrap_in64, optK_some', fzK_false', nilK_ptr, brK_true', brK_false', guardK_tt', guardK_ff', guardK_tf', guardK_ft', takeG_tt', takeG_ff', takeG_tf', takeG_ft', pickK_t', pickK_f', pickT_t', pickT_f', notK, extract2_0', extract2_1', extract3_0', extract3_1', extract3_2', here_load, here_fieldAt, here_indexAt, here_extract, here_un, here_conv, here_slice, here_bin, here_nil, and_here, true_and, Nat.zero_add, Nat.add_assoc, Nat.add_zero, Int.toNat_natCast, size_alloc, World.cell?_drew, World.frozen?_drew, Bool.not_true, Bool.not_false, Int.toNat_zero, dec_t, dec_f, int_eq_t, int_eq_f, int_ne_t, int_ne_f, wrap_in, klen9, hlen9, kbgtr3, kbneq3, kbneq9, kbeql9, kbeql4, klen23, hlen23, kblss3, kia23, kld9, kbsub3, kbadd3, kbeql3, kbs23_1_0, kbneq4, kbs23_0, kcv5_3, kbrem3, kst9, kbneq24, kbgeq3, ksl23_010z, ksl23_010, kbeql24, kblss5, kbgtr5, kbneq5, kbeql5, ksl23_011, ksl23_011z, kbquo3, kbmul3, kal58, ksl23_100z, ksl23_100, kmin3_ff, kfa58_1, kld56, kst56]
        · obtain ⟨g, rfl⟩ := hA hz
          simp (maxSteps := 1000000) (disch := omega) only [hid1', hid2', guardK_u, takeG_u, wrap_in64, optK_some', fzK_false', nilK_ptr, brK_true', brK_false', guardK_tt', guardK_ff', guardK_tf', guardK_ft', takeG_tt', takeG_ff', takeG_tf', takeG_ft', pickK_t', pickK_f', pickT_t', pickT_f', notK, extract2_0', extract2_1', extract3_0', extract3_1', extract3_2', here_load, here_fieldAt, here_indexAt, here_extract, here_un, here_conv, here_slice, here_bin, here_nil, and_here, true_and, Nat.zero_add, Nat.add_assoc, Nat.add_zero, Int.toNat_natCast, size_alloc, World.cell?_drew, World.frozen?_drew, Bool.not_true, Bool.not_false, Int.toNat_zero, dec_t, dec_f, int_eq_t, int_eq_f, int_ne_t, int_ne_f, wrap_in, klen9, hlen9, kbgtr3, kbneq3, kbneq9, kbeql9, kbeql4, klen23, hlen23, kblss3, kia23, kld9, kbsub3, kbadd3, kbeql3, kbs23_1_0, kbneq4, kbs23_0, kcv5_3, kbrem3, kst9, kbneq24, kbgeq3, ksl23_010z, ksl23_010, kbeql24, kblss5, kbgtr5, kbneq5, kbeql5, ksl23_011, ksl23_011z, kbquo3, kbmul3, kal58, ksl23_100z, ksl23_100, kmin3_ff, kfa58_1, kld56, kst56]
      simp (maxSteps := 1000000) (disch := omega) only [hid1', hid2', guardK_u, takeG_u, wrap_in64, optK_some', fzK_false', nilK_ptr, brK_true', brK_false', guardK_tt', guardK_ff', guardK_tf', guardK_ft', takeG_tt', takeG_ff', takeG_tf', takeG_ft', pickK_t', pickK_f', pickT_t', pickT_f', notK, extract2_0', extract2_1', extract3_0', extract3_1', extract3_2', here_load, here_fieldAt, here_indexAt, here_extract, here_un, here_conv, here_slice, here_bin, here_nil, and_here, true_and, Nat.zero_add, Nat.add_assoc, Nat.add_zero, Int.toNat_natCast, size_alloc, World.cell?_drew, World.frozen?_drew, Bool.not_true, Bool.not_false, Int.toNat_zero, dec_t, dec_f, int_eq_t, int_eq_f, int_ne_t, int_ne_f, wrap_in, klen9, hlen9, kbgtr3, kbneq3, kbneq9, kbeql9, kbeql4, klen23, hlen23, kblss3, kia23, kld9, kbsub3, kbadd3, kbeql3, kbs23_1_0, kbneq4, kbs23_0, kcv5_3, kbrem3, kst9, kbneq24, kbgeq3, ksl23_010z, ksl23_010, kbeql24, kblss5, kbgtr5, kbneq5, kbeql5, ksl23_011, ksl23_011z, kbquo3, kbmul3, kal58, ksl23_100z, ksl23_100, kmin3_ff, kfa58_1, kld56, kst56, hsl]
      refine ck22 (hlt ▸ text_any hr (by omega) (by omega) (fun p h => by have := hp p (List.mem_of_mem_take h); omega) ?_)
      intro w6 q6
      simp (maxSteps := 1000000) (disch := omega) only [hid1', hid2', guardK_u, takeG_u, wrap_in64, optK_some', fzK_false', nilK_ptr, brK_true', brK_false', guardK_tt', guardK_ff', guardK_tf', guardK_ft', takeG_tt', takeG_ff', takeG_tf', takeG_ft', pickK_t', pickK_f', pickT_t', pickT_f', notK, extract2_0', extract2_1', extract3_0', extract3_1', extract3_2', here_load, here_fieldAt, here_indexAt, here_extract, here_un, here_conv, here_slice, here_bin, here_nil, and_here, true_and, Nat.zero_add, Nat.add_assoc, Nat.add_zero, Int.toNat_natCast, size_alloc, World.cell?_drew, World.frozen?_drew, Bool.not_true, Bool.not_false, Int.toNat_zero, dec_t, dec_f, int_eq_t, int_eq_f, int_ne_t, int_ne_f, wrap_in, klen9, hlen9, kbgtr3, kbneq3, kbneq9, kbeql9, kbeql4, klen23, hlen23, kblss3, kia23, kld9, kbsub3, kbadd3, kbeql3, kbs23_1_0, kbneq4, kbs23_0, kcv5_3, kbrem3, kst9, kbneq24, kbgeq3, ksl23_010z, ksl23_010, kbeql24, kblss5, kbgtr5, kbneq5, kbeql5, ksl23_011, ksl23_011z, kbquo3, kbmul3, kal58, ksl23_100z, ksl23_100, kmin3_ff, kfa58_1, kld56, kst56]
      exact fin w6 q6
    · have hd1 : decide ((parseL z).1 = 0) = false := decide_eq_false h1
      rw [if_neg (fun h => h1 h.2)] at hK
      simp (maxSteps := 1000000) (disch := omega) only [hid1', hid2', guardK_u, takeG_u, wrap_in64, optK_some', fzK_false', nilK_ptr, brK_true', brK_false', guardK_tt', guardK_ff', guardK_tf', guardK_ft', takeG_tt', takeG_ff', takeG_tf', takeG_ft', pickK_t', pickK_f', pickT_t', pickT_f', notK, extract2_0', extract2_1', extract3_0', extract3_1', extract3_2', here_load, here_fieldAt, here_indexAt, here_extract, here_un, here_conv, here_slice, here_bin, here_nil, and_here, true_and, Nat.zero_add, Nat.add_assoc, Nat.add_zero, Int.toNat_natCast, size_alloc, World.cell?_drew, World.frozen?_drew, Bool.not_true, Bool.not_false, Int.toNat_zero, dec_t, dec_f, int_eq_t, int_eq_f, int_ne_t, int_ne_f, wrap_in, klen9, hlen9, kbgtr3, kbneq3, kbneq9, kbeql9, kbeql4, klen23, hlen23, kblss3, kia23, kld9, kbsub3, kbadd3, kbeql3, kbs23_1_0, kbneq4, kbs23_0, kcv5_3, kbrem3, kst9, kbneq24, kbgeq3, ksl23_010z, ksl23_010, kbeql24, kblss5, kbgtr5, kbneq5, kbeql5, ksl23_011, ksl23_011z, kbquo3, kbmul3, kal58, ksl23_100z, ksl23_100, kmin3_ff, kfa58_1, kld56, kst56, hd1, c0]
      exact hK w2 q12
  · have hd0 : decide ((parseL l).1 = 0) = false := decide_eq_false h0
    rw [if_neg (fun h => h0 h.1)] at hK
    simp (maxSteps := 1000000) (disch := omega) only [hid1', hid2', guardK_u, takeG_u, wrap_in64, optK_some', fzK_false', nilK_ptr, brK_true', brK_false', guardK_tt', guardK_ff', guardK_tf', guardK_ft', takeG_tt', takeG_ff', takeG_tf', takeG_ft', pickK_t', pickK_f', pickT_t', pickT_f', notK, extract2_0', extract2_1', extract3_0', extract3_1', extract3_2', here_load, here_fieldAt, here_indexAt, here_extract, here_un, here_conv, here_slice, here_bin, here_nil, and_here, true_and, Nat.zero_add, Nat.add_assoc, Nat.add_zero, Int.toNat_natCast, size_alloc, World.cell?_drew, World.frozen?_drew, Bool.not_true, Bool.not_false, Int.toNat_zero, dec_t, dec_f, int_eq_t, int_eq_f, int_ne_t, int_ne_f, wrap_in, klen9, hlen9, kbgtr3, kbneq3, kbneq9, kbeql9, kbeql4, klen23, hlen23, kblss3, kia23, kld9, kbsub3, kbadd3, kbeql3, kbs23_1_0, kbneq4, kbs23_0, kcv5_3, kbrem3, kst9, kbneq24, kbgeq3, ksl23_010z, ksl23_010, kbeql24, kblss5, kbgtr5, kbneq5, kbeql5, ksl23_011, ksl23_011z, kbquo3, kbmul3, kal58, ksl23_100z, ksl23_100, kmin3_ff, kfa58_1, kld56, kst56, hd0, guardK_u, c0]
    exact hK w1 q1
end Go.Proofs.YtnlfnkblhnnaoaaDoor

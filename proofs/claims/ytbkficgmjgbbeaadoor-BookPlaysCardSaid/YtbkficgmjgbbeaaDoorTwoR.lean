/- Two paths: Under, Common of the document; Texts. Conditions: at most 1000 bytes. -/
import Derived.Test.YtbkficgmjgbbeaaDoorTwo
set_option linter.unusedVariables false
set_option linter.unusedSimpArgs false
set_option maxRecDepth 100000
namespace Go.Proofs.YtbkficgmjgbbeaaDoor
open Go.RowKit Go.Cn
theorem underR_any {l z : List UInt8} {w : World} {K : Value → World → Prop} (hl : l.length ≤ 50000) (hz : z.length ≤ 50000)
    (hK : ∀ w', Qt w w' → K (.bool (underL l z)) w') : CallK Tryd.prog 41 #[.string (txt l), .string (txt z)] K w := by
  refine F41_calls _ _ _ _ ?_; unfold F41
  refine ck54 (parseR_any (by omega) ?_)
  intro A c F w1 o1 q1 f1
  have hs1 := len_small l
  have r1 := Reads.of_own o1
  simp (maxSteps := 1000000) (disch := omega) only [hid1', hid2', guardK_u, takeG_u, wrap_in64, optK_some', fzK_false', nilK_ptr, brK_true', brK_false', guardK_tt', guardK_ff', guardK_tf', guardK_ft', takeG_tt', takeG_ff', takeG_tf', takeG_ft', pickK_t', pickK_f', pickT_t', pickT_f', notK, extract2_0', extract2_1', extract3_0', extract3_1', extract3_2', here_load, here_fieldAt, here_indexAt, here_extract, here_un, here_conv, here_slice, here_bin, here_nil, and_here, true_and, Nat.zero_add, Nat.add_assoc, Nat.add_zero, Int.toNat_natCast, size_alloc, World.cell?_drew, World.frozen?_drew, Bool.not_true, Bool.not_false, Int.toNat_zero, dec_t, dec_f, int_eq_t, int_eq_f, int_ne_t, int_ne_f, wrap_in, kbgtr3, kblss3, kld9, kbneq3, kbneq9, kbadd3, klen41, hlen41, kia41]
  refine ck54 (parseR_any (by omega) ?_)
  intro B d G w2 o2 q2 f2
  have hs2 := len_small z
  have r2 := Reads.of_own o2
  have r1' := r1.quiet q2
  unfold underL at hK
  have q12 := q1.trans q2
  clear o1 o2
  by_cases h0 : (parseL l).1 = 0
  · by_cases h1 : (parseL z).1 = 0
    · rw [h0, h1] at hK
      generalize (parseL l).2 = a at *
      generalize (parseL z).2 = b at *
      have hd : decide ((0 : Int) = 0) = true := rfl
      rw [hd] at hK
      simp only [Bool.true_and] at hK
      have hle := sharedN_le a b
      by_cases hgt : a.length < b.length
      · have e : decide (sharedN a b = b.length) = false := decide_eq_false (by omega)
        rw [e] at hK
        simp (maxSteps := 1000000) (disch := omega) only [hid1', hid2', guardK_u, takeG_u, wrap_in64, optK_some', fzK_false', nilK_ptr, brK_true', brK_false', guardK_tt', guardK_ff', guardK_tf', guardK_ft', takeG_tt', takeG_ff', takeG_tf', takeG_ft', pickK_t', pickK_f', pickT_t', pickT_f', notK, extract2_0', extract2_1', extract3_0', extract3_1', extract3_2', here_load, here_fieldAt, here_indexAt, here_extract, here_un, here_conv, here_slice, here_bin, here_nil, and_here, true_and, Nat.zero_add, Nat.add_assoc, Nat.add_zero, Int.toNat_natCast, size_alloc, World.cell?_drew, World.frozen?_drew, Bool.not_true, Bool.not_false, Int.toNat_zero, dec_t, dec_f, int_eq_t, int_eq_f, int_ne_t, int_ne_f, wrap_in, kbgtr3, kblss3, kld9, kbneq3, kbneq9, kbadd3, klen41, hlen41, kia41, h0, h1]
        exact hK w2 q12
      simp (maxSteps := 1000000) (disch := omega) only [hid1', hid2', guardK_u, takeG_u, wrap_in64, optK_some', fzK_false', nilK_ptr, brK_true', brK_false', guardK_tt', guardK_ff', guardK_tf', guardK_ft', takeG_tt', takeG_ff', takeG_tf', takeG_ft', pickK_t', pickK_f', pickT_t', pickT_f', notK, extract2_0', extract2_1', extract3_0', extract3_1', extract3_2', here_load, here_fieldAt, here_indexAt, here_extract, here_un, here_conv, here_slice, here_bin, here_nil, and_here, true_and, Nat.zero_add, Nat.add_assoc, Nat.add_zero, Int.toNat_natCast, size_alloc, World.cell?_drew, World.frozen?_drew, Bool.not_true, Bool.not_false, Int.toNat_zero, dec_t, dec_f, int_eq_t, int_eq_f, int_ne_t, int_ne_f, wrap_in, kbgtr3, kblss3, kld9, kbneq3, kbneq9, kbadd3, klen41, hlen41, kia41, h0, h1]
      refine loopK1 (fun v w' => Qt w2 w' ∧ ∃ i : Nat, v = .int .i64 i ∧ i ≤ b.length ∧ a.take i = b.take i) (fun v _ => b.length - (intOf v).toNat) ⟨Qt.refl, 0, rfl, by omega, rfl⟩ ?_
      rintro _ _ w' ⟨q, i, rfl, hi, hlo⟩
      by_cases hlt : i < b.length
      · have hlt1 : i < a.length := by omega
        obtain ⟨g, o, rfl, hc⟩ := strs_at (r1'.quiet q) hlt1
        obtain ⟨g2, o2, rfl, hc2⟩ := strs_at (r2.quiet q) hlt
        have htk : a.take (i + 1) = a.take i ++ [a[i]] := List.take_succ_eq_append_getElem hlt1
        have htk2 : b.take (i + 1) = b.take i ++ [b[i]] := List.take_succ_eq_append_getElem hlt
        by_cases he : a[i] = b[i]
        · rw [← he] at hc2 htk2
          generalize a[i] = p at *
          have hd : decide True = true := rfl
          simp (maxSteps := 1000000) (disch := omega) only [hid1', hid2', guardK_u, takeG_u, wrap_in64, optK_some', fzK_false', nilK_ptr, brK_true', brK_false', guardK_tt', guardK_ff', guardK_tf', guardK_ft', takeG_tt', takeG_ff', takeG_tf', takeG_ft', pickK_t', pickK_f', pickT_t', pickT_f', notK, extract2_0', extract2_1', extract3_0', extract3_1', extract3_2', here_load, here_fieldAt, here_indexAt, here_extract, here_un, here_conv, here_slice, here_bin, here_nil, and_here, true_and, Nat.zero_add, Nat.add_assoc, Nat.add_zero, Int.toNat_natCast, size_alloc, World.cell?_drew, World.frozen?_drew, Bool.not_true, Bool.not_false, Int.toNat_zero, dec_t, dec_f, int_eq_t, int_eq_f, int_ne_t, int_ne_f, wrap_in, kbgtr3, kblss3, kld9, kbneq3, kbneq9, kbadd3, klen41, hlen41, kia41]
          refine drawK_here ?_
          simp (maxSteps := 1000000) (disch := omega) only [hid1', hid2', guardK_u, takeG_u, wrap_in64, optK_some', fzK_false', nilK_ptr, brK_true', brK_false', guardK_tt', guardK_ff', guardK_tf', guardK_ft', takeG_tt', takeG_ff', takeG_tf', takeG_ft', pickK_t', pickK_f', pickT_t', pickT_f', notK, extract2_0', extract2_1', extract3_0', extract3_1', extract3_2', here_load, here_fieldAt, here_indexAt, here_extract, here_un, here_conv, here_slice, here_bin, here_nil, and_here, true_and, Nat.zero_add, Nat.add_assoc, Nat.add_zero, Int.toNat_natCast, size_alloc, World.cell?_drew, World.frozen?_drew, Bool.not_true, Bool.not_false, Int.toNat_zero, dec_t, dec_f, int_eq_t, int_eq_f, int_ne_t, int_ne_f, wrap_in, kbgtr3, kblss3, kld9, kbneq3, kbneq9, kbadd3, klen41, hlen41, kia41, hc, hc2, eq_txt, hd]
          refine ⟨⟨q.drew, i + 1, by go_num, by omega, by rw [htk, htk2, hlo]⟩, by simp [rel, intOf]; omega⟩
        · have hs : sharedN a b = i := sharedN_eq [] a b i (by omega) hi hlo (fun x y => by simpa [x, y] using he)
          have hd : decide (a[i] = b[i]) = false := decide_eq_false he
          have e : decide (sharedN a b = b.length) = false := decide_eq_false (by omega)
          rw [e] at hK
          have := hK w'.drew (q12.trans q.drew)
          generalize a[i] = p at *
          generalize b[i] = p2 at *
          simp (maxSteps := 1000000) (disch := omega) only [hid1', hid2', guardK_u, takeG_u, wrap_in64, optK_some', fzK_false', nilK_ptr, brK_true', brK_false', guardK_tt', guardK_ff', guardK_tf', guardK_ft', takeG_tt', takeG_ff', takeG_tf', takeG_ft', pickK_t', pickK_f', pickT_t', pickT_f', notK, extract2_0', extract2_1', extract3_0', extract3_1', extract3_2', here_load, here_fieldAt, here_indexAt, here_extract, here_un, here_conv, here_slice, here_bin, here_nil, and_here, true_and, Nat.zero_add, Nat.add_assoc, Nat.add_zero, Int.toNat_natCast, size_alloc, World.cell?_drew, World.frozen?_drew, Bool.not_true, Bool.not_false, Int.toNat_zero, dec_t, dec_f, int_eq_t, int_eq_f, int_ne_t, int_ne_f, wrap_in, kbgtr3, kblss3, kld9, kbneq3, kbneq9, kbadd3, klen41, hlen41, kia41]
          refine drawK_here ?_
          simp (maxSteps := 1000000) (disch := omega) only [hid1', hid2', guardK_u, takeG_u, wrap_in64, optK_some', fzK_false', nilK_ptr, brK_true', brK_false', guardK_tt', guardK_ff', guardK_tf', guardK_ft', takeG_tt', takeG_ff', takeG_tf', takeG_ft', pickK_t', pickK_f', pickT_t', pickT_f', notK, extract2_0', extract2_1', extract3_0', extract3_1', extract3_2', here_load, here_fieldAt, here_indexAt, here_extract, here_un, here_conv, here_slice, here_bin, here_nil, and_here, true_and, Nat.zero_add, Nat.add_assoc, Nat.add_zero, Int.toNat_natCast, size_alloc, World.cell?_drew, World.frozen?_drew, Bool.not_true, Bool.not_false, Int.toNat_zero, dec_t, dec_f, int_eq_t, int_eq_f, int_ne_t, int_ne_f, wrap_in, kbgtr3, kblss3, kld9, kbneq3, kbneq9, kbadd3, klen41, hlen41, kia41, hc, hc2, eq_txt, hd]
          exact this
      · obtain rfl : i = b.length := by omega
        have hs : sharedN a b = b.length := sharedN_eq [] a b _ (by omega) (by omega) hlo (fun x y => by omega)
        have e : decide (sharedN a b = b.length) = true := decide_eq_true hs
        rw [e] at hK
        simp (maxSteps := 1000000) (disch := omega) only [hid1', hid2', guardK_u, takeG_u, wrap_in64, optK_some', fzK_false', nilK_ptr, brK_true', brK_false', guardK_tt', guardK_ff', guardK_tf', guardK_ft', takeG_tt', takeG_ff', takeG_tf', takeG_ft', pickK_t', pickK_f', pickT_t', pickT_f', notK, extract2_0', extract2_1', extract3_0', extract3_1', extract3_2', here_load, here_fieldAt, here_indexAt, here_extract, here_un, here_conv, here_slice, here_bin, here_nil, and_here, true_and, Nat.zero_add, Nat.add_assoc, Nat.add_zero, Int.toNat_natCast, size_alloc, World.cell?_drew, World.frozen?_drew, Bool.not_true, Bool.not_false, Int.toNat_zero, dec_t, dec_f, int_eq_t, int_eq_f, int_ne_t, int_ne_f, wrap_in, kbgtr3, kblss3, kld9, kbneq3, kbneq9, kbadd3, klen41, hlen41, kia41]
        exact hK w' (q12.trans q)
    · have hd : decide ((parseL z).1 = 0) = false := decide_eq_false h1
      rw [h0, hd] at hK
      have := hK w2 q12
      simp only [Bool.and_false, Bool.false_and] at this
      simp (maxSteps := 1000000) (disch := omega) only [hid1', hid2', guardK_u, takeG_u, wrap_in64, optK_some', fzK_false', nilK_ptr, brK_true', brK_false', guardK_tt', guardK_ff', guardK_tf', guardK_ft', takeG_tt', takeG_ff', takeG_tf', takeG_ft', pickK_t', pickK_f', pickT_t', pickT_f', notK, extract2_0', extract2_1', extract3_0', extract3_1', extract3_2', here_load, here_fieldAt, here_indexAt, here_extract, here_un, here_conv, here_slice, here_bin, here_nil, and_here, true_and, Nat.zero_add, Nat.add_assoc, Nat.add_zero, Int.toNat_natCast, size_alloc, World.cell?_drew, World.frozen?_drew, Bool.not_true, Bool.not_false, Int.toNat_zero, dec_t, dec_f, int_eq_t, int_eq_f, int_ne_t, int_ne_f, wrap_in, kbgtr3, kblss3, kld9, kbneq3, kbneq9, kbadd3, klen41, hlen41, kia41, h0, h1, guardK_u]
      exact this
  · have hd : decide ((parseL l).1 = 0) = false := decide_eq_false h0
    rw [hd] at hK
    have := hK w2 q12
    simp only [Bool.and_false, Bool.false_and] at this
    simp (maxSteps := 1000000) (disch := omega) only [hid1', hid2', guardK_u, takeG_u, wrap_in64, optK_some', fzK_false', nilK_ptr, brK_true', brK_false', guardK_tt', guardK_ff', guardK_tf', guardK_ft', takeG_tt', takeG_ff', takeG_tf', takeG_ft', pickK_t', pickK_f', pickT_t', pickT_f', notK, extract2_0', extract2_1', extract3_0', extract3_1', extract3_2', here_load, here_fieldAt, here_indexAt, here_extract, here_un, here_conv, here_slice, here_bin, here_nil, and_here, true_and, Nat.zero_add, Nat.add_assoc, Nat.add_zero, Int.toNat_natCast, size_alloc, World.cell?_drew, World.frozen?_drew, Bool.not_true, Bool.not_false, Int.toNat_zero, dec_t, dec_f, int_eq_t, int_eq_f, int_ne_t, int_ne_f, wrap_in, kbgtr3, kblss3, kld9, kbneq3, kbneq9, kbadd3, klen41, hlen41, kia41, h0, guardK_u]
    exact this
theorem texts_any {a b : List (List UInt8)} {A B : Option Addr} {c d : Nat} {w : World} {K : Value → World → Prop} (ha : Reads w A (strs a)) (hb : Reads w B (strs b)) (hla : a.length ≤ 100000) (hlb : b.length ≤ 100000)
    (hK : ∀ w', Qt w w' → K (.bool (decide (a = b))) w') : CallK Tryd.prog 15 #[.slice A a.length c, .slice B b.length d] K w := by
  refine F15_calls _ _ _ _ ?_; unfold F15
  by_cases hln : a.length = b.length
  · simp (maxSteps := 1000000) (disch := omega) only [hid1', hid2', guardK_u, takeG_u, wrap_in64, optK_some', fzK_false', nilK_ptr, brK_true', brK_false', guardK_tt', guardK_ff', guardK_tf', guardK_ft', takeG_tt', takeG_ff', takeG_tf', takeG_ft', pickK_t', pickK_f', pickT_t', pickT_f', notK, extract2_0', extract2_1', extract3_0', extract3_1', extract3_2', here_load, here_fieldAt, here_indexAt, here_extract, here_un, here_conv, here_slice, here_bin, here_nil, and_here, true_and, Nat.zero_add, Nat.add_assoc, Nat.add_zero, Int.toNat_natCast, size_alloc, World.cell?_drew, World.frozen?_drew, Bool.not_true, Bool.not_false, Int.toNat_zero, dec_t, dec_f, int_eq_t, int_eq_f, int_ne_t, int_ne_f, wrap_in, kblss3, kld9, kbneq3, kbneq9, kbadd3, klen41, hlen41, kia41]
    refine loopK1 (fun v w' => Qt w w' ∧ ∃ i : Nat, v = .int .i64 i ∧ i ≤ a.length ∧ a.take i = b.take i) (fun v _ => a.length - (intOf v).toNat) ⟨Qt.refl, 0, rfl, by omega, rfl⟩ ?_
    rintro _ _ w' ⟨q, i, rfl, hi, hlo⟩
    by_cases hlt : i < a.length
    · have hlt1 : i < b.length := by omega
      obtain ⟨g, o, rfl, hc⟩ := strs_at (ha.quiet q) hlt
      obtain ⟨g2, o2, rfl, hc2⟩ := strs_at (hb.quiet q) hlt1
      have htk : a.take (i + 1) = a.take i ++ [a[i]] := List.take_succ_eq_append_getElem hlt
      have htk2 : b.take (i + 1) = b.take i ++ [b[i]] := List.take_succ_eq_append_getElem hlt1
      by_cases he : a[i] = b[i]
      · rw [← he] at hc2 htk2
        generalize a[i] = p at *
        have hd : decide True = true := rfl
        simp (maxSteps := 1000000) (disch := omega) only [hid1', hid2', guardK_u, takeG_u, wrap_in64, optK_some', fzK_false', nilK_ptr, brK_true', brK_false', guardK_tt', guardK_ff', guardK_tf', guardK_ft', takeG_tt', takeG_ff', takeG_tf', takeG_ft', pickK_t', pickK_f', pickT_t', pickT_f', notK, extract2_0', extract2_1', extract3_0', extract3_1', extract3_2', here_load, here_fieldAt, here_indexAt, here_extract, here_un, here_conv, here_slice, here_bin, here_nil, and_here, true_and, Nat.zero_add, Nat.add_assoc, Nat.add_zero, Int.toNat_natCast, size_alloc, World.cell?_drew, World.frozen?_drew, Bool.not_true, Bool.not_false, Int.toNat_zero, dec_t, dec_f, int_eq_t, int_eq_f, int_ne_t, int_ne_f, wrap_in, kblss3, kld9, kbneq3, kbneq9, kbadd3, klen41, hlen41, kia41]
        refine drawK_here ?_
        simp (maxSteps := 1000000) (disch := omega) only [hid1', hid2', guardK_u, takeG_u, wrap_in64, optK_some', fzK_false', nilK_ptr, brK_true', brK_false', guardK_tt', guardK_ff', guardK_tf', guardK_ft', takeG_tt', takeG_ff', takeG_tf', takeG_ft', pickK_t', pickK_f', pickT_t', pickT_f', notK, extract2_0', extract2_1', extract3_0', extract3_1', extract3_2', here_load, here_fieldAt, here_indexAt, here_extract, here_un, here_conv, here_slice, here_bin, here_nil, and_here, true_and, Nat.zero_add, Nat.add_assoc, Nat.add_zero, Int.toNat_natCast, size_alloc, World.cell?_drew, World.frozen?_drew, Bool.not_true, Bool.not_false, Int.toNat_zero, dec_t, dec_f, int_eq_t, int_eq_f, int_ne_t, int_ne_f, wrap_in, kblss3, kld9, kbneq3, kbneq9, kbadd3, klen41, hlen41, kia41, hc, hc2, eq_txt, hd]
        refine ⟨⟨q.drew, i + 1, by go_num, by omega, by rw [htk, htk2, hlo]⟩, by simp [rel, intOf]; omega⟩
      · have hd : decide (a[i] = b[i]) = false := decide_eq_false he
        have e : decide (a = b) = false := decide_eq_false (fun e => he (by subst e; rfl))
        rw [e] at hK
        have := hK w'.drew q.drew
        generalize a[i] = p at *
        generalize b[i] = p2 at *
        simp (maxSteps := 1000000) (disch := omega) only [hid1', hid2', guardK_u, takeG_u, wrap_in64, optK_some', fzK_false', nilK_ptr, brK_true', brK_false', guardK_tt', guardK_ff', guardK_tf', guardK_ft', takeG_tt', takeG_ff', takeG_tf', takeG_ft', pickK_t', pickK_f', pickT_t', pickT_f', notK, extract2_0', extract2_1', extract3_0', extract3_1', extract3_2', here_load, here_fieldAt, here_indexAt, here_extract, here_un, here_conv, here_slice, here_bin, here_nil, and_here, true_and, Nat.zero_add, Nat.add_assoc, Nat.add_zero, Int.toNat_natCast, size_alloc, World.cell?_drew, World.frozen?_drew, Bool.not_true, Bool.not_false, Int.toNat_zero, dec_t, dec_f, int_eq_t, int_eq_f, int_ne_t, int_ne_f, wrap_in, kblss3, kld9, kbneq3, kbneq9, kbadd3, klen41, hlen41, kia41]
        refine drawK_here ?_
        simp (maxSteps := 1000000) (disch := omega) only [hid1', hid2', guardK_u, takeG_u, wrap_in64, optK_some', fzK_false', nilK_ptr, brK_true', brK_false', guardK_tt', guardK_ff', guardK_tf', guardK_ft', takeG_tt', takeG_ff', takeG_tf', takeG_ft', pickK_t', pickK_f', pickT_t', pickT_f', notK, extract2_0', extract2_1', extract3_0', extract3_1', extract3_2', here_load, here_fieldAt, here_indexAt, here_extract, here_un, here_conv, here_slice, here_bin, here_nil, and_here, true_and, Nat.zero_add, Nat.add_assoc, Nat.add_zero, Int.toNat_natCast, size_alloc, World.cell?_drew, World.frozen?_drew, Bool.not_true, Bool.not_false, Int.toNat_zero, dec_t, dec_f, int_eq_t, int_eq_f, int_ne_t, int_ne_f, wrap_in, kblss3, kld9, kbneq3, kbneq9, kbadd3, klen41, hlen41, kia41, hc, hc2, eq_txt, hd]
        exact this
    · rw [List.take_of_length_le (by omega), List.take_of_length_le (by omega)] at hlo
      have e : decide (a = b) = true := decide_eq_true hlo
      rw [e] at hK
      simp (maxSteps := 1000000) (disch := omega) only [hid1', hid2', guardK_u, takeG_u, wrap_in64, optK_some', fzK_false', nilK_ptr, brK_true', brK_false', guardK_tt', guardK_ff', guardK_tf', guardK_ft', takeG_tt', takeG_ff', takeG_tf', takeG_ft', pickK_t', pickK_f', pickT_t', pickT_f', notK, extract2_0', extract2_1', extract3_0', extract3_1', extract3_2', here_load, here_fieldAt, here_indexAt, here_extract, here_un, here_conv, here_slice, here_bin, here_nil, and_here, true_and, Nat.zero_add, Nat.add_assoc, Nat.add_zero, Int.toNat_natCast, size_alloc, World.cell?_drew, World.frozen?_drew, Bool.not_true, Bool.not_false, Int.toNat_zero, dec_t, dec_f, int_eq_t, int_eq_f, int_ne_t, int_ne_f, wrap_in, kblss3, kld9, kbneq3, kbneq9, kbadd3, klen41, hlen41, kia41]
      exact hK w' q
  · have e : decide (a = b) = false := decide_eq_false (fun e => hln (by rw [e]))
    rw [e] at hK
    have hne : ¬ (a.length : Int) = b.length := by omega
    simp (maxSteps := 1000000) (disch := omega) only [hid1', hid2', guardK_u, takeG_u, wrap_in64, optK_some', fzK_false', nilK_ptr, brK_true', brK_false', guardK_tt', guardK_ff', guardK_tf', guardK_ft', takeG_tt', takeG_ff', takeG_tf', takeG_ft', pickK_t', pickK_f', pickT_t', pickT_f', notK, extract2_0', extract2_1', extract3_0', extract3_1', extract3_2', here_load, here_fieldAt, here_indexAt, here_extract, here_un, here_conv, here_slice, here_bin, here_nil, and_here, true_and, Nat.zero_add, Nat.add_assoc, Nat.add_zero, Int.toNat_natCast, size_alloc, World.cell?_drew, World.frozen?_drew, Bool.not_true, Bool.not_false, Int.toNat_zero, dec_t, dec_f, int_eq_t, int_eq_f, int_ne_t, int_ne_f, wrap_in, kblss3, kld9, kbneq3, kbneq9, kbadd3, klen41, hlen41, kia41]
    exact hK w Qt.refl
end Go.Proofs.YtbkficgmjgbbeaaDoor

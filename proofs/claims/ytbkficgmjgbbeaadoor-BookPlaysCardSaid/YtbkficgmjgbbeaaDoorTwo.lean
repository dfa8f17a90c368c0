/- Two paths: shared, Under, Common, of both packages. Conditions: at most 1000 bytes. -/
import Derived.Test.YtbkficgmjgbbeaaDoorPairs
import Derived.Test.YtbkficgmjgbbeaaDoorPath2
set_option linter.unusedVariables false
set_option linter.unusedSimpArgs false
set_option maxRecDepth 100000
namespace Go.Proofs.YtbkficgmjgbbeaaDoor
open Go.RowKit Go.Cn
theorem min_here (a b : Nat) {K : Value → Prop} {w1 : World} : TakeO Tryd.prog (fun w' => w' = w1) (builtin Builtin.min #[3, 3] 3 #[false, false] #[.int .i64 a, .int .i64 b]) K = K (.int .i64 (min a b : Nat)) := here_o (fun w => by
  go_simp
  omega)
theorem shared_any {a b : List (List UInt8)} {A B : Option Addr} {c d : Nat} {w : World} {K : Value → World → Prop} (ha : Reads w A (strs a)) (hb : Reads w B (strs b)) (hla : a.length ≤ 1000) (hlb : b.length ≤ 1000)
    (hK : ∀ w', Qt w w' → K (.int .i64 (sharedN a b)) w') : CallK Tryd.prog 53 #[.slice A a.length c, .slice B b.length d] K w := by
  refine F53_calls _ _ _ _ ?_; unfold F53
  refine loopK1 (fun v w' => Qt w w' ∧ ∃ i : Nat, v = .int .i64 i ∧ i ≤ a.length ∧ i ≤ b.length ∧ a.take i = b.take i) (fun v _ => a.length - (intOf v).toNat) ⟨Qt.refl, 0, rfl, by omega, by omega, rfl⟩ ?_
  rintro _ _ w' ⟨q, i, rfl, hi1, hi2, hlo⟩
  have hmin := @min_here a.length b.length
  by_cases hlt : i < a.length ∧ i < b.length
  · obtain ⟨g, o, rfl, hc⟩ := strs_at (ha.quiet q) hlt.1
    obtain ⟨g2, o2, rfl, hc2⟩ := strs_at (hb.quiet q) hlt.2
    have htk : a.take (i + 1) = a.take i ++ [a[i]] := List.take_succ_eq_append_getElem hlt.1
    have htk2 : b.take (i + 1) = b.take i ++ [b[i]] := List.take_succ_eq_append_getElem hlt.2
    by_cases he : a[i] = b[i]
    · rw [← he] at hc2 htk2
      generalize a[i] = p at *
      have hd : decide True = true := rfl
      refine drawK_here ?_
      simp (maxSteps := 1000000) (disch := omega) only [hid1', hid2', guardK_u, takeG_u, wrap_in64, optK_some', fzK_false', nilK_ptr, brK_true', brK_false', guardK_tt', guardK_ff', guardK_tf', guardK_ft', takeG_tt', takeG_ff', takeG_tf', takeG_ft', pickK_t', pickK_f', pickT_t', pickT_f', notK, extract2_0', extract2_1', extract3_0', extract3_1', extract3_2', here_load, here_fieldAt, here_indexAt, here_extract, here_un, here_conv, here_slice, here_bin, here_nil, and_here, true_and, Nat.zero_add, Nat.add_assoc, Nat.add_zero, Int.toNat_natCast, size_alloc, World.cell?_drew, World.frozen?_drew, Bool.not_true, Bool.not_false, Int.toNat_zero, dec_t, dec_f, int_eq_t, int_eq_f, int_ne_t, int_ne_f, wrap_in, kblss3, kld9, kbadd3, klen41, hlen41, kia41, kbeql9, kmin3_ff, hc, hc2, hmin, eq_txt, hd]
      refine ⟨⟨q.drew, i + 1, by go_num, by omega, by omega, by rw [htk, htk2, hlo]⟩, by simp [rel, intOf]; omega⟩
    · have hs : sharedN a b = i := sharedN_eq [] a b i hi1 hi2 hlo (fun x y => by simpa [x, y] using he)
      have hd : decide (a[i] = b[i]) = false := decide_eq_false he
      have := hK w'.drew q.drew
      rw [hs] at this
      generalize a[i] = p at *
      generalize b[i] = p2 at *
      refine drawK_here ?_
      simp (maxSteps := 1000000) (disch := omega) only [hid1', hid2', guardK_u, takeG_u, wrap_in64, optK_some', fzK_false', nilK_ptr, brK_true', brK_false', guardK_tt', guardK_ff', guardK_tf', guardK_ft', takeG_tt', takeG_ff', takeG_tf', takeG_ft', pickK_t', pickK_f', pickT_t', pickT_f', notK, extract2_0', extract2_1', extract3_0', extract3_1', extract3_2', here_load, here_fieldAt, here_indexAt, here_extract, here_un, here_conv, here_slice, here_bin, here_nil, and_here, true_and, Nat.zero_add, Nat.add_assoc, Nat.add_zero, Int.toNat_natCast, size_alloc, World.cell?_drew, World.frozen?_drew, Bool.not_true, Bool.not_false, Int.toNat_zero, dec_t, dec_f, int_eq_t, int_eq_f, int_ne_t, int_ne_f, wrap_in, kblss3, kld9, kbadd3, klen41, hlen41, kia41, kbeql9, kmin3_ff, hc, hc2, hmin, eq_txt, hd]
      exact this
  · have hs : sharedN a b = i := sharedN_eq [] a b i hi1 hi2 hlo (fun x y => absurd ⟨x, y⟩ hlt)
    have := hK w'.drew q.drew
    rw [hs] at this
    refine drawK_here ?_
    simp (maxSteps := 1000000) (disch := omega) only [hid1', hid2', guardK_u, takeG_u, wrap_in64, optK_some', fzK_false', nilK_ptr, brK_true', brK_false', guardK_tt', guardK_ff', guardK_tf', guardK_ft', takeG_tt', takeG_ff', takeG_tf', takeG_ft', pickK_t', pickK_f', pickT_t', pickT_f', notK, extract2_0', extract2_1', extract3_0', extract3_1', extract3_2', here_load, here_fieldAt, here_indexAt, here_extract, here_un, here_conv, here_slice, here_bin, here_nil, and_here, true_and, Nat.zero_add, Nat.add_assoc, Nat.add_zero, Int.toNat_natCast, size_alloc, World.cell?_drew, World.frozen?_drew, Bool.not_true, Bool.not_false, Int.toNat_zero, dec_t, dec_f, int_eq_t, int_eq_f, int_ne_t, int_ne_f, wrap_in, kblss3, kld9, kbadd3, klen41, hlen41, kia41, kbeql9, kmin3_ff, hmin]
    exact this
theorem under_any {l z : List UInt8} {w : World} {K : Value → World → Prop} (hl : l.length ≤ 50000) (hz : z.length ≤ 50000) (hm : MaxAt w)
    (hK : ∀ w', Qt w w' → K (.bool (underL l z)) w') : CallK Tryd.prog 40 #[.string (txt l), .string (txt z)] K w := by
  refine F40_calls _ _ _ _ ?_; unfold F40
  refine ck52 (parse_any hl hm ?_)
  intro A c F w1 o1 q1 f1
  have hs1 := len_small l
  have r1 := Reads.of_own o1
  simp (maxSteps := 1000000) (disch := omega) only [hid1', hid2', guardK_u, takeG_u, wrap_in64, optK_some', fzK_false', nilK_ptr, brK_true', brK_false', guardK_tt', guardK_ff', guardK_tf', guardK_ft', takeG_tt', takeG_ff', takeG_tf', takeG_ft', pickK_t', pickK_f', pickT_t', pickT_f', notK, extract2_0', extract2_1', extract3_0', extract3_1', extract3_2', here_load, here_fieldAt, here_indexAt, here_extract, here_un, here_conv, here_slice, here_bin, here_nil, and_here, true_and, Nat.zero_add, Nat.add_assoc, Nat.add_zero, Int.toNat_natCast, size_alloc, World.cell?_drew, World.frozen?_drew, Bool.not_true, Bool.not_false, Int.toNat_zero, dec_t, dec_f, int_eq_t, int_eq_f, int_ne_t, int_ne_f, wrap_in, kbeql3, klen41, hlen41, kbeql36]
  refine ck52 (parse_any hz (hm.quiet q1) ?_)
  intro B d G w2 o2 q2 f2
  have hs2 := len_small z
  have r2 := Reads.of_own o2
  have r1' := r1.quiet q2
  unfold underL at hK
  have hsh2 := o2.shape
  have q12 := q1.trans q2
  clear o1 o2
  by_cases h0 : (parseL l).1 = 0
  · by_cases h1 : (parseL z).1 = 0
    · rw [h0, h1] at hK
      generalize (parseL l).2 = a at *
      generalize (parseL z).2 = b at *
      have hd : decide ((0 : Int) = 0) = true := rfl
      rw [hd] at hK
      simp (maxSteps := 1000000) (disch := omega) only [hid1', hid2', guardK_u, takeG_u, wrap_in64, optK_some', fzK_false', nilK_ptr, brK_true', brK_false', guardK_tt', guardK_ff', guardK_tf', guardK_ft', takeG_tt', takeG_ff', takeG_tf', takeG_ft', pickK_t', pickK_f', pickT_t', pickT_f', notK, extract2_0', extract2_1', extract3_0', extract3_1', extract3_2', here_load, here_fieldAt, here_indexAt, here_extract, here_un, here_conv, here_slice, here_bin, here_nil, and_here, true_and, Nat.zero_add, Nat.add_assoc, Nat.add_zero, Int.toNat_natCast, size_alloc, World.cell?_drew, World.frozen?_drew, Bool.not_true, Bool.not_false, Int.toNat_zero, dec_t, dec_f, int_eq_t, int_eq_f, int_ne_t, int_ne_f, wrap_in, kbeql3, klen41, hlen41, kbeql36, h0, h1]
      refine ck53 (shared_any r1' r2 (by omega) (by omega) ?_)
      intro w3 q3
      have e : ((sharedN a b : Int) == (b.length : Int)) = decide (sharedN a b = b.length) := by
        by_cases h : sharedN a b = b.length
        · rw [h]; simp
        · rw [decide_eq_false h, beq_eq_false_iff_ne]; omega
      have := hK w3 (q12.trans q3)
      simp only [Bool.true_and] at this
      simp (maxSteps := 1000000) (disch := omega) only [hid1', hid2', guardK_u, takeG_u, wrap_in64, optK_some', fzK_false', nilK_ptr, brK_true', brK_false', guardK_tt', guardK_ff', guardK_tf', guardK_ft', takeG_tt', takeG_ff', takeG_tf', takeG_ft', pickK_t', pickK_f', pickT_t', pickT_f', notK, extract2_0', extract2_1', extract3_0', extract3_1', extract3_2', here_load, here_fieldAt, here_indexAt, here_extract, here_un, here_conv, here_slice, here_bin, here_nil, and_here, true_and, Nat.zero_add, Nat.add_assoc, Nat.add_zero, Int.toNat_natCast, size_alloc, World.cell?_drew, World.frozen?_drew, Bool.not_true, Bool.not_false, Int.toNat_zero, dec_t, dec_f, int_eq_t, int_eq_f, int_ne_t, int_ne_f, wrap_in, kbeql3, klen41, hlen41, kbeql36, e]
      exact this
    · have hd : decide ((parseL z).1 = 0) = false := decide_eq_false h1
      rw [h0, hd] at hK
      have := hK w2 q12
      simp only [Bool.and_false, Bool.false_and] at this
      simp (maxSteps := 1000000) (disch := omega) only [hid1', hid2', guardK_u, takeG_u, wrap_in64, optK_some', fzK_false', nilK_ptr, brK_true', brK_false', guardK_tt', guardK_ff', guardK_tf', guardK_ft', takeG_tt', takeG_ff', takeG_tf', takeG_ft', pickK_t', pickK_f', pickT_t', pickT_f', notK, extract2_0', extract2_1', extract3_0', extract3_1', extract3_2', here_load, here_fieldAt, here_indexAt, here_extract, here_un, here_conv, here_slice, here_bin, here_nil, and_here, true_and, Nat.zero_add, Nat.add_assoc, Nat.add_zero, Int.toNat_natCast, size_alloc, World.cell?_drew, World.frozen?_drew, Bool.not_true, Bool.not_false, Int.toNat_zero, dec_t, dec_f, int_eq_t, int_eq_f, int_ne_t, int_ne_f, wrap_in, kbeql3, klen41, hlen41, kbeql36, h0, h1, guardK_u]
      exact this
  · have hd : decide ((parseL l).1 = 0) = false := decide_eq_false h0
    rw [hd] at hK
    have := hK w2 q12
    simp only [Bool.and_false, Bool.false_and] at this
    simp (maxSteps := 1000000) (disch := omega) only [hid1', hid2', guardK_u, takeG_u, wrap_in64, optK_some', fzK_false', nilK_ptr, brK_true', brK_false', guardK_tt', guardK_ff', guardK_tf', guardK_ft', takeG_tt', takeG_ff', takeG_tf', takeG_ft', pickK_t', pickK_f', pickT_t', pickT_f', notK, extract2_0', extract2_1', extract3_0', extract3_1', extract3_2', here_load, here_fieldAt, here_indexAt, here_extract, here_un, here_conv, here_slice, here_bin, here_nil, and_here, true_and, Nat.zero_add, Nat.add_assoc, Nat.add_zero, Int.toNat_natCast, size_alloc, World.cell?_drew, World.frozen?_drew, Bool.not_true, Bool.not_false, Int.toNat_zero, dec_t, dec_f, int_eq_t, int_eq_f, int_ne_t, int_ne_f, wrap_in, kbeql3, klen41, hlen41, kbeql36, h0, guardK_u]
    exact this
end Go.Proofs.YtbkficgmjgbbeaaDoor

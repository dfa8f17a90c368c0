/- path.Depth, the document's Path and Node: each by what it computes. -/
import Derived.Test.YtbkficgmjgbbeaaDoorTwoR
import Derived.Test.YtbkficgmjgbbeaaDoorPath2
set_option linter.unusedVariables false
set_option linter.unusedSimpArgs false
set_option maxRecDepth 100000
namespace Go.Proofs.YtbkficgmjgbbeaaDoor
open Go.RowKit Go.Cn
theorem depth_any {l : List UInt8} {w : World} {K : Value → World → Prop} (hl : l.length ≤ 50000) (hm : MaxAt w)
    (hK : ∀ w', Qt w w' → K (.int .i64 (depthL l)) w') : CallK Tryd.prog 46 #[.string (txt l)] K w := by
  refine F46_calls _ _ _ ?_; unfold F46
  refine ck52 (parse_any hl hm ?_)
  intro A c F w' o q f
  obtain hsh := o.shape
  have hs := len_small l
  unfold depthL at hK
  rcases code_small l with h0 | h0 | h0
  · rw [h0] at hK
    generalize (parseL l).2 = ps at *
    simp (maxSteps := 1000000) (disch := omega) only [hid1', hid2', guardK_u, takeG_u, wrap_in64, optK_some', fzK_false', nilK_ptr, brK_true', brK_false', guardK_tt', guardK_ff', guardK_tf', guardK_ft', takeG_tt', takeG_ff', takeG_tf', takeG_ft', pickK_t', pickK_f', pickT_t', pickT_f', notK, extract2_0', extract2_1', extract3_0', extract3_1', extract3_2', here_load, here_fieldAt, here_indexAt, here_extract, here_un, here_conv, here_slice, here_bin, here_nil, and_here, true_and, Nat.zero_add, Nat.add_assoc, Nat.add_zero, Int.toNat_natCast, size_alloc, World.cell?_drew, World.frozen?_drew, Bool.not_true, Bool.not_false, Int.toNat_zero, dec_t, dec_f, int_eq_t, int_eq_f, int_ne_t, int_ne_f, wrap_in, klen41, hlen41, kbneq36, h0]
    exact hK w' q
  · rw [h0] at hK
    simp (maxSteps := 1000000) (disch := omega) only [hid1', hid2', guardK_u, takeG_u, wrap_in64, optK_some', fzK_false', nilK_ptr, brK_true', brK_false', guardK_tt', guardK_ff', guardK_tf', guardK_ft', takeG_tt', takeG_ff', takeG_tf', takeG_ft', pickK_t', pickK_f', pickT_t', pickT_f', notK, extract2_0', extract2_1', extract3_0', extract3_1', extract3_2', here_load, here_fieldAt, here_indexAt, here_extract, here_un, here_conv, here_slice, here_bin, here_nil, and_here, true_and, Nat.zero_add, Nat.add_assoc, Nat.add_zero, Int.toNat_natCast, size_alloc, World.cell?_drew, World.frozen?_drew, Bool.not_true, Bool.not_false, Int.toNat_zero, dec_t, dec_f, int_eq_t, int_eq_f, int_ne_t, int_ne_f, wrap_in, klen41, hlen41, kbneq36, h0]
    exact hK w' q
  · rw [h0] at hK
    simp (maxSteps := 1000000) (disch := omega) only [hid1', hid2', guardK_u, takeG_u, wrap_in64, optK_some', fzK_false', nilK_ptr, brK_true', brK_false', guardK_tt', guardK_ff', guardK_tf', guardK_ft', takeG_tt', takeG_ff', takeG_tf', takeG_ft', pickK_t', pickK_f', pickT_t', pickT_f', notK, extract2_0', extract2_1', extract3_0', extract3_1', extract3_2', here_load, here_fieldAt, here_indexAt, here_extract, here_un, here_conv, here_slice, here_bin, here_nil, and_here, true_and, Nat.zero_add, Nat.add_assoc, Nat.add_zero, Int.toNat_natCast, size_alloc, World.cell?_drew, World.frozen?_drew, Bool.not_true, Bool.not_false, Int.toNat_zero, dec_t, dec_f, int_eq_t, int_eq_f, int_ne_t, int_ne_f, wrap_in, klen41, hlen41, kbneq36, h0]
    exact hK w' q
theorem isR_any {l : List UInt8} {w : World} {K : Value → World → Prop} (hl : l.length ≤ 2000000)
    (hK : ∀ w', Qt w w' → K (.bool (decide ((parseL l).1 = 0))) w') : CallK Tryd.prog 56 #[.string (txt l)] K w := by
  refine F56_calls _ _ _ ?_; unfold F56
  refine ck54 (parseR_any (by omega) ?_)
  intro A c F w' o q f
  have e : ((parseL l).1 == 0) = decide ((parseL l).1 = 0) := rfl
  generalize (parseL l).1 = x at *
  simp (maxSteps := 1000000) (disch := omega) only [hid1', hid2', guardK_u, takeG_u, wrap_in64, optK_some', fzK_false', nilK_ptr, brK_true', brK_false', guardK_tt', guardK_ff', guardK_tf', guardK_ft', takeG_tt', takeG_ff', takeG_tf', takeG_ft', pickK_t', pickK_f', pickT_t', pickT_f', notK, extract2_0', extract2_1', extract3_0', extract3_1', extract3_2', here_load, here_fieldAt, here_indexAt, here_extract, here_un, here_conv, here_slice, here_bin, here_nil, and_here, true_and, Nat.zero_add, Nat.add_assoc, Nat.add_zero, Int.toNat_natCast, size_alloc, World.cell?_drew, World.frozen?_drew, Bool.not_true, Bool.not_false, Int.toNat_zero, dec_t, dec_f, int_eq_t, int_eq_f, int_ne_t, int_ne_f, wrap_in, kbeql3, e]
  exact hK w' q
def nodeL (l : List UInt8) : Bool := decide ((parseL l).1 = 0) && decide (l ≠ [47])
theorem node_depth (l : List UInt8) : nodeL l = true ↔ 1 ≤ depthL l := by
  unfold nodeL depthL
  by_cases h : (parseL l).1 = 0
  · rw [if_pos h]
    have hp := path_of (parseL_ok h).1
    have e : l = [47] ↔ (parseL l).2 = [] := by
      constructor
      · intro e; rw [e]; rfl
      · intro e; rw [e] at hp; exact hp.symm
    have e2 : (parseL l).2 ≠ [] ↔ 1 ≤ ((parseL l).2.length : Int) := by
      rw [← List.length_pos_iff]; omega
    rw [← e2]
    simp [h, e]
  · rw [if_neg h]
    simp [h]
theorem nodeR_any {l : List UInt8} {w : World} {K : Value → World → Prop} (hl : l.length ≤ 2000000)
    (hK : ∀ w', Qt w w' → K (.bool (nodeL l)) w') : CallK Tryd.prog 44 #[.string (txt l)] K w := by
  refine F44_calls _ _ _ ?_; unfold F44
  refine ck56 (isR_any hl ?_)
  intro w' q
  have fin := hK w' q
  unfold nodeL at fin
  by_cases h : (parseL l).1 = 0
  · have hd : decide ((parseL l).1 = 0) = true := decide_eq_true h
    rw [hd, Bool.true_and] at fin
    by_cases h2 : l = [47]
    · have hd2 : decide (l = [47]) = true := decide_eq_true h2
      have hd3 : decide (l ≠ [47]) = false := decide_eq_false (fun e => e h2)
      rw [hd3] at fin
      simp (maxSteps := 1000000) (disch := omega) only [hid1', hid2', guardK_u, takeG_u, wrap_in64, optK_some', fzK_false', nilK_ptr, brK_true', brK_false', guardK_tt', guardK_ff', guardK_tf', guardK_ft', takeG_tt', takeG_ff', takeG_tf', takeG_ft', pickK_t', pickK_f', pickT_t', pickT_f', notK, extract2_0', extract2_1', extract3_0', extract3_1', extract3_2', here_load, here_fieldAt, here_indexAt, here_extract, here_un, here_conv, here_slice, here_bin, here_nil, and_here, true_and, Nat.zero_add, Nat.add_assoc, Nat.add_zero, Int.toNat_natCast, size_alloc, World.cell?_drew, World.frozen?_drew, Bool.not_true, Bool.not_false, Int.toNat_zero, dec_t, dec_f, int_eq_t, int_eq_f, int_ne_t, int_ne_f, wrap_in, kbneq9, hd, c47, eq_txt, hd2, Bool.not_true]
      exact fin
    · have hd2 : decide (l = [47]) = false := decide_eq_false h2
      have hd3 : decide (l ≠ [47]) = true := decide_eq_true h2
      rw [hd3] at fin
      simp (maxSteps := 1000000) (disch := omega) only [hid1', hid2', guardK_u, takeG_u, wrap_in64, optK_some', fzK_false', nilK_ptr, brK_true', brK_false', guardK_tt', guardK_ff', guardK_tf', guardK_ft', takeG_tt', takeG_ff', takeG_tf', takeG_ft', pickK_t', pickK_f', pickT_t', pickT_f', notK, extract2_0', extract2_1', extract3_0', extract3_1', extract3_2', here_load, here_fieldAt, here_indexAt, here_extract, here_un, here_conv, here_slice, here_bin, here_nil, and_here, true_and, Nat.zero_add, Nat.add_assoc, Nat.add_zero, Int.toNat_natCast, size_alloc, World.cell?_drew, World.frozen?_drew, Bool.not_true, Bool.not_false, Int.toNat_zero, dec_t, dec_f, int_eq_t, int_eq_f, int_ne_t, int_ne_f, wrap_in, kbneq9, hd, c47, eq_txt, hd2, Bool.not_false]
      exact fin
  · have hd : decide ((parseL l).1 = 0) = false := decide_eq_false h
    rw [hd, Bool.false_and] at fin
    simp (maxSteps := 1000000) (disch := omega) only [hid1', hid2', guardK_u, takeG_u, wrap_in64, optK_some', fzK_false', nilK_ptr, brK_true', brK_false', guardK_tt', guardK_ff', guardK_tf', guardK_ft', takeG_tt', takeG_ff', takeG_tf', takeG_ft', pickK_t', pickK_f', pickT_t', pickT_f', notK, extract2_0', extract2_1', extract3_0', extract3_1', extract3_2', here_load, here_fieldAt, here_indexAt, here_extract, here_un, here_conv, here_slice, here_bin, here_nil, and_here, true_and, Nat.zero_add, Nat.add_assoc, Nat.add_zero, Int.toNat_natCast, size_alloc, World.cell?_drew, World.frozen?_drew, Bool.not_true, Bool.not_false, Int.toNat_zero, dec_t, dec_f, int_eq_t, int_eq_f, int_ne_t, int_ne_f, wrap_in, kbneq9, hd, guardK_u]
    exact fin
theorem node_len {l : List UInt8} (h : nodeL l = true) : 2 ≤ l.length ∧ l.length ≤ 40 := by
  unfold nodeL at h
  rw [Bool.and_eq_true, decide_eq_true_eq, decide_eq_true_eq] at h
  have hk := parseL_ok h.1
  have hp := path_of hk.1
  have key : ∀ r : List (List UInt8), (∀ p ∈ r, p.length ≤ 8) → (r.flatMap (fun q => (47 : UInt8) :: q)).length ≤ r.length * 9 := by
    intro r hr
    induction r with
    | nil => simp
    | cons a r ih =>
      have h1 := ih (fun p hp => hr p (by simp [hp]))
      have h2 := hr a (by simp)
      rw [List.flatMap_cons, List.length_append, List.length_cons, List.length_cons, Nat.succ_mul]; omega
  have hn := fun p hp => (parts_len hk.2.1 p hp)
  generalize (parseL l).2 = ps at *
  cases ps with
  | nil => exact absurd hp.symm h.2
  | cons p r =>
    have h1 := key r (fun q hq => (hn q (by simp [hq])).2)
    have h2 := hn p (by simp)
    have h3 := hk.2.2
    rw [List.length_cons] at h3
    have h4 : r.length * 9 ≤ 3 * 9 := by omega
    rw [← hp]
    unfold pathL
    rw [List.length_cons, joinL, List.length_append]
    omega
end Go.Proofs.YtbkficgmjgbbeaaDoor

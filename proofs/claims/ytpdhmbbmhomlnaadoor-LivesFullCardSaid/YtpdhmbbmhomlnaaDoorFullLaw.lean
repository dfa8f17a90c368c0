/- LivesFull's walk. No condition. -/
import Derived.Test.YtpdhmbbmhomlnaaDoorRiseLaw
set_option linter.unusedVariables false
set_option linter.unusedSimpArgs false
set_option maxRecDepth 100000
namespace Go.Proofs.YtpdhmbbmhomlnaaDoor
open Go.RowKit Go.Cn Go.Cn.Num
def ch97 (n : Nat) : UInt8 := UInt8.ofNat (97 + n)
def nmF (i : Nat) : ByteArray := txt [47, 113, 47, 110, ch97 (i / 26), ch97 (i % 26)]
theorem ch97_lt {a b : Nat} (h : a < b) (hb : b ≤ 100) : ch97 a < ch97 b := by
  unfold ch97
  rw [UInt8.lt_iff_toNat_lt]
  simp
  omega
theorem ch97_val (n : Nat) (h : n ≤ 100) : IntKind.u8.wrap (97 + (n : Int)) = ((ch97 n).toNat : Int) := by
  have : IntKind.u8.wrap (97 + (n : Int)) = (97 + (n : Int)) % 256 := by simp [IntKind.wrap, IntKind.bits, IntKind.signed]
  rw [this]
  unfold ch97
  simp
theorem nmF_lt {i j : Nat} (h : i < j) (hj : j < 260) : SI.lt (nmF i) (nmF j) = true := by
  show ltS (nmF i) (nmF j) = true
  unfold ltS nmF
  rw [Go.Proofs.bytesLess_eq, txt_toList, txt_toList, decide_eq_true_eq]
  have key : [ch97 (i / 26), ch97 (i % 26)] < [ch97 (j / 26), ch97 (j % 26)] := by
    by_cases e : i / 26 = j / 26
    · rw [e]
      refine List.Lex.cons (List.Lex.rel (ch97_lt ?_ ?_)) <;> omega
    · refine List.Lex.rel (ch97_lt ?_ ?_) <;> omega
  exact List.Lex.cons (List.Lex.cons (List.Lex.cons (List.Lex.cons key)))
theorem nmF_ne {i j : Nat} (h : i ≠ j) (hi : i < 260) (hj : j < 260) : nmF i ≠ nmF j := by
  intro e
  rcases Nat.lt_or_gt_of_ne h with h | h
  · have := nmF_lt h hj; rw [e, SI.O.irr] at this; cases this
  · have := nmF_lt h hi; rw [e, SI.O.irr] at this; cases this
theorem nmF_all : (List.range 260).all (fun i => nodeB (nmF i)) = true := by kernel_rfl
theorem nmF_node {i : Nat} (h : i < 260) : nodeB (nmF i) = true := List.all_eq_true.1 nmF_all i (List.mem_range.2 h)
def mF (k : Nat) : LM := (List.range k).map fun i => (nmF i, (1 : Int))
theorem mF_len (k : Nat) : (mF k).length = k := by unfold mF; rw [List.length_map, List.length_range]
theorem mF_mem {k : Nat} {x : ByteArray × Int} (h : x ∈ mF k) : ∃ i, i < k ∧ x = (nmF i, 1) := by
  unfold mF at h
  obtain ⟨i, hi, e⟩ := List.mem_map.1 h
  exact ⟨i, List.mem_range.1 hi, e.symm⟩
theorem mF_succ (k : Nat) : mF (k + 1) = mF k ++ [(nmF k, 1)] := by unfold mF; rw [List.range_succ, List.map_append]; rfl
theorem mF_get {k i : Nat} (h : i < (mF k).length) : (mF k)[i] = (nmF i, 1) := by simp [mF]
theorem mF_good {k : Nat} (h : k ≤ 256) : Good (mF k) where
  up := Rises.of (fun i j hj hij => by
    rw [mF_get, mF_get]
    rw [mF_len] at hj
    exact nmF_lt hij (by omega))
  few := by rw [mF_len]; exact h
  node := fun x hx => by
    obtain ⟨i, hi, rfl⟩ := mF_mem hx
    exact nmF_node (by omega)
  vals := fun x hx => by
    obtain ⟨i, hi, rfl⟩ := mF_mem hx
    exact ⟨by show (1 : Int) ≤ 1; omega, by show (1 : Int) ≤ 1000000000; omega⟩
theorem mF_no {k j : Nat} (h : k ≤ j) (hj : j < 260) : fnd SI.lt (mF k) (nmF j) = false := no_fnd (fun x hx => by
  obtain ⟨i, hi, rfl⟩ := mF_mem hx
  exact nmF_ne (by omega) (by omega) hj)
theorem begin_mF {i : Nat} (h : i < 256) : beginM (mF i) (nmF i) = (mF (i + 1), 1, 0) := by
  have h0 : getN (mF i) (nmF i) = 0 := getM_no (mF_no (Nat.le_refl _) (by omega))
  unfold beginM
  rw [nmF_node (by omega), if_neg (by decide), h0, if_neg, put_end, mF_succ]
  · rfl
  · intro x hx
    obtain ⟨j, hj, rfl⟩ := mF_mem hx
    exact nmF_lt hj (by omega)
  · rintro (e | e)
    · have := e.2; rw [mF_len] at this; omega
    · omega
theorem begin_mF9 {i : Nat} (h : 256 ≤ i) (h2 : i < 260) : beginM (mF 256) (nmF i) = (mF 256, 0, 9) := by
  unfold beginM
  rw [nmF_node h2, if_neg (by decide), if_pos (.inl ⟨mF_no h h2, by rw [mF_len]; exact Nat.le_refl _⟩)]
theorem of_mF {k i : Nat} (h : i < k) (hk : k ≤ 256) : getN (mF k) (nmF i) = 1 := getN_mem (mF_good hk).up (List.mem_map.2 ⟨i, List.mem_range.2 h, rfl⟩)
theorem addS (x y : ByteArray) (h : x.size + y.size ≤ 9223372036854775807) (K : Value → World → Prop) (w : World) : BinK Tryd.prog .add 9 (.string x) (.string y) K w = K (.string (x ++ y)) w := by
  have hn : ¬ 9223372036854775807 < x.size + y.size := by omega
  unfold BinK; go_simp
  exact Iff.rfl
theorem nmF_eq (i : Nat) : (⟨#[47, 113, 47, 110]⟩ : ByteArray) ++ txt [ch97 (i / 26), ch97 (i % 26)] = nmF i := by
  show txt [47, 113, 47, 110] ++ txt [ch97 (i / 26), ch97 (i % 26)] = nmF i
  rw [txt_app]; rfl
theorem two_reads (w : World) (a b : UInt8) : Reads (w.alloc (.cells #[.int .u8 (a.toNat : Int), .int .u8 (b.toNat : Int)] 5)) (some ⟨w.heap.size, 0, none⟩) ([a, b].map vb) := by
  refine .inr ⟨w.heap.size, 0, rfl, fun j hj => ?_⟩
  rw [blk_cell (blk_new _ _), Nat.zero_add]
  simp [vb]
theorem nmF_size (i : Nat) : (nmF i).size = 6 := by unfold nmF; rw [txt_size]; rfl
theorem litS (a b : UInt8) : (⟨#[47, 113, 47, 110]⟩ : ByteArray).size + (txt [a, b]).size ≤ 9223372036854775807 := by rw [txt_size]; show 4 + 2 ≤ _; omega
set_option maxHeartbeats 4000000 in
theorem livesFull_walk (a b : Int) (w : World) (hm : MaxAt w) (ha0 : 0 ≤ a) (ha1 : a ≤ 255) (hb0 : 0 ≤ b) (hb1 : b ≤ 255) :
    Calls Tryd.prog 6 #[.int .u8 a, .int .u8 b] w fun e w' => e = .returned (.bool true) ∧ Below w.heap.size w w' := by
  obtain ⟨a, rfl⟩ : ∃ n : Nat, a = (n : Int) := ⟨a.toNat, by omega⟩
  obtain ⟨b, rfl⟩ : ∃ n : Nat, b = (n : Int) := ⟨b.toNat, by omega⟩
  refine callK_ret fun R hR => ?_
  refine F6_calls _ _ _ _ ?_; unfold F6
  refine ck7 (known_any hm ?_)
  intro w1 q1
  have hz := hm.pos
  simp (maxSteps := 1000000) (disch := omega) only [hid1', hid2', guardK_u, takeG_u, wrap_in64, optK_some', fzK_false', nilK_ptr, brK_true', brK_false', guardK_tt', guardK_ff', guardK_tf', guardK_ft', takeG_tt', takeG_ff', takeG_tf', takeG_ft', pickK_t', pickK_f', pickT_t', pickT_f', notK, extract2_0', extract2_1', extract3_0', extract3_1', extract3_2', here_load, here_fieldAt, here_indexAt, here_extract, here_un, here_conv, here_slice, here_bin, here_nil, and_here, true_and, Nat.zero_add, Nat.add_assoc, Nat.add_zero, Int.toNat_natCast, size_alloc, World.cell?_drew, World.frozen?_drew, Bool.not_true, Bool.not_false, Int.toNat_zero, dec_t, dec_f, int_eq_t, int_eq_f, int_ne_t, int_ne_f, wrap_in, kblss3, kbneq3, kbneq2, kbrem3, kbeql3, kbadd3, kbeql2, kbneq24n, kbneq4, kbrem5, kcv5_3, kbquo3, kcv3_5, kbs32_2_0_1, kbgeq3]
  refine ck8 (new_lives ?_)
  intro x g w2 h2 q2 hx hg
  have hs1 := q1.size
  have q02 := q1.trans q2
  simp (maxSteps := 1000000) (disch := omega) only [hid1', hid2', guardK_u, takeG_u, wrap_in64, optK_some', fzK_false', nilK_ptr, brK_true', brK_false', guardK_tt', guardK_ff', guardK_tf', guardK_ft', takeG_tt', takeG_ff', takeG_tf', takeG_ft', pickK_t', pickK_f', pickT_t', pickT_f', notK, extract2_0', extract2_1', extract3_0', extract3_1', extract3_2', here_load, here_fieldAt, here_indexAt, here_extract, here_un, here_conv, here_slice, here_bin, here_nil, and_here, true_and, Nat.zero_add, Nat.add_assoc, Nat.add_zero, Int.toNat_natCast, size_alloc, World.cell?_drew, World.frozen?_drew, Bool.not_true, Bool.not_false, Int.toNat_zero, dec_t, dec_f, int_eq_t, int_eq_f, int_ne_t, int_ne_f, wrap_in, kblss3, kbneq3, kbneq2, kbrem3, kbeql3, kbadd3, kbeql2, kbneq24n, kbneq4, kbrem5, kcv5_3, kbquo3, kcv3_5, kbs32_2_0_1, kbgeq3]
  refine loopK1 (fun v w' => ∃ (i : Nat) (F : Option Nat), v = .int .i64 i ∧ i ≤ 256 + a % 3 ∧ LV w.heap.size w' x g (mF (min i 256)) F ∧ Qt w w') (fun v _ => 256 + a % 3 - (intOf v).toNat) ⟨0, none, rfl, by omega, ⟨h2, by omega, by omega, fun _ h => (by cases h)⟩, q02⟩ ?_
  rintro _ _ w3 ⟨i, F, rfl, hi, v3, q3⟩
  have ea : (a : Int) % 3 = ((a % 3 : Nat) : Int) := by omega
  have ed : (i : Int) / 26 = ((i / 26 : Nat) : Int) := by omega
  have em : (i : Int) % 26 = ((i % 26 : Nat) : Int) := by omega
  have e1 := ch97_val (i / 26) (by omega)
  have e2 := ch97_val (i % 26) (by omega)
  by_cases hlt : i < 256 + a % 3
  · simp (maxSteps := 1000000) (disch := omega) only [hid1', hid2', guardK_u, takeG_u, wrap_in64, optK_some', fzK_false', nilK_ptr, brK_true', brK_false', guardK_tt', guardK_ff', guardK_tf', guardK_ft', takeG_tt', takeG_ff', takeG_tf', takeG_ft', pickK_t', pickK_f', pickT_t', pickT_f', notK, extract2_0', extract2_1', extract3_0', extract3_1', extract3_2', here_load, here_fieldAt, here_indexAt, here_extract, here_un, here_conv, here_slice, here_bin, here_nil, and_here, true_and, Nat.zero_add, Nat.add_assoc, Nat.add_zero, Int.toNat_natCast, size_alloc, World.cell?_drew, World.frozen?_drew, Bool.not_true, Bool.not_false, Int.toNat_zero, dec_t, dec_f, int_eq_t, int_eq_f, int_ne_t, int_ne_f, wrap_in, kblss3, kbneq3, kbneq2, kbrem3, kbeql3, kbadd3, kbeql2, kbneq24n, kbneq4, kbrem5, kcv5_3, kbquo3, kcv3_5, kbs32_2_0_1, kbgeq3, ea, ed, em, e1, e2]
    refine convK (l := [ch97 (i / 26), ch97 (i % 26)]) Tryd.underlying32 Tryd.underlying5 Tryd.underlying9 (two_reads w3 _ _) ?_
    have qa : Qt w3 (w3.alloc (.cells #[.int .u8 ((ch97 (i / 26)).toNat : Int), .int .u8 ((ch97 (i % 26)).toNat : Int)] 5)) := Chg.alloc Qt.refl _
    have hl := litS (ch97 (i / 26)) (ch97 (i % 26))
    generalize (w3.alloc (.cells #[.int .u8 ((ch97 (i / 26)).toNat : Int), .int .u8 ((ch97 (i % 26)).toNat : Int)] 5)) = w4 at *
    have v4 := v3.quiet qa
    have q4 := q3.trans qa
    simp (maxSteps := 1000000) (disch := omega) only [hid1', hid2', guardK_u, takeG_u, wrap_in64, optK_some', fzK_false', nilK_ptr, brK_true', brK_false', guardK_tt', guardK_ff', guardK_tf', guardK_ft', takeG_tt', takeG_ff', takeG_tf', takeG_ft', pickK_t', pickK_f', pickT_t', pickT_f', notK, extract2_0', extract2_1', extract3_0', extract3_1', extract3_2', here_load, here_fieldAt, here_indexAt, here_extract, here_un, here_conv, here_slice, here_bin, here_nil, and_here, true_and, Nat.zero_add, Nat.add_assoc, Nat.add_zero, Int.toNat_natCast, size_alloc, World.cell?_drew, World.frozen?_drew, Bool.not_true, Bool.not_false, Int.toNat_zero, dec_t, dec_f, int_eq_t, int_eq_f, int_ne_t, int_ne_f, wrap_in, kblss3, kbneq3, kbneq2, kbrem3, kbeql3, kbadd3, kbeql2, kbneq24n, kbneq4, kbrem5, kcv5_3, kbquo3, kcv3_5, kbs32_2_0_1, kbgeq3, addS _ _ hl]
    rw [nmF_eq]
    by_cases h256 : i < 256
    · have hmn : min i 256 = i := by omega
      have hmn2 : min (i + 1) 256 = i + 1 := by omega
      rw [hmn] at v4
      refine ck10 (begin_lv (p := nmF i) hm v4 q4 (mF_good (by omega)) (by rw [nmF_size]; omega) ?_)
      rw [begin_mF h256]
      intro F5 w5 v5 q5 _ _
      have b1 : (true != true) = false := rfl
      have b2 : (false != false) = false := rfl
      simp (maxSteps := 1000000) (disch := omega) only [hid1', hid2', guardK_u, takeG_u, wrap_in64, optK_some', fzK_false', nilK_ptr, brK_true', brK_false', guardK_tt', guardK_ff', guardK_tf', guardK_ft', takeG_tt', takeG_ff', takeG_tf', takeG_ft', pickK_t', pickK_f', pickT_t', pickT_f', notK, extract2_0', extract2_1', extract3_0', extract3_1', extract3_2', here_load, here_fieldAt, here_indexAt, here_extract, here_un, here_conv, here_slice, here_bin, here_nil, and_here, true_and, Nat.zero_add, Nat.add_assoc, Nat.add_zero, Int.toNat_natCast, size_alloc, World.cell?_drew, World.frozen?_drew, Bool.not_true, Bool.not_false, Int.toNat_zero, dec_t, dec_f, int_eq_t, int_eq_f, int_ne_t, int_ne_f, wrap_in, kblss3, kbneq3, kbneq2, kbrem3, kbeql3, kbadd3, kbeql2, kbneq24n, kbneq4, kbrem5, kcv5_3, kbquo3, kcv3_5, kbs32_2_0_1, kbgeq3, b1, b2, guardK_u]
      exact ⟨⟨i + 1, F5, by go_num, by omega, by rw [hmn2]; exact v5, q5⟩, by simp [rel, intOf]; omega⟩
    · have hmn : min i 256 = 256 := by omega
      have hmn2 : min (i + 1) 256 = 256 := by omega
      rw [hmn] at v4
      refine ck10 (begin_lv (p := nmF i) hm v4 q4 (mF_good (by omega)) (by rw [nmF_size]; omega) ?_)
      rw [begin_mF9 (by omega) (by omega)]
      intro F5 w5 v5 q5 _ _
      have b1 : (true != true) = false := rfl
      have b2 : (false != false) = false := rfl
      simp (maxSteps := 1000000) (disch := omega) only [hid1', hid2', guardK_u, takeG_u, wrap_in64, optK_some', fzK_false', nilK_ptr, brK_true', brK_false', guardK_tt', guardK_ff', guardK_tf', guardK_ft', takeG_tt', takeG_ff', takeG_tf', takeG_ft', pickK_t', pickK_f', pickT_t', pickT_f', notK, extract2_0', extract2_1', extract3_0', extract3_1', extract3_2', here_load, here_fieldAt, here_indexAt, here_extract, here_un, here_conv, here_slice, here_bin, here_nil, and_here, true_and, Nat.zero_add, Nat.add_assoc, Nat.add_zero, Int.toNat_natCast, size_alloc, World.cell?_drew, World.frozen?_drew, Bool.not_true, Bool.not_false, Int.toNat_zero, dec_t, dec_f, int_eq_t, int_eq_f, int_ne_t, int_ne_f, wrap_in, kblss3, kbneq3, kbneq2, kbrem3, kbeql3, kbadd3, kbeql2, kbneq24n, kbneq4, kbrem5, kcv5_3, kbquo3, kcv3_5, kbs32_2_0_1, kbgeq3, b1, b2, guardK_u]
      exact ⟨⟨i + 1, F5, by go_num, by omega, by rw [hmn2]; exact v5, q5⟩, by simp [rel, intOf]; omega⟩
  · have hmn : min i 256 = 256 := by omega
    rw [hmn] at v3
    have ed2 : (b : Int) / 26 = ((b / 26 : Nat) : Int) := by omega
    have em2 : (b : Int) % 26 = ((b % 26 : Nat) : Int) := by omega
    have f1 := ch97_val (b / 26) (by omega)
    have f2 := ch97_val (b % 26) (by omega)
    simp (maxSteps := 1000000) (disch := omega) only [hid1', hid2', guardK_u, takeG_u, wrap_in64, optK_some', fzK_false', nilK_ptr, brK_true', brK_false', guardK_tt', guardK_ff', guardK_tf', guardK_ft', takeG_tt', takeG_ff', takeG_tf', takeG_ft', pickK_t', pickK_f', pickT_t', pickT_f', notK, extract2_0', extract2_1', extract3_0', extract3_1', extract3_2', here_load, here_fieldAt, here_indexAt, here_extract, here_un, here_conv, here_slice, here_bin, here_nil, and_here, true_and, Nat.zero_add, Nat.add_assoc, Nat.add_zero, Int.toNat_natCast, size_alloc, World.cell?_drew, World.frozen?_drew, Bool.not_true, Bool.not_false, Int.toNat_zero, dec_t, dec_f, int_eq_t, int_eq_f, int_ne_t, int_ne_f, wrap_in, kblss3, kbneq3, kbneq2, kbrem3, kbeql3, kbadd3, kbeql2, kbneq24n, kbneq4, kbrem5, kcv5_3, kbquo3, kcv3_5, kbs32_2_0_1, kbgeq3, ea, ed2, em2, f1, f2]
    refine convK (l := [ch97 (b / 26), ch97 (b % 26)]) Tryd.underlying32 Tryd.underlying5 Tryd.underlying9 (two_reads w3 _ _) ?_
    have qa : Qt w3 (w3.alloc (.cells #[.int .u8 ((ch97 (b / 26)).toNat : Int), .int .u8 ((ch97 (b % 26)).toNat : Int)] 5)) := Chg.alloc Qt.refl _
    have hl := litS (ch97 (b / 26)) (ch97 (b % 26))
    generalize (w3.alloc (.cells #[.int .u8 ((ch97 (b / 26)).toNat : Int), .int .u8 ((ch97 (b % 26)).toNat : Int)] 5)) = w4 at *
    have v4 := v3.quiet qa
    have q4 := q3.trans qa
    simp (maxSteps := 1000000) (disch := omega) only [hid1', hid2', guardK_u, takeG_u, wrap_in64, optK_some', fzK_false', nilK_ptr, brK_true', brK_false', guardK_tt', guardK_ff', guardK_tf', guardK_ft', takeG_tt', takeG_ff', takeG_tf', takeG_ft', pickK_t', pickK_f', pickT_t', pickT_f', notK, extract2_0', extract2_1', extract3_0', extract3_1', extract3_2', here_load, here_fieldAt, here_indexAt, here_extract, here_un, here_conv, here_slice, here_bin, here_nil, and_here, true_and, Nat.zero_add, Nat.add_assoc, Nat.add_zero, Int.toNat_natCast, size_alloc, World.cell?_drew, World.frozen?_drew, Bool.not_true, Bool.not_false, Int.toNat_zero, dec_t, dec_f, int_eq_t, int_eq_f, int_ne_t, int_ne_f, wrap_in, kblss3, kbneq3, kbneq2, kbrem3, kbeql3, kbadd3, kbeql2, kbneq24n, kbneq4, kbrem5, kcv5_3, kbquo3, kcv3_5, kbs32_2_0_1, kbgeq3, addS _ _ hl]
    rw [nmF_eq]
    have g256 := mF_good (k := 256) (by omega)
    have o1 : getN (mF 256) (nmF b) = 1 := of_mF (by omega) (by omega)
    have hag := begin_again (m := mF 256) (p := nmF b) (nmF_node (by omega)) (by omega) (by omega)
    have hg5 := beginM_good g256 (nmF b)
    have og5 := getN_put g256.up (nmF b) (getN (mF 256) (nmF b) + 1)
    refine ck10 (begin_lv (p := nmF b) hm v4 q4 g256 (by rw [nmF_size]; omega) ?_)
    rw [hag] at hg5 ⊢
    rw [o1] at hg5 og5 ⊢
    intro F5 w5 v5 q5 _ _
    simp only at v5 hg5
    generalize putM SI.lt (mF 256) (nmF b) (1 + 1) = m5 at *
    simp (maxSteps := 1000000) (disch := omega) only [hid1', hid2', guardK_u, takeG_u, wrap_in64, optK_some', fzK_false', nilK_ptr, brK_true', brK_false', guardK_tt', guardK_ff', guardK_tf', guardK_ft', takeG_tt', takeG_ff', takeG_tf', takeG_ft', pickK_t', pickK_f', pickT_t', pickT_f', notK, extract2_0', extract2_1', extract3_0', extract3_1', extract3_2', here_load, here_fieldAt, here_indexAt, here_extract, here_un, here_conv, here_slice, here_bin, here_nil, and_here, true_and, Nat.zero_add, Nat.add_assoc, Nat.add_zero, Int.toNat_natCast, size_alloc, World.cell?_drew, World.frozen?_drew, Bool.not_true, Bool.not_false, Int.toNat_zero, dec_t, dec_f, int_eq_t, int_eq_f, int_ne_t, int_ne_f, wrap_in, kblss3, kbneq3, kbneq2, kbrem3, kbeql3, kbadd3, kbeql2, kbneq24n, kbneq4, kbrem5, kcv5_3, kbquo3, kcv3_5, kbs32_2_0_1, kbgeq3]
    refine ck11 (bytes_any v5.at_ hg5 ?_)
    intro A7 c7 w7 hc7 r7 k7
    have q7 := q5.trans k7
    simp (maxSteps := 1000000) (disch := omega) only [hid1', hid2', guardK_u, takeG_u, wrap_in64, optK_some', fzK_false', nilK_ptr, brK_true', brK_false', guardK_tt', guardK_ff', guardK_tf', guardK_ft', takeG_tt', takeG_ff', takeG_tf', takeG_ft', pickK_t', pickK_f', pickT_t', pickT_f', notK, extract2_0', extract2_1', extract3_0', extract3_1', extract3_2', here_load, here_fieldAt, here_indexAt, here_extract, here_un, here_conv, here_slice, here_bin, here_nil, and_here, true_and, Nat.zero_add, Nat.add_assoc, Nat.add_zero, Int.toNat_natCast, size_alloc, World.cell?_drew, World.frozen?_drew, Bool.not_true, Bool.not_false, Int.toNat_zero, dec_t, dec_f, int_eq_t, int_eq_f, int_ne_t, int_ne_f, wrap_in, kblss3, kbneq3, kbneq2, kbrem3, kbeql3, kbadd3, kbeql2, kbneq24n, kbneq4, kbrem5, kcv5_3, kbquo3, kcv3_5, kbs32_2_0_1, kbgeq3]
    refine ck13 (load_any r7 (bytesM_len hg5) hc7 (hm.quiet q7) (fun h => absurd (by rw [load_bytes hg5]) h) ?_)
    intro _ x8 g8 F8 w8 h8 k8 hx8 hg8 hF8
    rw [load_bytes hg5] at h8
    simp only at h8
    have q8 := q7.trans k8
    simp (maxSteps := 1000000) (disch := omega) only [hid1', hid2', guardK_u, takeG_u, wrap_in64, optK_some', fzK_false', nilK_ptr, brK_true', brK_false', guardK_tt', guardK_ff', guardK_tf', guardK_ft', takeG_tt', takeG_ff', takeG_tf', takeG_ft', pickK_t', pickK_f', pickT_t', pickT_f', notK, extract2_0', extract2_1', extract3_0', extract3_1', extract3_2', here_load, here_fieldAt, here_indexAt, here_extract, here_un, here_conv, here_slice, here_bin, here_nil, and_here, true_and, Nat.zero_add, Nat.add_assoc, Nat.add_zero, Int.toNat_natCast, size_alloc, World.cell?_drew, World.frozen?_drew, Bool.not_true, Bool.not_false, Int.toNat_zero, dec_t, dec_f, int_eq_t, int_eq_f, int_ne_t, int_ne_f, wrap_in, kblss3, kbneq3, kbneq2, kbrem3, kbeql3, kbadd3, kbeql2, kbneq24n, kbneq4, kbrem5, kcv5_3, kbquo3, kcv3_5, kbs32_2_0_1, kbgeq3, guardK_u]
    refine ck14 (of_lives (p := nmF b) h8 ?_)
    intro w9 q9
    rw [og5]
    simp (maxSteps := 1000000) (disch := omega) only [hid1', hid2', guardK_u, takeG_u, wrap_in64, optK_some', fzK_false', nilK_ptr, brK_true', brK_false', guardK_tt', guardK_ff', guardK_tf', guardK_ft', takeG_tt', takeG_ff', takeG_tf', takeG_ft', pickK_t', pickK_f', pickT_t', pickT_f', notK, extract2_0', extract2_1', extract3_0', extract3_1', extract3_2', here_load, here_fieldAt, here_indexAt, here_extract, here_un, here_conv, here_slice, here_bin, here_nil, and_here, true_and, Nat.zero_add, Nat.add_assoc, Nat.add_zero, Int.toNat_natCast, size_alloc, World.cell?_drew, World.frozen?_drew, Bool.not_true, Bool.not_false, Int.toNat_zero, dec_t, dec_f, int_eq_t, int_eq_f, int_ne_t, int_ne_f, wrap_in, kblss3, kbneq3, kbneq2, kbrem3, kbeql3, kbadd3, kbeql2, kbneq24n, kbneq4, kbrem5, kcv5_3, kbquo3, kcv3_5, kbs32_2_0_1, kbgeq3]
    exact hR _ (Qt.below (q8.trans q9))
end Go.Proofs.YtpdhmbbmhomlnaaDoor

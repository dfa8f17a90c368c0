/- BookFull's walk. No condition. -/
import Derived.Test.YtbkficgmjgbbeaaDoorNewestLaw
set_option linter.unusedVariables false
set_option linter.unusedSimpArgs false
set_option maxRecDepth 100000
namespace Go.Proofs.YtbkficgmjgbbeaaDoor
open Go.RowKit Go.Cn
def ch97 (n : Nat) : UInt8 := UInt8.ofNat (97 + n)
def nmF (i : Nat) : ByteArray := txt [47, 113, 47, 110, ch97 (i / 26), ch97 (i % 26)]
theorem ch97_val (n : Nat) (h : n ≤ 100) : IntKind.u8.wrap (97 + (n : Int)) = ((ch97 n).toNat : Int) := by
  have : IntKind.u8.wrap (97 + (n : Int)) = (97 + (n : Int)) % 256 := by simp [IntKind.wrap, IntKind.bits, IntKind.signed]
  rw [this]
  unfold ch97
  simp
theorem addS (x y : ByteArray) (h : x.size + y.size ≤ 9223372036854775807) (K : Value → World → Prop) (w : World) : BinK Tryd.prog .add 9 (.string x) (.string y) K w = K (.string (x ++ y)) w := by
  have hn : ¬ 9223372036854775807 < x.size + y.size := by omega
  unfold BinK; go_simp
  exact Iff.rfl
theorem nmF_eq (i : Nat) : (⟨#[47, 113, 47, 110]⟩ : ByteArray) ++ txt [ch97 (i / 26), ch97 (i % 26)] = nmF i := by
  show txt [47, 113, 47, 110] ++ txt [ch97 (i / 26), ch97 (i % 26)] = nmF i
  rw [txt_app]; rfl
theorem two_reads (w : World) (a b : UInt8) : Reads (w.alloc (.cells #[.int .u8 (a.toNat : Int), .int .u8 (b.toNat : Int)] 5)) (some ⟨w.heap.size, 0, none⟩) ([a, b].map vb) := by
  refine .inr ⟨w.heap.size, 0, rfl, fun j hj => ?_⟩
  rw [blk_cell (blk_new _ _), Nat.zero_add]
  simp [vb]
theorem nmF_size (i : Nat) : (nmF i).size = 6 := by unfold nmF; rw [txt_size]; rfl
theorem litS (a b : UInt8) : (⟨#[47, 113, 47, 110]⟩ : ByteArray).size + (txt [a, b]).size ≤ 9223372036854775807 := by rw [txt_size]; show 4 + 2 ≤ _; omega
theorem nm_any {w : World} {i : Nat} (hi : i ≤ 300) {K : Value → World → Prop} (hK : ∀ w', Qt w w' → K (.string (nmF i)) w') : CallK Tryd.prog 27 #[.int .i64 i] K w := by
  refine F27_calls _ _ _ ?_; unfold F27
  have ed : (i : Int) / 26 = ((i / 26 : Nat) : Int) := by omega
  have em : (i : Int) % 26 = ((i % 26 : Nat) : Int) := by omega
  have e1 := ch97_val (i / 26) (by omega)
  have e2 := ch97_val (i % 26) (by omega)
  simp (maxSteps := 1000000) (disch := omega) only [hid1', hid2', guardK_u, takeG_u, wrap_in64, optK_some', fzK_false', nilK_ptr, brK_true', brK_false', guardK_tt', guardK_ff', guardK_tf', guardK_ft', takeG_tt', takeG_ff', takeG_tf', takeG_ft', pickK_t', pickK_f', pickT_t', pickT_f', notK, extract2_0', extract2_1', extract3_0', extract3_1', extract3_2', here_load, here_fieldAt, here_indexAt, here_extract, here_un, here_conv, here_slice, here_bin, here_nil, and_here, true_and, Nat.zero_add, Nat.add_assoc, Nat.add_zero, Int.toNat_natCast, size_alloc, World.cell?_drew, World.frozen?_drew, Bool.not_true, Bool.not_false, Int.toNat_zero, dec_t, dec_f, int_eq_t, int_eq_f, int_ne_t, int_ne_f, wrap_in, kbadd3, kbrem3, kbquo3, kcv3_5, kbs75_2_0_1, ed, em, e1, e2]
  refine convK (l := [ch97 (i / 26), ch97 (i % 26)]) Tryd.underlying75 Tryd.underlying5 Tryd.underlying9 (two_reads w _ _) ?_
  have qa : Qt w (w.alloc (.cells #[.int .u8 ((ch97 (i / 26)).toNat : Int), .int .u8 ((ch97 (i % 26)).toNat : Int)] 5)) := Chg.alloc Qt.refl _
  have hl := litS (ch97 (i / 26)) (ch97 (i % 26))
  generalize (w.alloc (.cells #[.int .u8 ((ch97 (i / 26)).toNat : Int), .int .u8 ((ch97 (i % 26)).toNat : Int)] 5)) = w4 at *
  simp (maxSteps := 1000000) (disch := omega) only [hid1', hid2', guardK_u, takeG_u, wrap_in64, optK_some', fzK_false', nilK_ptr, brK_true', brK_false', guardK_tt', guardK_ff', guardK_tf', guardK_ft', takeG_tt', takeG_ff', takeG_tf', takeG_ft', pickK_t', pickK_f', pickT_t', pickT_f', notK, extract2_0', extract2_1', extract3_0', extract3_1', extract3_2', here_load, here_fieldAt, here_indexAt, here_extract, here_un, here_conv, here_slice, here_bin, here_nil, and_here, true_and, Nat.zero_add, Nat.add_assoc, Nat.add_zero, Int.toNat_natCast, size_alloc, World.cell?_drew, World.frozen?_drew, Bool.not_true, Bool.not_false, Int.toNat_zero, dec_t, dec_f, int_eq_t, int_eq_f, int_ne_t, int_ne_f, wrap_in, kbadd3, kbrem3, kbquo3, kcv3_5, kbs75_2_0_1, addS _ _ hl]
  rw [nmF_eq]
  exact hK w4 qa
/- The plain law: by running it. -/
def ltD (a b : ByteArray) : Bool := Op.bytesLess a.data.toList b.data.toList
theorem lt_D : SE.lt = ltD := by
  funext a b
  show ltS a b = _
  unfold ltS ltD
  rw [ByteArray.toList_eq, ByteArray.toList_eq]
def getD (m : EM) (p : ByteArray) : Ent := if fnd ltD m p = true then ((m[pos ltD m p]?).getD (ByteArray.empty, (ByteArray.empty, 0, 0))).2 else (ByteArray.empty, 0, 0)
theorem get_D (m : EM) (p : ByteArray) : getE m p = getD m p := by
  unfold getE SE.getM getD
  rw [lt_D]
  by_cases h : fnd ltD m p = true
  · rw [if_pos h, if_pos h]
    cases m[pos ltD m p]? <;> rfl
  · rw [if_neg h, if_neg h]
def putD (m : EM) (e : Ent) : EM × Int :=
  if errE e ≠ 0 then (m, errE e) else if fnd ltD m e.1 = true ∧ newE e (getD m e.1) = false then (m, 11) else if fnd ltD m e.1 = false ∧ 64 ≤ m.length then (m, 9) else (putM ltD m e.1 e, 0)
theorem put_D (m : EM) (e : Ent) : putE m e = putD m e := by
  unfold putE putD
  rw [lt_D, get_D]
def mF (k : Nat) : EM := (List.range k).map fun i => (nmF i, (nmF i, 0, 5))
def pz : ByteArray := ⟨#[47, 122]⟩
def fullB (k : Nat) : Bool :=
  let s1 := putD (mF 64) (nmF k, 0, 6)
  let s2 := putD s1.1 (nmF k, 0, 4)
  let s3 := dropM ltD s2.1 (nmF k)
  let s4 := putD s3 (pz, 0, 0)
  let s5 := putD s4.1 (nmF k, 0, 0)
  decide (s1.2 = 0) && decide (s1.1.length ≤ 64) && decide (s2.2 = 11) && decide (s2.1.length ≤ 64) && fnd ltD s2.1 (nmF k) && decide (s3.length ≤ 64) && decide (s4.2 = 0) && decide (s4.1.length ≤ 64) && decide (s5.2 = 9) && decide (s5.1.length = 64) && decide ((underM s5.1 ⟨#[47, 113]⟩).length = 63) && s5.1.all (fun y => decide (y.1.size ≤ 50000))
theorem fill_all : (List.range 64).all (fun i => decide (putD (mF i) (nmF i, 0, 5) = (mF (i + 1), 0))) = true := by kernel_rfl
theorem over_all : (List.range 4).all (fun i => decide (putD (mF 64) (nmF (64 + i), 0, 5) = (mF 64, 9))) = true := by kernel_rfl
theorem full_all : (List.range 64).all fullB = true := by kernel_rfl
theorem fill_one {i : Nat} (h : i < 64) : putE (mF i) (nmF i, 0, 5) = (mF (i + 1), 0) := by
  rw [put_D]
  exact of_decide_eq_true (List.all_eq_true.1 fill_all i (List.mem_range.2 h))
theorem over_one {i : Nat} (h : 64 ≤ i) (h2 : i < 68) : putE (mF 64) (nmF i, 0, 5) = (mF 64, 9) := by
  rw [put_D]
  have := of_decide_eq_true (List.all_eq_true.1 over_all (i - 64) (List.mem_range.2 (by omega)))
  rw [show 64 + (i - 64) = i by omega] at this
  exact this
theorem full_one {k : Nat} (h : k < 64) : ∃ s1 s2 s3 s4 s5 : EM, putE (mF 64) (nmF k, 0, 6) = (s1, 0) ∧ s1.length ≤ 64 ∧ putE s1 (nmF k, 0, 4) = (s2, 11) ∧ s2.length ≤ 64 ∧ fnd SE.lt s2 (nmF k) = true ∧ dropM SE.lt s2 (nmF k) = s3 ∧ s3.length ≤ 64 ∧ putE s3 (⟨#[47, 122]⟩, 0, 0) = (s4, 0) ∧ s4.length ≤ 64 ∧ putE s4 (nmF k, 0, 0) = (s5, 9) ∧ s5.length = 64 ∧ (underM s5 ⟨#[47, 113]⟩).length = 63 ∧ ∀ y ∈ s5, y.1.size ≤ 50000 := by
  have h := List.all_eq_true.1 full_all k (List.mem_range.2 h)
  unfold fullB at h
  simp only [Bool.and_eq_true, decide_eq_true_eq, List.all_eq_true, and_assoc] at h
  obtain ⟨h1, h2, h3, h4, h5, h6, h7, h8, h9, h10, h11, h12⟩ := h
  refine ⟨_, _, _, _, _, ?_, h2, ?_, h4, ?_, ?_, h6, ?_, h8, ?_, h10, h11, h12⟩
  · rw [put_D]; exact Prod.ext rfl h1
  · rw [put_D]; exact Prod.ext rfl h3
  · rw [lt_D]; exact h5
  · rw [lt_D]
  · rw [put_D]; exact Prod.ext rfl h7
  · rw [put_D]; exact Prod.ext rfl h9
theorem mF_len (k : Nat) : (mF k).length = k := by unfold mF; rw [List.length_map, List.length_range]
theorem ev5 (p : ByteArray) (a b : Int) : (Value.agg #[.string p, .int .i64 a, .int .i64 b]) = SE.ev (p, a, b) := rfl
set_option maxHeartbeats 4000000 in
theorem bookFull_walk (a b : Int) (w : World) (hm : MaxAt w) (ha0 : 0 ≤ a) (ha1 : a ≤ 255) (hb0 : 0 ≤ b) (hb1 : b ≤ 255) :
    Calls Tryd.prog 5 #[.int .u8 a, .int .u8 b] w fun e w' => e = .returned (.bool true) ∧ Below w.heap.size w w' := by
  obtain ⟨a, rfl⟩ : ∃ n : Nat, a = (n : Int) := ⟨a.toNat, by omega⟩
  obtain ⟨b, rfl⟩ : ∃ n : Nat, b = (n : Int) := ⟨b.toNat, by omega⟩
  refine callK_ret fun R hR => ?_
  refine F5_calls _ _ _ _ ?_; unfold F5
  refine ck7 (known_any hm ?_)
  intro w1 q1
  have hz := hm.pos
  simp (maxSteps := 1000000) (disch := omega) only [hid1', hid2', guardK_u, takeG_u, wrap_in64, optK_some', fzK_false', nilK_ptr, brK_true', brK_false', guardK_tt', guardK_ff', guardK_tf', guardK_ft', takeG_tt', takeG_ff', takeG_tf', takeG_ft', pickK_t', pickK_f', pickT_t', pickT_f', notK, extract2_0', extract2_1', extract3_0', extract3_1', extract3_2', here_load, here_fieldAt, here_indexAt, here_extract, here_un, here_conv, here_slice, here_bin, here_nil, and_here, true_and, Nat.zero_add, Nat.add_assoc, Nat.add_zero, Int.toNat_natCast, size_alloc, World.cell?_drew, World.frozen?_drew, Bool.not_true, Bool.not_false, Int.toNat_zero, dec_t, dec_f, int_eq_t, int_eq_f, int_ne_t, int_ne_f, wrap_in, kblss3, kbeql3, kbneq3, kbadd3, kbneq4, kbrem5, kcv5_3, kbd28_0_2, kbgeq3, kbd28_0, klen35, hlen35, klen41, hlen41]
  refine ck8 (new_book ?_)
  intro x g w2 h2 q2 hx hg
  have hs1 := q1.size
  have q02 := q1.trans q2
  simp (maxSteps := 1000000) (disch := omega) only [hid1', hid2', guardK_u, takeG_u, wrap_in64, optK_some', fzK_false', nilK_ptr, brK_true', brK_false', guardK_tt', guardK_ff', guardK_tf', guardK_ft', takeG_tt', takeG_ff', takeG_tf', takeG_ft', pickK_t', pickK_f', pickT_t', pickT_f', notK, extract2_0', extract2_1', extract3_0', extract3_1', extract3_2', here_load, here_fieldAt, here_indexAt, here_extract, here_un, here_conv, here_slice, here_bin, here_nil, and_here, true_and, Nat.zero_add, Nat.add_assoc, Nat.add_zero, Int.toNat_natCast, size_alloc, World.cell?_drew, World.frozen?_drew, Bool.not_true, Bool.not_false, Int.toNat_zero, dec_t, dec_f, int_eq_t, int_eq_f, int_ne_t, int_ne_f, wrap_in, kblss3, kbeql3, kbneq3, kbadd3, kbneq4, kbrem5, kcv5_3, kbd28_0_2, kbgeq3, kbd28_0, klen35, hlen35, klen41, hlen41]
  refine loopK1 (fun v w' => ∃ (i : Nat) (F : Option Nat), v = .int .i64 i ∧ i ≤ 64 + a % 4 ∧ BV w.heap.size w' x g (mF (min i 64)) F ∧ Qt w w') (fun v _ => 64 + a % 4 - (intOf v).toNat) ⟨0, none, rfl, by omega, ⟨h2, by omega, by omega, fun _ h => (by cases h)⟩, q02⟩ ?_
  rintro _ _ w3 ⟨i, F, rfl, hi, v3, q3⟩
  have ea : (a : Int) % 4 = ((a % 4 : Nat) : Int) := by omega
  by_cases hlt : i < 64 + a % 4
  · simp (maxSteps := 1000000) (disch := omega) only [hid1', hid2', guardK_u, takeG_u, wrap_in64, optK_some', fzK_false', nilK_ptr, brK_true', brK_false', guardK_tt', guardK_ff', guardK_tf', guardK_ft', takeG_tt', takeG_ff', takeG_tf', takeG_ft', pickK_t', pickK_f', pickT_t', pickT_f', notK, extract2_0', extract2_1', extract3_0', extract3_1', extract3_2', here_load, here_fieldAt, here_indexAt, here_extract, here_un, here_conv, here_slice, here_bin, here_nil, and_here, true_and, Nat.zero_add, Nat.add_assoc, Nat.add_zero, Int.toNat_natCast, size_alloc, World.cell?_drew, World.frozen?_drew, Bool.not_true, Bool.not_false, Int.toNat_zero, dec_t, dec_f, int_eq_t, int_eq_f, int_ne_t, int_ne_f, wrap_in, kblss3, kbeql3, kbneq3, kbadd3, kbneq4, kbrem5, kcv5_3, kbd28_0_2, kbgeq3, kbd28_0, klen35, hlen35, klen41, hlen41, ea]
    refine ck27 (nm_any (by omega) ?_)
    intro w4 q4
    have v4 := v3.quiet q4
    have q04 := q3.trans q4
    have hml := mF_len (min i 64)
    simp (maxSteps := 1000000) (disch := omega) only [hid1', hid2', guardK_u, takeG_u, wrap_in64, optK_some', fzK_false', nilK_ptr, brK_true', brK_false', guardK_tt', guardK_ff', guardK_tf', guardK_ft', takeG_tt', takeG_ff', takeG_tf', takeG_ft', pickK_t', pickK_f', pickT_t', pickT_f', notK, extract2_0', extract2_1', extract3_0', extract3_1', extract3_2', here_load, here_fieldAt, here_indexAt, here_extract, here_un, here_conv, here_slice, here_bin, here_nil, and_here, true_and, Nat.zero_add, Nat.add_assoc, Nat.add_zero, Int.toNat_natCast, size_alloc, World.cell?_drew, World.frozen?_drew, Bool.not_true, Bool.not_false, Int.toNat_zero, dec_t, dec_f, int_eq_t, int_eq_f, int_ne_t, int_ne_f, wrap_in, kblss3, kbeql3, kbneq3, kbadd3, kbneq4, kbrem5, kcv5_3, kbd28_0_2, kbgeq3, kbd28_0, klen35, hlen35, klen41, hlen41]
    rw [ev5]
    refine ck11 (put_bv hm v4 q04 (by omega) (by show (nmF i).size ≤ 50000; rw [nmF_size]; omega) ?_)
    by_cases h64 : i < 64
    · have hmn : min i 64 = i := by omega
      have hmn2 : min (i + 1) 64 = i + 1 := by omega
      rw [hmn, fill_one h64]
      intro F5 w5 v5 q5 _ _
      have b1 : (true != true) = false := rfl
      have b2 : (false != false) = false := rfl
      simp (maxSteps := 1000000) (disch := omega) only [hid1', hid2', guardK_u, takeG_u, wrap_in64, optK_some', fzK_false', nilK_ptr, brK_true', brK_false', guardK_tt', guardK_ff', guardK_tf', guardK_ft', takeG_tt', takeG_ff', takeG_tf', takeG_ft', pickK_t', pickK_f', pickT_t', pickT_f', notK, extract2_0', extract2_1', extract3_0', extract3_1', extract3_2', here_load, here_fieldAt, here_indexAt, here_extract, here_un, here_conv, here_slice, here_bin, here_nil, and_here, true_and, Nat.zero_add, Nat.add_assoc, Nat.add_zero, Int.toNat_natCast, size_alloc, World.cell?_drew, World.frozen?_drew, Bool.not_true, Bool.not_false, Int.toNat_zero, dec_t, dec_f, int_eq_t, int_eq_f, int_ne_t, int_ne_f, wrap_in, kblss3, kbeql3, kbneq3, kbadd3, kbneq4, kbrem5, kcv5_3, kbd28_0_2, kbgeq3, kbd28_0, klen35, hlen35, klen41, hlen41, b1, b2, guardK_u]
      exact ⟨⟨i + 1, F5, by go_num, by omega, by rw [hmn2]; exact v5, q5⟩, by simp [rel, intOf]; omega⟩
    · have hmn : min i 64 = 64 := by omega
      have hmn2 : min (i + 1) 64 = 64 := by omega
      rw [hmn, over_one (by omega) (by omega)]
      intro F5 w5 v5 q5 _ _
      have b1 : (true != true) = false := rfl
      have b2 : (false != false) = false := rfl
      simp (maxSteps := 1000000) (disch := omega) only [hid1', hid2', guardK_u, takeG_u, wrap_in64, optK_some', fzK_false', nilK_ptr, brK_true', brK_false', guardK_tt', guardK_ff', guardK_tf', guardK_ft', takeG_tt', takeG_ff', takeG_tf', takeG_ft', pickK_t', pickK_f', pickT_t', pickT_f', notK, extract2_0', extract2_1', extract3_0', extract3_1', extract3_2', here_load, here_fieldAt, here_indexAt, here_extract, here_un, here_conv, here_slice, here_bin, here_nil, and_here, true_and, Nat.zero_add, Nat.add_assoc, Nat.add_zero, Int.toNat_natCast, size_alloc, World.cell?_drew, World.frozen?_drew, Bool.not_true, Bool.not_false, Int.toNat_zero, dec_t, dec_f, int_eq_t, int_eq_f, int_ne_t, int_ne_f, wrap_in, kblss3, kbeql3, kbneq3, kbadd3, kbneq4, kbrem5, kcv5_3, kbd28_0_2, kbgeq3, kbd28_0, klen35, hlen35, klen41, hlen41, b1, b2, guardK_u]
      exact ⟨⟨i + 1, F5, by go_num, by omega, by rw [hmn2]; exact v5, q5⟩, by simp [rel, intOf]; omega⟩
  · have hmn : min i 64 = 64 := by omega
    rw [hmn] at v3
    have eb : (b : Int) % 64 = ((b % 64 : Nat) : Int) := by omega
    have hk : b % 64 < 64 := by omega
    have hml := mF_len 64
    have nsz : (nmF (b % 64)).size ≤ 50000 := by rw [nmF_size]; omega
    obtain ⟨s1, s2, s3, s4, s5, e1, l1, e2, l2, f2, e3, l3, e4, l4, e5, l5, u5, z5⟩ := full_one hk
    generalize b % 64 = k at *
    simp (maxSteps := 1000000) (disch := omega) only [hid1', hid2', guardK_u, takeG_u, wrap_in64, optK_some', fzK_false', nilK_ptr, brK_true', brK_false', guardK_tt', guardK_ff', guardK_tf', guardK_ft', takeG_tt', takeG_ff', takeG_tf', takeG_ft', pickK_t', pickK_f', pickT_t', pickT_f', notK, extract2_0', extract2_1', extract3_0', extract3_1', extract3_2', here_load, here_fieldAt, here_indexAt, here_extract, here_un, here_conv, here_slice, here_bin, here_nil, and_here, true_and, Nat.zero_add, Nat.add_assoc, Nat.add_zero, Int.toNat_natCast, size_alloc, World.cell?_drew, World.frozen?_drew, Bool.not_true, Bool.not_false, Int.toNat_zero, dec_t, dec_f, int_eq_t, int_eq_f, int_ne_t, int_ne_f, wrap_in, kblss3, kbeql3, kbneq3, kbadd3, kbneq4, kbrem5, kcv5_3, kbd28_0_2, kbgeq3, kbd28_0, klen35, hlen35, klen41, hlen41, ea, eb]
    refine ck27 (nm_any (by omega) ?_)
    intro w4 q4
    have v4 := v3.quiet q4
    have q04 := q3.trans q4
    clear v3 q3 q4
    simp (maxSteps := 1000000) (disch := omega) only [hid1', hid2', guardK_u, takeG_u, wrap_in64, optK_some', fzK_false', nilK_ptr, brK_true', brK_false', guardK_tt', guardK_ff', guardK_tf', guardK_ft', takeG_tt', takeG_ff', takeG_tf', takeG_ft', pickK_t', pickK_f', pickT_t', pickT_f', notK, extract2_0', extract2_1', extract3_0', extract3_1', extract3_2', here_load, here_fieldAt, here_indexAt, here_extract, here_un, here_conv, here_slice, here_bin, here_nil, and_here, true_and, Nat.zero_add, Nat.add_assoc, Nat.add_zero, Int.toNat_natCast, size_alloc, World.cell?_drew, World.frozen?_drew, Bool.not_true, Bool.not_false, Int.toNat_zero, dec_t, dec_f, int_eq_t, int_eq_f, int_ne_t, int_ne_f, wrap_in, kblss3, kbeql3, kbneq3, kbadd3, kbneq4, kbrem5, kcv5_3, kbd28_0_2, kbgeq3, kbd28_0, klen35, hlen35, klen41, hlen41]
    rw [ev5]
    refine ck11 (put_bv hm v4 q04 (by omega) nsz ?_)
    rw [e1]
    intro F5 w5 v5 q5 _ _
    clear v4 q04
    simp (maxSteps := 1000000) (disch := omega) only [hid1', hid2', guardK_u, takeG_u, wrap_in64, optK_some', fzK_false', nilK_ptr, brK_true', brK_false', guardK_tt', guardK_ff', guardK_tf', guardK_ft', takeG_tt', takeG_ff', takeG_tf', takeG_ft', pickK_t', pickK_f', pickT_t', pickT_f', notK, extract2_0', extract2_1', extract3_0', extract3_1', extract3_2', here_load, here_fieldAt, here_indexAt, here_extract, here_un, here_conv, here_slice, here_bin, here_nil, and_here, true_and, Nat.zero_add, Nat.add_assoc, Nat.add_zero, Int.toNat_natCast, size_alloc, World.cell?_drew, World.frozen?_drew, Bool.not_true, Bool.not_false, Int.toNat_zero, dec_t, dec_f, int_eq_t, int_eq_f, int_ne_t, int_ne_f, wrap_in, kblss3, kbeql3, kbneq3, kbadd3, kbneq4, kbrem5, kcv5_3, kbd28_0_2, kbgeq3, kbd28_0, klen35, hlen35, klen41, hlen41]
    refine ck27 (nm_any (by omega) ?_)
    intro w6 q6
    have v6 := v5.quiet q6
    have q06 := q5.trans q6
    clear v5 q5 q6
    simp (maxSteps := 1000000) (disch := omega) only [hid1', hid2', guardK_u, takeG_u, wrap_in64, optK_some', fzK_false', nilK_ptr, brK_true', brK_false', guardK_tt', guardK_ff', guardK_tf', guardK_ft', takeG_tt', takeG_ff', takeG_tf', takeG_ft', pickK_t', pickK_f', pickT_t', pickT_f', notK, extract2_0', extract2_1', extract3_0', extract3_1', extract3_2', here_load, here_fieldAt, here_indexAt, here_extract, here_un, here_conv, here_slice, here_bin, here_nil, and_here, true_and, Nat.zero_add, Nat.add_assoc, Nat.add_zero, Int.toNat_natCast, size_alloc, World.cell?_drew, World.frozen?_drew, Bool.not_true, Bool.not_false, Int.toNat_zero, dec_t, dec_f, int_eq_t, int_eq_f, int_ne_t, int_ne_f, wrap_in, kblss3, kbeql3, kbneq3, kbadd3, kbneq4, kbrem5, kcv5_3, kbd28_0_2, kbgeq3, kbd28_0, klen35, hlen35, klen41, hlen41]
    rw [ev5]
    refine ck11 (put_bv hm v6 q06 l1 nsz ?_)
    rw [e2]
    intro F7 w7 v7 q7 _ _
    clear v6 q06
    simp (maxSteps := 1000000) (disch := omega) only [hid1', hid2', guardK_u, takeG_u, wrap_in64, optK_some', fzK_false', nilK_ptr, brK_true', brK_false', guardK_tt', guardK_ff', guardK_tf', guardK_ft', takeG_tt', takeG_ff', takeG_tf', takeG_ft', pickK_t', pickK_f', pickT_t', pickT_f', notK, extract2_0', extract2_1', extract3_0', extract3_1', extract3_2', here_load, here_fieldAt, here_indexAt, here_extract, here_un, here_conv, here_slice, here_bin, here_nil, and_here, true_and, Nat.zero_add, Nat.add_assoc, Nat.add_zero, Int.toNat_natCast, size_alloc, World.cell?_drew, World.frozen?_drew, Bool.not_true, Bool.not_false, Int.toNat_zero, dec_t, dec_f, int_eq_t, int_eq_f, int_ne_t, int_ne_f, wrap_in, kblss3, kbeql3, kbneq3, kbadd3, kbneq4, kbrem5, kcv5_3, kbd28_0_2, kbgeq3, kbd28_0, klen35, hlen35, klen41, hlen41]
    refine ck27 (nm_any (by omega) ?_)
    intro w8 q8
    have v8 := v7.quiet q8
    have q08 := q7.trans q8
    clear v7 q7 q8
    simp (maxSteps := 1000000) (disch := omega) only [hid1', hid2', guardK_u, takeG_u, wrap_in64, optK_some', fzK_false', nilK_ptr, brK_true', brK_false', guardK_tt', guardK_ff', guardK_tf', guardK_ft', takeG_tt', takeG_ff', takeG_tf', takeG_ft', pickK_t', pickK_f', pickT_t', pickT_f', notK, extract2_0', extract2_1', extract3_0', extract3_1', extract3_2', here_load, here_fieldAt, here_indexAt, here_extract, here_un, here_conv, here_slice, here_bin, here_nil, and_here, true_and, Nat.zero_add, Nat.add_assoc, Nat.add_zero, Int.toNat_natCast, size_alloc, World.cell?_drew, World.frozen?_drew, Bool.not_true, Bool.not_false, Int.toNat_zero, dec_t, dec_f, int_eq_t, int_eq_f, int_ne_t, int_ne_f, wrap_in, kblss3, kbeql3, kbneq3, kbadd3, kbneq4, kbrem5, kcv5_3, kbd28_0_2, kbgeq3, kbd28_0, klen35, hlen35, klen41, hlen41]
    refine ck13 (drop_book (p := nmF k) v8.at_ ?_)
    rw [f2, e3]
    intro w9 h9 k9
    have q9 : Qt w w9 := Qt.then q08 k9 (fun q h => by
      rcases h with h | h
      · rw [h]; exact v8.g0
      · exact v8.f0 q h)
    have v9 : BV w.heap.size w9 x g s3 F7 := ⟨h9, v8.x0, v8.g0, v8.f0⟩
    clear v8 q08 k9
    simp (maxSteps := 1000000) (disch := omega) only [hid1', hid2', guardK_u, takeG_u, wrap_in64, optK_some', fzK_false', nilK_ptr, brK_true', brK_false', guardK_tt', guardK_ff', guardK_tf', guardK_ft', takeG_tt', takeG_ff', takeG_tf', takeG_ft', pickK_t', pickK_f', pickT_t', pickT_f', notK, extract2_0', extract2_1', extract3_0', extract3_1', extract3_2', here_load, here_fieldAt, here_indexAt, here_extract, here_un, here_conv, here_slice, here_bin, here_nil, and_here, true_and, Nat.zero_add, Nat.add_assoc, Nat.add_zero, Int.toNat_natCast, size_alloc, World.cell?_drew, World.frozen?_drew, Bool.not_true, Bool.not_false, Int.toNat_zero, dec_t, dec_f, int_eq_t, int_eq_f, int_ne_t, int_ne_f, wrap_in, kblss3, kbeql3, kbneq3, kbadd3, kbneq4, kbrem5, kcv5_3, kbd28_0_2, kbgeq3, kbd28_0, klen35, hlen35, klen41, hlen41]
    rw [ev5]
    refine ck11 (put_bv hm v9 q9 l3 (by show 2 ≤ 50000; omega) ?_)
    rw [e4]
    intro F10 w10 v10 q10 _ _
    clear v9 q9
    simp (maxSteps := 1000000) (disch := omega) only [hid1', hid2', guardK_u, takeG_u, wrap_in64, optK_some', fzK_false', nilK_ptr, brK_true', brK_false', guardK_tt', guardK_ff', guardK_tf', guardK_ft', takeG_tt', takeG_ff', takeG_tf', takeG_ft', pickK_t', pickK_f', pickT_t', pickT_f', notK, extract2_0', extract2_1', extract3_0', extract3_1', extract3_2', here_load, here_fieldAt, here_indexAt, here_extract, here_un, here_conv, here_slice, here_bin, here_nil, and_here, true_and, Nat.zero_add, Nat.add_assoc, Nat.add_zero, Int.toNat_natCast, size_alloc, World.cell?_drew, World.frozen?_drew, Bool.not_true, Bool.not_false, Int.toNat_zero, dec_t, dec_f, int_eq_t, int_eq_f, int_ne_t, int_ne_f, wrap_in, kblss3, kbeql3, kbneq3, kbadd3, kbneq4, kbrem5, kcv5_3, kbd28_0_2, kbgeq3, kbd28_0, klen35, hlen35, klen41, hlen41]
    refine ck27 (nm_any (by omega) ?_)
    intro w11 q11
    have v11 := v10.quiet q11
    have q011 := q10.trans q11
    clear v10 q10 q11
    simp (maxSteps := 1000000) (disch := omega) only [hid1', hid2', guardK_u, takeG_u, wrap_in64, optK_some', fzK_false', nilK_ptr, brK_true', brK_false', guardK_tt', guardK_ff', guardK_tf', guardK_ft', takeG_tt', takeG_ff', takeG_tf', takeG_ft', pickK_t', pickK_f', pickT_t', pickT_f', notK, extract2_0', extract2_1', extract3_0', extract3_1', extract3_2', here_load, here_fieldAt, here_indexAt, here_extract, here_un, here_conv, here_slice, here_bin, here_nil, and_here, true_and, Nat.zero_add, Nat.add_assoc, Nat.add_zero, Int.toNat_natCast, size_alloc, World.cell?_drew, World.frozen?_drew, Bool.not_true, Bool.not_false, Int.toNat_zero, dec_t, dec_f, int_eq_t, int_eq_f, int_ne_t, int_ne_f, wrap_in, kblss3, kbeql3, kbneq3, kbadd3, kbneq4, kbrem5, kcv5_3, kbd28_0_2, kbgeq3, kbd28_0, klen35, hlen35, klen41, hlen41]
    rw [ev5]
    refine ck11 (put_bv hm v11 q011 l4 nsz ?_)
    rw [e5]
    intro F12 w12 v12 q12 _ _
    clear v11 q011
    simp (maxSteps := 1000000) (disch := omega) only [hid1', hid2', guardK_u, takeG_u, wrap_in64, optK_some', fzK_false', nilK_ptr, brK_true', brK_false', guardK_tt', guardK_ff', guardK_tf', guardK_ft', takeG_tt', takeG_ff', takeG_tf', takeG_ft', pickK_t', pickK_f', pickT_t', pickT_f', notK, extract2_0', extract2_1', extract3_0', extract3_1', extract3_2', here_load, here_fieldAt, here_indexAt, here_extract, here_un, here_conv, here_slice, here_bin, here_nil, and_here, true_and, Nat.zero_add, Nat.add_assoc, Nat.add_zero, Int.toNat_natCast, size_alloc, World.cell?_drew, World.frozen?_drew, Bool.not_true, Bool.not_false, Int.toNat_zero, dec_t, dec_f, int_eq_t, int_eq_f, int_ne_t, int_ne_f, wrap_in, kblss3, kbeql3, kbneq3, kbadd3, kbneq4, kbrem5, kcv5_3, kbd28_0_2, kbgeq3, kbd28_0, klen35, hlen35, klen41, hlen41, guardK_u]
    refine ck19 (row_any v12.at_ (by simp only; omega) ?_)
    intro A13 w13 r13 q13 _
    have v13 := v12.quiet q13
    have q013 := q12.trans q13
    simp only [l5]
    simp (maxSteps := 1000000) (disch := omega) only [hid1', hid2', guardK_u, takeG_u, wrap_in64, optK_some', fzK_false', nilK_ptr, brK_true', brK_false', guardK_tt', guardK_ff', guardK_tf', guardK_ft', takeG_tt', takeG_ff', takeG_tf', takeG_ft', pickK_t', pickK_f', pickT_t', pickT_f', notK, extract2_0', extract2_1', extract3_0', extract3_1', extract3_2', here_load, here_fieldAt, here_indexAt, here_extract, here_un, here_conv, here_slice, here_bin, here_nil, and_here, true_and, Nat.zero_add, Nat.add_assoc, Nat.add_zero, Int.toNat_natCast, size_alloc, World.cell?_drew, World.frozen?_drew, Bool.not_true, Bool.not_false, Int.toNat_zero, dec_t, dec_f, int_eq_t, int_eq_f, int_ne_t, int_ne_f, wrap_in, kblss3, kbeql3, kbneq3, kbadd3, kbneq4, kbrem5, kcv5_3, kbd28_0_2, kbgeq3, kbd28_0, klen35, hlen35, klen41, hlen41]
    refine ck20 (under_book (z := ⟨#[47, 113]⟩) v13.at_ (by simp only; omega) (by decide) z5 (hm.quiet q013) ?_)
    intro A14 w14 r14 q14
    simp only [u5]
    simp (maxSteps := 1000000) (disch := omega) only [hid1', hid2', guardK_u, takeG_u, wrap_in64, optK_some', fzK_false', nilK_ptr, brK_true', brK_false', guardK_tt', guardK_ff', guardK_tf', guardK_ft', takeG_tt', takeG_ff', takeG_tf', takeG_ft', pickK_t', pickK_f', pickT_t', pickT_f', notK, extract2_0', extract2_1', extract3_0', extract3_1', extract3_2', here_load, here_fieldAt, here_indexAt, here_extract, here_un, here_conv, here_slice, here_bin, here_nil, and_here, true_and, Nat.zero_add, Nat.add_assoc, Nat.add_zero, Int.toNat_natCast, size_alloc, World.cell?_drew, World.frozen?_drew, Bool.not_true, Bool.not_false, Int.toNat_zero, dec_t, dec_f, int_eq_t, int_eq_f, int_ne_t, int_ne_f, wrap_in, kblss3, kbeql3, kbneq3, kbadd3, kbneq4, kbrem5, kcv5_3, kbd28_0_2, kbgeq3, kbd28_0, klen35, hlen35, klen41, hlen41]
    exact hR _ (Qt.below (q013.trans q14))
end Go.Proofs.YtbkficgmjgbbeaaDoor

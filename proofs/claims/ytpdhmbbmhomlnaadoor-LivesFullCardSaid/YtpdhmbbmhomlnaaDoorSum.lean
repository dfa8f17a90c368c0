/- slices.Clone, slices.Clip over bytes; codec.sum, cantonref7.Sum; Seal, Open of both: each by what it computes. Conditions: at most 100000 bytes. -/
import Derived.Test.YtpdhmbbmhomlnaaDoorV4
import Derived.Test.YtpdhmbbmhomlnaaDoorVI
import Derived.Test.YtpdhmbbmhomlnaaDoorL2
import Derived.Test.YtpdhmbbmhomlnaaDoorB
import Derived.Test.YtpdhmbbmhomlnaaDoorCrc
set_option maxRecDepth 100000
set_option linter.unusedVariables false
set_option linter.unusedSimpArgs false
namespace Go.Proofs.YtpdhmbbmhomlnaaDoor
open Go.RowKit Go.Cn
theorem Tryd.info5 : (Tryd.prog.info? 5).map (fun i => (i.zero, i.size, i.bytes)) = some (some (.int .u8 0), 1, 1) := by kernel_rfl
theorem tyU8 : ElemTy Tryd.prog 32 5 (.int .u8 0) 1 1 := ElemTy.mk' Tryd.underlying32 Tryd.info5 rfl (by decide)
theorem and1_u32 (a : BitVec 32) : bits .and .u32 (a.toNat : Int) 1 = if a.getLsbD 0 then 1 else 0 := by
  have := and_u32 a 1#32
  rw [show (((1#32).toNat : Nat) : Int) = 1 from rfl] at this
  rw [this]
  have e : (a &&& 1#32).toNat = a.toNat % 2 := by rw [BitVec.toNat_and]; exact Nat.and_one_is_mod _
  rw [e, BitVec.getLsbD, Nat.testBit_zero]
  by_cases h : a.toNat % 2 = 1
  · simp [h]
  · simp [h]; omega
theorem shr1_u32 (a : BitVec 32) : (a.toNat : Int) / (2 : Int) ^ min (Int.toNat 1) 32 = ((a >>> 1).toNat : Int) := by
  rw [BitVec.toNat_ushiftRight, Nat.shiftRight_eq_div_pow]
  simp
theorem xorPoly_u32 (a : BitVec 32) : bits .xor .u32 (a.toNat : Int) 3988292384 = ((a ^^^ Crc.poly).toNat : Int) := xor_u32 a Crc.poly
theorem byte_u32 (b : UInt8) : IntKind.u32.wrap (b.toNat : Int) = ((Crc.byteW b).toNat : Int) := by
  have := UInt8.toNat_lt b
  have e : (Crc.byteW b).toNat = b.toNat := by unfold Crc.byteW; rw [BitVec.toNat_ofNat, Nat.mod_eq_of_lt (by omega)]
  rw [e]
  simp [IntKind.wrap, IntKind.bits, IntKind.signed]; omega
theorem not_u32 (a : BitVec 32) : bits .xor .u32 (if IntKind.u32.signed then -1 else IntKind.u32.max) (a.toNat : Int) = ((~~~a).toNat : Int) := by
  have h := xor_u32 (BitVec.allOnes 32) a
  have e : (((BitVec.allOnes 32).toNat : Nat) : Int) = (if IntKind.u32.signed then -1 else IntKind.u32.max) := by decide
  rw [e] at h
  rw [h]
  have e2 : BitVec.allOnes 32 ^^^ a = ~~~a := by
   apply BitVec.eq_of_getLsbD_eq; intro i hi
   rw [BitVec.getLsbD_xor, BitVec.getLsbD_not, BitVec.getLsbD_allOnes]
   cases a.getLsbD i <;> simp [hi]
  rw [e2]
theorem steps_snoc (n : Nat) (s : Crc.W) : Crc.steps (n + 1) s = Crc.step (Crc.steps n s) := Crc.steps_add n 1 s
theorem run_snoc (s : Crc.W) (l : List UInt8) (i : Nat) (hi : i < l.length) : Crc.run s (l.take (i + 1)) = Crc.take (Crc.run s (l.take i)) (l.getD i default) := by
  rw [List.take_succ_eq_append_getElem hi, Crc.run_append]
  simp [Crc.run, hi]
theorem sum_any {l : List UInt8} {A : Option Addr} {c : Nat} {w : World} {K : Value → World → Prop} (hr : Reads w A (l.map vb)) (hc : l.length ≤ 100000)
    (hK : K (.int .u32 ((Crc.sum l).toNat : Int)) w) : CallK Tryd.prog 44 #[.slice A l.length c] K w := by
  refine F44_calls _ _ _ ?_; unfold F44
  simp (maxSteps := 1000000) (disch := omega) only [hid1', hid2', guardK_u, takeG_u, wrap_in64, optK_some', fzK_false', nilK_ptr, brK_true', brK_false', guardK_tt', guardK_ff', guardK_tf', guardK_ft', takeG_tt', takeG_ff', takeG_tf', takeG_ft', pickK_t', pickK_f', pickT_t', pickT_f', notK, extract2_0', extract2_1', extract3_0', extract3_1', extract3_2', here_load, here_fieldAt, here_indexAt, here_extract, here_un, here_conv, here_slice, here_bin, here_nil, and_here, true_and, Nat.zero_add, Nat.add_assoc, Nat.add_zero, Int.toNat_natCast, size_alloc, World.cell?_drew, World.frozen?_drew, Bool.not_true, Bool.not_false, Int.toNat_zero, dec_t, dec_f, int_eq_t, int_eq_f, int_ne_t, int_ne_f, wrap_in, klen32, hlen32, kblss3, kia32, kld5, kcv5_72, kbxor72, kband72, kbshr72_i32, kbshr72_i64, kbshr72_u32, kbshr72_u64, kbshr72_u8, kbeql72, kbadd3, kuxor72]
  refine loopK2 (fun s v w' => w' = w ∧ ∃ i : Nat, v = .int .i64 i ∧ i ≤ l.length ∧ s = .int .u32 ((Crc.run (BitVec.allOnes 32) (l.take i)).toNat : Int)) (fun _ v _ => l.length - (intOf v).toNat) ⟨rfl, 0, rfl, by omega, rfl⟩ ?_
  rintro _ _ _ w' ⟨hw, i, rfl, hi, rfl⟩
  obtain rfl : w' = w := hw
  by_cases hlt : i < l.length
  · obtain ⟨g, o, rfl, hcell⟩ := hr.get hlt
    have hsn := run_snoc (BitVec.allOnes 32) l i hlt
    generalize l.getD i default = b at *
    generalize Crc.run (BitVec.allOnes 32) (l.take i) = s at *
    simp only [vb] at hcell
    simp (maxSteps := 1000000) (disch := omega) only [hid1', hid2', guardK_u, takeG_u, wrap_in64, optK_some', fzK_false', nilK_ptr, brK_true', brK_false', guardK_tt', guardK_ff', guardK_tf', guardK_ft', takeG_tt', takeG_ff', takeG_tf', takeG_ft', pickK_t', pickK_f', pickT_t', pickT_f', notK, extract2_0', extract2_1', extract3_0', extract3_1', extract3_2', here_load, here_fieldAt, here_indexAt, here_extract, here_un, here_conv, here_slice, here_bin, here_nil, and_here, true_and, Nat.zero_add, Nat.add_assoc, Nat.add_zero, Int.toNat_natCast, size_alloc, World.cell?_drew, World.frozen?_drew, Bool.not_true, Bool.not_false, Int.toNat_zero, dec_t, dec_f, int_eq_t, int_eq_f, int_ne_t, int_ne_f, wrap_in, klen32, hlen32, kblss3, kia32, kld5, kcv5_72, kbxor72, kband72, kbshr72_i32, kbshr72_i64, kbshr72_u32, kbshr72_u64, kbshr72_u8, kbeql72, kbadd3, kuxor72, hcell, byte_u32, xor_u32]
    refine loopK2 (fun t v w'' => w'' = w' ∧ ∃ j : Nat, v = .int .i64 j ∧ j ≤ 8 ∧ t = .int .u32 ((Crc.steps j (s ^^^ Crc.byteW b)).toNat : Int)) (fun _ v _ => 8 - (intOf v).toNat) ⟨rfl, 0, rfl, by omega, rfl⟩ ?_
    rintro _ _ _ w2 ⟨hw, j, rfl, hj, rfl⟩
    obtain rfl : w2 = w' := hw
    have hst := steps_snoc j (s ^^^ Crc.byteW b)
    by_cases hlt2 : j < 8
    · generalize Crc.steps j (s ^^^ Crc.byteW b) = t at *
      unfold Crc.step at hst
      have ha := and1_u32 t
      cases hb : t.getLsbD 0 with
      | true =>
        rw [hb, if_pos rfl] at hst ha
        simp (maxSteps := 1000000) (disch := omega) only [hid1', hid2', guardK_u, takeG_u, wrap_in64, optK_some', fzK_false', nilK_ptr, brK_true', brK_false', guardK_tt', guardK_ff', guardK_tf', guardK_ft', takeG_tt', takeG_ff', takeG_tf', takeG_ft', pickK_t', pickK_f', pickT_t', pickT_f', notK, extract2_0', extract2_1', extract3_0', extract3_1', extract3_2', here_load, here_fieldAt, here_indexAt, here_extract, here_un, here_conv, here_slice, here_bin, here_nil, and_here, true_and, Nat.zero_add, Nat.add_assoc, Nat.add_zero, Int.toNat_natCast, size_alloc, World.cell?_drew, World.frozen?_drew, Bool.not_true, Bool.not_false, Int.toNat_zero, dec_t, dec_f, int_eq_t, int_eq_f, int_ne_t, int_ne_f, wrap_in, klen32, hlen32, kblss3, kia32, kld5, kcv5_72, kbxor72, kband72, kbshr72_i32, kbshr72_i64, kbshr72_u32, kbshr72_u64, kbshr72_u8, kbeql72, kbadd3, kuxor72, ha, shr1_u32, xorPoly_u32]
        exact ⟨⟨rfl, j + 1, by go_num, by omega, by rw [hst]⟩, by simp [rel, intOf]; omega⟩
      | false =>
        rw [hb, if_neg (by simp)] at hst ha
        simp (maxSteps := 1000000) (disch := omega) only [hid1', hid2', guardK_u, takeG_u, wrap_in64, optK_some', fzK_false', nilK_ptr, brK_true', brK_false', guardK_tt', guardK_ff', guardK_tf', guardK_ft', takeG_tt', takeG_ff', takeG_tf', takeG_ft', pickK_t', pickK_f', pickT_t', pickT_f', notK, extract2_0', extract2_1', extract3_0', extract3_1', extract3_2', here_load, here_fieldAt, here_indexAt, here_extract, here_un, here_conv, here_slice, here_bin, here_nil, and_here, true_and, Nat.zero_add, Nat.add_assoc, Nat.add_zero, Int.toNat_natCast, size_alloc, World.cell?_drew, World.frozen?_drew, Bool.not_true, Bool.not_false, Int.toNat_zero, dec_t, dec_f, int_eq_t, int_eq_f, int_ne_t, int_ne_f, wrap_in, klen32, hlen32, kblss3, kia32, kld5, kcv5_72, kbxor72, kband72, kbshr72_i32, kbshr72_i64, kbshr72_u32, kbshr72_u64, kbshr72_u8, kbeql72, kbadd3, kuxor72, ha, shr1_u32, xorPoly_u32]
        exact ⟨⟨rfl, j + 1, by go_num, by omega, by rw [hst]⟩, by simp [rel, intOf]; omega⟩
    · have e : j = 8 := by omega
      subst e
      simp (maxSteps := 1000000) (disch := omega) only [hid1', hid2', guardK_u, takeG_u, wrap_in64, optK_some', fzK_false', nilK_ptr, brK_true', brK_false', guardK_tt', guardK_ff', guardK_tf', guardK_ft', takeG_tt', takeG_ff', takeG_tf', takeG_ft', pickK_t', pickK_f', pickT_t', pickT_f', notK, extract2_0', extract2_1', extract3_0', extract3_1', extract3_2', here_load, here_fieldAt, here_indexAt, here_extract, here_un, here_conv, here_slice, here_bin, here_nil, and_here, true_and, Nat.zero_add, Nat.add_assoc, Nat.add_zero, Int.toNat_natCast, size_alloc, World.cell?_drew, World.frozen?_drew, Bool.not_true, Bool.not_false, Int.toNat_zero, dec_t, dec_f, int_eq_t, int_eq_f, int_ne_t, int_ne_f, wrap_in, klen32, hlen32, kblss3, kia32, kld5, kcv5_72, kbxor72, kband72, kbshr72_i32, kbshr72_i64, kbshr72_u32, kbshr72_u64, kbshr72_u8, kbeql72, kbadd3, kuxor72]
      refine ⟨⟨rfl, i + 1, by go_num, by omega, ?_⟩, by simp [rel, intOf]; omega⟩
      rw [hsn]; rfl
  · simp (maxSteps := 1000000) (disch := omega) only [hid1', hid2', guardK_u, takeG_u, wrap_in64, optK_some', fzK_false', nilK_ptr, brK_true', brK_false', guardK_tt', guardK_ff', guardK_tf', guardK_ft', takeG_tt', takeG_ff', takeG_tf', takeG_ft', pickK_t', pickK_f', pickT_t', pickT_f', notK, extract2_0', extract2_1', extract3_0', extract3_1', extract3_2', here_load, here_fieldAt, here_indexAt, here_extract, here_un, here_conv, here_slice, here_bin, here_nil, and_here, true_and, Nat.zero_add, Nat.add_assoc, Nat.add_zero, Int.toNat_natCast, size_alloc, World.cell?_drew, World.frozen?_drew, Bool.not_true, Bool.not_false, Int.toNat_zero, dec_t, dec_f, int_eq_t, int_eq_f, int_ne_t, int_ne_f, wrap_in, klen32, hlen32, kblss3, kia32, kld5, kcv5_72, kbxor72, kband72, kbshr72_i32, kbshr72_i64, kbshr72_u32, kbshr72_u64, kbshr72_u8, kbeql72, kbadd3, kuxor72, not_u32]
    rw [List.take_of_length_le (by omega)]
    exact hK
theorem sumR_any {l : List UInt8} {A : Option Addr} {c : Nat} {w : World} {K : Value → World → Prop} (hr : Reads w A (l.map vb)) (hc : l.length ≤ 100000)
    (hK : K (.int .u32 ((Crc.sum l).toNat : Int)) w) : CallK Tryd.prog 34 #[.slice A l.length c] K w := by
  refine F34_calls _ _ _ ?_; unfold F34
  refine loopK2 (fun s v w' => w' = w ∧ ∃ i : Nat, v = .int .i64 i ∧ i ≤ l.length ∧ s = .int .u32 ((Crc.run (BitVec.allOnes 32) (l.take i)).toNat : Int)) (fun _ v _ => l.length - (intOf v).toNat) ⟨rfl, 0, rfl, by omega, rfl⟩ ?_
  rintro _ _ _ w' ⟨hw, i, rfl, hi, rfl⟩
  obtain rfl : w' = w := hw
  by_cases hlt : i < l.length
  · obtain ⟨g, o, rfl, hcell⟩ := hr.get hlt
    have hsn := run_snoc (BitVec.allOnes 32) l i hlt
    generalize l.getD i default = b at *
    generalize Crc.run (BitVec.allOnes 32) (l.take i) = s at *
    simp only [vb] at hcell
    simp (maxSteps := 1000000) (disch := omega) only [hid1', hid2', guardK_u, takeG_u, wrap_in64, optK_some', fzK_false', nilK_ptr, brK_true', brK_false', guardK_tt', guardK_ff', guardK_tf', guardK_ft', takeG_tt', takeG_ff', takeG_tf', takeG_ft', pickK_t', pickK_f', pickT_t', pickT_f', notK, extract2_0', extract2_1', extract3_0', extract3_1', extract3_2', here_load, here_fieldAt, here_indexAt, here_extract, here_un, here_conv, here_slice, here_bin, here_nil, and_here, true_and, Nat.zero_add, Nat.add_assoc, Nat.add_zero, Int.toNat_natCast, size_alloc, World.cell?_drew, World.frozen?_drew, Bool.not_true, Bool.not_false, Int.toNat_zero, dec_t, dec_f, int_eq_t, int_eq_f, int_ne_t, int_ne_f, wrap_in, klen32, hlen32, kblss3, kia32, kld5, kcv5_72, kbxor72, kband72, kbshr72_i32, kbshr72_i64, kbshr72_u32, kbshr72_u64, kbshr72_u8, kbeql72, kbadd3, kuxor72, hcell, byte_u32, xor_u32]
    refine loopK2 (fun t v w'' => w'' = w' ∧ ∃ j : Nat, v = .int .i64 j ∧ j ≤ 8 ∧ t = .int .u32 ((Crc.steps j (s ^^^ Crc.byteW b)).toNat : Int)) (fun _ v _ => 8 - (intOf v).toNat) ⟨rfl, 0, rfl, by omega, rfl⟩ ?_
    rintro _ _ _ w2 ⟨hw, j, rfl, hj, rfl⟩
    obtain rfl : w2 = w' := hw
    have hst := steps_snoc j (s ^^^ Crc.byteW b)
    by_cases hlt2 : j < 8
    · generalize Crc.steps j (s ^^^ Crc.byteW b) = t at *
      unfold Crc.step at hst
      have ha := and1_u32 t
      cases hb : t.getLsbD 0 with
      | true =>
        rw [hb, if_pos rfl] at hst ha
        simp (maxSteps := 1000000) (disch := omega) only [hid1', hid2', guardK_u, takeG_u, wrap_in64, optK_some', fzK_false', nilK_ptr, brK_true', brK_false', guardK_tt', guardK_ff', guardK_tf', guardK_ft', takeG_tt', takeG_ff', takeG_tf', takeG_ft', pickK_t', pickK_f', pickT_t', pickT_f', notK, extract2_0', extract2_1', extract3_0', extract3_1', extract3_2', here_load, here_fieldAt, here_indexAt, here_extract, here_un, here_conv, here_slice, here_bin, here_nil, and_here, true_and, Nat.zero_add, Nat.add_assoc, Nat.add_zero, Int.toNat_natCast, size_alloc, World.cell?_drew, World.frozen?_drew, Bool.not_true, Bool.not_false, Int.toNat_zero, dec_t, dec_f, int_eq_t, int_eq_f, int_ne_t, int_ne_f, wrap_in, klen32, hlen32, kblss3, kia32, kld5, kcv5_72, kbxor72, kband72, kbshr72_i32, kbshr72_i64, kbshr72_u32, kbshr72_u64, kbshr72_u8, kbeql72, kbadd3, kuxor72, ha, shr1_u32, xorPoly_u32]
        exact ⟨⟨rfl, j + 1, by go_num, by omega, by rw [hst]⟩, by simp [rel, intOf]; omega⟩
      | false =>
        rw [hb, if_neg (by simp)] at hst ha
        simp (maxSteps := 1000000) (disch := omega) only [hid1', hid2', guardK_u, takeG_u, wrap_in64, optK_some', fzK_false', nilK_ptr, brK_true', brK_false', guardK_tt', guardK_ff', guardK_tf', guardK_ft', takeG_tt', takeG_ff', takeG_tf', takeG_ft', pickK_t', pickK_f', pickT_t', pickT_f', notK, extract2_0', extract2_1', extract3_0', extract3_1', extract3_2', here_load, here_fieldAt, here_indexAt, here_extract, here_un, here_conv, here_slice, here_bin, here_nil, and_here, true_and, Nat.zero_add, Nat.add_assoc, Nat.add_zero, Int.toNat_natCast, size_alloc, World.cell?_drew, World.frozen?_drew, Bool.not_true, Bool.not_false, Int.toNat_zero, dec_t, dec_f, int_eq_t, int_eq_f, int_ne_t, int_ne_f, wrap_in, klen32, hlen32, kblss3, kia32, kld5, kcv5_72, kbxor72, kband72, kbshr72_i32, kbshr72_i64, kbshr72_u32, kbshr72_u64, kbshr72_u8, kbeql72, kbadd3, kuxor72, ha, shr1_u32, xorPoly_u32]
        exact ⟨⟨rfl, j + 1, by go_num, by omega, by rw [hst]⟩, by simp [rel, intOf]; omega⟩
    · have e : j = 8 := by omega
      subst e
      simp (maxSteps := 1000000) (disch := omega) only [hid1', hid2', guardK_u, takeG_u, wrap_in64, optK_some', fzK_false', nilK_ptr, brK_true', brK_false', guardK_tt', guardK_ff', guardK_tf', guardK_ft', takeG_tt', takeG_ff', takeG_tf', takeG_ft', pickK_t', pickK_f', pickT_t', pickT_f', notK, extract2_0', extract2_1', extract3_0', extract3_1', extract3_2', here_load, here_fieldAt, here_indexAt, here_extract, here_un, here_conv, here_slice, here_bin, here_nil, and_here, true_and, Nat.zero_add, Nat.add_assoc, Nat.add_zero, Int.toNat_natCast, size_alloc, World.cell?_drew, World.frozen?_drew, Bool.not_true, Bool.not_false, Int.toNat_zero, dec_t, dec_f, int_eq_t, int_eq_f, int_ne_t, int_ne_f, wrap_in, klen32, hlen32, kblss3, kia32, kld5, kcv5_72, kbxor72, kband72, kbshr72_i32, kbshr72_i64, kbshr72_u32, kbshr72_u64, kbshr72_u8, kbeql72, kbadd3, kuxor72]
      refine ⟨⟨rfl, i + 1, by go_num, by omega, ?_⟩, by simp [rel, intOf]; omega⟩
      rw [hsn]; rfl
  · simp (maxSteps := 1000000) (disch := omega) only [hid1', hid2', guardK_u, takeG_u, wrap_in64, optK_some', fzK_false', nilK_ptr, brK_true', brK_false', guardK_tt', guardK_ff', guardK_tf', guardK_ft', takeG_tt', takeG_ff', takeG_tf', takeG_ft', pickK_t', pickK_f', pickT_t', pickT_f', notK, extract2_0', extract2_1', extract3_0', extract3_1', extract3_2', here_load, here_fieldAt, here_indexAt, here_extract, here_un, here_conv, here_slice, here_bin, here_nil, and_here, true_and, Nat.zero_add, Nat.add_assoc, Nat.add_zero, Int.toNat_natCast, size_alloc, World.cell?_drew, World.frozen?_drew, Bool.not_true, Bool.not_false, Int.toNat_zero, dec_t, dec_f, int_eq_t, int_eq_f, int_ne_t, int_ne_f, wrap_in, klen32, hlen32, kblss3, kia32, kld5, kcv5_72, kbxor72, kband72, kbshr72_i32, kbshr72_i64, kbshr72_u32, kbshr72_u64, kbshr72_u8, kbeql72, kbadd3, kuxor72, not_u32]
    rw [List.take_of_length_le (by omega)]
    exact hK
theorem clone_any {l : List UInt8} {A : Option Addr} {c : Nat} {w : World} {K : Value → World → Prop} (hr : Reads w A (l.map vb)) (hl : l.length ≤ 100000)
    (hK : ∀ A' c' F w', Own w' 5 1 (.slice A' l.length c') l.length (l.map vb) F → Qt w w' → (∀ k, F = some k → w.heap.size ≤ k) → K (.slice A' l.length c') w') : CallK Tryd.prog 43 #[.slice A l.length c] K w := by
  refine F43_calls _ _ _ ?_; unfold F43
  match A, hr with
  | none, hr =>
    obtain rfl : l = [] := by
      rcases hr with h | ⟨g, o, h, _⟩
      · exact List.map_eq_nil_iff.1 h
      · cases h
    simp (maxSteps := 1000000) (disch := omega) only [hid1', hid2', guardK_u, takeG_u, wrap_in64, optK_some', fzK_false', nilK_ptr, brK_true', brK_false', guardK_tt', guardK_ff', guardK_tf', guardK_ft', takeG_tt', takeG_ff', takeG_tf', takeG_ft', pickK_t', pickK_f', pickT_t', pickT_f', notK, extract2_0', extract2_1', extract3_0', extract3_1', extract3_2', here_load, here_fieldAt, here_indexAt, here_extract, here_un, here_conv, here_slice, here_bin, here_nil, and_here, true_and, Nat.zero_add, Nat.add_assoc, Nat.add_zero, Int.toNat_natCast, size_alloc, World.cell?_drew, World.frozen?_drew, Bool.not_true, Bool.not_false, Int.toNat_zero, dec_t, dec_f, int_eq_t, int_eq_f, int_ne_t, int_ne_f, wrap_in, kbeql32n, kbeql32z, kbs32_0]
    exact hK none 0 none w (Own.nil _ _ _) Qt.refl (fun _ h => by cases h)
  | some ad, hr =>
    simp (maxSteps := 1000000) (disch := omega) only [hid1', hid2', guardK_u, takeG_u, wrap_in64, optK_some', fzK_false', nilK_ptr, brK_true', brK_false', guardK_tt', guardK_ff', guardK_tf', guardK_ft', takeG_tt', takeG_ff', takeG_tf', takeG_ft', pickK_t', pickK_f', pickT_t', pickT_f', notK, extract2_0', extract2_1', extract3_0', extract3_1', extract3_2', here_load, here_fieldAt, here_indexAt, here_extract, here_un, here_conv, here_slice, here_bin, here_nil, and_here, true_and, Nat.zero_add, Nat.add_assoc, Nat.add_zero, Int.toNat_natCast, size_alloc, World.cell?_drew, World.frozen?_drew, Bool.not_true, Bool.not_false, Int.toNat_zero, dec_t, dec_f, int_eq_t, int_eq_f, int_ne_t, int_ne_f, wrap_in, kbeql32n, kbeql32z, kbs32_0]
    obtain ⟨A', cap, F', w', h, ho, hc, hf⟩ := apart_run (P := Tryd.prog) (w := w) tyU8 (some ad) l.length c (l.map vb) (by simp) hr.src (vb_one l) (by omega) (by omega) 32
    refine appK h ?_
    simp (maxSteps := 1000000) (disch := omega) only [hid1', hid2', guardK_u, takeG_u, wrap_in64, optK_some', fzK_false', nilK_ptr, brK_true', brK_false', guardK_tt', guardK_ff', guardK_tf', guardK_ft', takeG_tt', takeG_ff', takeG_tf', takeG_ft', pickK_t', pickK_f', pickT_t', pickT_f', notK, extract2_0', extract2_1', extract3_0', extract3_1', extract3_2', here_load, here_fieldAt, here_indexAt, here_extract, here_un, here_conv, here_slice, here_bin, here_nil, and_here, true_and, Nat.zero_add, Nat.add_assoc, Nat.add_zero, Int.toNat_natCast, size_alloc, World.cell?_drew, World.frozen?_drew, Bool.not_true, Bool.not_false, Int.toNat_zero, dec_t, dec_f, int_eq_t, int_eq_f, int_ne_t, int_ne_f, wrap_in, kbeql32n, kbeql32z, kbs32_0]
    exact hK A' cap F' w' ho hc hf
theorem own_clip {w : World} {e : TypeId} {A : Option Addr} {n c : Nat} {xs : List Value} {F : Option Nat} (h : Own w e 1 (.slice A n c) n xs F) : (A = none → n = 0 ∧ c = 0) ∧ (∀ ad, A = some ad → ad.spot = none) ∧ n ≤ c := by
  rcases h with ⟨hv, rfl, _, _⟩ | ⟨g, cap, hv, _, hr⟩
  · cases hv; exact ⟨fun _ => ⟨rfl, rfl⟩, fun _ h => (by cases h), Nat.le_refl _⟩
  · cases hv; exact ⟨fun h => (by cases h), fun _ h => (by cases h; rfl), hr.cap_le.1⟩
theorem clip_any {A : Option Addr} {n c : Nat} {xs : List Value} {F : Option Nat} {w : World} {K : Value → World → Prop} (ho : Own w 5 1 (.slice A n c) n xs F) (hK : K (.slice A n n) w) : CallK Tryd.prog 45 #[.slice A n c] K w := by
  obtain ⟨hs, hsp, hc⟩ := own_clip ho
  clear ho
  refine F45_calls _ _ _ ?_; unfold F45
  match A, hs, hsp with
  | none, hs, _ =>
    obtain ⟨rfl, rfl⟩ := hs rfl
    simp (maxSteps := 1000000) (disch := omega) only [hid1', hid2', guardK_u, takeG_u, wrap_in64, optK_some', fzK_false', nilK_ptr, brK_true', brK_false', guardK_tt', guardK_ff', guardK_tf', guardK_ft', takeG_tt', takeG_ff', takeG_tf', takeG_ft', pickK_t', pickK_f', pickT_t', pickT_f', notK, extract2_0', extract2_1', extract3_0', extract3_1', extract3_2', here_load, here_fieldAt, here_indexAt, here_extract, here_un, here_conv, here_slice, here_bin, here_nil, and_here, true_and, Nat.zero_add, Nat.add_assoc, Nat.add_zero, Int.toNat_natCast, size_alloc, World.cell?_drew, World.frozen?_drew, Bool.not_true, Bool.not_false, Int.toNat_zero, dec_t, dec_f, int_eq_t, int_eq_f, int_ne_t, int_ne_f, wrap_in, klen32, hlen32, ksl32_011, ksl32_011z]
    have e : ((0 : Nat) : Int) = 0 := rfl
    rw [e]
    simp (maxSteps := 1000000) (disch := omega) only [hid1', hid2', guardK_u, takeG_u, wrap_in64, optK_some', fzK_false', nilK_ptr, brK_true', brK_false', guardK_tt', guardK_ff', guardK_tf', guardK_ft', takeG_tt', takeG_ff', takeG_tf', takeG_ft', pickK_t', pickK_f', pickT_t', pickT_f', notK, extract2_0', extract2_1', extract3_0', extract3_1', extract3_2', here_load, here_fieldAt, here_indexAt, here_extract, here_un, here_conv, here_slice, here_bin, here_nil, and_here, true_and, Nat.zero_add, Nat.add_assoc, Nat.add_zero, Int.toNat_natCast, size_alloc, World.cell?_drew, World.frozen?_drew, Bool.not_true, Bool.not_false, Int.toNat_zero, dec_t, dec_f, int_eq_t, int_eq_f, int_ne_t, int_ne_f, wrap_in, klen32, hlen32, ksl32_011, ksl32_011z]
    exact hK
  | some ⟨g, o, sp⟩, _, hsp =>
    obtain rfl : sp = none := hsp _ rfl
    simp (maxSteps := 1000000) (disch := omega) only [hid1', hid2', guardK_u, takeG_u, wrap_in64, optK_some', fzK_false', nilK_ptr, brK_true', brK_false', guardK_tt', guardK_ff', guardK_tf', guardK_ft', takeG_tt', takeG_ff', takeG_tf', takeG_ft', pickK_t', pickK_f', pickT_t', pickT_f', notK, extract2_0', extract2_1', extract3_0', extract3_1', extract3_2', here_load, here_fieldAt, here_indexAt, here_extract, here_un, here_conv, here_slice, here_bin, here_nil, and_here, true_and, Nat.zero_add, Nat.add_assoc, Nat.add_zero, Int.toNat_natCast, size_alloc, World.cell?_drew, World.frozen?_drew, Bool.not_true, Bool.not_false, Int.toNat_zero, dec_t, dec_f, int_eq_t, int_eq_f, int_ne_t, int_ne_f, wrap_in, klen32, hlen32, ksl32_011, ksl32_011z]
    exact hK
theorem append1_run {P : Program} {w : World} {t e : TypeId} {z : Value} {bytes : Nat} (T : ElemTy P t e z 1 bytes) {v : Value} {n : Nat} {xs : List Value} {F : Option Nat} (ho : Own w e 1 v n xs F) (x : Value) (h1 : x.oneCell' = true)
    (hb : (n + 1) * bytes ≤ 140737488355328) (hb2 : n + 1 ≤ 9223372036854775807) (ty : TypeId) :
    ∃ A' cap F' w', (Builtin.append_ #[t, t] ty #[v, .slice (some ⟨w.heap.size, 0, none⟩) 1 1]).run P (w.alloc (.cells #[x] e)) = .ok (.slice A' (n + 1) cap) w' ∧ Own w' e 1 (.slice A' (n + 1) cap) (n + 1) (xs ++ [x]) F' ∧ Chg (fun k => F = some k) w w' ∧ (∀ k, F' = some k → F = some k ∨ w.heap.size ≤ k) := by
  have hc := (Chg.refl (fun _ => False) w).alloc (.cells #[x] e)
  obtain ⟨A', cap, F', w', h, ho', hc', hf⟩ := app_run T (ho.chg hc (fun _ _ h => h)) (some ⟨w.heap.size, 0, none⟩) 1 1 [x] (by simp) (Src.one (by rw [blk_cell (blk_new _ _)]; rfl)) (by simpa using h1) hb hb2 ty
  refine ⟨A', cap, F', w', h, ho', ?_, fun k hk => ?_⟩
  · exact (hc.mono (fun _ _ h => h.elim)).trans hc'
  · rcases hf k hk with h | h
    · exact .inl h
    · simp at h; omega
/-- The i-th byte of a word. -/
def leB (s : Crc.W) (i : Nat) : UInt8 := UInt8.ofNat (s.toNat / 2 ^ (8 * i))
def le4 (s : Crc.W) : List UInt8 := (List.range 4).map (leB s)
def sealed (l : List UInt8) : List UInt8 := l ++ le4 (Crc.sum l)
theorem leB_val (s : Crc.W) (i : Nat) (hi : i < 4) : IntKind.u8.wrap ((s.toNat : Int) / (2 : Int) ^ min (8 * (i : Int)).toNat 32) = ((leB s i).toNat : Int) := by
  have e : min (8 * (i : Int)).toNat 32 = 8 * i := by omega
  rw [e]
  unfold leB
  have e2 : ((s.toNat : Int) / (2 : Int) ^ (8 * i)) = ((s.toNat / 2 ^ (8 * i) : Nat) : Int) := by simp
  rw [e2]
  simp [IntKind.wrap, IntKind.bits, IntKind.signed]
theorem seal_any {l : List UInt8} {A : Option Addr} {c : Nat} {w : World} {K : Value → World → Prop} (hr : Reads w A (l.map vb)) (hl : l.length ≤ 100000)
    (hK : ∀ A' c' w', (sealed l).length ≤ c' → Reads w' A' ((sealed l).map vb) → Qt w w' → K (.slice A' (sealed l).length c') w') : CallK Tryd.prog 27 #[.slice A l.length c] K w := by
  refine F27_calls _ _ _ ?_; unfold F27
  refine ck43 (clone_any hr hl ?_)
  intro A1 c1 F1 w1 o1 q1 f1
  simp (maxSteps := 1000000) (disch := omega) only [hid1', hid2', guardK_u, takeG_u, wrap_in64, optK_some', fzK_false', nilK_ptr, brK_true', brK_false', guardK_tt', guardK_ff', guardK_tf', guardK_ft', takeG_tt', takeG_ff', takeG_tf', takeG_ft', pickK_t', pickK_f', pickT_t', pickT_f', notK, extract2_0', extract2_1', extract3_0', extract3_1', extract3_2', here_load, here_fieldAt, here_indexAt, here_extract, here_un, here_conv, here_slice, here_bin, here_nil, and_here, true_and, Nat.zero_add, Nat.add_assoc, Nat.add_zero, Int.toNat_natCast, size_alloc, World.cell?_drew, World.frozen?_drew, Bool.not_true, Bool.not_false, Int.toNat_zero, dec_t, dec_f, int_eq_t, int_eq_f, int_ne_t, int_ne_f, wrap_in, kblss3, kbmul3, kbshr72_i32, kbshr72_i64, kbshr72_u32, kbshr72_u64, kbshr72_u8, kcv72_5, kbs32_1_0, kbadd3]
  refine ck44 (sum_any (hr.quiet q1) hl ?_)
  have hsl : sealed l = l ++ le4 (Crc.sum l) := rfl
  generalize Crc.sum l = s at *
  simp (maxSteps := 1000000) (disch := omega) only [hid1', hid2', guardK_u, takeG_u, wrap_in64, optK_some', fzK_false', nilK_ptr, brK_true', brK_false', guardK_tt', guardK_ff', guardK_tf', guardK_ft', takeG_tt', takeG_ff', takeG_tf', takeG_ft', pickK_t', pickK_f', pickT_t', pickT_f', notK, extract2_0', extract2_1', extract3_0', extract3_1', extract3_2', here_load, here_fieldAt, here_indexAt, here_extract, here_un, here_conv, here_slice, here_bin, here_nil, and_here, true_and, Nat.zero_add, Nat.add_assoc, Nat.add_zero, Int.toNat_natCast, size_alloc, World.cell?_drew, World.frozen?_drew, Bool.not_true, Bool.not_false, Int.toNat_zero, dec_t, dec_f, int_eq_t, int_eq_f, int_ne_t, int_ne_f, wrap_in, kblss3, kbmul3, kbshr72_i32, kbshr72_i64, kbshr72_u32, kbshr72_u64, kbshr72_u8, kcv72_5, kbs32_1_0, kbadd3]
  refine loopK2 (fun o v w' => ∃ (i : Nat) (G : Option Nat), v = .int .i64 i ∧ i ≤ 4 ∧ Own w' 5 1 o (l.length + i) ((l ++ (List.range i).map (leB s)).map vb) G ∧ Qt w w' ∧ (∀ k, G = some k → w.heap.size ≤ k)) (fun _ v _ => 4 - (intOf v).toNat) ⟨0, F1, rfl, by omega, by simpa using o1, q1, f1⟩ ?_
  rintro _ o _ w' ⟨i, G, rfl, hi, hoo, hq, hG⟩
  by_cases hlt : i < 4
  · simp (maxSteps := 1000000) (disch := omega) only [hid1', hid2', guardK_u, takeG_u, wrap_in64, optK_some', fzK_false', nilK_ptr, brK_true', brK_false', guardK_tt', guardK_ff', guardK_tf', guardK_ft', takeG_tt', takeG_ff', takeG_tf', takeG_ft', pickK_t', pickK_f', pickT_t', pickT_f', notK, extract2_0', extract2_1', extract3_0', extract3_1', extract3_2', here_load, here_fieldAt, here_indexAt, here_extract, here_un, here_conv, here_slice, here_bin, here_nil, and_here, true_and, Nat.zero_add, Nat.add_assoc, Nat.add_zero, Int.toNat_natCast, size_alloc, World.cell?_drew, World.frozen?_drew, Bool.not_true, Bool.not_false, Int.toNat_zero, dec_t, dec_f, int_eq_t, int_eq_f, int_ne_t, int_ne_f, wrap_in, kblss3, kbmul3, kbshr72_i32, kbshr72_i64, kbshr72_u32, kbshr72_u64, kbshr72_u8, kcv72_5, kbs32_1_0, kbadd3, leB_val s i hlt]
    obtain ⟨A2, c2, G2, w2, ha, hoo2, hc2, hf2⟩ := append1_run (P := Tryd.prog) (w := w') tyU8 hoo (.int .u8 (leB s i).toNat) rfl (by omega) (by omega) 32
    refine appK ha ?_
    simp (maxSteps := 1000000) (disch := omega) only [hid1', hid2', guardK_u, takeG_u, wrap_in64, optK_some', fzK_false', nilK_ptr, brK_true', brK_false', guardK_tt', guardK_ff', guardK_tf', guardK_ft', takeG_tt', takeG_ff', takeG_tf', takeG_ft', pickK_t', pickK_f', pickT_t', pickT_f', notK, extract2_0', extract2_1', extract3_0', extract3_1', extract3_2', here_load, here_fieldAt, here_indexAt, here_extract, here_un, here_conv, here_slice, here_bin, here_nil, and_here, true_and, Nat.zero_add, Nat.add_assoc, Nat.add_zero, Int.toNat_natCast, size_alloc, World.cell?_drew, World.frozen?_drew, Bool.not_true, Bool.not_false, Int.toNat_zero, dec_t, dec_f, int_eq_t, int_eq_f, int_ne_t, int_ne_f, wrap_in, kblss3, kbmul3, kbshr72_i32, kbshr72_i64, kbshr72_u32, kbshr72_u64, kbshr72_u8, kcv72_5, kbs32_1_0, kbadd3]
    refine ⟨⟨i + 1, G2, by go_num, by omega, ?_, hq.then hc2 hG, fun k hk => ?_⟩, by simp [rel, intOf]; omega⟩
    · have e : (l ++ (List.range (i + 1)).map (leB s)).map vb = (l ++ (List.range i).map (leB s)).map vb ++ [vb (leB s i)] := by simp [List.range_succ]
      rw [e]
      exact hoo2
    · rcases hf2 k hk with h | h
      · exact hG k h
      · have := hq.size; omega
  · obtain ⟨Ao, co, rfl, hco1, hco2⟩ := hoo.shape
    have e : i = 4 := by omega
    subst e
    have e4 : l ++ (List.range 4).map (leB s) = sealed l := hsl.symm
    have e5 : l.length + 4 = (sealed l).length := by rw [hsl]; simp [le4]
    rw [e4] at hoo
    simp (maxSteps := 1000000) (disch := omega) only [hid1', hid2', guardK_u, takeG_u, wrap_in64, optK_some', fzK_false', nilK_ptr, brK_true', brK_false', guardK_tt', guardK_ff', guardK_tf', guardK_ft', takeG_tt', takeG_ff', takeG_tf', takeG_ft', pickK_t', pickK_f', pickT_t', pickT_f', notK, extract2_0', extract2_1', extract3_0', extract3_1', extract3_2', here_load, here_fieldAt, here_indexAt, here_extract, here_un, here_conv, here_slice, here_bin, here_nil, and_here, true_and, Nat.zero_add, Nat.add_assoc, Nat.add_zero, Int.toNat_natCast, size_alloc, World.cell?_drew, World.frozen?_drew, Bool.not_true, Bool.not_false, Int.toNat_zero, dec_t, dec_f, int_eq_t, int_eq_f, int_ne_t, int_ne_f, wrap_in, kblss3, kbmul3, kbshr72_i32, kbshr72_i64, kbshr72_u32, kbshr72_u64, kbshr72_u8, kcv72_5, kbs32_1_0, kbadd3]
    refine ck45 (clip_any hoo ?_)
    simp (maxSteps := 1000000) (disch := omega) only [hid1', hid2', guardK_u, takeG_u, wrap_in64, optK_some', fzK_false', nilK_ptr, brK_true', brK_false', guardK_tt', guardK_ff', guardK_tf', guardK_ft', takeG_tt', takeG_ff', takeG_tf', takeG_ft', pickK_t', pickK_f', pickT_t', pickT_f', notK, extract2_0', extract2_1', extract3_0', extract3_1', extract3_2', here_load, here_fieldAt, here_indexAt, here_extract, here_un, here_conv, here_slice, here_bin, here_nil, and_here, true_and, Nat.zero_add, Nat.add_assoc, Nat.add_zero, Int.toNat_natCast, size_alloc, World.cell?_drew, World.frozen?_drew, Bool.not_true, Bool.not_false, Int.toNat_zero, dec_t, dec_f, int_eq_t, int_eq_f, int_ne_t, int_ne_f, wrap_in, kblss3, kbmul3, kbshr72_i32, kbshr72_i64, kbshr72_u32, kbshr72_u64, kbshr72_u8, kcv72_5, kbs32_1_0, kbadd3]
    have := Reads.of_own hoo
    rw [e5]
    exact hK Ao _ w' (Nat.le_refl _) this hq
end Go.Proofs.YtpdhmbbmhomlnaaDoor

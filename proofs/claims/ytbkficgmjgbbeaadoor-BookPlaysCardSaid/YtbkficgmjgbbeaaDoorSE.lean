/- sorted.Map[string, Entry]: what its methods answer and leave. Conditions: at most 100000 keys. -/
import Derived.Test.YtbkficgmjgbbeaaDoorSL
set_option linter.unusedVariables false
set_option linter.unusedSimpArgs false
set_option maxRecDepth 100000
namespace Go.Proofs.YtbkficgmjgbbeaaDoor.SE
open Go.RowKit Go.Cn
abbrev κ := ByteArray
abbrev ν := ByteArray × Int × Int
abbrev ev (v : ν) : Value := .agg #[.string v.1, .int .i64 v.2.1, .int .i64 v.2.2]
abbrev v0 : ν := (ByteArray.empty, 0, 0)
def cell2 (p : κ × ν) : List Value := [Value.string p.1, .string p.2.1, .int .i64 p.2.2.1, .int .i64 p.2.2.2]
theorem cell2_len (p : κ × ν) : (cell2 p).length = 4 := rfl
def lt : κ → κ → Bool := ltS
theorem O : KeyOrd lt := ordS
theorem info : (Tryd.prog.info? 84).map (fun i => (i.zero, i.size, i.bytes)) = some (some (.agg #[Value.string ByteArray.empty, .string ByteArray.empty, .int .i64 0, .int .i64 0]), 4, 48) := by kernel_rfl
theorem ty : ElemTy Tryd.prog 76 84 (.agg #[Value.string ByteArray.empty, .string ByteArray.empty, .int .i64 0, .int .i64 0]) 4 48 := ElemTy.mk' Tryd.underlying76 info rfl (by decide)
theorem infoK : (Tryd.prog.info? 9).map (fun i => (i.zero, i.size, i.bytes)) = some (some (Value.string ByteArray.empty), 1, 16) := by kernel_rfl
theorem tyK : ElemTy Tryd.prog 41 9 (Value.string ByteArray.empty) 1 16 := ElemTy.mk' Tryd.underlying41 infoK rfl (by decide)
theorem one2 (l : List (κ × ν)) : ∀ u ∈ l.flatMap cell2, u.oneCell' = true := by
  intro u hu
  obtain ⟨p, _, hp⟩ := List.mem_flatMap.1 hu
  simp [cell2] at hp
  rcases hp with rfl | rfl | rfl | rfl <;> rfl
def cmpI (a b : κ) : Int := if lt a b = true then -1 else if lt b a = true then 1 else 0
theorem cmp_neg (a b : κ) : decide (cmpI a b < 0) = lt a b := by
  unfold cmpI
  cases h : lt a b with
  | true => simp
  | false => cases lt b a <;> simp
theorem cmp_eq0 (a b : κ) : (cmpI a b == 0) = decide (a = b) := by
  unfold cmpI
  cases h : lt a b with
  | true =>
    have : ¬ a = b := fun e => by subst e; rw [O.irr] at h; cases h
    simp [this]
  | false =>
    cases h2 : lt b a with
    | true =>
      have : ¬ a = b := fun e => by subst e; rw [O.irr] at h2; cases h2
      simp [this]
    | false => simp [O.tri h h2]
theorem gtrS (x y : ByteArray) (K : Value → World → Prop) (w : World) : BinK Tryd.prog .gtr 9 (.string x) (.string y) K w = K (.bool (!(Op.bytesLess x.toList y.toList || x.toList == y.toList))) w := by
  unfold BinK; (first | (go_simp; rfl) | (go_simp; done))
theorem nan_any {a : κ} {w : World} {K : Value → World → Prop} (hK : K (.bool false) w) : CallK Tryd.prog 68 #[Value.string a] K w := by
  refine F68_calls _ _ _ ?_; unfold F68
  simp (maxSteps := 1000000) (disch := omega) only [hid1', hid2', guardK_u, takeG_u, wrap_in64, optK_some', fzK_false', nilK_ptr, brK_true', brK_false', guardK_tt', guardK_ff', guardK_tf', guardK_ft', takeG_tt', takeG_ff', takeG_tf', takeG_ft', pickK_t', pickK_f', pickT_t', pickT_f', notK, extract2_0', extract2_1', extract3_0', extract3_1', extract3_2', here_load, here_fieldAt, here_indexAt, here_extract, here_un, here_conv, here_slice, here_bin, here_nil, and_here, true_and, Nat.zero_add, Nat.add_assoc, Nat.add_zero, Int.toNat_natCast, size_alloc, World.cell?_drew, World.frozen?_drew, Bool.not_true, Bool.not_false, Int.toNat_zero, dec_t, dec_f, int_eq_t, int_eq_f, int_ne_t, int_ne_f, wrap_in, kbneq9, beq_self_eq_true, bne_self_eq_false]
  exact hK
theorem cmp_any {a k : κ} {w : World} {K : Value → World → Prop} (hK : K (.int .i64 (cmpI a k)) w) : CallK Tryd.prog 59 #[Value.string a, Value.string k] K w := by
  refine F59_calls _ _ _ _ ?_; unfold F59
  refine ck68 (nan_any ?_)
  simp (maxSteps := 1000000) (disch := omega) only [hid1', hid2', guardK_u, takeG_u, wrap_in64, optK_some', fzK_false', nilK_ptr, brK_true', brK_false', guardK_tt', guardK_ff', guardK_tf', guardK_ft', takeG_tt', takeG_ff', takeG_tf', takeG_ft', pickK_t', pickK_f', pickT_t', pickT_f', notK, extract2_0', extract2_1', extract3_0', extract3_1', extract3_2', here_load, here_fieldAt, here_indexAt, here_extract, here_un, here_conv, here_slice, here_bin, here_nil, and_here, true_and, Nat.zero_add, Nat.add_assoc, Nat.add_zero, Int.toNat_natCast, size_alloc, World.cell?_drew, World.frozen?_drew, Bool.not_true, Bool.not_false, Int.toNat_zero, dec_t, dec_f, int_eq_t, int_eq_f, int_ne_t, int_ne_f, wrap_in, kblss9, kbgtr9]
  refine ck68 (nan_any ?_)
  unfold cmpI at hK
  simp (maxSteps := 1000000) (disch := omega) only [hid1', hid2', guardK_u, takeG_u, wrap_in64, optK_some', fzK_false', nilK_ptr, brK_true', brK_false', guardK_tt', guardK_ff', guardK_tf', guardK_ft', takeG_tt', takeG_ff', takeG_tf', takeG_ft', pickK_t', pickK_f', pickT_t', pickT_f', notK, extract2_0', extract2_1', extract3_0', extract3_1', extract3_2', here_load, here_fieldAt, here_indexAt, here_extract, here_un, here_conv, here_slice, here_bin, here_nil, and_here, true_and, Nat.zero_add, Nat.add_assoc, Nat.add_zero, Int.toNat_natCast, size_alloc, World.cell?_drew, World.frozen?_drew, Bool.not_true, Bool.not_false, Int.toNat_zero, dec_t, dec_f, int_eq_t, int_eq_f, int_ne_t, int_ne_f, wrap_in, kblss9, kbgtr9]
  change _ at hK
  cases h : lt a k with
  | true =>
    have h' : Op.bytesLess a.toList k.toList = true := h
    rw [if_pos h] at hK
    simp (maxSteps := 1000000) (disch := omega) only [hid1', hid2', guardK_u, takeG_u, wrap_in64, optK_some', fzK_false', nilK_ptr, brK_true', brK_false', guardK_tt', guardK_ff', guardK_tf', guardK_ft', takeG_tt', takeG_ff', takeG_tf', takeG_ft', pickK_t', pickK_f', pickT_t', pickT_f', notK, extract2_0', extract2_1', extract3_0', extract3_1', extract3_2', here_load, here_fieldAt, here_indexAt, here_extract, here_un, here_conv, here_slice, here_bin, here_nil, and_here, true_and, Nat.zero_add, Nat.add_assoc, Nat.add_zero, Int.toNat_natCast, size_alloc, World.cell?_drew, World.frozen?_drew, Bool.not_true, Bool.not_false, Int.toNat_zero, dec_t, dec_f, int_eq_t, int_eq_f, int_ne_t, int_ne_f, wrap_in, kblss9, kbgtr9, h']
    exact hK
  | false =>
    have h' : Op.bytesLess a.toList k.toList = false := h
    rw [if_neg (by rw [h]; decide)] at hK
    cases h2 : lt k a with
    | true =>
      have e : (a.toList == k.toList) = false := by
        rw [beq_eq_false_iff_ne]; intro e
        have := toList_inj e
        subst this; rw [O.irr] at h2; cases h2
      rw [if_pos h2] at hK
      simp (maxSteps := 1000000) (disch := omega) only [hid1', hid2', guardK_u, takeG_u, wrap_in64, optK_some', fzK_false', nilK_ptr, brK_true', brK_false', guardK_tt', guardK_ff', guardK_tf', guardK_ft', takeG_tt', takeG_ff', takeG_tf', takeG_ft', pickK_t', pickK_f', pickT_t', pickT_f', notK, extract2_0', extract2_1', extract3_0', extract3_1', extract3_2', here_load, here_fieldAt, here_indexAt, here_extract, here_un, here_conv, here_slice, here_bin, here_nil, and_here, true_and, Nat.zero_add, Nat.add_assoc, Nat.add_zero, Int.toNat_natCast, size_alloc, World.cell?_drew, World.frozen?_drew, Bool.not_true, Bool.not_false, Int.toNat_zero, dec_t, dec_f, int_eq_t, int_eq_f, int_ne_t, int_ne_f, wrap_in, kblss9, kbgtr9, gtrS, h', e, Bool.or_false]
      exact hK
    | false =>
      have e := O.tri h h2
      subst e
      rw [if_neg (by rw [h2]; decide)] at hK
      simp (maxSteps := 1000000) (disch := omega) only [hid1', hid2', guardK_u, takeG_u, wrap_in64, optK_some', fzK_false', nilK_ptr, brK_true', brK_false', guardK_tt', guardK_ff', guardK_tf', guardK_ft', takeG_tt', takeG_ff', takeG_tf', takeG_ft', pickK_t', pickK_f', pickT_t', pickT_f', notK, extract2_0', extract2_1', extract3_0', extract3_1', extract3_2', here_load, here_fieldAt, here_indexAt, here_extract, here_un, here_conv, here_slice, here_bin, here_nil, and_here, true_and, Nat.zero_add, Nat.add_assoc, Nat.add_zero, Int.toNat_natCast, size_alloc, World.cell?_drew, World.frozen?_drew, Bool.not_true, Bool.not_false, Int.toNat_zero, dec_t, dec_f, int_eq_t, int_eq_f, int_ne_t, int_ne_f, wrap_in, kblss9, kbgtr9, gtrS, h', beq_self_eq_true, Bool.or_true]
      exact hK

theorem fn_any {a k : κ} {v : ν} {w : World} {K : Value → World → Prop} (hK : ∀ w', Qt w w' → K (.int .i64 (cmpI a k)) w') : CallK Tryd.prog 58 #[.agg #[Value.string a, .string v.1, .int .i64 v.2.1, .int .i64 v.2.2], Value.string k] K w := by
  refine F58_calls _ _ _ _ ?_; unfold F58
  simp (maxSteps := 1000000) (disch := omega) only [hid1', hid2', guardK_u, takeG_u, wrap_in64, optK_some', fzK_false', nilK_ptr, brK_true', brK_false', guardK_tt', guardK_ff', guardK_tf', guardK_ft', takeG_tt', takeG_ff', takeG_tf', takeG_ft', pickK_t', pickK_f', pickT_t', pickT_f', notK, extract2_0', extract2_1', extract3_0', extract3_1', extract3_2', here_load, here_fieldAt, here_indexAt, here_extract, here_un, here_conv, here_slice, here_bin, here_nil, and_here, true_and, Nat.zero_add, Nat.add_assoc, Nat.add_zero, Int.toNat_natCast, size_alloc, World.cell?_drew, World.frozen?_drew, Bool.not_true, Bool.not_false, Int.toNat_zero, dec_t, dec_f, int_eq_t, int_eq_f, int_ne_t, int_ne_f, wrap_in, kld9, kfa84_0, kbx84]
  have c0 : (w.alloc (.cells #[Value.string a, .string v.1, .int .i64 v.2.1, .int .i64 v.2.2] 84)).cell? ⟨w.heap.size, 0, none⟩ = some (Value.string a) := by rw [blk_cell (blk_new _ _)]; rfl
  simp (maxSteps := 1000000) (disch := omega) only [hid1', hid2', guardK_u, takeG_u, wrap_in64, optK_some', fzK_false', nilK_ptr, brK_true', brK_false', guardK_tt', guardK_ff', guardK_tf', guardK_ft', takeG_tt', takeG_ff', takeG_tf', takeG_ft', pickK_t', pickK_f', pickT_t', pickT_f', notK, extract2_0', extract2_1', extract3_0', extract3_1', extract3_2', here_load, here_fieldAt, here_indexAt, here_extract, here_un, here_conv, here_slice, here_bin, here_nil, and_here, true_and, Nat.zero_add, Nat.add_assoc, Nat.add_zero, Int.toNat_natCast, size_alloc, World.cell?_drew, World.frozen?_drew, Bool.not_true, Bool.not_false, Int.toNat_zero, dec_t, dec_f, int_eq_t, int_eq_f, int_ne_t, int_ne_f, wrap_in, kld9, kfa84_0, kbx84, c0]
  refine ck59 (cmp_any ?_)
  simp (maxSteps := 1000000) (disch := omega) only [hid1', hid2', guardK_u, takeG_u, wrap_in64, optK_some', fzK_false', nilK_ptr, brK_true', brK_false', guardK_tt', guardK_ff', guardK_tf', guardK_ft', takeG_tt', takeG_ff', takeG_tf', takeG_ft', pickK_t', pickK_f', pickT_t', pickT_f', notK, extract2_0', extract2_1', extract3_0', extract3_1', extract3_2', here_load, here_fieldAt, here_indexAt, here_extract, here_un, here_conv, here_slice, here_bin, here_nil, and_here, true_and, Nat.zero_add, Nat.add_assoc, Nat.add_zero, Int.toNat_natCast, size_alloc, World.cell?_drew, World.frozen?_drew, Bool.not_true, Bool.not_false, Int.toNat_zero, dec_t, dec_f, int_eq_t, int_eq_f, int_ne_t, int_ne_f, wrap_in, kld9, kfa84_0, kbx84]
  exact hK _ (Chg.alloc Qt.refl _)
theorem cells_at {w : World} {A : Option Addr} {l : List (κ × ν)} (h : Reads w A (l.flatMap cell2)) {i : Nat} (hi : i < l.length) : ∃ g o, A = some ⟨g, o, none⟩ ∧ w.cell? ⟨g, o + i * 4, none⟩ = some (Value.string l[i].1) ∧ w.cell? ⟨g, o + (i * 4 + 1), none⟩ = some (.string l[i].2.1) ∧ w.cell? ⟨g, o + (i * 4 + 2), none⟩ = some (.int .i64 l[i].2.2.1) ∧ w.cell? ⟨g, o + (i * 4 + 3), none⟩ = some (.int .i64 l[i].2.2.2) := by
  obtain ⟨g, o, hA, hc⟩ := @Reads.at 4 (κ × ν) ⟨l[i]⟩ cell2 cell2_len w A l h i hi (by omega)
  have e : @List.getD (κ × ν) l i (@default _ ⟨l[i]⟩) = l[i] := by simp [hi]
  rw [e] at hc
  exact ⟨g, o, hA, hc 0 (by omega), hc 1 (by omega), hc 2 (by omega), hc 3 (by omega)⟩
theorem half_go (i j : Nat) : IntKind.i64.wrap (((i : Int) + (j : Int)) / (2 : Int) ^ min (Int.toNat 1) 64) = (((i + j) / 2 : Nat) : Int) ∨ ¬ i + j ≤ 1000000 := by
  by_cases h : i + j ≤ 1000000
  · left
    rw [show min (Int.toNat 1) 64 = 1 from rfl, IntKind.wrap_i64]; omega
  · exact .inr h
theorem bs_any {l : List (κ × ν)} {k : κ} {A : Option Addr} {c : Nat} {w : World} {K : Value → World → Prop} (hr : Reads w A (l.flatMap cell2)) (hs : Rises lt l) (hl : l.length ≤ 100000)
    (hK : ∀ w', Qt w w' → K (.tuple #[.int .i64 (pos lt l k), .bool (fnd lt l k)]) w') : CallK Tryd.prog 57 #[.slice A l.length c, Value.string k, .func (.func 58) #[] #[]] K w := by
  refine F57_calls _ _ _ _ _ ?_; unfold F57
  simp (maxSteps := 1000000) (disch := omega) only [hid1', hid2', guardK_u, takeG_u, wrap_in64, optK_some', fzK_false', nilK_ptr, brK_true', brK_false', guardK_tt', guardK_ff', guardK_tf', guardK_ft', takeG_tt', takeG_ff', takeG_tf', takeG_ft', pickK_t', pickK_f', pickT_t', pickT_f', notK, extract2_0', extract2_1', extract3_0', extract3_1', extract3_2', here_load, here_fieldAt, here_indexAt, here_extract, here_un, here_conv, here_slice, here_bin, here_nil, and_here, true_and, Nat.zero_add, Nat.add_assoc, Nat.add_zero, Int.toNat_natCast, size_alloc, World.cell?_drew, World.frozen?_drew, Bool.not_true, Bool.not_false, Int.toNat_zero, dec_t, dec_f, int_eq_t, int_eq_f, int_ne_t, int_ne_f, wrap_in, kblss3, kbeql3, kbadd3, kia76, klen76, hlen76, kld84, kcv3_102, kbshr102_i32, kbshr102_i64, kbshr102_u32, kbshr102_u64, kbshr102_u8, kcv102_3]
  refine loopK2 (fun x y w' => Qt w w' ∧ ∃ i j : Nat, x = .int .i64 i ∧ y = .int .i64 j ∧ i ≤ j ∧ j ≤ l.length ∧ (∀ q (h : q < l.length), q < i → lt l[q].1 k = true) ∧ (∀ q (h : q < l.length), j ≤ q → lt l[q].1 k = false)) (fun x y _ => (intOf y).toNat - (intOf x).toNat) ⟨Qt.refl, 0, l.length, rfl, rfl, by omega, by omega, fun q h hq => by omega, fun q h hq => by omega⟩ ?_
  rintro _ _ _ w' ⟨hq, i, j, rfl, rfl, hij, hj, hlo, hhi⟩
  have hr' := hr.quiet hq
  by_cases hlt : i < j
  · have hh : IntKind.i64.wrap (((i : Int) + (j : Int)) / (2 : Int) ^ min (Int.toNat 1) 64) = (((i + j) / 2 : Nat) : Int) := by
      rcases half_go i j with h | h
      · exact h
      · omega
    have hm : (i + j) / 2 < l.length := by omega
    have hm1 : i ≤ (i + j) / 2 ∧ (i + j) / 2 < j := by omega
    generalize (i + j) / 2 = m at *
    obtain ⟨g, o, rfl, c0, c1, c2, c3⟩ := cells_at hr' hm
    simp (maxSteps := 1000000) (disch := omega) only [hid1', hid2', guardK_u, takeG_u, wrap_in64, optK_some', fzK_false', nilK_ptr, brK_true', brK_false', guardK_tt', guardK_ff', guardK_tf', guardK_ft', takeG_tt', takeG_ff', takeG_tf', takeG_ft', pickK_t', pickK_f', pickT_t', pickT_f', notK, extract2_0', extract2_1', extract3_0', extract3_1', extract3_2', here_load, here_fieldAt, here_indexAt, here_extract, here_un, here_conv, here_slice, here_bin, here_nil, and_here, true_and, Nat.zero_add, Nat.add_assoc, Nat.add_zero, Int.toNat_natCast, size_alloc, World.cell?_drew, World.frozen?_drew, Bool.not_true, Bool.not_false, Int.toNat_zero, dec_t, dec_f, int_eq_t, int_eq_f, int_ne_t, int_ne_f, wrap_in, kblss3, kbeql3, kbadd3, kia76, klen76, hlen76, kld84, kcv3_102, kbshr102_i32, kbshr102_i64, kbshr102_u32, kbshr102_u64, kbshr102_u8, kcv102_3, hh]
    simp (maxSteps := 1000000) (disch := omega) only [hid1', hid2', guardK_u, takeG_u, wrap_in64, optK_some', fzK_false', nilK_ptr, brK_true', brK_false', guardK_tt', guardK_ff', guardK_tf', guardK_ft', takeG_tt', takeG_ff', takeG_tf', takeG_ft', pickK_t', pickK_f', pickT_t', pickT_f', notK, extract2_0', extract2_1', extract3_0', extract3_1', extract3_2', here_load, here_fieldAt, here_indexAt, here_extract, here_un, here_conv, here_slice, here_bin, here_nil, and_here, true_and, Nat.zero_add, Nat.add_assoc, Nat.add_zero, Int.toNat_natCast, size_alloc, World.cell?_drew, World.frozen?_drew, Bool.not_true, Bool.not_false, Int.toNat_zero, dec_t, dec_f, int_eq_t, int_eq_f, int_ne_t, int_ne_f, wrap_in, kblss3, kbeql3, kbadd3, kia76, klen76, hlen76, kld84, kcv3_102, kbshr102_i32, kbshr102_i64, kbshr102_u32, kbshr102_u64, kbshr102_u8, kcv102_3, c0, c1, c2, c3]
    refine ck58 (fn_any ?_)
    intro w2 q2
    simp (maxSteps := 1000000) (disch := omega) only [hid1', hid2', guardK_u, takeG_u, wrap_in64, optK_some', fzK_false', nilK_ptr, brK_true', brK_false', guardK_tt', guardK_ff', guardK_tf', guardK_ft', takeG_tt', takeG_ff', takeG_tf', takeG_ft', pickK_t', pickK_f', pickT_t', pickT_f', notK, extract2_0', extract2_1', extract3_0', extract3_1', extract3_2', here_load, here_fieldAt, here_indexAt, here_extract, here_un, here_conv, here_slice, here_bin, here_nil, and_here, true_and, Nat.zero_add, Nat.add_assoc, Nat.add_zero, Int.toNat_natCast, size_alloc, World.cell?_drew, World.frozen?_drew, Bool.not_true, Bool.not_false, Int.toNat_zero, dec_t, dec_f, int_eq_t, int_eq_f, int_ne_t, int_ne_f, wrap_in, kblss3, kbeql3, kbadd3, kia76, klen76, hlen76, kld84, kcv3_102, kbshr102_i32, kbshr102_i64, kbshr102_u32, kbshr102_u64, kbshr102_u8, kcv102_3, cmp_neg]
    cases hb : lt l[m].1 k with
    | true =>
      simp (maxSteps := 1000000) (disch := omega) only [hid1', hid2', guardK_u, takeG_u, wrap_in64, optK_some', fzK_false', nilK_ptr, brK_true', brK_false', guardK_tt', guardK_ff', guardK_tf', guardK_ft', takeG_tt', takeG_ff', takeG_tf', takeG_ft', pickK_t', pickK_f', pickT_t', pickT_f', notK, extract2_0', extract2_1', extract3_0', extract3_1', extract3_2', here_load, here_fieldAt, here_indexAt, here_extract, here_un, here_conv, here_slice, here_bin, here_nil, and_here, true_and, Nat.zero_add, Nat.add_assoc, Nat.add_zero, Int.toNat_natCast, size_alloc, World.cell?_drew, World.frozen?_drew, Bool.not_true, Bool.not_false, Int.toNat_zero, dec_t, dec_f, int_eq_t, int_eq_f, int_ne_t, int_ne_f, wrap_in, kblss3, kbeql3, kbadd3, kia76, klen76, hlen76, kld84, kcv3_102, kbshr102_i32, kbshr102_i64, kbshr102_u32, kbshr102_u64, kbshr102_u8, kcv102_3]
      refine ⟨⟨hq.trans q2, m + 1, j, by go_num, rfl, by omega, hj, fun q h hqm => ?_, hhi⟩, by simp [rel, intOf]; omega⟩
      by_cases e : q = m
      · subst e; exact hb
      · exact O.tr (hs.less q m hm (by omega)) hb
    | false =>
      simp (maxSteps := 1000000) (disch := omega) only [hid1', hid2', guardK_u, takeG_u, wrap_in64, optK_some', fzK_false', nilK_ptr, brK_true', brK_false', guardK_tt', guardK_ff', guardK_tf', guardK_ft', takeG_tt', takeG_ff', takeG_tf', takeG_ft', pickK_t', pickK_f', pickT_t', pickT_f', notK, extract2_0', extract2_1', extract3_0', extract3_1', extract3_2', here_load, here_fieldAt, here_indexAt, here_extract, here_un, here_conv, here_slice, here_bin, here_nil, and_here, true_and, Nat.zero_add, Nat.add_assoc, Nat.add_zero, Int.toNat_natCast, size_alloc, World.cell?_drew, World.frozen?_drew, Bool.not_true, Bool.not_false, Int.toNat_zero, dec_t, dec_f, int_eq_t, int_eq_f, int_ne_t, int_ne_f, wrap_in, kblss3, kbeql3, kbadd3, kia76, klen76, hlen76, kld84, kcv3_102, kbshr102_i32, kbshr102_i64, kbshr102_u32, kbshr102_u64, kbshr102_u8, kcv102_3]
      refine ⟨⟨hq.trans q2, i, m, rfl, rfl, by omega, by omega, hlo, fun q h hqm => ?_⟩, by simp [rel, intOf]; omega⟩
      by_cases e : q = m
      · subst e; exact hb
      · cases h2 : lt l[q].1 k with
        | false => rfl
        | true => rw [O.tr (hs.less m q h (by omega)) h2] at hb; cases hb
  · obtain rfl : i = j := by omega
    have hp : pos lt l k = i := pos_eq l k i hj (fun q h hq => hlo q h hq) (fun h => hhi i h (Nat.le_refl _))
    by_cases hin : i < l.length
    · obtain ⟨g, o, rfl, c0, c1, c2, c3⟩ := cells_at hr' hin
      have hf : fnd lt l k = decide (l[i].1 = k) := by
        unfold fnd
        rw [hp, List.getElem?_eq_getElem hin]
      simp (maxSteps := 1000000) (disch := omega) only [hid1', hid2', guardK_u, takeG_u, wrap_in64, optK_some', fzK_false', nilK_ptr, brK_true', brK_false', guardK_tt', guardK_ff', guardK_tf', guardK_ft', takeG_tt', takeG_ff', takeG_tf', takeG_ft', pickK_t', pickK_f', pickT_t', pickT_f', notK, extract2_0', extract2_1', extract3_0', extract3_1', extract3_2', here_load, here_fieldAt, here_indexAt, here_extract, here_un, here_conv, here_slice, here_bin, here_nil, and_here, true_and, Nat.zero_add, Nat.add_assoc, Nat.add_zero, Int.toNat_natCast, size_alloc, World.cell?_drew, World.frozen?_drew, Bool.not_true, Bool.not_false, Int.toNat_zero, dec_t, dec_f, int_eq_t, int_eq_f, int_ne_t, int_ne_f, wrap_in, kblss3, kbeql3, kbadd3, kia76, klen76, hlen76, kld84, kcv3_102, kbshr102_i32, kbshr102_i64, kbshr102_u32, kbshr102_u64, kbshr102_u8, kcv102_3, c0, c1, c2, c3]
      refine ck58 (fn_any ?_)
      intro w2 q2
      simp (maxSteps := 1000000) (disch := omega) only [hid1', hid2', guardK_u, takeG_u, wrap_in64, optK_some', fzK_false', nilK_ptr, brK_true', brK_false', guardK_tt', guardK_ff', guardK_tf', guardK_ft', takeG_tt', takeG_ff', takeG_tf', takeG_ft', pickK_t', pickK_f', pickT_t', pickT_f', notK, extract2_0', extract2_1', extract3_0', extract3_1', extract3_2', here_load, here_fieldAt, here_indexAt, here_extract, here_un, here_conv, here_slice, here_bin, here_nil, and_here, true_and, Nat.zero_add, Nat.add_assoc, Nat.add_zero, Int.toNat_natCast, size_alloc, World.cell?_drew, World.frozen?_drew, Bool.not_true, Bool.not_false, Int.toNat_zero, dec_t, dec_f, int_eq_t, int_eq_f, int_ne_t, int_ne_f, wrap_in, kblss3, kbeql3, kbadd3, kia76, klen76, hlen76, kld84, kcv3_102, kbshr102_i32, kbshr102_i64, kbshr102_u32, kbshr102_u64, kbshr102_u8, kcv102_3, cmp_eq0]
      have := hK w2 (hq.trans q2)
      rw [hp, hf] at this
      exact this
    · have hf : fnd lt l k = false := by
        unfold fnd
        rw [hp, List.getElem?_eq_none (by omega)]
      simp (maxSteps := 1000000) (disch := omega) only [hid1', hid2', guardK_u, takeG_u, wrap_in64, optK_some', fzK_false', nilK_ptr, brK_true', brK_false', guardK_tt', guardK_ff', guardK_tf', guardK_ft', takeG_tt', takeG_ff', takeG_tf', takeG_ft', pickK_t', pickK_f', pickT_t', pickT_f', notK, extract2_0', extract2_1', extract3_0', extract3_1', extract3_2', here_load, here_fieldAt, here_indexAt, here_extract, here_un, here_conv, here_slice, here_bin, here_nil, and_here, true_and, Nat.zero_add, Nat.add_assoc, Nat.add_zero, Int.toNat_natCast, size_alloc, World.cell?_drew, World.frozen?_drew, Bool.not_true, Bool.not_false, Int.toNat_zero, dec_t, dec_f, int_eq_t, int_eq_f, int_ne_t, int_ne_f, wrap_in, kblss3, kbeql3, kbadd3, kia76, klen76, hlen76, kld84, kcv3_102, kbshr102_i32, kbshr102_i64, kbshr102_u32, kbshr102_u64, kbshr102_u8, kcv102_3]
      have := hK w' hq
      rw [hp, hf] at this
      exact this
/-- The map at g holds l; F: the block of its row. -/
def MapAt (w : World) (g : Nat) (l : List (κ × ν)) (F : Option Nat) : Prop := ∃ v, w.heap[g]? = some (.cells #[v] 78 (0, 0)) ∧ Own w 84 4 v l.length (l.flatMap cell2) F ∧ F ≠ some g ∧ Rises lt l ∧ l.length ≤ 100000
theorem MapAt.chg {w w' : World} {g : Nat} {l : List (κ × ν)} {F : Option Nat} {S : Nat → Prop} (h : MapAt w g l F) (c : Chg S w w') (hg : ¬ S g) (hF : ∀ k, F = some k → ¬ S k) : MapAt w' g l F := by
  obtain ⟨v, h1, h2, h3, h4⟩ := h; exact ⟨v, c.heap h1 hg, h2.chg c hF, h3, h4⟩
theorem MapAt.quiet {w w' : World} {g : Nat} {l : List (κ × ν)} {F : Option Nat} (h : MapAt w g l F) (c : Qt w w') : MapAt w' g l F := h.chg c (fun h => h) (fun _ _ h => h)
theorem MapAt.low {w : World} {g : Nat} {l : List (κ × ν)} {F : Option Nat} (h : MapAt w g l F) : g < w.heap.size ∧ ∀ k, F = some k → k < w.heap.size := by
  obtain ⟨v, h1, h2, h3, h4⟩ := h; exact ⟨blk_lt h1, fun k hk => h2.lt hk⟩
theorem reads2 {w : World} {A : Option Addr} {n c : Nat} {xs : List Value} {F : Option Nat} (h : Own w 84 4 (.slice A n c) n xs F) : Reads w A xs := by
  rcases h with ⟨_, _, rfl, _⟩ | ⟨g, cap, hv, _, hr⟩
  · exact .inl rfl
  · cases hv
    refine .inr ⟨g, 0, rfl, fun j hj => ?_⟩
    have := hr.1
    rw [Nat.zero_add]
    exact hr.cell j (by omega)
theorem MapAt.opened {w : World} {g : Nat} {l : List (κ × ν)} {F : Option Nat} (h : MapAt w g l F) : ∃ A c, w.cell? ⟨g, 0, none⟩ = some (.slice A l.length c) ∧ w.frozen? ⟨g, 0, none⟩ = false ∧ Own w 84 4 (.slice A l.length c) l.length (l.flatMap cell2) F ∧ Reads w A (l.flatMap cell2) ∧ Rises lt l ∧ l.length ≤ 100000 := by
  obtain ⟨v, h1, h2, h3, h4, h5⟩ := h
  obtain ⟨A, c, rfl, _⟩ := h2.shape
  exact ⟨A, c, by rw [blk_cell h1]; rfl, blk_frozen h1 0, h2, reads2 h2, h4, h5⟩
theorem new_any {w : World} {K : Value → World → Prop} (hK : ∀ w', MapAt w' w.heap.size [] none → Qt w w' → K (.pointer (some ⟨w.heap.size, 0, none⟩)) w') : CallK Tryd.prog 28 #[] K w := by
  refine F28_calls _ _ ?_; unfold F28
  simp (maxSteps := 1000000) (disch := omega) only [hid1', hid2', guardK_u, takeG_u, wrap_in64, optK_some', fzK_false', nilK_ptr, brK_true', brK_false', guardK_tt', guardK_ff', guardK_tf', guardK_ft', takeG_tt', takeG_ff', takeG_tf', takeG_ft', pickK_t', pickK_f', pickT_t', pickT_f', notK, extract2_0', extract2_1', extract3_0', extract3_1', extract3_2', here_load, here_fieldAt, here_indexAt, here_extract, here_un, here_conv, here_slice, here_bin, here_nil, and_here, true_and, Nat.zero_add, Nat.add_assoc, Nat.add_zero, Int.toNat_natCast, size_alloc, World.cell?_drew, World.frozen?_drew, Bool.not_true, Bool.not_false, Int.toNat_zero, dec_t, dec_f, int_eq_t, int_eq_f, int_ne_t, int_ne_f, wrap_in, kbd78_, kbx78]
  exact hK _ ⟨_, blk_new _ _, Own.nil _ _ _, (fun h => by cases h), trivial, by simp⟩ (Chg.alloc Qt.refl _)
theorem find_any {g : Nat} {l : List (κ × ν)} {F : Option Nat} {k : κ} {w : World} {K : Value → World → Prop} (h : MapAt w g l F)
    (hK : ∀ w', Qt w w' → K (.tuple #[.int .i64 (pos lt l k), .bool (fnd lt l k)]) w') : CallK Tryd.prog 48 #[.pointer (some ⟨g, 0, none⟩), Value.string k] K w := by
  refine F48_calls _ _ _ _ ?_; unfold F48
  obtain ⟨A, c, c0, _, _, hr, hs, hl⟩ := h.opened
  simp (maxSteps := 1000000) (disch := omega) only [hid1', hid2', guardK_u, takeG_u, wrap_in64, optK_some', fzK_false', nilK_ptr, brK_true', brK_false', guardK_tt', guardK_ff', guardK_tf', guardK_ft', takeG_tt', takeG_ff', takeG_tf', takeG_ft', pickK_t', pickK_f', pickT_t', pickT_f', notK, extract2_0', extract2_1', extract3_0', extract3_1', extract3_2', here_load, here_fieldAt, here_indexAt, here_extract, here_un, here_conv, here_slice, here_bin, here_nil, and_here, true_and, Nat.zero_add, Nat.add_assoc, Nat.add_zero, Int.toNat_natCast, size_alloc, World.cell?_drew, World.frozen?_drew, Bool.not_true, Bool.not_false, Int.toNat_zero, dec_t, dec_f, int_eq_t, int_eq_f, int_ne_t, int_ne_f, wrap_in, kfa78_0, kld76, c0]
  refine ck57 (bs_any hr hs hl ?_)
  intro w' q
  simp (maxSteps := 1000000) (disch := omega) only [hid1', hid2', guardK_u, takeG_u, wrap_in64, optK_some', fzK_false', nilK_ptr, brK_true', brK_false', guardK_tt', guardK_ff', guardK_tf', guardK_ft', takeG_tt', takeG_ff', takeG_tf', takeG_ft', pickK_t', pickK_f', pickT_t', pickT_f', notK, extract2_0', extract2_1', extract3_0', extract3_1', extract3_2', here_load, here_fieldAt, here_indexAt, here_extract, here_un, here_conv, here_slice, here_bin, here_nil, and_here, true_and, Nat.zero_add, Nat.add_assoc, Nat.add_zero, Int.toNat_natCast, size_alloc, World.cell?_drew, World.frozen?_drew, Bool.not_true, Bool.not_false, Int.toNat_zero, dec_t, dec_f, int_eq_t, int_eq_f, int_ne_t, int_ne_f, wrap_in, kfa78_0, kld76]
  exact hK w' q
theorem src_new (w : World) (xs : List Value) : Cn.Src (w.alloc (.cells xs.toArray 84)) (some ⟨w.heap.size, 0, none⟩) xs := fun j u hj => ⟨_, rfl, by rw [Addr.add_lit, Nat.zero_add, blk_cell (blk_new _ _)]; simpa using hj⟩
theorem src_row {w : World} {g n c : Nat} {xs : List Value} (h : RowAt w 84 4 g n c xs) (i : Nat) : Cn.Src w (some ⟨g, i * 4, none⟩) (xs.drop (i * 4)) := fun j u hj => ⟨_, rfl, by
  have hl := (List.getElem?_eq_some_iff.1 hj).1
  have := h.1
  rw [List.length_drop] at hl
  rw [Addr.add_lit, h.cell (i * 4 + j) (by omega)]
  rw [List.getElem?_drop] at hj; exact hj⟩
set_option maxHeartbeats 1000000 in
theorem ins_any {n i : Nat} {A : Option Addr} {c : Nat} {F : Option Nat} {xs : List Value} {k : κ} {v : ν} {w : World} {K : Value → World → Prop} (how : Own w 84 4 (.slice A n c) n xs F) (h1 : ∀ u ∈ xs, u.oneCell' = true) (hi : i ≤ n) (hn : n ≤ 100000)
    (hK : ∀ A' c' F' w', Own w' 84 4 (.slice A' (n + 1) c') (n + 1) (xs.take (i * 4) ++ [Value.string k, .string v.1, .int .i64 v.2.1, .int .i64 v.2.2] ++ xs.drop (i * 4)) F' → Chg (fun q => F = some q) w w' → (∀ q, F' = some q → F = some q ∨ w.heap.size ≤ q) → K (.slice A' (n + 1) c') w') :
    CallK Tryd.prog 49 #[.slice A n c, .int .i64 i, .slice (some ⟨w.heap.size, 0, none⟩) 1 1] K (w.alloc (.cells #[Value.string k, .string v.1, .int .i64 v.2.1, .int .i64 v.2.2] 84)) := by
  refine F49_calls _ _ _ _ _ ?_; unfold F49
  have hc : Qt w (w.alloc (.cells #[Value.string k, .string v.1, .int .i64 v.2.1, .int .i64 v.2.2] 84)) := Chg.alloc Qt.refl _
  have how1 := how.chg hc (fun _ _ h => h)
  have hv : Cn.Src (w.alloc (.cells #[Value.string k, .string v.1, .int .i64 v.2.1, .int .i64 v.2.2] 84)) (some ⟨w.heap.size, 0, none⟩) [Value.string k, .string v.1, .int .i64 v.2.1, .int .i64 v.2.2] := src_new w _
  have hb : (w.alloc (.cells #[Value.string k, .string v.1, .int .i64 v.2.1, .int .i64 v.2.2] 84)).heap[w.heap.size]? = some (.cells #[Value.string k, .string v.1, .int .i64 v.2.1, .int .i64 v.2.2] 84 (0, 0)) := blk_new _ _
  have hsz : (w.alloc (.cells #[Value.string k, .string v.1, .int .i64 v.2.1, .int .i64 v.2.2] 84)).heap.size = w.heap.size + 1 := size_alloc _ _
  have hFl : ∀ q, F = some q → q < w.heap.size := fun q hq => how.lt hq
  have hv1 : ∀ u ∈ [Value.string k, .string v.1, .int .i64 v.2.1, .int .i64 v.2.2], u.oneCell' = true := by intro u hu; simp at hu; rcases hu with rfl | rfl | rfl | rfl <;> rfl
  generalize (w.alloc (.cells #[Value.string k, .string v.1, .int .i64 v.2.1, .int .i64 v.2.2] 84)) = w1 at *
  have e1 : ((1 : Nat) : Int) = 1 := rfl
  have hend : i = n → K = K → BuiltinK Tryd.prog .append #[76, 76] 76 #[false, false] #[.slice A n c, .slice (some ⟨w.heap.size, 0, none⟩) 1 1] (@hid _ ⟨K⟩) w1 := by
    intro hin _
    subst hin
    obtain ⟨A', c', F', w', p, o, ch, f⟩ := app_run (P := Tryd.prog) ty how1 (some ⟨w.heap.size, 0, none⟩) 1 1 [Value.string k, .string v.1, .int .i64 v.2.1, .int .i64 v.2.2] (by simp) hv hv1 (by omega) (by omega) 76
    refine appK p ?_
    have hx : xs.length = i * 4 := how.row.1.1
    refine hK A' c' F' w' ?_ ((hc.mono (fun _ _ h => h.elim)).trans ch) (fun q hq => ?_)
    · rw [List.take_of_length_le (by omega), List.drop_eq_nil_of_le (by omega), List.append_nil]; exact o
    · rcases f q hq with h | h
      · exact .inl h
      · exact .inr (by omega)
  rcases how1 with ⟨hA, rfl, rfl, rfl⟩ | ⟨g, cc, hA, rfl, hrow⟩
  · injection hA with a1 a2 a3
    subst a1 a3
    obtain rfl : i = 0 := by omega
    have e0 : ((0 : Nat) : Int) = 0 := rfl
    simp (maxSteps := 1000000) (disch := omega) only [hid1', hid2', guardK_u, takeG_u, wrap_in64, optK_some', fzK_false', nilK_ptr, brK_true', brK_false', guardK_tt', guardK_ff', guardK_tf', guardK_ft', takeG_tt', takeG_ff', takeG_tf', takeG_ft', pickK_t', pickK_f', pickT_t', pickT_f', notK, extract2_0', extract2_1', extract3_0', extract3_1', extract3_2', here_load, here_fieldAt, here_indexAt, here_extract, here_un, here_conv, here_slice, here_bin, here_nil, and_here, true_and, Nat.zero_add, Nat.add_assoc, Nat.add_zero, Int.toNat_natCast, size_alloc, World.cell?_drew, World.frozen?_drew, Bool.not_true, Bool.not_false, Int.toNat_zero, dec_t, dec_f, int_eq_t, int_eq_f, int_ne_t, int_ne_f, wrap_in, kbgtr3, kbeql3, kbadd3, kbsub3, klen76, hlen76, ksl76_100z, ksl76_100, kcap76, ksl76_010z, ksl76_010, e0, e1, beq_self_eq_true]
    exact hend rfl rfl
  injection hA with a1 a2 a3
  subst a1 a3
  have hcap := hrow.cap_le
  have hxl := hrow.1
  have hgl := hFl g rfl
  by_cases hin : i = n
  · have hbe : ((i : Int) == (n : Int)) = true := beq_iff_eq.2 (by omega)
    simp (maxSteps := 1000000) (disch := omega) only [hid1', hid2', guardK_u, takeG_u, wrap_in64, optK_some', fzK_false', nilK_ptr, brK_true', brK_false', guardK_tt', guardK_ff', guardK_tf', guardK_ft', takeG_tt', takeG_ff', takeG_tf', takeG_ft', pickK_t', pickK_f', pickT_t', pickT_f', notK, extract2_0', extract2_1', extract3_0', extract3_1', extract3_2', here_load, here_fieldAt, here_indexAt, here_extract, here_un, here_conv, here_slice, here_bin, here_nil, and_here, true_and, Nat.zero_add, Nat.add_assoc, Nat.add_zero, Int.toNat_natCast, size_alloc, World.cell?_drew, World.frozen?_drew, Bool.not_true, Bool.not_false, Int.toNat_zero, dec_t, dec_f, int_eq_t, int_eq_f, int_ne_t, int_ne_f, wrap_in, kbgtr3, kbeql3, kbadd3, kbsub3, klen76, hlen76, ksl76_100z, ksl76_100, kcap76, ksl76_010z, ksl76_010, e1, hbe]
    exact hend hin rfl
  have hbe : ((i : Int) == (n : Int)) = false := beq_eq_false_iff_ne.2 (by omega)
  have hci : ¬ c = i := by omega
  have hil : i < n := by omega
  have hdl : (xs.drop (i * 4)).length = (n - i) * 4 := by rw [List.length_drop]; omega
  have hd1 : ∀ u ∈ xs.drop (i * 4), u.oneCell' = true := fun u hu => h1 u (List.mem_of_mem_drop hu)
  have hi1 : ((i : Int) + 1).toNat = i + 1 := by omega
  by_cases hgrow : c < n + 1
  · have hsub : ((n : Int) + 1 - (i : Int)) = ((n + 1 - i : Nat) : Int) := by omega
    simp (maxSteps := 1000000) (disch := omega) only [hid1', hid2', guardK_u, takeG_u, wrap_in64, optK_some', fzK_false', nilK_ptr, brK_true', brK_false', guardK_tt', guardK_ff', guardK_tf', guardK_ft', takeG_tt', takeG_ff', takeG_tf', takeG_ft', pickK_t', pickK_f', pickT_t', pickT_f', notK, extract2_0', extract2_1', extract3_0', extract3_1', extract3_2', here_load, here_fieldAt, here_indexAt, here_extract, here_un, here_conv, here_slice, here_bin, here_nil, and_here, true_and, Nat.zero_add, Nat.add_assoc, Nat.add_zero, Int.toNat_natCast, size_alloc, World.cell?_drew, World.frozen?_drew, Bool.not_true, Bool.not_false, Int.toNat_zero, dec_t, dec_f, int_eq_t, int_eq_f, int_ne_t, int_ne_f, wrap_in, kbgtr3, kbeql3, kbadd3, kbsub3, klen76, hlen76, ksl76_100z, ksl76_100, kcap76, ksl76_010z, ksl76_010, e1, hbe, hsub]
    obtain ⟨c2, zs, w2, p2, r2, hzl, k2⟩ := zeros_run (P := Tryd.prog) (ty := 76) ty Tryd.underlying3 hrow i (n + 1 - i) (by omega) (by omega) (by omega) (by omega) (by omega)
    have hlen : i + (n + 1 - i) = n + 1 := by omega
    rw [hlen] at p2 r2
    refine appZK p2 ?_
    have hcap2 := r2.cap_le
    have hc2 : ¬ c2 = i := by omega
    generalize hg2 : w1.heap.size = g2 at *
    simp (maxSteps := 1000000) (disch := omega) only [hid1', hid2', guardK_u, takeG_u, wrap_in64, optK_some', fzK_false', nilK_ptr, brK_true', brK_false', guardK_tt', guardK_ff', guardK_tf', guardK_ft', takeG_tt', takeG_ff', takeG_tf', takeG_ft', pickK_t', pickK_f', pickT_t', pickT_f', notK, extract2_0', extract2_1', extract3_0', extract3_1', extract3_2', here_load, here_fieldAt, here_indexAt, here_extract, here_un, here_conv, here_slice, here_bin, here_nil, and_here, true_and, Nat.zero_add, Nat.add_assoc, Nat.add_zero, Int.toNat_natCast, size_alloc, World.cell?_drew, World.frozen?_drew, Bool.not_true, Bool.not_false, Int.toNat_zero, dec_t, dec_f, int_eq_t, int_eq_f, int_ne_t, int_ne_f, wrap_in, kbgtr3, kbeql3, kbadd3, kbsub3, klen76, hlen76, ksl76_100z, ksl76_100, kcap76, ksl76_010z, ksl76_010, eq_false hc2, if_false]
    have hs2 := k2.size
    have p3 := copy_run (P := Tryd.prog) ty 76 3 r2 (i * 4) (n + 1 - i) (c2 - i) (some ⟨w.heap.size, 0, none⟩) 1 1 [Value.string k, .string v.1, .int .i64 v.2.1, .int .i64 v.2.2] (by rw [Nat.min_eq_left (by omega)]; rfl) (hv.chg k2 (fun _ _ h => h)) (by simp only [List.length_cons, List.length_nil]; omega) hv1 (fun h => by cases h)
    refine copyK p3 ?_
    have r3 := r2.put (i * 4) [Value.string k, .string v.1, .int .i64 v.2.1, .int .i64 v.2.2] (by omega) (n + 1) (by omega) (by omega) (by simp only [List.length_cons, List.length_nil]; omega) (by simp only [List.length_cons, List.length_nil]; omega)
    have k3 : Chg (fun q => q = g2) w2 (w2.setCells g2 (i * 4) [Value.string k, .string v.1, .int .i64 v.2.1, .int .i64 v.2.2]) := Chg.sets
    generalize (w2.setCells g2 (i * 4) [Value.string k, .string v.1, .int .i64 v.2.1, .int .i64 v.2.2]) = w3 at *
    have hx3 : ((xs.take (i * 4) ++ zs).take (i * 4) ++ [Value.string k, .string v.1, .int .i64 v.2.1, .int .i64 v.2.2] ++ (xs.take (i * 4) ++ zs).drop (i * 4 + [Value.string k, .string v.1, .int .i64 v.2.1, .int .i64 v.2.2].length)).take ((n + 1) * 4) = xs.take (i * 4) ++ [Value.string k, .string v.1, .int .i64 v.2.1, .int .i64 v.2.2] ++ zs.drop 4 := by
      have hl1 : (xs.take (i * 4)).length = i * 4 := by simp; omega
      have t1 : (xs.take (i * 4) ++ zs).take (i * 4) = xs.take (i * 4) := by rw [List.take_append_of_le_length (by omega), List.take_take, Nat.min_self]
      have e : (xs.take (i * 4) ++ zs).drop (i * 4 + [Value.string k, .string v.1, .int .i64 v.2.1, .int .i64 v.2.2].length) = zs.drop 4 := by
        rw [List.drop_append, List.drop_eq_nil_of_le (by simp only [List.length_cons, List.length_nil]; omega), List.nil_append]
        congr 1; simp only [List.length_cons, List.length_nil]; omega
      rw [t1, e, List.take_of_length_le]
      simp only [List.length_append, hl1, List.length_cons, List.length_nil, List.length_drop]; omega
    rw [hx3] at r3
    refine drawK_by (fun _ => True) trivial ?_
    refine take_bin (.int .i64 ((i : Int) + 1)) (fun w' _ => by (simp (maxSteps := 1000000) (disch := omega) only [hid1', hid2', guardK_u, takeG_u, wrap_in64, optK_some', fzK_false', nilK_ptr, brK_true', brK_false', guardK_tt', guardK_ff', guardK_tf', guardK_ft', takeG_tt', takeG_ff', takeG_tf', takeG_ft', pickK_t', pickK_f', pickT_t', pickT_f', notK, extract2_0', extract2_1', extract3_0', extract3_1', extract3_2', here_load, here_fieldAt, here_indexAt, here_extract, here_un, here_conv, here_slice, here_bin, here_nil, and_here, true_and, Nat.zero_add, Nat.add_assoc, Nat.add_zero, Int.toNat_natCast, size_alloc, World.cell?_drew, World.frozen?_drew, Bool.not_true, Bool.not_false, Int.toNat_zero, dec_t, dec_f, int_eq_t, int_eq_f, int_ne_t, int_ne_f, wrap_in, kbgtr3, kbeql3, kbadd3, kbsub3, klen76, hlen76, ksl76_100z, ksl76_100, kcap76, ksl76_010z, ksl76_010]; try (exact ⟨trivial, trivial⟩))) ?_
    try simp (maxSteps := 1000000) (disch := omega) only [hid1', hid2', guardK_u, takeG_u, wrap_in64, optK_some', fzK_false', nilK_ptr, brK_true', brK_false', guardK_tt', guardK_ff', guardK_tf', guardK_ft', takeG_tt', takeG_ff', takeG_tf', takeG_ft', pickK_t', pickK_f', pickT_t', pickT_f', notK, extract2_0', extract2_1', extract3_0', extract3_1', extract3_2', here_load, here_fieldAt, here_indexAt, here_extract, here_un, here_conv, here_slice, here_bin, here_nil, and_here, true_and, Nat.zero_add, Nat.add_assoc, Nat.add_zero, Int.toNat_natCast, size_alloc, World.cell?_drew, World.frozen?_drew, Bool.not_true, Bool.not_false, Int.toNat_zero, dec_t, dec_f, int_eq_t, int_eq_f, int_ne_t, int_ne_f, wrap_in, kbgtr3, kbeql3, kbadd3, kbsub3, klen76, hlen76, ksl76_100z, ksl76_100, kcap76, ksl76_010z, ksl76_010]
    refine take_slice (.slice (some ⟨g2, (i + 1) * 4, none⟩) (n + 1 - (i + 1)) (c2 - (i + 1))) (fun w' _ => by (simp (maxSteps := 1000000) (disch := omega) only [hid1', hid2', guardK_u, takeG_u, wrap_in64, optK_some', fzK_false', nilK_ptr, brK_true', brK_false', guardK_tt', guardK_ff', guardK_tf', guardK_ft', takeG_tt', takeG_ff', takeG_tf', takeG_ft', pickK_t', pickK_f', pickT_t', pickT_f', notK, extract2_0', extract2_1', extract3_0', extract3_1', extract3_2', here_load, here_fieldAt, here_indexAt, here_extract, here_un, here_conv, here_slice, here_bin, here_nil, and_here, true_and, Nat.zero_add, Nat.add_assoc, Nat.add_zero, Int.toNat_natCast, size_alloc, World.cell?_drew, World.frozen?_drew, Bool.not_true, Bool.not_false, Int.toNat_zero, dec_t, dec_f, int_eq_t, int_eq_f, int_ne_t, int_ne_f, wrap_in, kbgtr3, kbeql3, kbadd3, kbsub3, klen76, hlen76, ksl76_100z, ksl76_100, kcap76, ksl76_010z, ksl76_010, hi1, eq_false (show ¬ c2 = i + 1 by omega), if_false]; try (exact ⟨trivial, trivial⟩))) ?_
    try simp (maxSteps := 1000000) (disch := omega) only [hid1', hid2', guardK_u, takeG_u, wrap_in64, optK_some', fzK_false', nilK_ptr, brK_true', brK_false', guardK_tt', guardK_ff', guardK_tf', guardK_ft', takeG_tt', takeG_ff', takeG_tf', takeG_ft', pickK_t', pickK_f', pickT_t', pickT_f', notK, extract2_0', extract2_1', extract3_0', extract3_1', extract3_2', here_load, here_fieldAt, here_indexAt, here_extract, here_un, here_conv, here_slice, here_bin, here_nil, and_here, true_and, Nat.zero_add, Nat.add_assoc, Nat.add_zero, Int.toNat_natCast, size_alloc, World.cell?_drew, World.frozen?_drew, Bool.not_true, Bool.not_false, Int.toNat_zero, dec_t, dec_f, int_eq_t, int_eq_f, int_ne_t, int_ne_f, wrap_in, kbgtr3, kbeql3, kbadd3, kbsub3, klen76, hlen76, ksl76_100z, ksl76_100, kcap76, ksl76_010z, ksl76_010]
    refine take_slice (.slice (some ⟨g, i * 4, none⟩) (n - i) (c - i)) (fun w' _ => by (simp (maxSteps := 1000000) (disch := omega) only [hid1', hid2', guardK_u, takeG_u, wrap_in64, optK_some', fzK_false', nilK_ptr, brK_true', brK_false', guardK_tt', guardK_ff', guardK_tf', guardK_ft', takeG_tt', takeG_ff', takeG_tf', takeG_ft', pickK_t', pickK_f', pickT_t', pickT_f', notK, extract2_0', extract2_1', extract3_0', extract3_1', extract3_2', here_load, here_fieldAt, here_indexAt, here_extract, here_un, here_conv, here_slice, here_bin, here_nil, and_here, true_and, Nat.zero_add, Nat.add_assoc, Nat.add_zero, Int.toNat_natCast, size_alloc, World.cell?_drew, World.frozen?_drew, Bool.not_true, Bool.not_false, Int.toNat_zero, dec_t, dec_f, int_eq_t, int_eq_f, int_ne_t, int_ne_f, wrap_in, kbgtr3, kbeql3, kbadd3, kbsub3, klen76, hlen76, ksl76_100z, ksl76_100, kcap76, ksl76_010z, ksl76_010, eq_false hci, if_false]; try (exact ⟨trivial, trivial⟩))) ?_
    refine ⟨?_, trivial⟩
    have r3' := r3.chg (S := fun _ => False) (Qt.drew Qt.refl) (fun h => h)
    have hsrc3 := src_row (hrow.chg (k2.mono (fun _ _ h => h) |>.then k3 (S := fun _ => False) (fun q hq => .inr (by omega))) (fun h => h)) i
    have hsrc3' := hsrc3.chg (S := fun _ => False) (Qt.drew Qt.refl) (fun _ _ h => h)
    have k3' : Chg (fun q => q = g2) w2 w3.drew := k3.drew
    generalize w3.drew = w4 at *
    have p5 := copy_run (P := Tryd.prog) ty 76 3 r3' ((i + 1) * 4) (n + 1 - (i + 1)) (c2 - (i + 1)) (some ⟨g, i * 4, none⟩) (n - i) (c - i) (xs.drop (i * 4)) (by rw [hdl, Nat.min_eq_left (by omega)]) hsrc3' (by rw [hdl]; omega) hd1 (fun h => by cases h)
    refine copyK p5 ?_
    refine ⟨trivial, ?_⟩
    have r5 := r3'.put ((i + 1) * 4) (xs.drop (i * 4)) (by omega) (n + 1) (by omega) (by omega) (by rw [hdl]; omega) (by rw [hdl]; omega)
    have k5 : Chg (fun q => q = g2) w4 (w4.setCells g2 ((i + 1) * 4) (xs.drop (i * 4))) := Chg.sets
    have hx5 : ((xs.take (i * 4) ++ [Value.string k, .string v.1, .int .i64 v.2.1, .int .i64 v.2.2] ++ zs.drop 4).take ((i + 1) * 4) ++ xs.drop (i * 4) ++ (xs.take (i * 4) ++ [Value.string k, .string v.1, .int .i64 v.2.1, .int .i64 v.2.2] ++ zs.drop 4).drop ((i + 1) * 4 + (xs.drop (i * 4)).length)).take ((n + 1) * 4) = xs.take (i * 4) ++ [Value.string k, .string v.1, .int .i64 v.2.1, .int .i64 v.2.2] ++ xs.drop (i * 4) := by
      have hl1 : (xs.take (i * 4) ++ [Value.string k, .string v.1, .int .i64 v.2.1, .int .i64 v.2.2]).length = (i + 1) * 4 := by simp; omega
      have t2 : (xs.take (i * 4) ++ [Value.string k, .string v.1, .int .i64 v.2.1, .int .i64 v.2.2] ++ zs.drop 4).take ((i + 1) * 4) = xs.take (i * 4) ++ [Value.string k, .string v.1, .int .i64 v.2.1, .int .i64 v.2.2] := by rw [List.take_append_of_le_length (by rw [hl1]; exact Nat.le_refl _), List.take_of_length_le (by rw [hl1]; exact Nat.le_refl _)]
      rw [t2, List.take_append_of_le_length (by rw [List.length_append, hl1, hdl]; omega), List.take_of_length_le (by rw [List.length_append, hl1, hdl]; omega)]
    rw [hx5] at r5
    refine hK (some ⟨g2, 0, none⟩) c2 (some g2) _ r5.own2 ?_ (fun q hq => .inr (by cases hq; omega))
    have q5 : Qt w (w4.setCells g2 ((i + 1) * 4) (xs.drop (i * 4))) := Qt.then (Qt.then (hc.trans k2) k3' (fun q hq => by omega)) k5 (fun q hq => by omega)
    exact q5.mono (fun _ _ h => h.elim)
  · have hsum : ((n : Int) + 1) = ((n + 1 : Nat) : Int) := by omega
    have hvb : ¬ w.heap.size = g := by omega
    have hi1n : ((i : Int) + 1) = ((i + 1 : Nat) : Int) := by omega
    have hci1 : ¬ c = i + 1 := by omega
    have hn1 : ((n : Int) + 1).toNat = n + 1 := by omega
    have hov : (Extern.SlicesOverlaps.overlaps #[76, 76] #[4] #[.slice (some ⟨w.heap.size, 0, none⟩) 1 1, .slice (some ⟨g, (i + 1) * 4, none⟩) (n + 1 - (i + 1)) (c - (i + 1))]).run Tryd.prog w1 = .ok (.bool false) w1 := by
      obtain ⟨ti, hti, _, hts, _⟩ := ty.info
      obtain ⟨_, cur, hbg, _, _, hcs, _⟩ := id hrow
      have hcz : cur.size ≠ 0 := by omega
      have hz : ∀ w, (Go.sizeOf 84).run Tryd.prog w = .ok 4 w := by
        intro w; simp [Go.sizeOf, typeInfo, hti, hts]
      exact Go.Lib.run_overlaps_apart w1 76 4 84 Tryd.underlying76 4 hz ⟨w.heap.size, 0, none⟩ ⟨g, (i + 1) * 4, none⟩ 1 1 (n + 1 - (i + 1)) (c - (i + 1)) hvb 84 84 4 cur.size (by simp [World.shape?, hb]) (by simp [World.shape?, hbg]) hcz (blk_frozen hb 0) (blk_frozen hb 4)
    simp (maxSteps := 1000000) (disch := omega) only [hid1', hid2', guardK_u, takeG_u, wrap_in64, optK_some', fzK_false', nilK_ptr, brK_true', brK_false', guardK_tt', guardK_ff', guardK_tf', guardK_ft', takeG_tt', takeG_ff', takeG_tf', takeG_ft', pickK_t', pickK_f', pickT_t', pickT_f', notK, extract2_0', extract2_1', extract3_0', extract3_1', extract3_2', here_load, here_fieldAt, here_indexAt, here_extract, here_un, here_conv, here_slice, here_bin, here_nil, and_here, true_and, Nat.zero_add, Nat.add_assoc, Nat.add_zero, Int.toNat_natCast, size_alloc, World.cell?_drew, World.frozen?_drew, Bool.not_true, Bool.not_false, Int.toNat_zero, dec_t, dec_f, int_eq_t, int_eq_f, int_ne_t, int_ne_f, wrap_in, kbgtr3, kbeql3, kbadd3, kbsub3, klen76, hlen76, ksl76_100z, ksl76_100, kcap76, ksl76_010z, ksl76_010, e1, hbe, hi1, hn1, eq_false hci1, if_false]
    refine callV_ext Tryd.func60 (by kernel_rfl) (by kernel_rfl) (by kernel_rfl) (e := Extern.SlicesOverlaps.overlaps #[76, 76] #[4]) (by kernel_rfl) hov ?_
    simp (maxSteps := 1000000) (disch := omega) only [hid1', hid2', guardK_u, takeG_u, wrap_in64, optK_some', fzK_false', nilK_ptr, brK_true', brK_false', guardK_tt', guardK_ff', guardK_tf', guardK_ft', takeG_tt', takeG_ff', takeG_tf', takeG_ft', pickK_t', pickK_f', pickT_t', pickT_f', notK, extract2_0', extract2_1', extract3_0', extract3_1', extract3_2', here_load, here_fieldAt, here_indexAt, here_extract, here_un, here_conv, here_slice, here_bin, here_nil, and_here, true_and, Nat.zero_add, Nat.add_assoc, Nat.add_zero, Int.toNat_natCast, size_alloc, World.cell?_drew, World.frozen?_drew, Bool.not_true, Bool.not_false, Int.toNat_zero, dec_t, dec_f, int_eq_t, int_eq_f, int_ne_t, int_ne_f, wrap_in, kbgtr3, kbeql3, kbadd3, kbsub3, klen76, hlen76, ksl76_100z, ksl76_100, kcap76, ksl76_010z, ksl76_010]
    refine drawK_by (fun _ => True) trivial ?_
    refine take_bin (.int .i64 ((i : Int) + 1)) (fun w' _ => by (simp (maxSteps := 1000000) (disch := omega) only [hid1', hid2', guardK_u, takeG_u, wrap_in64, optK_some', fzK_false', nilK_ptr, brK_true', brK_false', guardK_tt', guardK_ff', guardK_tf', guardK_ft', takeG_tt', takeG_ff', takeG_tf', takeG_ft', pickK_t', pickK_f', pickT_t', pickT_f', notK, extract2_0', extract2_1', extract3_0', extract3_1', extract3_2', here_load, here_fieldAt, here_indexAt, here_extract, here_un, here_conv, here_slice, here_bin, here_nil, and_here, true_and, Nat.zero_add, Nat.add_assoc, Nat.add_zero, Int.toNat_natCast, size_alloc, World.cell?_drew, World.frozen?_drew, Bool.not_true, Bool.not_false, Int.toNat_zero, dec_t, dec_f, int_eq_t, int_eq_f, int_ne_t, int_ne_f, wrap_in, kbgtr3, kbeql3, kbadd3, kbsub3, klen76, hlen76, ksl76_100z, ksl76_100, kcap76, ksl76_010z, ksl76_010]; try (exact ⟨trivial, trivial⟩))) ?_
    try simp (maxSteps := 1000000) (disch := omega) only [hid1', hid2', guardK_u, takeG_u, wrap_in64, optK_some', fzK_false', nilK_ptr, brK_true', brK_false', guardK_tt', guardK_ff', guardK_tf', guardK_ft', takeG_tt', takeG_ff', takeG_tf', takeG_ft', pickK_t', pickK_f', pickT_t', pickT_f', notK, extract2_0', extract2_1', extract3_0', extract3_1', extract3_2', here_load, here_fieldAt, here_indexAt, here_extract, here_un, here_conv, here_slice, here_bin, here_nil, and_here, true_and, Nat.zero_add, Nat.add_assoc, Nat.add_zero, Int.toNat_natCast, size_alloc, World.cell?_drew, World.frozen?_drew, Bool.not_true, Bool.not_false, Int.toNat_zero, dec_t, dec_f, int_eq_t, int_eq_f, int_ne_t, int_ne_f, wrap_in, kbgtr3, kbeql3, kbadd3, kbsub3, klen76, hlen76, ksl76_100z, ksl76_100, kcap76, ksl76_010z, ksl76_010]
    refine take_slice (.slice (some ⟨g, (i + 1) * 4, none⟩) (n + 1 - (i + 1)) (c - (i + 1))) (fun w' _ => by (simp (maxSteps := 1000000) (disch := omega) only [hid1', hid2', guardK_u, takeG_u, wrap_in64, optK_some', fzK_false', nilK_ptr, brK_true', brK_false', guardK_tt', guardK_ff', guardK_tf', guardK_ft', takeG_tt', takeG_ff', takeG_tf', takeG_ft', pickK_t', pickK_f', pickT_t', pickT_f', notK, extract2_0', extract2_1', extract3_0', extract3_1', extract3_2', here_load, here_fieldAt, here_indexAt, here_extract, here_un, here_conv, here_slice, here_bin, here_nil, and_here, true_and, Nat.zero_add, Nat.add_assoc, Nat.add_zero, Int.toNat_natCast, size_alloc, World.cell?_drew, World.frozen?_drew, Bool.not_true, Bool.not_false, Int.toNat_zero, dec_t, dec_f, int_eq_t, int_eq_f, int_ne_t, int_ne_f, wrap_in, kbgtr3, kbeql3, kbadd3, kbsub3, klen76, hlen76, ksl76_100z, ksl76_100, kcap76, ksl76_010z, ksl76_010, hi1, eq_false hci1, if_false]; try (exact ⟨trivial, trivial⟩))) ?_
    try simp (maxSteps := 1000000) (disch := omega) only [hid1', hid2', guardK_u, takeG_u, wrap_in64, optK_some', fzK_false', nilK_ptr, brK_true', brK_false', guardK_tt', guardK_ff', guardK_tf', guardK_ft', takeG_tt', takeG_ff', takeG_tf', takeG_ft', pickK_t', pickK_f', pickT_t', pickT_f', notK, extract2_0', extract2_1', extract3_0', extract3_1', extract3_2', here_load, here_fieldAt, here_indexAt, here_extract, here_un, here_conv, here_slice, here_bin, here_nil, and_here, true_and, Nat.zero_add, Nat.add_assoc, Nat.add_zero, Int.toNat_natCast, size_alloc, World.cell?_drew, World.frozen?_drew, Bool.not_true, Bool.not_false, Int.toNat_zero, dec_t, dec_f, int_eq_t, int_eq_f, int_ne_t, int_ne_f, wrap_in, kbgtr3, kbeql3, kbadd3, kbsub3, klen76, hlen76, ksl76_100z, ksl76_100, kcap76, ksl76_010z, ksl76_010]
    refine take_slice (.slice (some ⟨g, i * 4, none⟩) (n + 1 - i) (c - i)) (fun w' _ => by (simp (maxSteps := 1000000) (disch := omega) only [hid1', hid2', guardK_u, takeG_u, wrap_in64, optK_some', fzK_false', nilK_ptr, brK_true', brK_false', guardK_tt', guardK_ff', guardK_tf', guardK_ft', takeG_tt', takeG_ff', takeG_tf', takeG_ft', pickK_t', pickK_f', pickT_t', pickT_f', notK, extract2_0', extract2_1', extract3_0', extract3_1', extract3_2', here_load, here_fieldAt, here_indexAt, here_extract, here_un, here_conv, here_slice, here_bin, here_nil, and_here, true_and, Nat.zero_add, Nat.add_assoc, Nat.add_zero, Int.toNat_natCast, size_alloc, World.cell?_drew, World.frozen?_drew, Bool.not_true, Bool.not_false, Int.toNat_zero, dec_t, dec_f, int_eq_t, int_eq_f, int_ne_t, int_ne_f, wrap_in, kbgtr3, kbeql3, kbadd3, kbsub3, klen76, hlen76, ksl76_100z, ksl76_100, kcap76, ksl76_010z, ksl76_010, eq_false hci, if_false]; try (exact ⟨trivial, trivial⟩))) ?_
    refine ⟨?_, trivial⟩
    have kd : Chg (fun _ => False) w1 w1.drew := Qt.drew Qt.refl
    have hrow2 := hrow.chg kd (fun h => h)
    have hv2 := hv.chg kd (fun _ _ h => h)
    have hc2 := hc.trans kd
    generalize w1.drew = w2 at *
    have p3 := copy_run (P := Tryd.prog) ty 76 3 hrow2 ((i + 1) * 4) (n + 1 - (i + 1)) (c - (i + 1)) (some ⟨g, i * 4, none⟩) (n + 1 - i) (c - i) (xs.drop (i * 4)) (by rw [hdl, Nat.min_eq_right (by omega)]; omega) (src_row hrow2 i) (by rw [hdl]; omega) hd1 (fun h => by cases h)
    refine copyK p3 ?_
    refine ⟨trivial, ?_⟩
    have r3 := hrow2.put ((i + 1) * 4) (xs.drop (i * 4)) (by omega) (n + 1) (by omega) (by omega) (by rw [hdl]; omega) (by rw [hdl]; omega)
    have k3 : Chg (fun q => q = g) w2 (w2.setCells g ((i + 1) * 4) (xs.drop (i * 4))) := Chg.sets
    have hl1 : (xs.take ((i + 1) * 4)).length = (i + 1) * 4 := by simp; omega
    have hx3 : (xs.take ((i + 1) * 4) ++ xs.drop (i * 4) ++ xs.drop ((i + 1) * 4 + (xs.drop (i * 4)).length)).take ((n + 1) * 4) = xs.take ((i + 1) * 4) ++ xs.drop (i * 4) := by
      rw [List.take_append_of_le_length (by rw [List.length_append, hl1, hdl]; omega), List.take_of_length_le (by rw [List.length_append, hl1, hdl]; omega)]
    rw [hx3] at r3
    generalize (w2.setCells g ((i + 1) * 4) (xs.drop (i * 4))) = w3 at *
    simp (maxSteps := 1000000) (disch := omega) only [hid1', hid2', guardK_u, takeG_u, wrap_in64, optK_some', fzK_false', nilK_ptr, brK_true', brK_false', guardK_tt', guardK_ff', guardK_tf', guardK_ft', takeG_tt', takeG_ff', takeG_tf', takeG_ft', pickK_t', pickK_f', pickT_t', pickT_f', notK, extract2_0', extract2_1', extract3_0', extract3_1', extract3_2', here_load, here_fieldAt, here_indexAt, here_extract, here_un, here_conv, here_slice, here_bin, here_nil, and_here, true_and, Nat.zero_add, Nat.add_assoc, Nat.add_zero, Int.toNat_natCast, size_alloc, World.cell?_drew, World.frozen?_drew, Bool.not_true, Bool.not_false, Int.toNat_zero, dec_t, dec_f, int_eq_t, int_eq_f, int_ne_t, int_ne_f, wrap_in, kbgtr3, kbeql3, kbadd3, kbsub3, klen76, hlen76, ksl76_100z, ksl76_100, kcap76, ksl76_010z, ksl76_010, eq_false hci, if_false]
    have p4 := copy_run (P := Tryd.prog) ty 76 3 r3 (i * 4) (n + 1 - i) (c - i) (some ⟨w.heap.size, 0, none⟩) 1 1 [Value.string k, .string v.1, .int .i64 v.2.1, .int .i64 v.2.2] (by rw [Nat.min_eq_left (by omega)]; rfl) (hv2.chg k3 (fun ad e h => by cases e; exact hvb h)) (by simp only [List.length_cons, List.length_nil]; omega) hv1 (fun h => by cases h)
    refine copyK p4 ?_
    have r4 := r3.put (i * 4) [Value.string k, .string v.1, .int .i64 v.2.1, .int .i64 v.2.2] (by omega) (n + 1) (by omega) (by omega) (by simp only [List.length_cons, List.length_nil]; omega) (by simp only [List.length_cons, List.length_nil]; omega)
    have k4 : Chg (fun q => q = g) w3 (w3.setCells g (i * 4) [Value.string k, .string v.1, .int .i64 v.2.1, .int .i64 v.2.2]) := Chg.sets
    have hx4 : ((xs.take ((i + 1) * 4) ++ xs.drop (i * 4)).take (i * 4) ++ [Value.string k, .string v.1, .int .i64 v.2.1, .int .i64 v.2.2] ++ (xs.take ((i + 1) * 4) ++ xs.drop (i * 4)).drop (i * 4 + [Value.string k, .string v.1, .int .i64 v.2.1, .int .i64 v.2.2].length)).take ((n + 1) * 4) = xs.take (i * 4) ++ [Value.string k, .string v.1, .int .i64 v.2.1, .int .i64 v.2.2] ++ xs.drop (i * 4) := by
      have t1 : (xs.take ((i + 1) * 4) ++ xs.drop (i * 4)).take (i * 4) = xs.take (i * 4) := by
        rw [List.take_append_of_le_length (by omega), List.take_take, Nat.min_eq_left (by omega)]
      have t2 : (xs.take ((i + 1) * 4) ++ xs.drop (i * 4)).drop (i * 4 + [Value.string k, .string v.1, .int .i64 v.2.1, .int .i64 v.2.2].length) = xs.drop (i * 4) := by
        rw [List.drop_append, List.drop_eq_nil_of_le (by simp only [List.length_cons, List.length_nil]; omega), List.nil_append, hl1]
        have e : i * 4 + [Value.string k, .string v.1, .int .i64 v.2.1, .int .i64 v.2.2].length - (i + 1) * 4 = 0 := by simp only [List.length_cons, List.length_nil]; omega
        rw [e, List.drop_zero]
      have hl2 : (xs.take (i * 4)).length = i * 4 := by simp; omega
      rw [t1, t2, List.take_of_length_le]
      simp only [List.length_append, hl2, List.length_cons, List.length_nil, hdl]; omega
    rw [hx4] at r4
    simp (maxSteps := 1000000) (disch := omega) only [hid1', hid2', guardK_u, takeG_u, wrap_in64, optK_some', fzK_false', nilK_ptr, brK_true', brK_false', guardK_tt', guardK_ff', guardK_tf', guardK_ft', takeG_tt', takeG_ff', takeG_tf', takeG_ft', pickK_t', pickK_f', pickT_t', pickT_f', notK, extract2_0', extract2_1', extract3_0', extract3_1', extract3_2', here_load, here_fieldAt, here_indexAt, here_extract, here_un, here_conv, here_slice, here_bin, here_nil, and_here, true_and, Nat.zero_add, Nat.add_assoc, Nat.add_zero, Int.toNat_natCast, size_alloc, World.cell?_drew, World.frozen?_drew, Bool.not_true, Bool.not_false, Int.toNat_zero, dec_t, dec_f, int_eq_t, int_eq_f, int_ne_t, int_ne_f, wrap_in, kbgtr3, kbeql3, kbadd3, kbsub3, klen76, hlen76, ksl76_100z, ksl76_100, kcap76, ksl76_010z, ksl76_010]
    refine hK (some ⟨g, 0, none⟩) c (some g) _ r4.own2 ?_ (fun q hq => .inl hq)
    exact ((hc2.mono (fun _ _ h => h.elim)).trans (k3.trans k4)).mono (fun q _ h => by rw [h])
end Go.Proofs.YtbkficgmjgbbeaaDoor.SE

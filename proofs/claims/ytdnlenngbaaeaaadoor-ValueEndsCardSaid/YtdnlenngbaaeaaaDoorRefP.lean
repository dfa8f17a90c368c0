/- The document's ParseValue. Conditions: at most 1000 bytes. -/
import Derived.Test.YtdnlenngbaaeaaaDoorFld
set_option linter.unusedVariables false
set_option linter.unusedSimpArgs false
set_option maxRecDepth 100000
namespace Go.Proofs.YtdnlenngbaaeaaaDoor
open Go.RowKit Go.Cn
theorem getLastD_getD (s : List UInt8) (h : s ≠ []) : s.getLastD 0 = s.getD (s.length - 1) 0 := by
  rw [List.getLastD_eq_getLast?, List.getD_eq_getElem?_getD, List.getLast?_eq_getElem?]
theorem beq_u8 (c d : UInt8) : ((c.toNat : Int) == (d.toNat : Int)) = decide (c = d) := by
  by_cases h : c = d
  · rw [h, decide_eq_true rfl]; exact beq_self_eq_true _
  · rw [decide_eq_false h, beq_eq_false_iff_ne]
    exact fun e => h (UInt8.toNat_inj.1 (by omega))
/-- A row of numbers out of words. -/
def resP (ps : List (List UInt8)) : Val × Int := match numsL ps with
  | none => (v0, 2)
  | some l => if checkV (3, 0, ByteArray.empty, l) ≠ 0 then (v0, checkV (3, 0, ByteArray.empty, l)) else ((3, 0, ByteArray.empty, l), 0)
theorem raw4 (w : World) (x y z u : Value) (t : TypeId) : Qt w (w.alloc (.cells #[x, y, z, u] t)) ∧ (w.alloc (.cells #[x, y, z, u] t)).heap[w.heap.size]? = some (.cells #[x, y, z, u] t (0, 0)) := ⟨Chg.alloc Qt.refl _, blk_new _ _⟩
set_option maxHeartbeats 8000000 in
theorem parse20 {s : List UInt8} {w : World} {K : Value → World → Prop} (hs : s.length ≤ 1000)
    (hK : ∀ A c w', Qt w w' → Reads w' A (ints (parseV s).1.2.2.2) → (∀ ad, A = some ad → w.heap.size ≤ ad.block) → K (.tuple #[vv (parseV s).1 A c, .int .i64 (parseV s).2]) w') : CallK Tryd.prog 20 #[.string (txt s)] K w := by
  refine F20_calls _ _ _ ?_; unfold F20
  obtain ⟨q1, h1⟩ := zer4 w 28
  have s1 := q1.size
  have l1 := blk_lt h1
  have hsz := txt_size s
  have h0z : Int.toNat 0 = 0 := rfl
  have hL : ((s.length : Int) - 1).toNat = s.length - 1 := by omega
  have hsl : 2 ≤ s.length → ∀ (K : Value → World → Prop) (w : World), SliceK Tryd.prog 9 (.string (txt s)) (some (.int .i64 1)) (some (.int .i64 ((s.length : Int) - 1))) none K w = K (.string (txt s.tail.dropLast)) w := fun h K w => by
    rw [show ((s.length : Int) - 1) = ((s.length - 1 : Nat) : Int) by omega]
    have := slice_txt_lh Tryd.underlying9 s 1 (s.length - 1) ⟨by omega, by omega⟩ K w
    rw [mid_eq] at this
    exact this
  have hins : ∀ a b, insideL a b s = if 2 ≤ s.length ∧ s.getD 0 0 = a ∧ s.getD (s.length - 1) 0 = b then some s.tail.dropLast else none := fun a b => by
    unfold insideL
    by_cases h : 2 ≤ s.length
    · have e1 : s.headD 0 = s.getD 0 0 := by cases s <;> rfl
      rw [e1, getLastD_getD s (fun e => by rw [e] at h; simp at h)]
    · rw [if_neg (fun e => h e.1), if_neg (fun e => h e.1)]
  have b34 : ∀ c : UInt8, ((c.toNat : Int) == 34) = decide (c = 34) := fun c => beq_u8 c 34
  have b91 : ∀ c : UInt8, ((c.toNat : Int) == 91) = decide (c = 91) := fun c => beq_u8 c 91
  have b93 : ∀ c : UInt8, ((c.toNat : Int) == 93) = decide (c = 93) := fun c => beq_u8 c 93
  have hcase : s.length < 2 ∨ (2 ≤ s.length ∧ s.getD 0 0 = 34 ∧ s.getD (s.length - 1) 0 ≠ 34) ∨ (2 ≤ s.length ∧ s.getD 0 0 = 91 ∧ s.getD (s.length - 1) 0 ≠ 93) ∨ (2 ≤ s.length ∧ s.getD 0 0 ≠ 34 ∧ s.getD 0 0 ≠ 91) ∨ (2 ≤ s.length ∧ s.getD 0 0 = 34 ∧ s.getD (s.length - 1) 0 = 34) ∨ (2 ≤ s.length ∧ s.getD 0 0 = 91 ∧ s.getD (s.length - 1) 0 = 93) := by
    by_cases h : 2 ≤ s.length
    · by_cases h1 : s.getD 0 0 = 34
      · by_cases h2 : s.getD (s.length - 1) 0 = 34
        · exact .inr (.inr (.inr (.inr (.inl ⟨h, h1, h2⟩))))
        · exact .inr (.inl ⟨h, h1, h2⟩)
      · by_cases h2 : s.getD 0 0 = 91
        · by_cases h3 : s.getD (s.length - 1) 0 = 93
          · exact .inr (.inr (.inr (.inr (.inr ⟨h, h2, h3⟩))))
          · exact .inr (.inr (.inl ⟨h, h2, h3⟩))
        · exact .inr (.inr (.inr (.inl ⟨h, h1, h2⟩)))
    · exact .inl (by omega)
  have n34 : (91 : UInt8) ≠ 34 := by decide
  unfold parseV readV at hK
  rw [hins, hins] at hK
  simp (maxSteps := 1000000) (disch := omega) only [hid1', hid2', guardK_u, takeG_u, wrap_in64, optK_some', fzK_false', nilK_ptr, brK_true', brK_false', guardK_tt', guardK_ff', guardK_tf', guardK_ft', takeG_tt', takeG_ff', takeG_tf', takeG_ft', pickK_t', pickK_f', pickT_t', pickT_f', notK, extract2_0', extract2_1', extract3_0', extract3_1', extract3_2', here_load, here_fieldAt, here_indexAt, here_extract, here_un, here_conv, here_slice, here_bin, here_nil, and_here, true_and, Nat.zero_add, Nat.add_assoc, Nat.add_zero, Int.toNat_natCast, size_alloc, World.cell?_drew, World.frozen?_drew, Bool.not_true, Bool.not_false, Int.toNat_zero, dec_t, dec_f, int_eq_t, int_eq_f, int_ne_t, int_ne_f, wrap_in, kbneq3, kbsub3, klen9, hlen9, kal28, kst28f, kld28, kblss3, kbadd3, kld22, kld9, kbeql5, kfa28_3, kbgeq3, kbd28_0_2, kbd28_, kbd28_0, klen59, hlen59, kia59, kbs22_1_0, kst22, kbd28_0_1, hsz]
  generalize (w.alloc (.cells #[.int .i64 0, .int .i64 0, .string ByteArray.empty, .slice none 0 0] 28)) = w1 at *
  generalize hb1 : w.heap.size = b1 at *
  rcases hcase with c1 | ⟨c1, c2, c3⟩ | ⟨c1, c2, c3⟩ | ⟨c1, c2, c3⟩ | ⟨c1, c2, c3⟩ | ⟨c1, c2, c3⟩
  case' inl =>
    rw [if_neg (fun h => by omega), if_neg (fun h => by omega)] at hK
    simp (maxSteps := 1000000) (disch := omega) only [hid1', hid2', guardK_u, takeG_u, wrap_in64, optK_some', fzK_false', nilK_ptr, brK_true', brK_false', guardK_tt', guardK_ff', guardK_tf', guardK_ft', takeG_tt', takeG_ff', takeG_tf', takeG_ft', pickK_t', pickK_f', pickT_t', pickT_f', notK, extract2_0', extract2_1', extract3_0', extract3_1', extract3_2', here_load, here_fieldAt, here_indexAt, here_extract, here_un, here_conv, here_slice, here_bin, here_nil, and_here, true_and, Nat.zero_add, Nat.add_assoc, Nat.add_zero, Int.toNat_natCast, size_alloc, World.cell?_drew, World.frozen?_drew, Bool.not_true, Bool.not_false, Int.toNat_zero, dec_t, dec_f, int_eq_t, int_eq_f, int_ne_t, int_ne_f, wrap_in, kbneq3, kbsub3, klen9, hlen9, kal28, kst28f, kld28, kblss3, kbadd3, kld22, kld9, kbeql5, kfa28_3, kbgeq3, kbd28_0_2, kbd28_, kbd28_0, klen59, hlen59, kia59, kbs22_1_0, kst22, kbd28_0_1, hsz, guardK_u]
  case' inr.inl =>
    rw [if_neg (fun h => c3 h.2.2), if_neg (fun h => by rw [c2] at h; exact absurd h.2.1 (by decide))] at hK
    have d1 : decide (s.getD 0 0 = 34) = true := decide_eq_true c2
    have d2 : decide (s.getD (s.length - 1) 0 = 34) = false := decide_eq_false c3
    have d3 : decide (s.getD 0 0 = 91) = false := decide_eq_false (fun h => by rw [c2] at h; exact absurd h (by decide))
    simp (maxSteps := 1000000) (disch := omega) only [hid1', hid2', guardK_u, takeG_u, wrap_in64, optK_some', fzK_false', nilK_ptr, brK_true', brK_false', guardK_tt', guardK_ff', guardK_tf', guardK_ft', takeG_tt', takeG_ff', takeG_tf', takeG_ft', pickK_t', pickK_f', pickT_t', pickT_f', notK, extract2_0', extract2_1', extract3_0', extract3_1', extract3_2', here_load, here_fieldAt, here_indexAt, here_extract, here_un, here_conv, here_slice, here_bin, here_nil, and_here, true_and, Nat.zero_add, Nat.add_assoc, Nat.add_zero, Int.toNat_natCast, size_alloc, World.cell?_drew, World.frozen?_drew, Bool.not_true, Bool.not_false, Int.toNat_zero, dec_t, dec_f, int_eq_t, int_eq_f, int_ne_t, int_ne_f, wrap_in, kbneq3, kbsub3, klen9, hlen9, kal28, kst28f, kld28, kblss3, kbadd3, kld22, kld9, kbeql5, kfa28_3, kbgeq3, kbd28_0_2, kbd28_, kbd28_0, klen59, hlen59, kia59, kbs22_1_0, kst22, kbd28_0_1, hsz, ix9, h0z, hL, b34, b91, b93, d1, d2, d3, guardK_u]
  case' inr.inr.inl =>
    rw [if_neg (fun h => n34 (by rw [← h.2.1, c2])), if_neg (fun h => c3 h.2.2)] at hK
    have d1 : decide (s.getD 0 0 = 34) = false := decide_eq_false (fun h => n34 (by rw [← h, c2]))
    have d2 : decide (s.getD (s.length - 1) 0 = 93) = false := decide_eq_false c3
    have d3 : decide (s.getD 0 0 = 91) = true := decide_eq_true c2
    simp (maxSteps := 1000000) (disch := omega) only [hid1', hid2', guardK_u, takeG_u, wrap_in64, optK_some', fzK_false', nilK_ptr, brK_true', brK_false', guardK_tt', guardK_ff', guardK_tf', guardK_ft', takeG_tt', takeG_ff', takeG_tf', takeG_ft', pickK_t', pickK_f', pickT_t', pickT_f', notK, extract2_0', extract2_1', extract3_0', extract3_1', extract3_2', here_load, here_fieldAt, here_indexAt, here_extract, here_un, here_conv, here_slice, here_bin, here_nil, and_here, true_and, Nat.zero_add, Nat.add_assoc, Nat.add_zero, Int.toNat_natCast, size_alloc, World.cell?_drew, World.frozen?_drew, Bool.not_true, Bool.not_false, Int.toNat_zero, dec_t, dec_f, int_eq_t, int_eq_f, int_ne_t, int_ne_f, wrap_in, kbneq3, kbsub3, klen9, hlen9, kal28, kst28f, kld28, kblss3, kbadd3, kld22, kld9, kbeql5, kfa28_3, kbgeq3, kbd28_0_2, kbd28_, kbd28_0, klen59, hlen59, kia59, kbs22_1_0, kst22, kbd28_0_1, hsz, ix9, h0z, hL, b34, b91, b93, d1, d2, d3, guardK_u]
  case' inr.inr.inr.inl =>
    rw [if_neg (fun h => c2 h.2.1), if_neg (fun h => c3 h.2.1)] at hK
    have d1 : decide (s.getD 0 0 = 34) = false := decide_eq_false c2
    have d3 : decide (s.getD 0 0 = 91) = false := decide_eq_false c3
    simp (maxSteps := 1000000) (disch := omega) only [hid1', hid2', guardK_u, takeG_u, wrap_in64, optK_some', fzK_false', nilK_ptr, brK_true', brK_false', guardK_tt', guardK_ff', guardK_tf', guardK_ft', takeG_tt', takeG_ff', takeG_tf', takeG_ft', pickK_t', pickK_f', pickT_t', pickT_f', notK, extract2_0', extract2_1', extract3_0', extract3_1', extract3_2', here_load, here_fieldAt, here_indexAt, here_extract, here_un, here_conv, here_slice, here_bin, here_nil, and_here, true_and, Nat.zero_add, Nat.add_assoc, Nat.add_zero, Int.toNat_natCast, size_alloc, World.cell?_drew, World.frozen?_drew, Bool.not_true, Bool.not_false, Int.toNat_zero, dec_t, dec_f, int_eq_t, int_eq_f, int_ne_t, int_ne_f, wrap_in, kbneq3, kbsub3, klen9, hlen9, kal28, kst28f, kld28, kblss3, kbadd3, kld22, kld9, kbeql5, kfa28_3, kbgeq3, kbd28_0_2, kbd28_, kbd28_0, klen59, hlen59, kia59, kbs22_1_0, kst22, kbd28_0_1, hsz, ix9, h0z, hL, b34, b91, b93, d1, d3, guardK_u]
  case inr.inr.inr.inr.inl =>
    rw [if_pos ⟨c1, c2, c3⟩] at hK
    simp only at hK
    have d1 : decide (s.getD 0 0 = 34) = true := decide_eq_true c2
    have d2 : decide (s.getD (s.length - 1) 0 = 34) = true := decide_eq_true c3
    have hsl' := hsl c1
    have hml : s.tail.dropLast.length ≤ 1000 := by simp; omega
    generalize s.tail.dropLast = m at *
    simp (maxSteps := 1000000) (disch := omega) only [hid1', hid2', guardK_u, takeG_u, wrap_in64, optK_some', fzK_false', nilK_ptr, brK_true', brK_false', guardK_tt', guardK_ff', guardK_tf', guardK_ft', takeG_tt', takeG_ff', takeG_tf', takeG_ft', pickK_t', pickK_f', pickT_t', pickT_f', notK, extract2_0', extract2_1', extract3_0', extract3_1', extract3_2', here_load, here_fieldAt, here_indexAt, here_extract, here_un, here_conv, here_slice, here_bin, here_nil, and_here, true_and, Nat.zero_add, Nat.add_assoc, Nat.add_zero, Int.toNat_natCast, size_alloc, World.cell?_drew, World.frozen?_drew, Bool.not_true, Bool.not_false, Int.toNat_zero, dec_t, dec_f, int_eq_t, int_eq_f, int_ne_t, int_ne_f, wrap_in, kbneq3, kbsub3, klen9, hlen9, kal28, kst28f, kld28, kblss3, kbadd3, kld22, kld9, kbeql5, kfa28_3, kbgeq3, kbd28_0_2, kbd28_, kbd28_0, klen59, hlen59, kia59, kbs22_1_0, kst22, kbd28_0_1, hsz, ix9, h0z, hL, b34, b91, b93, d1, d2, hsl']
    obtain ⟨q2, h23⟩ := raw4 w1 (.int .i64 2) (.int .i64 0) (.string (txt m)) (.slice none 0 0) 28
    have s2 := q2.size
    have l2 := blk_lt h23
    have h13 := q2.heap h1 (fun h => h)
    have q3 := q1.trans q2
    generalize (w1.alloc (.cells #[.int .i64 2, .int .i64 0, .string (txt m), .slice none 0 0] 28)) = w3 at *
    generalize hb2 : w1.heap.size = b2 at *
    obtain ⟨x0, x1, x2, x3⟩ := cell4 h23
    simp (maxSteps := 1000000) (disch := omega) only [hid1', hid2', guardK_u, takeG_u, wrap_in64, optK_some', fzK_false', nilK_ptr, brK_true', brK_false', guardK_tt', guardK_ff', guardK_tf', guardK_ft', takeG_tt', takeG_ff', takeG_tf', takeG_ft', pickK_t', pickK_f', pickT_t', pickT_f', notK, extract2_0', extract2_1', extract3_0', extract3_1', extract3_2', here_load, here_fieldAt, here_indexAt, here_extract, here_un, here_conv, here_slice, here_bin, here_nil, and_here, true_and, Nat.zero_add, Nat.add_assoc, Nat.add_zero, Int.toNat_natCast, size_alloc, World.cell?_drew, World.frozen?_drew, Bool.not_true, Bool.not_false, Int.toNat_zero, dec_t, dec_f, int_eq_t, int_eq_f, int_ne_t, int_ne_f, wrap_in, kbneq3, kbsub3, klen9, hlen9, kal28, kst28f, kld28, kblss3, kbadd3, kld22, kld9, kbeql5, kfa28_3, kbgeq3, kbd28_0_2, kbd28_, kbd28_0, klen59, hlen59, kia59, kbs22_1_0, kst22, kbd28_0_1, x0, x1, x2, x3]
    refine ck11 (check11 (a := (2, 0, txt m, [])) (A := none) (c := 0) (.inl rfl) (by simp) (by show (txt m).size ≤ _; rw [txt_size]; omega) ?_)
    intro w4 q4
    have h14 := q4.heap h13 (fun h => h)
    obtain ⟨x0, x1, x2, x3⟩ := cell4 (q4.heap h23 (fun h => h))
    have q04 := q3.trans q4
    by_cases hc : checkV (2, 0, txt m, []) = 0
    · rw [if_neg (fun h => h hc)] at hK
      have ec : (checkV (2, 0, txt m, []) != 0) = false := by rw [hc]; rfl
      obtain ⟨h15, k5⟩ := store4 (.int .i64 2) (.int .i64 0) (.string (txt m)) (.slice none 0 0) h14
      have q5 := qt_sets (w1 := w4) (b := b1) (vs := [.int .i64 2, .int .i64 0, .string (txt m), .slice none 0 0]) q04 (by omega)
      obtain ⟨y0, y1, y2, y3⟩ := cell4 h15
      simp (maxSteps := 1000000) (disch := omega) only [hid1', hid2', guardK_u, takeG_u, wrap_in64, optK_some', fzK_false', nilK_ptr, brK_true', brK_false', guardK_tt', guardK_ff', guardK_tf', guardK_ft', takeG_tt', takeG_ff', takeG_tf', takeG_ft', pickK_t', pickK_f', pickT_t', pickT_f', notK, extract2_0', extract2_1', extract3_0', extract3_1', extract3_2', here_load, here_fieldAt, here_indexAt, here_extract, here_un, here_conv, here_slice, here_bin, here_nil, and_here, true_and, Nat.zero_add, Nat.add_assoc, Nat.add_zero, Int.toNat_natCast, size_alloc, World.cell?_drew, World.frozen?_drew, Bool.not_true, Bool.not_false, Int.toNat_zero, dec_t, dec_f, int_eq_t, int_eq_f, int_ne_t, int_ne_f, wrap_in, kbneq3, kbsub3, klen9, hlen9, kal28, kst28f, kld28, kblss3, kbadd3, kld22, kld9, kbeql5, kfa28_3, kbgeq3, kbd28_0_2, kbd28_, kbd28_0, klen59, hlen59, kia59, kbs22_1_0, kst22, kbd28_0_1, ec, x0, x1, x2, x3]
      refine aggStoreK (there4 h14) (by kernel_rfl) (all4 rfl rfl rfl rfl) ?_
      simp (maxSteps := 1000000) (disch := omega) only [hid1', hid2', guardK_u, takeG_u, wrap_in64, optK_some', fzK_false', nilK_ptr, brK_true', brK_false', guardK_tt', guardK_ff', guardK_tf', guardK_ft', takeG_tt', takeG_ff', takeG_tf', takeG_ft', pickK_t', pickK_f', pickT_t', pickT_f', notK, extract2_0', extract2_1', extract3_0', extract3_1', extract3_2', here_load, here_fieldAt, here_indexAt, here_extract, here_un, here_conv, here_slice, here_bin, here_nil, and_here, true_and, Nat.zero_add, Nat.add_assoc, Nat.add_zero, Int.toNat_natCast, size_alloc, World.cell?_drew, World.frozen?_drew, Bool.not_true, Bool.not_false, Int.toNat_zero, dec_t, dec_f, int_eq_t, int_eq_f, int_ne_t, int_ne_f, wrap_in, kbneq3, kbsub3, klen9, hlen9, kal28, kst28f, kld28, kblss3, kbadd3, kld22, kld9, kbeql5, kfa28_3, kbgeq3, kbd28_0_2, kbd28_, kbd28_0, klen59, hlen59, kia59, kbs22_1_0, kst22, kbd28_0_1, y0, y1, y2, y3]
      exact hK none 0 _ q5 (.inl rfl) (fun _ h => by cases h)
    · rw [if_pos hc] at hK
      have ec : (checkV (2, 0, txt m, []) != 0) = true := by rw [bne_iff_ne]; exact hc
      obtain ⟨h15, k5⟩ := store4 (.int .i64 0) (.int .i64 0) (.string ByteArray.empty) (.slice none 0 0) h14
      have q5 := qt_sets (w1 := w4) (b := b1) (vs := [.int .i64 0, .int .i64 0, .string ByteArray.empty, .slice none 0 0]) q04 (by omega)
      obtain ⟨y0, y1, y2, y3⟩ := cell4 h15
      simp (maxSteps := 1000000) (disch := omega) only [hid1', hid2', guardK_u, takeG_u, wrap_in64, optK_some', fzK_false', nilK_ptr, brK_true', brK_false', guardK_tt', guardK_ff', guardK_tf', guardK_ft', takeG_tt', takeG_ff', takeG_tf', takeG_ft', pickK_t', pickK_f', pickT_t', pickT_f', notK, extract2_0', extract2_1', extract3_0', extract3_1', extract3_2', here_load, here_fieldAt, here_indexAt, here_extract, here_un, here_conv, here_slice, here_bin, here_nil, and_here, true_and, Nat.zero_add, Nat.add_assoc, Nat.add_zero, Int.toNat_natCast, size_alloc, World.cell?_drew, World.frozen?_drew, Bool.not_true, Bool.not_false, Int.toNat_zero, dec_t, dec_f, int_eq_t, int_eq_f, int_ne_t, int_ne_f, wrap_in, kbneq3, kbsub3, klen9, hlen9, kal28, kst28f, kld28, kblss3, kbadd3, kld22, kld9, kbeql5, kfa28_3, kbgeq3, kbd28_0_2, kbd28_, kbd28_0, klen59, hlen59, kia59, kbs22_1_0, kst22, kbd28_0_1, ec]
      refine aggStoreK (there4 h14) (by kernel_rfl) (all4 rfl rfl rfl rfl) ?_
      simp (maxSteps := 1000000) (disch := omega) only [hid1', hid2', guardK_u, takeG_u, wrap_in64, optK_some', fzK_false', nilK_ptr, brK_true', brK_false', guardK_tt', guardK_ff', guardK_tf', guardK_ft', takeG_tt', takeG_ff', takeG_tf', takeG_ft', pickK_t', pickK_f', pickT_t', pickT_f', notK, extract2_0', extract2_1', extract3_0', extract3_1', extract3_2', here_load, here_fieldAt, here_indexAt, here_extract, here_un, here_conv, here_slice, here_bin, here_nil, and_here, true_and, Nat.zero_add, Nat.add_assoc, Nat.add_zero, Int.toNat_natCast, size_alloc, World.cell?_drew, World.frozen?_drew, Bool.not_true, Bool.not_false, Int.toNat_zero, dec_t, dec_f, int_eq_t, int_eq_f, int_ne_t, int_ne_f, wrap_in, kbneq3, kbsub3, klen9, hlen9, kal28, kst28f, kld28, kblss3, kbadd3, kld22, kld9, kbeql5, kfa28_3, kbgeq3, kbd28_0_2, kbd28_, kbd28_0, klen59, hlen59, kia59, kbs22_1_0, kst22, kbd28_0_1, y0, y1, y2, y3]
      exact hK none 0 _ q5 (.inl rfl) (fun _ h => by cases h)
  case inr.inr.inr.inr.inr =>
    rw [if_neg (fun h => n34 (by rw [← h.2.1, c2])), if_pos ⟨c1, c2, c3⟩] at hK
    simp only at hK
    have d1 : decide (s.getD 0 0 = 34) = false := decide_eq_false (fun h => n34 (by rw [← h, c2]))
    have d2 : decide (s.getD (s.length - 1) 0 = 93) = true := decide_eq_true c3
    have d3 : decide (s.getD 0 0 = 91) = true := decide_eq_true c2
    have hsl' := hsl c1
    have hml : s.tail.dropLast.length ≤ 1000 := by simp; omega
    generalize s.tail.dropLast = m at *
    simp (maxSteps := 1000000) (disch := omega) only [hid1', hid2', guardK_u, takeG_u, wrap_in64, optK_some', fzK_false', nilK_ptr, brK_true', brK_false', guardK_tt', guardK_ff', guardK_tf', guardK_ft', takeG_tt', takeG_ff', takeG_tf', takeG_ft', pickK_t', pickK_f', pickT_t', pickT_f', notK, extract2_0', extract2_1', extract3_0', extract3_1', extract3_2', here_load, here_fieldAt, here_indexAt, here_extract, here_un, here_conv, here_slice, here_bin, here_nil, and_here, true_and, Nat.zero_add, Nat.add_assoc, Nat.add_zero, Int.toNat_natCast, size_alloc, World.cell?_drew, World.frozen?_drew, Bool.not_true, Bool.not_false, Int.toNat_zero, dec_t, dec_f, int_eq_t, int_eq_f, int_ne_t, int_ne_f, wrap_in, kbneq3, kbsub3, klen9, hlen9, kal28, kst28f, kld28, kblss3, kbadd3, kld22, kld9, kbeql5, kfa28_3, kbgeq3, kbd28_0_2, kbd28_, kbd28_0, klen59, hlen59, kia59, kbs22_1_0, kst22, kbd28_0_1, hsz, ix9, h0z, hL, b34, b91, b93, d1, d2, d3, guardK_u]
    obtain ⟨q2, h23⟩ := raw4 w1 (.int .i64 3) (.int .i64 0) (.string ByteArray.empty) (.slice none 0 0) 28
    have s2 := q2.size
    have l2 := blk_lt h23
    have h13 := q2.heap h1 (fun h => h)
    have q3 := q1.trans q2
    generalize (w1.alloc (.cells #[.int .i64 3, .int .i64 0, .string ByteArray.empty, .slice none 0 0] 28)) = w3 at *
    generalize hb2 : w1.heap.size = b8 at *
    simp (maxSteps := 1000000) (disch := omega) only [hid1', hid2', guardK_u, takeG_u, wrap_in64, optK_some', fzK_false', nilK_ptr, brK_true', brK_false', guardK_tt', guardK_ff', guardK_tf', guardK_ft', takeG_tt', takeG_ff', takeG_tf', takeG_ft', pickK_t', pickK_f', pickT_t', pickT_f', notK, extract2_0', extract2_1', extract3_0', extract3_1', extract3_2', here_load, here_fieldAt, here_indexAt, here_extract, here_un, here_conv, here_slice, here_bin, here_nil, and_here, true_and, Nat.zero_add, Nat.add_assoc, Nat.add_zero, Int.toNat_natCast, size_alloc, World.cell?_drew, World.frozen?_drew, Bool.not_true, Bool.not_false, Int.toNat_zero, dec_t, dec_f, int_eq_t, int_eq_f, int_ne_t, int_ne_f, wrap_in, kbneq3, kbsub3, klen9, hlen9, kal28, kst28f, kld28, kblss3, kbadd3, kld22, kld9, kbeql5, kfa28_3, kbgeq3, kbd28_0_2, kbd28_, kbd28_0, klen59, hlen59, kia59, kbs22_1_0, kst22, kbd28_0_1, hsl']
    refine ck43 (fld43 (by omega) ?_)
    intro A3 c3' F3 w4 o3 q4 f3
    have r3 := reads_own o3
    have fr3 := own_block o3 f3
    have h14 := q4.heap h13 (fun h => h)
    have h84 := q4.heap h23 (fun h => h)
    have s4 := q4.size
    have q04 := q3.trans q4
    have hwl : (fldS m).length ≤ 1001 := by
      unfold fldS
      have := splitS_len m
      split
      · simp
      · omega
    have hwp : ∀ p ∈ fldS m, p.length ≤ 1000 := fun p hp => by
      unfold fldS at hp
      split at hp
      · cases hp
      · have := partS_len m p hp; omega
    have hK2 : ∀ A c w', Qt w w' → Reads w' A (ints (resP (fldS m)).1.2.2.2) → (∀ ad, A = some ad → b1 ≤ ad.block) → K (.tuple #[vv (resP (fldS m)).1 A c, .int .i64 (resP (fldS m)).2]) w' := by
      unfold resP fldS
      by_cases hm : m = []
      · rw [if_pos hm] at hK ⊢
        exact hK
      · rw [if_neg hm] at hK ⊢
        cases hn : numsL (splitS m) with
        | none => rw [hn] at hK; exact hK
        | some l => rw [hn] at hK; exact hK
    clear hK
    have hK := hK2
    unfold resP at hK
    clear hsl hsl' hins
    generalize fldS m = ps at *
    simp (maxSteps := 1000000) (disch := omega) only [hid1', hid2', guardK_u, takeG_u, wrap_in64, optK_some', fzK_false', nilK_ptr, brK_true', brK_false', guardK_tt', guardK_ff', guardK_tf', guardK_ft', takeG_tt', takeG_ff', takeG_tf', takeG_ft', pickK_t', pickK_f', pickT_t', pickT_f', notK, extract2_0', extract2_1', extract3_0', extract3_1', extract3_2', here_load, here_fieldAt, here_indexAt, here_extract, here_un, here_conv, here_slice, here_bin, here_nil, and_here, true_and, Nat.zero_add, Nat.add_assoc, Nat.add_zero, Int.toNat_natCast, size_alloc, World.cell?_drew, World.frozen?_drew, Bool.not_true, Bool.not_false, Int.toNat_zero, dec_t, dec_f, int_eq_t, int_eq_f, int_ne_t, int_ne_f, wrap_in, kbneq3, kbsub3, klen9, hlen9, kal28, kst28f, kld28, kblss3, kbadd3, kld22, kld9, kbeql5, kfa28_3, kbgeq3, kbd28_0_2, kbd28_, kbd28_0, klen59, hlen59, kia59, kbs22_1_0, kst22, kbd28_0_1]
    refine loopK1 (fun v w' => ∃ (i : Nat) (ns : List Int) (F : Option Nat) (A : Option Addr) (c : Nat), v = .int .i64 i ∧ i ≤ ps.length ∧ numsL (ps.take i) = some ns ∧ Own w' 2 1 (.slice A ns.length c) ns.length (ints ns) F ∧ (∀ k, F = some k → w4.heap.size ≤ k) ∧ w'.heap[b1]? = some (.cells #[.int .i64 0, .int .i64 0, .string ByteArray.empty, .slice none 0 0] 28 (0, 0)) ∧ w'.heap[b8]? = some (.cells #[.int .i64 3, .int .i64 0, .string ByteArray.empty, .slice A ns.length c] 28 (0, 0)) ∧ Chg (fun q => q = b8) w4 w') (fun v _ => ps.length - (intOf v).toNat) ⟨0, [], none, none, 0, rfl, by omega, rfl, Own.nil _ _ _, fun _ h => (by cases h), h14, h84, Chg.refl _ _⟩ ?_
    clear h23 h13 h14 h84
    rintro _ _ w5 ⟨i, ns, F, A, c, rfl, hi, hns, o5, hF, h15, h85, k5⟩
    have s5 := k5.size
    have hnl := numsL_len _ _ hns
    rw [List.length_take] at hnl
    have q05 : Qt w w5 := Qt.then q04 k5 (fun k hk => by omega)
    have r5 : Reads w5 A3 (strs ps) := r3.chg k5 (fun ad h e => by
      have := fr3 ad h
      omega)
    by_cases hlt : i < ps.length
    · obtain ⟨b, o, rfl, z1⟩ := strs_at r5 hlt
      have htk : ps.take (i + 1) = ps.take i ++ [ps[i]] := List.take_succ_eq_append_getElem hlt
      have hwm : ps[i] ∈ ps := List.getElem_mem hlt
      have hsn := numsL_snoc (ps.take i) ps[i]
      rw [← htk, hns] at hsn
      have hpl := hwp _ hwm
      generalize ps[i] = p at *
      simp (maxSteps := 1000000) (disch := omega) only [hid1', hid2', guardK_u, takeG_u, wrap_in64, optK_some', fzK_false', nilK_ptr, brK_true', brK_false', guardK_tt', guardK_ff', guardK_tf', guardK_ft', takeG_tt', takeG_ff', takeG_tf', takeG_ft', pickK_t', pickK_f', pickT_t', pickT_f', notK, extract2_0', extract2_1', extract3_0', extract3_1', extract3_2', here_load, here_fieldAt, here_indexAt, here_extract, here_un, here_conv, here_slice, here_bin, here_nil, and_here, true_and, Nat.zero_add, Nat.add_assoc, Nat.add_zero, Int.toNat_natCast, size_alloc, World.cell?_drew, World.frozen?_drew, Bool.not_true, Bool.not_false, Int.toNat_zero, dec_t, dec_f, int_eq_t, int_eq_f, int_ne_t, int_ne_f, wrap_in, kbneq3, kbsub3, klen9, hlen9, kal28, kst28f, kld28, kblss3, kbadd3, kld22, kld9, kbeql5, kfa28_3, kbgeq3, kbd28_0_2, kbd28_, kbd28_0, klen59, hlen59, kia59, kbs22_1_0, kst22, kbd28_0_1, z1]
      refine ck44 (num44 (by omega) ?_)
      cases hn : numR p with
      | some x =>
        rw [hn] at hsn
        simp only [Option.getD_some, Option.isSome_some]
        obtain ⟨x0, x1, x2, x3⟩ := cell4 h85
        have hF8 : F ≠ some b8 := fun e => by have := hF _ e; omega
        have hF1 : F ≠ some b1 := fun e => by have := hF _ e; omega
        obtain ⟨A6, c6, F6, w6, p6, o6, k6, f6⟩ := push_run (P := Tryd.prog) tyI o5 (.int .i64 x) rfl (by omega) (by omega) 22
        have hF6 : ∀ k, F6 = some k → w4.heap.size ≤ k := fun k hk => (f6 k hk).elim (hF k) (fun h => by omega)
        have h86 := k6.heap h85 hF8
        have h16 := k6.heap h15 hF1
        have s6 := k6.size
        obtain ⟨y0, y1, y2, y3⟩ := cell4 h86
        have z6 := blk_frozen h86 3
        simp (maxSteps := 1000000) (disch := omega) only [hid1', hid2', guardK_u, takeG_u, wrap_in64, optK_some', fzK_false', nilK_ptr, brK_true', brK_false', guardK_tt', guardK_ff', guardK_tf', guardK_ft', takeG_tt', takeG_ff', takeG_tf', takeG_ft', pickK_t', pickK_f', pickT_t', pickT_f', notK, extract2_0', extract2_1', extract3_0', extract3_1', extract3_2', here_load, here_fieldAt, here_indexAt, here_extract, here_un, here_conv, here_slice, here_bin, here_nil, and_here, true_and, Nat.zero_add, Nat.add_assoc, Nat.add_zero, Int.toNat_natCast, size_alloc, World.cell?_drew, World.frozen?_drew, Bool.not_true, Bool.not_false, Int.toNat_zero, dec_t, dec_f, int_eq_t, int_eq_f, int_ne_t, int_ne_f, wrap_in, kbneq3, kbsub3, klen9, hlen9, kal28, kst28f, kld28, kblss3, kbadd3, kld22, kld9, kbeql5, kfa28_3, kbgeq3, kbd28_0_2, kbd28_, kbd28_0, klen59, hlen59, kia59, kbs22_1_0, kst22, kbd28_0_1, x3]
        refine appK p6 ?_
        simp (maxSteps := 1000000) (disch := omega) only [hid1', hid2', guardK_u, takeG_u, wrap_in64, optK_some', fzK_false', nilK_ptr, brK_true', brK_false', guardK_tt', guardK_ff', guardK_tf', guardK_ft', takeG_tt', takeG_ff', takeG_tf', takeG_ft', pickK_t', pickK_f', pickT_t', pickT_f', notK, extract2_0', extract2_1', extract3_0', extract3_1', extract3_2', here_load, here_fieldAt, here_indexAt, here_extract, here_un, here_conv, here_slice, here_bin, here_nil, and_here, true_and, Nat.zero_add, Nat.add_assoc, Nat.add_zero, Int.toNat_natCast, size_alloc, World.cell?_drew, World.frozen?_drew, Bool.not_true, Bool.not_false, Int.toNat_zero, dec_t, dec_f, int_eq_t, int_eq_f, int_ne_t, int_ne_f, wrap_in, kbneq3, kbsub3, klen9, hlen9, kal28, kst28f, kld28, kblss3, kbadd3, kld22, kld9, kbeql5, kfa28_3, kbgeq3, kbd28_0_2, kbd28_, kbd28_0, klen59, hlen59, kia59, kbs22_1_0, kst22, kbd28_0_1, y3, z6]
        have k7 : Chg (fun k => k = b8) w6 (w6.setCell ⟨b8, 3, none⟩ (.slice A6 (ns.length + 1) c6)) := (Chg.refl (fun k => k = b8) w6).setCell (p := ⟨b8, _, none⟩) (.inl rfl) _
        have hl1 : (ns ++ [x]).length = ns.length + 1 := by simp
        have ho : ints (ns ++ [x]) = ints ns ++ [.int .i64 x] := by unfold ints; rw [List.map_append]; rfl
        refine ⟨⟨i + 1, ns ++ [x], F6, A6, c6, by go_num, by omega, hsn, ?_, hF6, k7.heap h16 (by omega), ?_, ?_⟩, by simp [rel, intOf]; omega⟩
        · rw [hl1, ho]
          exact o6.chg k7 (fun k hk e => by have := hF6 k hk; omega)
        · rw [hl1, blk_set h86]; rfl
        · exact Chg.trans (Chg.then k5 k6 (fun k hk => .inr (hF k hk))) k7
      | none =>
        simp only [Option.getD_none, Option.isSome_none]
        have hno := numsL_bad _ _ hwm hn
        rw [hno] at hK
        simp only at hK
        obtain ⟨h16, k6⟩ := store4 (.int .i64 0) (.int .i64 0) (.string ByteArray.empty) (.slice none 0 0) h15
        have q6 := qt_sets (w1 := w5) (b := b1) (vs := [.int .i64 0, .int .i64 0, .string ByteArray.empty, .slice none 0 0]) q05 (by omega)
        obtain ⟨y0, y1, y2, y3⟩ := cell4 h16
        simp (maxSteps := 1000000) (disch := omega) only [hid1', hid2', guardK_u, takeG_u, wrap_in64, optK_some', fzK_false', nilK_ptr, brK_true', brK_false', guardK_tt', guardK_ff', guardK_tf', guardK_ft', takeG_tt', takeG_ff', takeG_tf', takeG_ft', pickK_t', pickK_f', pickT_t', pickT_f', notK, extract2_0', extract2_1', extract3_0', extract3_1', extract3_2', here_load, here_fieldAt, here_indexAt, here_extract, here_un, here_conv, here_slice, here_bin, here_nil, and_here, true_and, Nat.zero_add, Nat.add_assoc, Nat.add_zero, Int.toNat_natCast, size_alloc, World.cell?_drew, World.frozen?_drew, Bool.not_true, Bool.not_false, Int.toNat_zero, dec_t, dec_f, int_eq_t, int_eq_f, int_ne_t, int_ne_f, wrap_in, kbneq3, kbsub3, klen9, hlen9, kal28, kst28f, kld28, kblss3, kbadd3, kld22, kld9, kbeql5, kfa28_3, kbgeq3, kbd28_0_2, kbd28_, kbd28_0, klen59, hlen59, kia59, kbs22_1_0, kst22, kbd28_0_1]
        refine aggStoreK (there4 h15) (by kernel_rfl) (all4 rfl rfl rfl rfl) ?_
        simp (maxSteps := 1000000) (disch := omega) only [hid1', hid2', guardK_u, takeG_u, wrap_in64, optK_some', fzK_false', nilK_ptr, brK_true', brK_false', guardK_tt', guardK_ff', guardK_tf', guardK_ft', takeG_tt', takeG_ff', takeG_tf', takeG_ft', pickK_t', pickK_f', pickT_t', pickT_f', notK, extract2_0', extract2_1', extract3_0', extract3_1', extract3_2', here_load, here_fieldAt, here_indexAt, here_extract, here_un, here_conv, here_slice, here_bin, here_nil, and_here, true_and, Nat.zero_add, Nat.add_assoc, Nat.add_zero, Int.toNat_natCast, size_alloc, World.cell?_drew, World.frozen?_drew, Bool.not_true, Bool.not_false, Int.toNat_zero, dec_t, dec_f, int_eq_t, int_eq_f, int_ne_t, int_ne_f, wrap_in, kbneq3, kbsub3, klen9, hlen9, kal28, kst28f, kld28, kblss3, kbadd3, kld22, kld9, kbeql5, kfa28_3, kbgeq3, kbd28_0_2, kbd28_, kbd28_0, klen59, hlen59, kia59, kbs22_1_0, kst22, kbd28_0_1, y0, y1, y2, y3]
        exact hK none 0 _ q6 (.inl rfl) (fun _ h => by cases h)
    · obtain rfl : i = ps.length := by omega
      rw [List.take_length] at hns
      rw [hns] at hK
      simp only at hK
      have hnl' := numsL_len _ _ hns
      obtain ⟨x0, x1, x2, x3⟩ := cell4 h85
      have r6 := reads_own o5
      simp (maxSteps := 1000000) (disch := omega) only [hid1', hid2', guardK_u, takeG_u, wrap_in64, optK_some', fzK_false', nilK_ptr, brK_true', brK_false', guardK_tt', guardK_ff', guardK_tf', guardK_ft', takeG_tt', takeG_ff', takeG_tf', takeG_ft', pickK_t', pickK_f', pickT_t', pickT_f', notK, extract2_0', extract2_1', extract3_0', extract3_1', extract3_2', here_load, here_fieldAt, here_indexAt, here_extract, here_un, here_conv, here_slice, here_bin, here_nil, and_here, true_and, Nat.zero_add, Nat.add_assoc, Nat.add_zero, Int.toNat_natCast, size_alloc, World.cell?_drew, World.frozen?_drew, Bool.not_true, Bool.not_false, Int.toNat_zero, dec_t, dec_f, int_eq_t, int_eq_f, int_ne_t, int_ne_f, wrap_in, kbneq3, kbsub3, klen9, hlen9, kal28, kst28f, kld28, kblss3, kbadd3, kld22, kld9, kbeql5, kfa28_3, kbgeq3, kbd28_0_2, kbd28_, kbd28_0, klen59, hlen59, kia59, kbs22_1_0, kst22, kbd28_0_1, x0, x1, x2, x3]
      refine ck11 (check11 (a := (3, 0, ByteArray.empty, ns)) r6 (by show ns.length ≤ _; omega) (by show 0 ≤ _; omega) ?_)
      intro w6 q6
      have h16 := q6.heap h15 (fun h => h)
      obtain ⟨x0, x1, x2, x3⟩ := cell4 (q6.heap h85 (fun h => h))
      have q06 := q05.trans q6
      have o6 := o5.chg q6 (fun _ _ h => h)
      have s6 := q6.size
      by_cases hc : checkV (3, 0, ByteArray.empty, ns) = 0
      · rw [if_neg (fun h => h hc)] at hK
        have ec : (checkV (3, 0, ByteArray.empty, ns) != 0) = false := by rw [hc]; rfl
        obtain ⟨h17, k7⟩ := store4 (.int .i64 3) (.int .i64 0) (.string ByteArray.empty) (.slice A ns.length c) h16
        have q7 := qt_sets (w1 := w6) (b := b1) (vs := [.int .i64 3, .int .i64 0, .string ByteArray.empty, .slice A ns.length c]) q06 (by omega)
        have o7 := o6.chg k7 (fun k hk e => by have := hF k hk; omega)
        obtain ⟨y0, y1, y2, y3⟩ := cell4 h17
        simp (maxSteps := 1000000) (disch := omega) only [hid1', hid2', guardK_u, takeG_u, wrap_in64, optK_some', fzK_false', nilK_ptr, brK_true', brK_false', guardK_tt', guardK_ff', guardK_tf', guardK_ft', takeG_tt', takeG_ff', takeG_tf', takeG_ft', pickK_t', pickK_f', pickT_t', pickT_f', notK, extract2_0', extract2_1', extract3_0', extract3_1', extract3_2', here_load, here_fieldAt, here_indexAt, here_extract, here_un, here_conv, here_slice, here_bin, here_nil, and_here, true_and, Nat.zero_add, Nat.add_assoc, Nat.add_zero, Int.toNat_natCast, size_alloc, World.cell?_drew, World.frozen?_drew, Bool.not_true, Bool.not_false, Int.toNat_zero, dec_t, dec_f, int_eq_t, int_eq_f, int_ne_t, int_ne_f, wrap_in, kbneq3, kbsub3, klen9, hlen9, kal28, kst28f, kld28, kblss3, kbadd3, kld22, kld9, kbeql5, kfa28_3, kbgeq3, kbd28_0_2, kbd28_, kbd28_0, klen59, hlen59, kia59, kbs22_1_0, kst22, kbd28_0_1, ec, x0, x1, x2, x3]
        refine aggStoreK (there4 h16) (by kernel_rfl) (all4 rfl rfl rfl rfl) ?_
        simp (maxSteps := 1000000) (disch := omega) only [hid1', hid2', guardK_u, takeG_u, wrap_in64, optK_some', fzK_false', nilK_ptr, brK_true', brK_false', guardK_tt', guardK_ff', guardK_tf', guardK_ft', takeG_tt', takeG_ff', takeG_tf', takeG_ft', pickK_t', pickK_f', pickT_t', pickT_f', notK, extract2_0', extract2_1', extract3_0', extract3_1', extract3_2', here_load, here_fieldAt, here_indexAt, here_extract, here_un, here_conv, here_slice, here_bin, here_nil, and_here, true_and, Nat.zero_add, Nat.add_assoc, Nat.add_zero, Int.toNat_natCast, size_alloc, World.cell?_drew, World.frozen?_drew, Bool.not_true, Bool.not_false, Int.toNat_zero, dec_t, dec_f, int_eq_t, int_eq_f, int_ne_t, int_ne_f, wrap_in, kbneq3, kbsub3, klen9, hlen9, kal28, kst28f, kld28, kblss3, kbadd3, kld22, kld9, kbeql5, kfa28_3, kbgeq3, kbd28_0_2, kbd28_, kbd28_0, klen59, hlen59, kia59, kbs22_1_0, kst22, kbd28_0_1, y0, y1, y2, y3]
        exact hK A c _ q7 (reads_own o7) (fun ad h => by have := own_block o7 hF ad h; omega)
      · rw [if_pos hc] at hK
        have ec : (checkV (3, 0, ByteArray.empty, ns) != 0) = true := by rw [bne_iff_ne]; exact hc
        obtain ⟨h17, k7⟩ := store4 (.int .i64 0) (.int .i64 0) (.string ByteArray.empty) (.slice none 0 0) h16
        have q7 := qt_sets (w1 := w6) (b := b1) (vs := [.int .i64 0, .int .i64 0, .string ByteArray.empty, .slice none 0 0]) q06 (by omega)
        obtain ⟨y0, y1, y2, y3⟩ := cell4 h17
        simp (maxSteps := 1000000) (disch := omega) only [hid1', hid2', guardK_u, takeG_u, wrap_in64, optK_some', fzK_false', nilK_ptr, brK_true', brK_false', guardK_tt', guardK_ff', guardK_tf', guardK_ft', takeG_tt', takeG_ff', takeG_tf', takeG_ft', pickK_t', pickK_f', pickT_t', pickT_f', notK, extract2_0', extract2_1', extract3_0', extract3_1', extract3_2', here_load, here_fieldAt, here_indexAt, here_extract, here_un, here_conv, here_slice, here_bin, here_nil, and_here, true_and, Nat.zero_add, Nat.add_assoc, Nat.add_zero, Int.toNat_natCast, size_alloc, World.cell?_drew, World.frozen?_drew, Bool.not_true, Bool.not_false, Int.toNat_zero, dec_t, dec_f, int_eq_t, int_eq_f, int_ne_t, int_ne_f, wrap_in, kbneq3, kbsub3, klen9, hlen9, kal28, kst28f, kld28, kblss3, kbadd3, kld22, kld9, kbeql5, kfa28_3, kbgeq3, kbd28_0_2, kbd28_, kbd28_0, klen59, hlen59, kia59, kbs22_1_0, kst22, kbd28_0_1, ec]
        refine aggStoreK (there4 h16) (by kernel_rfl) (all4 rfl rfl rfl rfl) ?_
        simp (maxSteps := 1000000) (disch := omega) only [hid1', hid2', guardK_u, takeG_u, wrap_in64, optK_some', fzK_false', nilK_ptr, brK_true', brK_false', guardK_tt', guardK_ff', guardK_tf', guardK_ft', takeG_tt', takeG_ff', takeG_tf', takeG_ft', pickK_t', pickK_f', pickT_t', pickT_f', notK, extract2_0', extract2_1', extract3_0', extract3_1', extract3_2', here_load, here_fieldAt, here_indexAt, here_extract, here_un, here_conv, here_slice, here_bin, here_nil, and_here, true_and, Nat.zero_add, Nat.add_assoc, Nat.add_zero, Int.toNat_natCast, size_alloc, World.cell?_drew, World.frozen?_drew, Bool.not_true, Bool.not_false, Int.toNat_zero, dec_t, dec_f, int_eq_t, int_eq_f, int_ne_t, int_ne_f, wrap_in, kbneq3, kbsub3, klen9, hlen9, kal28, kst28f, kld28, kblss3, kbadd3, kld22, kld9, kbeql5, kfa28_3, kbgeq3, kbd28_0_2, kbd28_, kbd28_0, klen59, hlen59, kia59, kbs22_1_0, kst22, kbd28_0_1, y0, y1, y2, y3]
        exact hK none 0 _ q7 (.inl rfl) (fun _ h => by cases h)
  all_goals
    simp only at hK
    refine ck44 (num44 (by omega) ?_)
    cases hn : numR s with
    | none =>
      rw [hn] at hK
      simp only at hK
      simp only [Option.getD_none, Option.isSome_none]
      obtain ⟨h12, k2⟩ := store4 (.int .i64 0) (.int .i64 0) (.string ByteArray.empty) (.slice none 0 0) h1
      have q2 := qt_sets (w1 := w1) (b := b1) (vs := [.int .i64 0, .int .i64 0, .string ByteArray.empty, .slice none 0 0]) q1 (by omega)
      obtain ⟨y0, y1, y2, y3⟩ := cell4 h12
      simp (maxSteps := 1000000) (disch := omega) only [hid1', hid2', guardK_u, takeG_u, wrap_in64, optK_some', fzK_false', nilK_ptr, brK_true', brK_false', guardK_tt', guardK_ff', guardK_tf', guardK_ft', takeG_tt', takeG_ff', takeG_tf', takeG_ft', pickK_t', pickK_f', pickT_t', pickT_f', notK, extract2_0', extract2_1', extract3_0', extract3_1', extract3_2', here_load, here_fieldAt, here_indexAt, here_extract, here_un, here_conv, here_slice, here_bin, here_nil, and_here, true_and, Nat.zero_add, Nat.add_assoc, Nat.add_zero, Int.toNat_natCast, size_alloc, World.cell?_drew, World.frozen?_drew, Bool.not_true, Bool.not_false, Int.toNat_zero, dec_t, dec_f, int_eq_t, int_eq_f, int_ne_t, int_ne_f, wrap_in, kbneq3, kbsub3, klen9, hlen9, kal28, kst28f, kld28, kblss3, kbadd3, kld22, kld9, kbeql5, kfa28_3, kbgeq3, kbd28_0_2, kbd28_, kbd28_0, klen59, hlen59, kia59, kbs22_1_0, kst22, kbd28_0_1]
      refine aggStoreK (there4 h1) (by kernel_rfl) (all4 rfl rfl rfl rfl) ?_
      simp (maxSteps := 1000000) (disch := omega) only [hid1', hid2', guardK_u, takeG_u, wrap_in64, optK_some', fzK_false', nilK_ptr, brK_true', brK_false', guardK_tt', guardK_ff', guardK_tf', guardK_ft', takeG_tt', takeG_ff', takeG_tf', takeG_ft', pickK_t', pickK_f', pickT_t', pickT_f', notK, extract2_0', extract2_1', extract3_0', extract3_1', extract3_2', here_load, here_fieldAt, here_indexAt, here_extract, here_un, here_conv, here_slice, here_bin, here_nil, and_here, true_and, Nat.zero_add, Nat.add_assoc, Nat.add_zero, Int.toNat_natCast, size_alloc, World.cell?_drew, World.frozen?_drew, Bool.not_true, Bool.not_false, Int.toNat_zero, dec_t, dec_f, int_eq_t, int_eq_f, int_ne_t, int_ne_f, wrap_in, kbneq3, kbsub3, klen9, hlen9, kal28, kst28f, kld28, kblss3, kbadd3, kld22, kld9, kbeql5, kfa28_3, kbgeq3, kbd28_0_2, kbd28_, kbd28_0, klen59, hlen59, kia59, kbs22_1_0, kst22, kbd28_0_1, y0, y1, y2, y3]
      exact hK none 0 _ q2 (.inl rfl) (fun _ h => by cases h)
    | some x =>
      rw [hn] at hK
      simp only at hK
      rw [if_neg (fun h => h rfl)] at hK
      simp only [Option.getD_some, Option.isSome_some]
      obtain ⟨h12, k2⟩ := store4 (.int .i64 1) (.int .i64 x) (.string ByteArray.empty) (.slice none 0 0) h1
      have q2 := qt_sets (w1 := w1) (b := b1) (vs := [.int .i64 1, .int .i64 x, .string ByteArray.empty, .slice none 0 0]) q1 (by omega)
      obtain ⟨y0, y1, y2, y3⟩ := cell4 h12
      simp (maxSteps := 1000000) (disch := omega) only [hid1', hid2', guardK_u, takeG_u, wrap_in64, optK_some', fzK_false', nilK_ptr, brK_true', brK_false', guardK_tt', guardK_ff', guardK_tf', guardK_ft', takeG_tt', takeG_ff', takeG_tf', takeG_ft', pickK_t', pickK_f', pickT_t', pickT_f', notK, extract2_0', extract2_1', extract3_0', extract3_1', extract3_2', here_load, here_fieldAt, here_indexAt, here_extract, here_un, here_conv, here_slice, here_bin, here_nil, and_here, true_and, Nat.zero_add, Nat.add_assoc, Nat.add_zero, Int.toNat_natCast, size_alloc, World.cell?_drew, World.frozen?_drew, Bool.not_true, Bool.not_false, Int.toNat_zero, dec_t, dec_f, int_eq_t, int_eq_f, int_ne_t, int_ne_f, wrap_in, kbneq3, kbsub3, klen9, hlen9, kal28, kst28f, kld28, kblss3, kbadd3, kld22, kld9, kbeql5, kfa28_3, kbgeq3, kbd28_0_2, kbd28_, kbd28_0, klen59, hlen59, kia59, kbs22_1_0, kst22, kbd28_0_1]
      refine aggStoreK (there4 h1) (by kernel_rfl) (all4 rfl rfl rfl rfl) ?_
      simp (maxSteps := 1000000) (disch := omega) only [hid1', hid2', guardK_u, takeG_u, wrap_in64, optK_some', fzK_false', nilK_ptr, brK_true', brK_false', guardK_tt', guardK_ff', guardK_tf', guardK_ft', takeG_tt', takeG_ff', takeG_tf', takeG_ft', pickK_t', pickK_f', pickT_t', pickT_f', notK, extract2_0', extract2_1', extract3_0', extract3_1', extract3_2', here_load, here_fieldAt, here_indexAt, here_extract, here_un, here_conv, here_slice, here_bin, here_nil, and_here, true_and, Nat.zero_add, Nat.add_assoc, Nat.add_zero, Int.toNat_natCast, size_alloc, World.cell?_drew, World.frozen?_drew, Bool.not_true, Bool.not_false, Int.toNat_zero, dec_t, dec_f, int_eq_t, int_eq_f, int_ne_t, int_ne_f, wrap_in, kbneq3, kbsub3, klen9, hlen9, kal28, kst28f, kld28, kblss3, kbadd3, kld22, kld9, kbeql5, kfa28_3, kbgeq3, kbd28_0_2, kbd28_, kbd28_0, klen59, hlen59, kia59, kbs22_1_0, kst22, kbd28_0_1, y0, y1, y2, y3]
      exact hK none 0 _ q2 (.inl rfl) (fun _ h => by cases h)
end Go.Proofs.YtdnlenngbaaeaaaDoor

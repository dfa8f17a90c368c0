/- Seal and Open of both packages: what they answer. Conditions: at most 100000 bytes. -/
import Derived.Test.YtpdhmbbmhomlnaaDoorV4
import Derived.Test.YtpdhmbbmhomlnaaDoorSum
set_option maxRecDepth 100000
set_option linter.unusedVariables false
set_option linter.unusedSimpArgs false
namespace Go.Proofs.YtpdhmbbmhomlnaaDoor
open Go.RowKit Go.Cn
def openL (b : List UInt8) : Int × List UInt8 := if b.length < 4 then (3, []) else if sealed (b.take (b.length - 4)) = b then (0, b.take (b.length - 4)) else (10, [])
theorem openL_short {b : List UInt8} (h : b.length < 4) : openL b = (3, []) := if_pos h
theorem openL_ok {b : List UInt8} (h : ¬ b.length < 4) (h2 : sealed (b.take (b.length - 4)) = b) : openL b = (0, b.take (b.length - 4)) := by unfold openL; rw [if_neg h, if_pos h2]
theorem openL_bad {b : List UInt8} (h : ¬ b.length < 4) (h2 : ¬ sealed (b.take (b.length - 4)) = b) : openL b = (10, []) := by unfold openL; rw [if_neg h, if_neg h2]
theorem take_of {P : Program} {S : World → Prop} {s : Sem Value} {K : Value → Prop} (v : Value) (h : ∀ w, S w → s.run P w = .ok v w) (hk : K v) : TakeS P S s (@hid _ ⟨K⟩) := ⟨v, h, hk⟩
theorem take_txt {P : Program} {S : World → Prop} {t : TypeId} {x y : ByteArray} {K : Value → Prop} (op : BinOp) (v : Value) (h : ∀ w, S w → BinK P op t (.string x) (.string y) (@hid _ ⟨fun v' w' => v' = v ∧ w' = w⟩) w) (hk : K v) : BinT P S op t (.string x) (.string y) (@hid _ ⟨K⟩) := ⟨v, fun w hw => ⟨(h w hw).1, resK_is (h w hw).2⟩, hk⟩
theorem reads_take {w : World} {g o : Nat} {l : List UInt8} (hr : Reads w (some ⟨g, o, none⟩) (l.map vb)) (k : Nat) : Reads w (some ⟨g, o, none⟩) ((l.take k).map vb) := by
  rcases hr with h | ⟨g', o', e, h⟩
  · rw [List.map_eq_nil_iff] at h; subst h; simp; exact .inl rfl
  · cases e
    refine .inr ⟨g, o, rfl, fun j hj => ?_⟩
    simp at hj
    rw [h j (by simp; omega), List.getElem?_map, List.getElem?_map, List.getElem?_take, if_pos (by omega)]
theorem seal_len (l : List UInt8) : (sealed l).length = l.length + 4 := by simp [sealed, le4]
theorem open_any {b : List UInt8} {A : Option Addr} {c : Nat} {w : World} {K : Value → World → Prop} (hr : Reads w A (b.map vb)) (hl : b.length ≤ 100000) (hc : b.length ≤ c)
    (hK : ∀ A' n' c' w', n' = (openL b).2.length → Reads w' A' ((openL b).2.map vb) → Qt w w' → K (.tuple #[.slice A' n' c', .int .i64 (openL b).1]) w') : CallK Tryd.prog 31 #[.slice A b.length c] K w := by
  refine F31_calls _ _ _ ?_; unfold F31
  by_cases h4 : b.length < 4
  · rw [openL_short h4] at hK
    simp (maxSteps := 1000000) (disch := omega) only [hid1', hid2', guardK_u, takeG_u, wrap_in64, optK_some', fzK_false', nilK_ptr, brK_true', brK_false', guardK_tt', guardK_ff', guardK_tf', guardK_ft', takeG_tt', takeG_ff', takeG_tf', takeG_ft', pickK_t', pickK_f', pickT_t', pickT_f', notK, extract2_0', extract2_1', extract3_0', extract3_1', extract3_2', here_load, here_fieldAt, here_indexAt, here_extract, here_un, here_conv, here_slice, here_bin, here_nil, and_here, true_and, Nat.zero_add, Nat.add_assoc, Nat.add_zero, Int.toNat_natCast, size_alloc, World.cell?_drew, World.frozen?_drew, Bool.not_true, Bool.not_false, Int.toNat_zero, dec_t, dec_f, int_eq_t, int_eq_f, int_ne_t, int_ne_f, wrap_in, klen32, hlen32, kblss3, kbsub3, ksl32_010z, ksl32_010, kbneq9]
    exact hK none 0 0 w rfl (.inl rfl) Qt.refl
  obtain ⟨g, o, rfl, _⟩ := hr.all (by omega)
  have ht : ((b.length : Int) - 4).toNat = b.length - 4 := by omega
  have hlt : (b.take (b.length - 4)).length = b.length - 4 := by simp
  have hrt := reads_take hr (b.length - 4)
  simp (maxSteps := 1000000) (disch := omega) only [hid1', hid2', guardK_u, takeG_u, wrap_in64, optK_some', fzK_false', nilK_ptr, brK_true', brK_false', guardK_tt', guardK_ff', guardK_tf', guardK_ft', takeG_tt', takeG_ff', takeG_tf', takeG_ft', pickK_t', pickK_f', pickT_t', pickT_f', notK, extract2_0', extract2_1', extract3_0', extract3_1', extract3_2', here_load, here_fieldAt, here_indexAt, here_extract, here_un, here_conv, here_slice, here_bin, here_nil, and_here, true_and, Nat.zero_add, Nat.add_assoc, Nat.add_zero, Int.toNat_natCast, size_alloc, World.cell?_drew, World.frozen?_drew, Bool.not_true, Bool.not_false, Int.toNat_zero, dec_t, dec_f, int_eq_t, int_eq_f, int_ne_t, int_ne_f, wrap_in, klen32, hlen32, kblss3, kbsub3, ksl32_010z, ksl32_010, kbneq9, ht]
  refine drawK_by (fun w' => Qt w w') (Qt.drew Qt.refl) ?_
  refine take_of (.string (txt b)) (fun w' hq => conv_run Tryd.underlying32 Tryd.underlying5 Tryd.underlying9 (hr.quiet hq)) ?_
  refine ⟨?_, trivial⟩
  rw [← hlt]
  refine ck27 (seal_any (hrt.quiet (Qt.drew Qt.refl)) (by omega) ?_)
  intro A2 c2 w2 _ r2 q2
  have q2' : Qt w w2 := (Qt.drew Qt.refl).trans q2
  simp (maxSteps := 1000000) (disch := omega) only [hid1', hid2', guardK_u, takeG_u, wrap_in64, optK_some', fzK_false', nilK_ptr, brK_true', brK_false', guardK_tt', guardK_ff', guardK_tf', guardK_ft', takeG_tt', takeG_ff', takeG_tf', takeG_ft', pickK_t', pickK_f', pickT_t', pickT_f', notK, extract2_0', extract2_1', extract3_0', extract3_1', extract3_2', here_load, here_fieldAt, here_indexAt, here_extract, here_un, here_conv, here_slice, here_bin, here_nil, and_here, true_and, Nat.zero_add, Nat.add_assoc, Nat.add_zero, Int.toNat_natCast, size_alloc, World.cell?_drew, World.frozen?_drew, Bool.not_true, Bool.not_false, Int.toNat_zero, dec_t, dec_f, int_eq_t, int_eq_f, int_ne_t, int_ne_f, wrap_in, klen32, hlen32, kblss3, kbsub3, ksl32_010z, ksl32_010, kbneq9]
  refine ⟨q2', ?_, trivial⟩
  refine convK Tryd.underlying32 Tryd.underlying5 Tryd.underlying9 r2 ?_
  simp (maxSteps := 1000000) (disch := omega) only [hid1', hid2', guardK_u, takeG_u, wrap_in64, optK_some', fzK_false', nilK_ptr, brK_true', brK_false', guardK_tt', guardK_ff', guardK_tf', guardK_ft', takeG_tt', takeG_ff', takeG_tf', takeG_ft', pickK_t', pickK_f', pickT_t', pickT_f', notK, extract2_0', extract2_1', extract3_0', extract3_1', extract3_2', here_load, here_fieldAt, here_indexAt, here_extract, here_un, here_conv, here_slice, here_bin, here_nil, and_here, true_and, Nat.zero_add, Nat.add_assoc, Nat.add_zero, Int.toNat_natCast, size_alloc, World.cell?_drew, World.frozen?_drew, Bool.not_true, Bool.not_false, Int.toNat_zero, dec_t, dec_f, int_eq_t, int_eq_f, int_ne_t, int_ne_f, wrap_in, klen32, hlen32, kblss3, kbsub3, ksl32_010z, ksl32_010, kbneq9]
  refine ⟨q2', ?_⟩
  by_cases he : sealed (b.take (b.length - 4)) = b
  · rw [openL_ok h4 he] at hK
    rw [he]
    refine take_txt .neq (.bool false) (fun w' _ => by simp (maxSteps := 1000000) (disch := omega) only [hid1', hid2', guardK_u, takeG_u, wrap_in64, optK_some', fzK_false', nilK_ptr, brK_true', brK_false', guardK_tt', guardK_ff', guardK_tf', guardK_ft', takeG_tt', takeG_ff', takeG_tf', takeG_ft', pickK_t', pickK_f', pickT_t', pickT_f', notK, extract2_0', extract2_1', extract3_0', extract3_1', extract3_2', here_load, here_fieldAt, here_indexAt, here_extract, here_un, here_conv, here_slice, here_bin, here_nil, and_here, true_and, Nat.zero_add, Nat.add_assoc, Nat.add_zero, Int.toNat_natCast, size_alloc, World.cell?_drew, World.frozen?_drew, Bool.not_true, Bool.not_false, Int.toNat_zero, dec_t, dec_f, int_eq_t, int_eq_f, int_ne_t, int_ne_f, wrap_in, klen32, hlen32, kblss3, kbsub3, ksl32_010z, ksl32_010, kbneq9, beq_self_eq_true, Bool.not_true, here_rfl]; try (exact ⟨trivial, trivial⟩)) ?_
    simp (maxSteps := 1000000) (disch := omega) only [hid1', hid2', guardK_u, takeG_u, wrap_in64, optK_some', fzK_false', nilK_ptr, brK_true', brK_false', guardK_tt', guardK_ff', guardK_tf', guardK_ft', takeG_tt', takeG_ff', takeG_tf', takeG_ft', pickK_t', pickK_f', pickT_t', pickT_f', notK, extract2_0', extract2_1', extract3_0', extract3_1', extract3_2', here_load, here_fieldAt, here_indexAt, here_extract, here_un, here_conv, here_slice, here_bin, here_nil, and_here, true_and, Nat.zero_add, Nat.add_assoc, Nat.add_zero, Int.toNat_natCast, size_alloc, World.cell?_drew, World.frozen?_drew, Bool.not_true, Bool.not_false, Int.toNat_zero, dec_t, dec_f, int_eq_t, int_eq_f, int_ne_t, int_ne_f, wrap_in, klen32, hlen32, kblss3, kbsub3, ksl32_010z, ksl32_010, kbneq9]
    refine ck43 (clone_any (hrt.quiet q2') (by omega) ?_)
    intro A3 c3 F3 w3 o3 q3 f3
    simp (maxSteps := 1000000) (disch := omega) only [hid1', hid2', guardK_u, takeG_u, wrap_in64, optK_some', fzK_false', nilK_ptr, brK_true', brK_false', guardK_tt', guardK_ff', guardK_tf', guardK_ft', takeG_tt', takeG_ff', takeG_tf', takeG_ft', pickK_t', pickK_f', pickT_t', pickT_f', notK, extract2_0', extract2_1', extract3_0', extract3_1', extract3_2', here_load, here_fieldAt, here_indexAt, here_extract, here_un, here_conv, here_slice, here_bin, here_nil, and_here, true_and, Nat.zero_add, Nat.add_assoc, Nat.add_zero, Int.toNat_natCast, size_alloc, World.cell?_drew, World.frozen?_drew, Bool.not_true, Bool.not_false, Int.toNat_zero, dec_t, dec_f, int_eq_t, int_eq_f, int_ne_t, int_ne_f, wrap_in, klen32, hlen32, kblss3, kbsub3, ksl32_010z, ksl32_010, kbneq9]
    refine ck45 (clip_any o3 ?_)
    simp (maxSteps := 1000000) (disch := omega) only [hid1', hid2', guardK_u, takeG_u, wrap_in64, optK_some', fzK_false', nilK_ptr, brK_true', brK_false', guardK_tt', guardK_ff', guardK_tf', guardK_ft', takeG_tt', takeG_ff', takeG_tf', takeG_ft', pickK_t', pickK_f', pickT_t', pickT_f', notK, extract2_0', extract2_1', extract3_0', extract3_1', extract3_2', here_load, here_fieldAt, here_indexAt, here_extract, here_un, here_conv, here_slice, here_bin, here_nil, and_here, true_and, Nat.zero_add, Nat.add_assoc, Nat.add_zero, Int.toNat_natCast, size_alloc, World.cell?_drew, World.frozen?_drew, Bool.not_true, Bool.not_false, Int.toNat_zero, dec_t, dec_f, int_eq_t, int_eq_f, int_ne_t, int_ne_f, wrap_in, klen32, hlen32, kblss3, kbsub3, ksl32_010z, ksl32_010, kbneq9]
    exact hK A3 _ _ w3 rfl (Reads.of_own o3) (q2'.trans q3)
  · rw [openL_bad h4 he] at hK
    have hb : ((txt (sealed (b.take (b.length - 4)))).toList == (txt b).toList) = false := by
      rw [txt_toList, txt_toList]; exact beq_eq_false_iff_ne.2 he
    refine take_txt .neq (.bool true) (fun w' _ => by simp (maxSteps := 1000000) (disch := omega) only [hid1', hid2', guardK_u, takeG_u, wrap_in64, optK_some', fzK_false', nilK_ptr, brK_true', brK_false', guardK_tt', guardK_ff', guardK_tf', guardK_ft', takeG_tt', takeG_ff', takeG_tf', takeG_ft', pickK_t', pickK_f', pickT_t', pickT_f', notK, extract2_0', extract2_1', extract3_0', extract3_1', extract3_2', here_load, here_fieldAt, here_indexAt, here_extract, here_un, here_conv, here_slice, here_bin, here_nil, and_here, true_and, Nat.zero_add, Nat.add_assoc, Nat.add_zero, Int.toNat_natCast, size_alloc, World.cell?_drew, World.frozen?_drew, Bool.not_true, Bool.not_false, Int.toNat_zero, dec_t, dec_f, int_eq_t, int_eq_f, int_ne_t, int_ne_f, wrap_in, klen32, hlen32, kblss3, kbsub3, ksl32_010z, ksl32_010, kbneq9, hb, Bool.not_false, here_rfl]; try (exact ⟨trivial, trivial⟩)) ?_
    simp (maxSteps := 1000000) (disch := omega) only [hid1', hid2', guardK_u, takeG_u, wrap_in64, optK_some', fzK_false', nilK_ptr, brK_true', brK_false', guardK_tt', guardK_ff', guardK_tf', guardK_ft', takeG_tt', takeG_ff', takeG_tf', takeG_ft', pickK_t', pickK_f', pickT_t', pickT_f', notK, extract2_0', extract2_1', extract3_0', extract3_1', extract3_2', here_load, here_fieldAt, here_indexAt, here_extract, here_un, here_conv, here_slice, here_bin, here_nil, and_here, true_and, Nat.zero_add, Nat.add_assoc, Nat.add_zero, Int.toNat_natCast, size_alloc, World.cell?_drew, World.frozen?_drew, Bool.not_true, Bool.not_false, Int.toNat_zero, dec_t, dec_f, int_eq_t, int_eq_f, int_ne_t, int_ne_f, wrap_in, klen32, hlen32, kblss3, kbsub3, ksl32_010z, ksl32_010, kbneq9]
    exact hK none 0 0 w2 rfl (.inl rfl) q2'
theorem leB_val0 (s : Crc.W) : IntKind.u8.wrap (s.toNat : Int) = ((leB s 0).toNat : Int) := by
  have := leB_val s 0 (by omega)
  simpa using this
theorem leB_val1 (s : Crc.W) : IntKind.u8.wrap ((s.toNat : Int) / (2 : Int) ^ min (Int.toNat 8) 32) = ((leB s 1).toNat : Int) := leB_val s 1 (by omega)
theorem leB_val2 (s : Crc.W) : IntKind.u8.wrap ((s.toNat : Int) / (2 : Int) ^ min (Int.toNat 16) 32) = ((leB s 2).toNat : Int) := leB_val s 2 (by omega)
theorem leB_val3 (s : Crc.W) : IntKind.u8.wrap ((s.toNat : Int) / (2 : Int) ^ min (Int.toNat 24) 32) = ((leB s 3).toNat : Int) := leB_val s 3 (by omega)
theorem sealR_any {l : List UInt8} {A : Option Addr} {c : Nat} {w : World} {K : Value → World → Prop} (hr : Reads w A (l.map vb)) (hl : l.length ≤ 100000)
    (hK : ∀ A' c' w', Reads w' A' ((sealed l).map vb) → Qt w w' → K (.slice A' (sealed l).length c') w') : CallK Tryd.prog 16 #[.slice A l.length c] K w := by
  refine F16_calls _ _ _ ?_; unfold F16
  refine ck34 (sumR_any hr hl ?_)
  have hsl : sealed l = l ++ le4 (Crc.sum l) := rfl
  generalize Crc.sum l = s at *
  simp (maxSteps := 1000000) (disch := omega) only [hid1', hid2', guardK_u, takeG_u, wrap_in64, optK_some', fzK_false', nilK_ptr, brK_true', brK_false', guardK_tt', guardK_ff', guardK_tf', guardK_ft', takeG_tt', takeG_ff', takeG_tf', takeG_ft', pickK_t', pickK_f', pickT_t', pickT_f', notK, extract2_0', extract2_1', extract3_0', extract3_1', extract3_2', here_load, here_fieldAt, here_indexAt, here_extract, here_un, here_conv, here_slice, here_bin, here_nil, and_here, true_and, Nat.zero_add, Nat.add_assoc, Nat.add_zero, Int.toNat_natCast, size_alloc, World.cell?_drew, World.frozen?_drew, Bool.not_true, Bool.not_false, Int.toNat_zero, dec_t, dec_f, int_eq_t, int_eq_f, int_ne_t, int_ne_f, wrap_in, kbs32_0, kcv72_5, kbshr72_i32, kbshr72_i64, kbshr72_u32, kbshr72_u64, kbshr72_u8, kbs32_4_0_1_2_3]
  obtain ⟨A2, c2, F2, w2, p2, o2, k2, f2⟩ := apart_run (P := Tryd.prog) (w := w) tyU8 A l.length c (l.map vb) (by simp) hr.src (vb_one l) (by omega) (by omega) 32
  refine appK p2 ?_
  simp (maxSteps := 1000000) (disch := omega) only [hid1', hid2', guardK_u, takeG_u, wrap_in64, optK_some', fzK_false', nilK_ptr, brK_true', brK_false', guardK_tt', guardK_ff', guardK_tf', guardK_ft', takeG_tt', takeG_ff', takeG_tf', takeG_ft', pickK_t', pickK_f', pickT_t', pickT_f', notK, extract2_0', extract2_1', extract3_0', extract3_1', extract3_2', here_load, here_fieldAt, here_indexAt, here_extract, here_un, here_conv, here_slice, here_bin, here_nil, and_here, true_and, Nat.zero_add, Nat.add_assoc, Nat.add_zero, Int.toNat_natCast, size_alloc, World.cell?_drew, World.frozen?_drew, Bool.not_true, Bool.not_false, Int.toNat_zero, dec_t, dec_f, int_eq_t, int_eq_f, int_ne_t, int_ne_f, wrap_in, kbs32_0, kcv72_5, kbshr72_i32, kbshr72_i64, kbshr72_u32, kbshr72_u64, kbshr72_u8, kbs32_4_0_1_2_3, leB_val0, leB_val1, leB_val2, leB_val3]
  have hc := (Chg.refl (fun _ => False) w2).alloc (.cells #[.int .u8 (leB s 0).toNat, .int .u8 (leB s 1).toNat, .int .u8 (leB s 2).toNat, .int .u8 (leB s 3).toNat] 5)
  obtain ⟨A3, c3, F3, w3, p3, o3, k3, f3⟩ := app_run (P := Tryd.prog) tyU8 (o2.chg hc (fun _ _ h => h)) (some ⟨w2.heap.size, 0, none⟩) 4 4 ((le4 s).map vb) (by simp [le4]) (by
    intro j u hj
    refine ⟨_, rfl, ?_⟩
    rw [Addr.add_lit, Nat.zero_add, blk_cell (blk_new _ _), ← hj]
    simp [le4, List.range_succ, vb]) (vb_one _) (by omega) (by omega) 32
  refine appK p3 ?_
  simp (maxSteps := 1000000) (disch := omega) only [hid1', hid2', guardK_u, takeG_u, wrap_in64, optK_some', fzK_false', nilK_ptr, brK_true', brK_false', guardK_tt', guardK_ff', guardK_tf', guardK_ft', takeG_tt', takeG_ff', takeG_tf', takeG_ft', pickK_t', pickK_f', pickT_t', pickT_f', notK, extract2_0', extract2_1', extract3_0', extract3_1', extract3_2', here_load, here_fieldAt, here_indexAt, here_extract, here_un, here_conv, here_slice, here_bin, here_nil, and_here, true_and, Nat.zero_add, Nat.add_assoc, Nat.add_zero, Int.toNat_natCast, size_alloc, World.cell?_drew, World.frozen?_drew, Bool.not_true, Bool.not_false, Int.toNat_zero, dec_t, dec_f, int_eq_t, int_eq_f, int_ne_t, int_ne_f, wrap_in, kbs32_0, kcv72_5, kbshr72_i32, kbshr72_i64, kbshr72_u32, kbshr72_u64, kbshr72_u8, kbs32_4_0_1_2_3]
  have q3 : Qt w w3 := (k2.trans hc).then k3 (fun k hk => .inr (f2 k hk))
  have hll : l.length + 4 = (sealed l).length := (seal_len l).symm
  have := Reads.of_own o3
  rw [hll]
  exact hK A3 c3 w3 (by rw [hsl, List.map_append]; exact this) q3
theorem openR_any {b : List UInt8} {A : Option Addr} {c : Nat} {w : World} {K : Value → World → Prop} (hr : Reads w A (b.map vb)) (hl : b.length ≤ 100000) (hc : b.length ≤ c)
    (hK : ∀ A' n' c' w', n' = (openL b).2.length → Reads w' A' ((openL b).2.map vb) → Qt w w' → K (.tuple #[.slice A' n' c', .int .i64 (openL b).1]) w') : CallK Tryd.prog 35 #[.slice A b.length c] K w := by
  refine F35_calls _ _ _ ?_; unfold F35
  by_cases h4 : b.length < 4
  · rw [openL_short h4] at hK
    simp (maxSteps := 1000000) (disch := omega) only [hid1', hid2', guardK_u, takeG_u, wrap_in64, optK_some', fzK_false', nilK_ptr, brK_true', brK_false', guardK_tt', guardK_ff', guardK_tf', guardK_ft', takeG_tt', takeG_ff', takeG_tf', takeG_ft', pickK_t', pickK_f', pickT_t', pickT_f', notK, extract2_0', extract2_1', extract3_0', extract3_1', extract3_2', here_load, here_fieldAt, here_indexAt, here_extract, here_un, here_conv, here_slice, here_bin, here_nil, and_here, true_and, Nat.zero_add, Nat.add_assoc, Nat.add_zero, Int.toNat_natCast, size_alloc, World.cell?_drew, World.frozen?_drew, Bool.not_true, Bool.not_false, Int.toNat_zero, dec_t, dec_f, int_eq_t, int_eq_f, int_ne_t, int_ne_f, wrap_in, klen32, hlen32, kbsub3, kblss3, ksl32_010z, ksl32_010, kbneq9, kbs32_0]
    exact hK none 0 0 w rfl (.inl rfl) Qt.refl
  obtain ⟨g, o, rfl, _⟩ := hr.all (by omega)
  have ht : ((b.length : Int) - 4).toNat = b.length - 4 := by omega
  have hlt : (b.take (b.length - 4)).length = b.length - 4 := by simp
  have hrt := reads_take hr (b.length - 4)
  simp (maxSteps := 1000000) (disch := omega) only [hid1', hid2', guardK_u, takeG_u, wrap_in64, optK_some', fzK_false', nilK_ptr, brK_true', brK_false', guardK_tt', guardK_ff', guardK_tf', guardK_ft', takeG_tt', takeG_ff', takeG_tf', takeG_ft', pickK_t', pickK_f', pickT_t', pickT_f', notK, extract2_0', extract2_1', extract3_0', extract3_1', extract3_2', here_load, here_fieldAt, here_indexAt, here_extract, here_un, here_conv, here_slice, here_bin, here_nil, and_here, true_and, Nat.zero_add, Nat.add_assoc, Nat.add_zero, Int.toNat_natCast, size_alloc, World.cell?_drew, World.frozen?_drew, Bool.not_true, Bool.not_false, Int.toNat_zero, dec_t, dec_f, int_eq_t, int_eq_f, int_ne_t, int_ne_f, wrap_in, klen32, hlen32, kbsub3, kblss3, ksl32_010z, ksl32_010, kbneq9, kbs32_0, ht]
  refine drawK_by (fun w' => Qt w w') (Qt.drew Qt.refl) ?_
  refine take_slice (.slice (some ⟨g, o, none⟩) (b.length - 4) c) (fun w' hq => by (simp (maxSteps := 1000000) (disch := omega) only [hid1', hid2', guardK_u, takeG_u, wrap_in64, optK_some', fzK_false', nilK_ptr, brK_true', brK_false', guardK_tt', guardK_ff', guardK_tf', guardK_ft', takeG_tt', takeG_ff', takeG_tf', takeG_ft', pickK_t', pickK_f', pickT_t', pickT_f', notK, extract2_0', extract2_1', extract3_0', extract3_1', extract3_2', here_load, here_fieldAt, here_indexAt, here_extract, here_un, here_conv, here_slice, here_bin, here_nil, and_here, true_and, Nat.zero_add, Nat.add_assoc, Nat.add_zero, Int.toNat_natCast, size_alloc, World.cell?_drew, World.frozen?_drew, Bool.not_true, Bool.not_false, Int.toNat_zero, dec_t, dec_f, int_eq_t, int_eq_f, int_ne_t, int_ne_f, wrap_in, klen32, hlen32, kbsub3, kblss3, ksl32_010z, ksl32_010, kbneq9, kbs32_0, ht]; try (exact ⟨trivial, trivial⟩))) ?_
  refine take_of (.string (txt b)) (fun w' hq => conv_run Tryd.underlying32 Tryd.underlying5 Tryd.underlying9 (hr.quiet hq)) ?_
  refine ⟨?_, trivial⟩
  rw [← hlt]
  refine ck16 (sealR_any (hrt.quiet (Qt.drew Qt.refl)) (by omega) ?_)
  intro A2 c2 w2 r2 q2
  have q2' : Qt w w2 := (Qt.drew Qt.refl).trans q2
  simp (maxSteps := 1000000) (disch := omega) only [hid1', hid2', guardK_u, takeG_u, wrap_in64, optK_some', fzK_false', nilK_ptr, brK_true', brK_false', guardK_tt', guardK_ff', guardK_tf', guardK_ft', takeG_tt', takeG_ff', takeG_tf', takeG_ft', pickK_t', pickK_f', pickT_t', pickT_f', notK, extract2_0', extract2_1', extract3_0', extract3_1', extract3_2', here_load, here_fieldAt, here_indexAt, here_extract, here_un, here_conv, here_slice, here_bin, here_nil, and_here, true_and, Nat.zero_add, Nat.add_assoc, Nat.add_zero, Int.toNat_natCast, size_alloc, World.cell?_drew, World.frozen?_drew, Bool.not_true, Bool.not_false, Int.toNat_zero, dec_t, dec_f, int_eq_t, int_eq_f, int_ne_t, int_ne_f, wrap_in, klen32, hlen32, kbsub3, kblss3, ksl32_010z, ksl32_010, kbneq9, kbs32_0]
  refine ⟨q2', ?_, trivial⟩
  refine convK Tryd.underlying32 Tryd.underlying5 Tryd.underlying9 r2 ?_
  simp (maxSteps := 1000000) (disch := omega) only [hid1', hid2', guardK_u, takeG_u, wrap_in64, optK_some', fzK_false', nilK_ptr, brK_true', brK_false', guardK_tt', guardK_ff', guardK_tf', guardK_ft', takeG_tt', takeG_ff', takeG_tf', takeG_ft', pickK_t', pickK_f', pickT_t', pickT_f', notK, extract2_0', extract2_1', extract3_0', extract3_1', extract3_2', here_load, here_fieldAt, here_indexAt, here_extract, here_un, here_conv, here_slice, here_bin, here_nil, and_here, true_and, Nat.zero_add, Nat.add_assoc, Nat.add_zero, Int.toNat_natCast, size_alloc, World.cell?_drew, World.frozen?_drew, Bool.not_true, Bool.not_false, Int.toNat_zero, dec_t, dec_f, int_eq_t, int_eq_f, int_ne_t, int_ne_f, wrap_in, klen32, hlen32, kbsub3, kblss3, ksl32_010z, ksl32_010, kbneq9, kbs32_0]
  refine ⟨q2', ?_⟩
  by_cases he : sealed (b.take (b.length - 4)) = b
  · rw [openL_ok h4 he] at hK
    rw [he]
    refine take_txt .neq (.bool false) (fun w' _ => by simp (maxSteps := 1000000) (disch := omega) only [hid1', hid2', guardK_u, takeG_u, wrap_in64, optK_some', fzK_false', nilK_ptr, brK_true', brK_false', guardK_tt', guardK_ff', guardK_tf', guardK_ft', takeG_tt', takeG_ff', takeG_tf', takeG_ft', pickK_t', pickK_f', pickT_t', pickT_f', notK, extract2_0', extract2_1', extract3_0', extract3_1', extract3_2', here_load, here_fieldAt, here_indexAt, here_extract, here_un, here_conv, here_slice, here_bin, here_nil, and_here, true_and, Nat.zero_add, Nat.add_assoc, Nat.add_zero, Int.toNat_natCast, size_alloc, World.cell?_drew, World.frozen?_drew, Bool.not_true, Bool.not_false, Int.toNat_zero, dec_t, dec_f, int_eq_t, int_eq_f, int_ne_t, int_ne_f, wrap_in, klen32, hlen32, kbsub3, kblss3, ksl32_010z, ksl32_010, kbneq9, kbs32_0, beq_self_eq_true, Bool.not_true, here_rfl]; try (exact ⟨trivial, trivial⟩)) ?_
    simp (maxSteps := 1000000) (disch := omega) only [hid1', hid2', guardK_u, takeG_u, wrap_in64, optK_some', fzK_false', nilK_ptr, brK_true', brK_false', guardK_tt', guardK_ff', guardK_tf', guardK_ft', takeG_tt', takeG_ff', takeG_tf', takeG_ft', pickK_t', pickK_f', pickT_t', pickT_f', notK, extract2_0', extract2_1', extract3_0', extract3_1', extract3_2', here_load, here_fieldAt, here_indexAt, here_extract, here_un, here_conv, here_slice, here_bin, here_nil, and_here, true_and, Nat.zero_add, Nat.add_assoc, Nat.add_zero, Int.toNat_natCast, size_alloc, World.cell?_drew, World.frozen?_drew, Bool.not_true, Bool.not_false, Int.toNat_zero, dec_t, dec_f, int_eq_t, int_eq_f, int_ne_t, int_ne_f, wrap_in, klen32, hlen32, kbsub3, kblss3, ksl32_010z, ksl32_010, kbneq9, kbs32_0, ht]
    have hrt2 := hrt.quiet q2'
    obtain ⟨A3, c3, F3, w3, p3, o3, k3, f3⟩ := apart_run (P := Tryd.prog) (w := w2) tyU8 (some ⟨g, o, none⟩) (b.length - 4) c ((b.take (b.length - 4)).map vb) (by simp) hrt2.src (vb_one _) (by omega) (by omega) 32
    refine appK p3 ?_
    simp (maxSteps := 1000000) (disch := omega) only [hid1', hid2', guardK_u, takeG_u, wrap_in64, optK_some', fzK_false', nilK_ptr, brK_true', brK_false', guardK_tt', guardK_ff', guardK_tf', guardK_ft', takeG_tt', takeG_ff', takeG_tf', takeG_ft', pickK_t', pickK_f', pickT_t', pickT_f', notK, extract2_0', extract2_1', extract3_0', extract3_1', extract3_2', here_load, here_fieldAt, here_indexAt, here_extract, here_un, here_conv, here_slice, here_bin, here_nil, and_here, true_and, Nat.zero_add, Nat.add_assoc, Nat.add_zero, Int.toNat_natCast, size_alloc, World.cell?_drew, World.frozen?_drew, Bool.not_true, Bool.not_false, Int.toNat_zero, dec_t, dec_f, int_eq_t, int_eq_f, int_ne_t, int_ne_f, wrap_in, klen32, hlen32, kbsub3, kblss3, ksl32_010z, ksl32_010, kbneq9, kbs32_0]
    exact hK A3 _ _ w3 hlt.symm (Reads.of_own o3) (q2'.trans k3)
  · rw [openL_bad h4 he] at hK
    have hb : ((txt (sealed (b.take (b.length - 4)))).toList == (txt b).toList) = false := by
      rw [txt_toList, txt_toList]; exact beq_eq_false_iff_ne.2 he
    refine take_txt .neq (.bool true) (fun w' _ => by simp (maxSteps := 1000000) (disch := omega) only [hid1', hid2', guardK_u, takeG_u, wrap_in64, optK_some', fzK_false', nilK_ptr, brK_true', brK_false', guardK_tt', guardK_ff', guardK_tf', guardK_ft', takeG_tt', takeG_ff', takeG_tf', takeG_ft', pickK_t', pickK_f', pickT_t', pickT_f', notK, extract2_0', extract2_1', extract3_0', extract3_1', extract3_2', here_load, here_fieldAt, here_indexAt, here_extract, here_un, here_conv, here_slice, here_bin, here_nil, and_here, true_and, Nat.zero_add, Nat.add_assoc, Nat.add_zero, Int.toNat_natCast, size_alloc, World.cell?_drew, World.frozen?_drew, Bool.not_true, Bool.not_false, Int.toNat_zero, dec_t, dec_f, int_eq_t, int_eq_f, int_ne_t, int_ne_f, wrap_in, klen32, hlen32, kbsub3, kblss3, ksl32_010z, ksl32_010, kbneq9, kbs32_0, hb, Bool.not_false, here_rfl]; try (exact ⟨trivial, trivial⟩)) ?_
    simp (maxSteps := 1000000) (disch := omega) only [hid1', hid2', guardK_u, takeG_u, wrap_in64, optK_some', fzK_false', nilK_ptr, brK_true', brK_false', guardK_tt', guardK_ff', guardK_tf', guardK_ft', takeG_tt', takeG_ff', takeG_tf', takeG_ft', pickK_t', pickK_f', pickT_t', pickT_f', notK, extract2_0', extract2_1', extract3_0', extract3_1', extract3_2', here_load, here_fieldAt, here_indexAt, here_extract, here_un, here_conv, here_slice, here_bin, here_nil, and_here, true_and, Nat.zero_add, Nat.add_assoc, Nat.add_zero, Int.toNat_natCast, size_alloc, World.cell?_drew, World.frozen?_drew, Bool.not_true, Bool.not_false, Int.toNat_zero, dec_t, dec_f, int_eq_t, int_eq_f, int_ne_t, int_ne_f, wrap_in, klen32, hlen32, kbsub3, kblss3, ksl32_010z, ksl32_010, kbneq9, kbs32_0]
    exact hK none 0 0 w2 rfl (.inl rfl) q2'
end Go.Proofs.YtpdhmbbmhomlnaaDoor

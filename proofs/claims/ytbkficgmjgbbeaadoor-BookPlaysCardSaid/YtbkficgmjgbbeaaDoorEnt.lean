/- Entries: which is newer, what is wrong with one; of both packages. Conditions: at most 50000 bytes. -/
import Derived.Test.YtbkficgmjgbbeaaDoorBookL
import Derived.Test.YtbkficgmjgbbeaaDoorL7
set_option linter.unusedVariables false
set_option linter.unusedSimpArgs false
set_option maxRecDepth 100000
namespace Go.Proofs.YtbkficgmjgbbeaaDoor
open Go.RowKit Go.Cn
theorem in_any {n : Int} {w : World} {K : Value → World → Prop} (hK : K (.bool (inR n)) w) : CallK Tryd.prog 47 #[.int .i64 n] K w := by
  refine F47_calls _ _ _ ?_; unfold F47
  unfold inR at hK
  by_cases h : 0 ≤ n
  · have e : decide (0 ≤ n) = true := decide_eq_true h
    rw [e, Bool.true_and] at hK
    simp (maxSteps := 1000000) (disch := omega) only [hid1', hid2', guardK_u, takeG_u, wrap_in64, optK_some', fzK_false', nilK_ptr, brK_true', brK_false', guardK_tt', guardK_ff', guardK_tf', guardK_ft', takeG_tt', takeG_ff', takeG_tf', takeG_ft', pickK_t', pickK_f', pickT_t', pickT_f', notK, extract2_0', extract2_1', extract3_0', extract3_1', extract3_2', here_load, here_fieldAt, here_indexAt, here_extract, here_un, here_conv, here_slice, here_bin, here_nil, and_here, true_and, Nat.zero_add, Nat.add_assoc, Nat.add_zero, Int.toNat_natCast, size_alloc, World.cell?_drew, World.frozen?_drew, Bool.not_true, Bool.not_false, Int.toNat_zero, dec_t, dec_f, int_eq_t, int_eq_f, int_ne_t, int_ne_f, wrap_in, kbgeq2, kbleq2]
    exact hK
  · have e : decide (0 ≤ n) = false := decide_eq_false h
    rw [e, Bool.false_and] at hK
    simp (maxSteps := 1000000) (disch := omega) only [hid1', hid2', guardK_u, takeG_u, wrap_in64, optK_some', fzK_false', nilK_ptr, brK_true', brK_false', guardK_tt', guardK_ff', guardK_tf', guardK_ft', takeG_tt', takeG_ff', takeG_tf', takeG_ft', pickK_t', pickK_f', pickT_t', pickT_f', notK, extract2_0', extract2_1', extract3_0', extract3_1', extract3_2', here_load, here_fieldAt, here_indexAt, here_extract, here_un, here_conv, here_slice, here_bin, here_nil, and_here, true_and, Nat.zero_add, Nat.add_assoc, Nat.add_zero, Int.toNat_natCast, size_alloc, World.cell?_drew, World.frozen?_drew, Bool.not_true, Bool.not_false, Int.toNat_zero, dec_t, dec_f, int_eq_t, int_eq_f, int_ne_t, int_ne_f, wrap_in, kbgeq2, kbleq2, guardK_u]
    exact hK
theorem inR_any {n : Int} {w : World} {K : Value → World → Prop} (hK : K (.bool (inR n)) w) : CallK Tryd.prog 45 #[.int .i64 n] K w := by
  refine F45_calls _ _ _ ?_; unfold F45
  unfold inR at hK
  by_cases h : 0 ≤ n
  · have e : decide (0 ≤ n) = true := decide_eq_true h
    rw [e, Bool.true_and] at hK
    simp (maxSteps := 1000000) (disch := omega) only [hid1', hid2', guardK_u, takeG_u, wrap_in64, optK_some', fzK_false', nilK_ptr, brK_true', brK_false', guardK_tt', guardK_ff', guardK_tf', guardK_ft', takeG_tt', takeG_ff', takeG_tf', takeG_ft', pickK_t', pickK_f', pickT_t', pickT_f', notK, extract2_0', extract2_1', extract3_0', extract3_1', extract3_2', here_load, here_fieldAt, here_indexAt, here_extract, here_un, here_conv, here_slice, here_bin, here_nil, and_here, true_and, Nat.zero_add, Nat.add_assoc, Nat.add_zero, Int.toNat_natCast, size_alloc, World.cell?_drew, World.frozen?_drew, Bool.not_true, Bool.not_false, Int.toNat_zero, dec_t, dec_f, int_eq_t, int_eq_f, int_ne_t, int_ne_f, wrap_in, kbgeq2, kbleq2]
    exact hK
  · have e : decide (0 ≤ n) = false := decide_eq_false h
    rw [e, Bool.false_and] at hK
    simp (maxSteps := 1000000) (disch := omega) only [hid1', hid2', guardK_u, takeG_u, wrap_in64, optK_some', fzK_false', nilK_ptr, brK_true', brK_false', guardK_tt', guardK_ff', guardK_tf', guardK_ft', takeG_tt', takeG_ff', takeG_tf', takeG_ft', pickK_t', pickK_f', pickT_t', pickT_f', notK, extract2_0', extract2_1', extract3_0', extract3_1', extract3_2', here_load, here_fieldAt, here_indexAt, here_extract, here_un, here_conv, here_slice, here_bin, here_nil, and_here, true_and, Nat.zero_add, Nat.add_assoc, Nat.add_zero, Int.toNat_natCast, size_alloc, World.cell?_drew, World.frozen?_drew, Bool.not_true, Bool.not_false, Int.toNat_zero, dec_t, dec_f, int_eq_t, int_eq_f, int_ne_t, int_ne_f, wrap_in, kbgeq2, kbleq2, guardK_u]
    exact hK
theorem depth_str {p : ByteArray} {w : World} {K : Value → World → Prop} (hl : p.size ≤ 50000) (hm : MaxAt w)
    (hK : ∀ w', Qt w w' → K (.int .i64 (depthL p.data.toList)) w') : CallK Tryd.prog 46 #[.string p] K w := by
  rw [← txt_list p]; exact depth_any hl hm hK
theorem nodeR_str {p : ByteArray} {w : World} {K : Value → World → Prop} (hl : p.size ≤ 2000000)
    (hK : ∀ w', Qt w w' → K (.bool (nodeB p)) w') : CallK Tryd.prog 44 #[.string p] K w := by
  rw [← txt_list p]; exact nodeR_any hl hK
theorem cell3 {w : World} {b : Nat} {t : TypeId} {e : Ent} (h : w.heap[b]? = some (.cells #[.string e.1, .int .i64 e.2.1, .int .i64 e.2.2] t (0, 0))) : w.cell? ⟨b, 0, none⟩ = some (.string e.1) ∧ w.cell? ⟨b, 1, none⟩ = some (.int .i64 e.2.1) ∧ w.cell? ⟨b, 2, none⟩ = some (.int .i64 e.2.2) :=
  ⟨by rw [blk_cell h]; rfl, by rw [blk_cell h]; rfl, by rw [blk_cell h]; rfl⟩
theorem depth_node (p : ByteArray) : decide (depthL p.data.toList < 1) = !nodeB p := by
  have h := node_depth p.data.toList
  unfold nodeB
  cases e : nodeL p.data.toList with
  | true => have := h.1 e; simp; omega
  | false =>
    have : ¬ 1 ≤ depthL p.data.toList := fun x => by have := h.2 x; rw [e] at this; cases this
    simp; omega
theorem right_any {e : Ent} {w : World} {K : Value → World → Prop} (hl : e.1.size ≤ 50000) (hm : MaxAt w)
    (hK : ∀ w', Qt w w' → K (.int .i64 (errE e)) w') : CallK Tryd.prog 30 #[SE.ev e] K w := by
  refine F30_calls _ _ _ ?_; unfold F30
  have qx : Qt w (w.alloc (.cells #[.string e.1, .int .i64 e.2.1, .int .i64 e.2.2] 28)) := Chg.alloc Qt.refl _
  have hx : (w.alloc (.cells #[.string e.1, .int .i64 e.2.1, .int .i64 e.2.2] 28)).heap[w.heap.size]? = some (.cells #[.string e.1, .int .i64 e.2.1, .int .i64 e.2.2] 28 (0, 0)) := blk_new _ _
  simp (maxSteps := 1000000) (disch := omega) only [hid1', hid2', guardK_u, takeG_u, wrap_in64, optK_some', fzK_false', nilK_ptr, brK_true', brK_false', guardK_tt', guardK_ff', guardK_tf', guardK_ft', takeG_tt', takeG_ff', takeG_tf', takeG_ft', pickK_t', pickK_f', pickT_t', pickT_f', notK, extract2_0', extract2_1', extract3_0', extract3_1', extract3_2', here_load, here_fieldAt, here_indexAt, here_extract, here_un, here_conv, here_slice, here_bin, here_nil, and_here, true_and, Nat.zero_add, Nat.add_assoc, Nat.add_zero, Int.toNat_natCast, size_alloc, World.cell?_drew, World.frozen?_drew, Bool.not_true, Bool.not_false, Int.toNat_zero, dec_t, dec_f, int_eq_t, int_eq_f, int_ne_t, int_ne_f, wrap_in, kblss3, kfa28_0, kld9, kld2, kbx28, kfa28_1, kfa28_2]
  generalize (w.alloc (.cells #[.string e.1, .int .i64 e.2.1, .int .i64 e.2.2] 28)) = w1 at *
  generalize w.heap.size = bx at *
  obtain ⟨x0, x1, x2⟩ := cell3 hx
  simp (maxSteps := 1000000) (disch := omega) only [hid1', hid2', guardK_u, takeG_u, wrap_in64, optK_some', fzK_false', nilK_ptr, brK_true', brK_false', guardK_tt', guardK_ff', guardK_tf', guardK_ft', takeG_tt', takeG_ff', takeG_tf', takeG_ft', pickK_t', pickK_f', pickT_t', pickT_f', notK, extract2_0', extract2_1', extract3_0', extract3_1', extract3_2', here_load, here_fieldAt, here_indexAt, here_extract, here_un, here_conv, here_slice, here_bin, here_nil, and_here, true_and, Nat.zero_add, Nat.add_assoc, Nat.add_zero, Int.toNat_natCast, size_alloc, World.cell?_drew, World.frozen?_drew, Bool.not_true, Bool.not_false, Int.toNat_zero, dec_t, dec_f, int_eq_t, int_eq_f, int_ne_t, int_ne_f, wrap_in, kblss3, kfa28_0, kld9, kld2, kbx28, kfa28_1, kfa28_2, x0]
  refine ck46 (depth_str hl (hm.quiet qx) ?_)
  intro w2 q2
  have hx2 := q2.heap hx (fun h => h)
  obtain ⟨y0, y1, y2⟩ := cell3 hx2
  have hd := depth_node e.1
  have fin := hK w2 (qx.trans q2)
  unfold errE at fin
  generalize depthL e.1.data.toList = dd at *
  by_cases hn : nodeB e.1 = false
  · rw [if_pos hn] at fin
    rw [hn] at hd
    have hd' : dd < 1 := by simpa using hd
    simp (maxSteps := 1000000) (disch := omega) only [hid1', hid2', guardK_u, takeG_u, wrap_in64, optK_some', fzK_false', nilK_ptr, brK_true', brK_false', guardK_tt', guardK_ff', guardK_tf', guardK_ft', takeG_tt', takeG_ff', takeG_tf', takeG_ft', pickK_t', pickK_f', pickT_t', pickT_f', notK, extract2_0', extract2_1', extract3_0', extract3_1', extract3_2', here_load, here_fieldAt, here_indexAt, here_extract, here_un, here_conv, here_slice, here_bin, here_nil, and_here, true_and, Nat.zero_add, Nat.add_assoc, Nat.add_zero, Int.toNat_natCast, size_alloc, World.cell?_drew, World.frozen?_drew, Bool.not_true, Bool.not_false, Int.toNat_zero, dec_t, dec_f, int_eq_t, int_eq_f, int_ne_t, int_ne_f, wrap_in, kblss3, kfa28_0, kld9, kld2, kbx28, kfa28_1, kfa28_2]
    exact fin
  have hn' : nodeB e.1 = true := by simpa using hn
  rw [if_neg hn] at fin
  rw [hn'] at hd
  have hd' : ¬ dd < 1 := by simpa using hd
  simp (maxSteps := 1000000) (disch := omega) only [hid1', hid2', guardK_u, takeG_u, wrap_in64, optK_some', fzK_false', nilK_ptr, brK_true', brK_false', guardK_tt', guardK_ff', guardK_tf', guardK_ft', takeG_tt', takeG_ff', takeG_tf', takeG_ft', pickK_t', pickK_f', pickT_t', pickT_f', notK, extract2_0', extract2_1', extract3_0', extract3_1', extract3_2', here_load, here_fieldAt, here_indexAt, here_extract, here_un, here_conv, here_slice, here_bin, here_nil, and_here, true_and, Nat.zero_add, Nat.add_assoc, Nat.add_zero, Int.toNat_natCast, size_alloc, World.cell?_drew, World.frozen?_drew, Bool.not_true, Bool.not_false, Int.toNat_zero, dec_t, dec_f, int_eq_t, int_eq_f, int_ne_t, int_ne_f, wrap_in, kblss3, kfa28_0, kld9, kld2, kbx28, kfa28_1, kfa28_2, y1]
  refine ck47 (in_any ?_)
  by_cases h1 : inR e.2.1 = false
  · rw [if_pos (.inl h1)] at fin
    rw [h1]
    simp (maxSteps := 1000000) (disch := omega) only [hid1', hid2', guardK_u, takeG_u, wrap_in64, optK_some', fzK_false', nilK_ptr, brK_true', brK_false', guardK_tt', guardK_ff', guardK_tf', guardK_ft', takeG_tt', takeG_ff', takeG_tf', takeG_ft', pickK_t', pickK_f', pickT_t', pickT_f', notK, extract2_0', extract2_1', extract3_0', extract3_1', extract3_2', here_load, here_fieldAt, here_indexAt, here_extract, here_un, here_conv, here_slice, here_bin, here_nil, and_here, true_and, Nat.zero_add, Nat.add_assoc, Nat.add_zero, Int.toNat_natCast, size_alloc, World.cell?_drew, World.frozen?_drew, Bool.not_true, Bool.not_false, Int.toNat_zero, dec_t, dec_f, int_eq_t, int_eq_f, int_ne_t, int_ne_f, wrap_in, kblss3, kfa28_0, kld9, kld2, kbx28, kfa28_1, kfa28_2, guardK_u]
    exact fin
  have h1' : inR e.2.1 = true := by simpa using h1
  rw [h1']
  simp (maxSteps := 1000000) (disch := omega) only [hid1', hid2', guardK_u, takeG_u, wrap_in64, optK_some', fzK_false', nilK_ptr, brK_true', brK_false', guardK_tt', guardK_ff', guardK_tf', guardK_ft', takeG_tt', takeG_ff', takeG_tf', takeG_ft', pickK_t', pickK_f', pickT_t', pickT_f', notK, extract2_0', extract2_1', extract3_0', extract3_1', extract3_2', here_load, here_fieldAt, here_indexAt, here_extract, here_un, here_conv, here_slice, here_bin, here_nil, and_here, true_and, Nat.zero_add, Nat.add_assoc, Nat.add_zero, Int.toNat_natCast, size_alloc, World.cell?_drew, World.frozen?_drew, Bool.not_true, Bool.not_false, Int.toNat_zero, dec_t, dec_f, int_eq_t, int_eq_f, int_ne_t, int_ne_f, wrap_in, kblss3, kfa28_0, kld9, kld2, kbx28, kfa28_1, kfa28_2, y2]
  refine ck47 (in_any ?_)
  by_cases h2 : inR e.2.2 = false
  · rw [if_pos (.inr h2)] at fin
    rw [h2]
    simp (maxSteps := 1000000) (disch := omega) only [hid1', hid2', guardK_u, takeG_u, wrap_in64, optK_some', fzK_false', nilK_ptr, brK_true', brK_false', guardK_tt', guardK_ff', guardK_tf', guardK_ft', takeG_tt', takeG_ff', takeG_tf', takeG_ft', pickK_t', pickK_f', pickT_t', pickT_f', notK, extract2_0', extract2_1', extract3_0', extract3_1', extract3_2', here_load, here_fieldAt, here_indexAt, here_extract, here_un, here_conv, here_slice, here_bin, here_nil, and_here, true_and, Nat.zero_add, Nat.add_assoc, Nat.add_zero, Int.toNat_natCast, size_alloc, World.cell?_drew, World.frozen?_drew, Bool.not_true, Bool.not_false, Int.toNat_zero, dec_t, dec_f, int_eq_t, int_eq_f, int_ne_t, int_ne_f, wrap_in, kblss3, kfa28_0, kld9, kld2, kbx28, kfa28_1, kfa28_2]
    exact fin
  have h2' : inR e.2.2 = true := by simpa using h2
  rw [if_neg (by rintro (h | h); exact h1 h; exact h2 h)] at fin
  rw [h2']
  simp (maxSteps := 1000000) (disch := omega) only [hid1', hid2', guardK_u, takeG_u, wrap_in64, optK_some', fzK_false', nilK_ptr, brK_true', brK_false', guardK_tt', guardK_ff', guardK_tf', guardK_ft', takeG_tt', takeG_ff', takeG_tf', takeG_ft', pickK_t', pickK_f', pickT_t', pickT_f', notK, extract2_0', extract2_1', extract3_0', extract3_1', extract3_2', here_load, here_fieldAt, here_indexAt, here_extract, here_un, here_conv, here_slice, here_bin, here_nil, and_here, true_and, Nat.zero_add, Nat.add_assoc, Nat.add_zero, Int.toNat_natCast, size_alloc, World.cell?_drew, World.frozen?_drew, Bool.not_true, Bool.not_false, Int.toNat_zero, dec_t, dec_f, int_eq_t, int_eq_f, int_ne_t, int_ne_f, wrap_in, kblss3, kfa28_0, kld9, kld2, kbx28, kfa28_1, kfa28_2]
  exact fin
theorem checkR_any {e : Ent} {w : World} {K : Value → World → Prop} (hl : e.1.size ≤ 50000)
    (hK : ∀ w', Qt w w' → K (.int .i64 (errE e)) w') : CallK Tryd.prog 29 #[SE.ev e] K w := by
  refine F29_calls _ _ _ ?_; unfold F29
  have qx : Qt w (w.alloc (.cells #[.string e.1, .int .i64 e.2.1, .int .i64 e.2.2] 33)) := Chg.alloc Qt.refl _
  have hx : (w.alloc (.cells #[.string e.1, .int .i64 e.2.1, .int .i64 e.2.2] 33)).heap[w.heap.size]? = some (.cells #[.string e.1, .int .i64 e.2.1, .int .i64 e.2.2] 33 (0, 0)) := blk_new _ _
  simp (maxSteps := 1000000) (disch := omega) only [hid1', hid2', guardK_u, takeG_u, wrap_in64, optK_some', fzK_false', nilK_ptr, brK_true', brK_false', guardK_tt', guardK_ff', guardK_tf', guardK_ft', takeG_tt', takeG_ff', takeG_tf', takeG_ft', pickK_t', pickK_f', pickT_t', pickT_f', notK, extract2_0', extract2_1', extract3_0', extract3_1', extract3_2', here_load, here_fieldAt, here_indexAt, here_extract, here_un, here_conv, here_slice, here_bin, here_nil, and_here, true_and, Nat.zero_add, Nat.add_assoc, Nat.add_zero, Int.toNat_natCast, size_alloc, World.cell?_drew, World.frozen?_drew, Bool.not_true, Bool.not_false, Int.toNat_zero, dec_t, dec_f, int_eq_t, int_eq_f, int_ne_t, int_ne_f, wrap_in, kld9, kld2, kfa33_0, kbx33, kfa33_2, kfa33_1]
  generalize (w.alloc (.cells #[.string e.1, .int .i64 e.2.1, .int .i64 e.2.2] 33)) = w1 at *
  generalize w.heap.size = bx at *
  obtain ⟨x0, x1, x2⟩ := cell3 hx
  simp (maxSteps := 1000000) (disch := omega) only [hid1', hid2', guardK_u, takeG_u, wrap_in64, optK_some', fzK_false', nilK_ptr, brK_true', brK_false', guardK_tt', guardK_ff', guardK_tf', guardK_ft', takeG_tt', takeG_ff', takeG_tf', takeG_ft', pickK_t', pickK_f', pickT_t', pickT_f', notK, extract2_0', extract2_1', extract3_0', extract3_1', extract3_2', here_load, here_fieldAt, here_indexAt, here_extract, here_un, here_conv, here_slice, here_bin, here_nil, and_here, true_and, Nat.zero_add, Nat.add_assoc, Nat.add_zero, Int.toNat_natCast, size_alloc, World.cell?_drew, World.frozen?_drew, Bool.not_true, Bool.not_false, Int.toNat_zero, dec_t, dec_f, int_eq_t, int_eq_f, int_ne_t, int_ne_f, wrap_in, kld9, kld2, kfa33_0, kbx33, kfa33_2, kfa33_1, x0]
  refine ck44 (nodeR_str (by omega) ?_)
  intro w2 q2
  have hx2 := q2.heap hx (fun h => h)
  obtain ⟨y0, y1, y2⟩ := cell3 hx2
  have fin := hK w2 (qx.trans q2)
  unfold errE at fin
  by_cases hn : nodeB e.1 = false
  · rw [if_pos hn] at fin
    rw [hn]
    simp (maxSteps := 1000000) (disch := omega) only [hid1', hid2', guardK_u, takeG_u, wrap_in64, optK_some', fzK_false', nilK_ptr, brK_true', brK_false', guardK_tt', guardK_ff', guardK_tf', guardK_ft', takeG_tt', takeG_ff', takeG_tf', takeG_ft', pickK_t', pickK_f', pickT_t', pickT_f', notK, extract2_0', extract2_1', extract3_0', extract3_1', extract3_2', here_load, here_fieldAt, here_indexAt, here_extract, here_un, here_conv, here_slice, here_bin, here_nil, and_here, true_and, Nat.zero_add, Nat.add_assoc, Nat.add_zero, Int.toNat_natCast, size_alloc, World.cell?_drew, World.frozen?_drew, Bool.not_true, Bool.not_false, Int.toNat_zero, dec_t, dec_f, int_eq_t, int_eq_f, int_ne_t, int_ne_f, wrap_in, kld9, kld2, kfa33_0, kbx33, kfa33_2, kfa33_1]
    exact fin
  have hn' : nodeB e.1 = true := by simpa using hn
  rw [if_neg hn] at fin
  rw [hn']
  simp (maxSteps := 1000000) (disch := omega) only [hid1', hid2', guardK_u, takeG_u, wrap_in64, optK_some', fzK_false', nilK_ptr, brK_true', brK_false', guardK_tt', guardK_ff', guardK_tf', guardK_ft', takeG_tt', takeG_ff', takeG_tf', takeG_ft', pickK_t', pickK_f', pickT_t', pickT_f', notK, extract2_0', extract2_1', extract3_0', extract3_1', extract3_2', here_load, here_fieldAt, here_indexAt, here_extract, here_un, here_conv, here_slice, here_bin, here_nil, and_here, true_and, Nat.zero_add, Nat.add_assoc, Nat.add_zero, Int.toNat_natCast, size_alloc, World.cell?_drew, World.frozen?_drew, Bool.not_true, Bool.not_false, Int.toNat_zero, dec_t, dec_f, int_eq_t, int_eq_f, int_ne_t, int_ne_f, wrap_in, kld9, kld2, kfa33_0, kbx33, kfa33_2, kfa33_1, y1]
  refine ck45 (inR_any ?_)
  by_cases h1 : inR e.2.1 = false
  · rw [if_pos (.inl h1)] at fin
    rw [h1]
    simp (maxSteps := 1000000) (disch := omega) only [hid1', hid2', guardK_u, takeG_u, wrap_in64, optK_some', fzK_false', nilK_ptr, brK_true', brK_false', guardK_tt', guardK_ff', guardK_tf', guardK_ft', takeG_tt', takeG_ff', takeG_tf', takeG_ft', pickK_t', pickK_f', pickT_t', pickT_f', notK, extract2_0', extract2_1', extract3_0', extract3_1', extract3_2', here_load, here_fieldAt, here_indexAt, here_extract, here_un, here_conv, here_slice, here_bin, here_nil, and_here, true_and, Nat.zero_add, Nat.add_assoc, Nat.add_zero, Int.toNat_natCast, size_alloc, World.cell?_drew, World.frozen?_drew, Bool.not_true, Bool.not_false, Int.toNat_zero, dec_t, dec_f, int_eq_t, int_eq_f, int_ne_t, int_ne_f, wrap_in, kld9, kld2, kfa33_0, kbx33, kfa33_2, kfa33_1, guardK_u]
    exact fin
  have h1' : inR e.2.1 = true := by simpa using h1
  rw [h1']
  simp (maxSteps := 1000000) (disch := omega) only [hid1', hid2', guardK_u, takeG_u, wrap_in64, optK_some', fzK_false', nilK_ptr, brK_true', brK_false', guardK_tt', guardK_ff', guardK_tf', guardK_ft', takeG_tt', takeG_ff', takeG_tf', takeG_ft', pickK_t', pickK_f', pickT_t', pickT_f', notK, extract2_0', extract2_1', extract3_0', extract3_1', extract3_2', here_load, here_fieldAt, here_indexAt, here_extract, here_un, here_conv, here_slice, here_bin, here_nil, and_here, true_and, Nat.zero_add, Nat.add_assoc, Nat.add_zero, Int.toNat_natCast, size_alloc, World.cell?_drew, World.frozen?_drew, Bool.not_true, Bool.not_false, Int.toNat_zero, dec_t, dec_f, int_eq_t, int_eq_f, int_ne_t, int_ne_f, wrap_in, kld9, kld2, kfa33_0, kbx33, kfa33_2, kfa33_1, y2]
  refine ck45 (inR_any ?_)
  by_cases h2 : inR e.2.2 = false
  · rw [if_pos (.inr h2)] at fin
    rw [h2]
    simp (maxSteps := 1000000) (disch := omega) only [hid1', hid2', guardK_u, takeG_u, wrap_in64, optK_some', fzK_false', nilK_ptr, brK_true', brK_false', guardK_tt', guardK_ff', guardK_tf', guardK_ft', takeG_tt', takeG_ff', takeG_tf', takeG_ft', pickK_t', pickK_f', pickT_t', pickT_f', notK, extract2_0', extract2_1', extract3_0', extract3_1', extract3_2', here_load, here_fieldAt, here_indexAt, here_extract, here_un, here_conv, here_slice, here_bin, here_nil, and_here, true_and, Nat.zero_add, Nat.add_assoc, Nat.add_zero, Int.toNat_natCast, size_alloc, World.cell?_drew, World.frozen?_drew, Bool.not_true, Bool.not_false, Int.toNat_zero, dec_t, dec_f, int_eq_t, int_eq_f, int_ne_t, int_ne_f, wrap_in, kld9, kld2, kfa33_0, kbx33, kfa33_2, kfa33_1]
    exact fin
  have h2' : inR e.2.2 = true := by simpa using h2
  rw [if_neg (by rintro (h | h); exact h1 h; exact h2 h)] at fin
  rw [h2']
  simp (maxSteps := 1000000) (disch := omega) only [hid1', hid2', guardK_u, takeG_u, wrap_in64, optK_some', fzK_false', nilK_ptr, brK_true', brK_false', guardK_tt', guardK_ff', guardK_tf', guardK_ft', takeG_tt', takeG_ff', takeG_tf', takeG_ft', pickK_t', pickK_f', pickT_t', pickT_f', notK, extract2_0', extract2_1', extract3_0', extract3_1', extract3_2', here_load, here_fieldAt, here_indexAt, here_extract, here_un, here_conv, here_slice, here_bin, here_nil, and_here, true_and, Nat.zero_add, Nat.add_assoc, Nat.add_zero, Int.toNat_natCast, size_alloc, World.cell?_drew, World.frozen?_drew, Bool.not_true, Bool.not_false, Int.toNat_zero, dec_t, dec_f, int_eq_t, int_eq_f, int_ne_t, int_ne_f, wrap_in, kld9, kld2, kfa33_0, kbx33, kfa33_2, kfa33_1]
  exact fin
theorem newerR_any {a b : Ent} {w : World} {K : Value → World → Prop} (hK : ∀ w', Qt w w' → K (.bool (newE a b)) w') : CallK Tryd.prog 24 #[SE.ev a, SE.ev b] K w := by
  refine F24_calls _ _ _ _ ?_; unfold F24
  have qx : Qt w (w.alloc (.cells #[.string a.1, .int .i64 a.2.1, .int .i64 a.2.2] 33)) := Chg.alloc Qt.refl _
  have hx : (w.alloc (.cells #[.string a.1, .int .i64 a.2.1, .int .i64 a.2.2] 33)).heap[w.heap.size]? = some (.cells #[.string a.1, .int .i64 a.2.1, .int .i64 a.2.2] 33 (0, 0)) := blk_new _ _
  have hs1 : (w.alloc (.cells #[.string a.1, .int .i64 a.2.1, .int .i64 a.2.2] 33)).heap.size = w.heap.size + 1 := size_alloc _ _
  simp (maxSteps := 1000000) (disch := omega) only [hid1', hid2', guardK_u, takeG_u, wrap_in64, optK_some', fzK_false', nilK_ptr, brK_true', brK_false', guardK_tt', guardK_ff', guardK_tf', guardK_ft', takeG_tt', takeG_ff', takeG_tf', takeG_ft', pickK_t', pickK_f', pickT_t', pickT_f', notK, extract2_0', extract2_1', extract3_0', extract3_1', extract3_2', here_load, here_fieldAt, here_indexAt, here_extract, here_un, here_conv, here_slice, here_bin, here_nil, and_here, true_and, Nat.zero_add, Nat.add_assoc, Nat.add_zero, Int.toNat_natCast, size_alloc, World.cell?_drew, World.frozen?_drew, Bool.not_true, Bool.not_false, Int.toNat_zero, dec_t, dec_f, int_eq_t, int_eq_f, int_ne_t, int_ne_f, wrap_in, kld2, kbgtr2, kbx33, kfa33_2, kfa33_1, kbneq2]
  generalize (w.alloc (.cells #[.string a.1, .int .i64 a.2.1, .int .i64 a.2.2] 33)) = w1 at *
  have qy : Qt w1 (w1.alloc (.cells #[.string b.1, .int .i64 b.2.1, .int .i64 b.2.2] 33)) := Chg.alloc Qt.refl _
  have hy : (w1.alloc (.cells #[.string b.1, .int .i64 b.2.1, .int .i64 b.2.2] 33)).heap[w1.heap.size]? = some (.cells #[.string b.1, .int .i64 b.2.1, .int .i64 b.2.2] 33 (0, 0)) := blk_new _ _
  have hxy := qy.heap hx (fun h => h)
  rw [hs1] at hy
  generalize (w1.alloc (.cells #[.string b.1, .int .i64 b.2.1, .int .i64 b.2.2] 33)) = w2 at *
  clear hs1
  generalize w.heap.size = bx at *
  obtain ⟨x0, x1, x2⟩ := cell3 hxy
  obtain ⟨y0, y1, y2⟩ := cell3 hy
  have fin := hK w2 (qx.trans qy)
  unfold newE at fin
  by_cases h : a.2.1 = b.2.1
  · rw [if_pos h] at fin
    have e1 : (a.2.1 != b.2.1) = false := by rw [h]; exact bne_self_eq_false _
    simp (maxSteps := 1000000) (disch := omega) only [hid1', hid2', guardK_u, takeG_u, wrap_in64, optK_some', fzK_false', nilK_ptr, brK_true', brK_false', guardK_tt', guardK_ff', guardK_tf', guardK_ft', takeG_tt', takeG_ff', takeG_tf', takeG_ft', pickK_t', pickK_f', pickT_t', pickT_f', notK, extract2_0', extract2_1', extract3_0', extract3_1', extract3_2', here_load, here_fieldAt, here_indexAt, here_extract, here_un, here_conv, here_slice, here_bin, here_nil, and_here, true_and, Nat.zero_add, Nat.add_assoc, Nat.add_zero, Int.toNat_natCast, size_alloc, World.cell?_drew, World.frozen?_drew, Bool.not_true, Bool.not_false, Int.toNat_zero, dec_t, dec_f, int_eq_t, int_eq_f, int_ne_t, int_ne_f, wrap_in, kld2, kbgtr2, kbx33, kfa33_2, kfa33_1, kbneq2, x1, x2, y1, y2, e1]
    exact fin
  · rw [if_neg h] at fin
    have e1 : (a.2.1 != b.2.1) = true := bne_iff_ne.2 h
    simp (maxSteps := 1000000) (disch := omega) only [hid1', hid2', guardK_u, takeG_u, wrap_in64, optK_some', fzK_false', nilK_ptr, brK_true', brK_false', guardK_tt', guardK_ff', guardK_tf', guardK_ft', takeG_tt', takeG_ff', takeG_tf', takeG_ft', pickK_t', pickK_f', pickT_t', pickT_f', notK, extract2_0', extract2_1', extract3_0', extract3_1', extract3_2', here_load, here_fieldAt, here_indexAt, here_extract, here_un, here_conv, here_slice, here_bin, here_nil, and_here, true_and, Nat.zero_add, Nat.add_assoc, Nat.add_zero, Int.toNat_natCast, size_alloc, World.cell?_drew, World.frozen?_drew, Bool.not_true, Bool.not_false, Int.toNat_zero, dec_t, dec_f, int_eq_t, int_eq_f, int_ne_t, int_ne_f, wrap_in, kld2, kbgtr2, kbx33, kfa33_2, kfa33_1, kbneq2, x1, x2, y1, y2, e1]
    exact fin
def cmp64 (a b : Int) : Int := if a < b then -1 else if b < a then 1 else 0
theorem nan64_any {a : Int} {w : World} {K : Value → World → Prop} (hK : K (.bool false) w) : CallK Tryd.prog 55 #[.int .i64 a] K w := by
  refine F55_calls _ _ _ ?_; unfold F55
  simp (maxSteps := 1000000) (disch := omega) only [hid1', hid2', guardK_u, takeG_u, wrap_in64, optK_some', fzK_false', nilK_ptr, brK_true', brK_false', guardK_tt', guardK_ff', guardK_tf', guardK_ft', takeG_tt', takeG_ff', takeG_tf', takeG_ft', pickK_t', pickK_f', pickT_t', pickT_f', notK, extract2_0', extract2_1', extract3_0', extract3_1', extract3_2', here_load, here_fieldAt, here_indexAt, here_extract, here_un, here_conv, here_slice, here_bin, here_nil, and_here, true_and, Nat.zero_add, Nat.add_assoc, Nat.add_zero, Int.toNat_natCast, size_alloc, World.cell?_drew, World.frozen?_drew, Bool.not_true, Bool.not_false, Int.toNat_zero, dec_t, dec_f, int_eq_t, int_eq_f, int_ne_t, int_ne_f, wrap_in, kbneq2, beq_self_eq_true, bne_self_eq_false]
  exact hK
theorem cmp64_any {a b : Int} {w : World} {K : Value → World → Prop} (hK : K (.int .i64 (cmp64 a b)) w) : CallK Tryd.prog 43 #[.int .i64 a, .int .i64 b] K w := by
  refine F43_calls _ _ _ _ ?_; unfold F43
  refine ck55 (nan64_any ?_)
  simp (maxSteps := 1000000) (disch := omega) only [hid1', hid2', guardK_u, takeG_u, wrap_in64, optK_some', fzK_false', nilK_ptr, brK_true', brK_false', guardK_tt', guardK_ff', guardK_tf', guardK_ft', takeG_tt', takeG_ff', takeG_tf', takeG_ft', pickK_t', pickK_f', pickT_t', pickT_f', notK, extract2_0', extract2_1', extract3_0', extract3_1', extract3_2', here_load, here_fieldAt, here_indexAt, here_extract, here_un, here_conv, here_slice, here_bin, here_nil, and_here, true_and, Nat.zero_add, Nat.add_assoc, Nat.add_zero, Int.toNat_natCast, size_alloc, World.cell?_drew, World.frozen?_drew, Bool.not_true, Bool.not_false, Int.toNat_zero, dec_t, dec_f, int_eq_t, int_eq_f, int_ne_t, int_ne_f, wrap_in, kbgtr2, kblss2]
  refine ck55 (nan64_any ?_)
  unfold cmp64 at hK
  by_cases h1 : a < b
  · rw [if_pos h1] at hK
    simp (maxSteps := 1000000) (disch := omega) only [hid1', hid2', guardK_u, takeG_u, wrap_in64, optK_some', fzK_false', nilK_ptr, brK_true', brK_false', guardK_tt', guardK_ff', guardK_tf', guardK_ft', takeG_tt', takeG_ff', takeG_tf', takeG_ft', pickK_t', pickK_f', pickT_t', pickT_f', notK, extract2_0', extract2_1', extract3_0', extract3_1', extract3_2', here_load, here_fieldAt, here_indexAt, here_extract, here_un, here_conv, here_slice, here_bin, here_nil, and_here, true_and, Nat.zero_add, Nat.add_assoc, Nat.add_zero, Int.toNat_natCast, size_alloc, World.cell?_drew, World.frozen?_drew, Bool.not_true, Bool.not_false, Int.toNat_zero, dec_t, dec_f, int_eq_t, int_eq_f, int_ne_t, int_ne_f, wrap_in, kbgtr2, kblss2]
    exact hK
  · rw [if_neg h1] at hK
    by_cases h2 : b < a
    · rw [if_pos h2] at hK
      simp (maxSteps := 1000000) (disch := omega) only [hid1', hid2', guardK_u, takeG_u, wrap_in64, optK_some', fzK_false', nilK_ptr, brK_true', brK_false', guardK_tt', guardK_ff', guardK_tf', guardK_ft', takeG_tt', takeG_ff', takeG_tf', takeG_ft', pickK_t', pickK_f', pickT_t', pickT_f', notK, extract2_0', extract2_1', extract3_0', extract3_1', extract3_2', here_load, here_fieldAt, here_indexAt, here_extract, here_un, here_conv, here_slice, here_bin, here_nil, and_here, true_and, Nat.zero_add, Nat.add_assoc, Nat.add_zero, Int.toNat_natCast, size_alloc, World.cell?_drew, World.frozen?_drew, Bool.not_true, Bool.not_false, Int.toNat_zero, dec_t, dec_f, int_eq_t, int_eq_f, int_ne_t, int_ne_f, wrap_in, kbgtr2, kblss2]
      exact hK
    · rw [if_neg h2] at hK
      simp (maxSteps := 1000000) (disch := omega) only [hid1', hid2', guardK_u, takeG_u, wrap_in64, optK_some', fzK_false', nilK_ptr, brK_true', brK_false', guardK_tt', guardK_ff', guardK_tf', guardK_ft', takeG_tt', takeG_ff', takeG_tf', takeG_ft', pickK_t', pickK_f', pickT_t', pickT_f', notK, extract2_0', extract2_1', extract3_0', extract3_1', extract3_2', here_load, here_fieldAt, here_indexAt, here_extract, here_un, here_conv, here_slice, here_bin, here_nil, and_here, true_and, Nat.zero_add, Nat.add_assoc, Nat.add_zero, Int.toNat_natCast, size_alloc, World.cell?_drew, World.frozen?_drew, Bool.not_true, Bool.not_false, Int.toNat_zero, dec_t, dec_f, int_eq_t, int_eq_f, int_ne_t, int_ne_f, wrap_in, kbgtr2, kblss2]
      exact hK
theorem or2_any {g c : Nat} {a b : Int} {w : World} {K : Value → World → Prop} (h0 : w.cell? ⟨g, 0, none⟩ = some (.int .i64 a)) (h1 : w.cell? ⟨g, 1, none⟩ = some (.int .i64 b))
    (hK : K (.int .i64 (if a = 0 then b else a)) w) : CallK Tryd.prog 42 #[.slice (some ⟨g, 0, none⟩) 2 c] K w := by
  refine F42_calls _ _ _ ?_; unfold F42
  have e2 : ((2 : Nat) : Int) = 2 := rfl
  simp (maxSteps := 1000000) (disch := omega) only [hid1', hid2', guardK_u, takeG_u, wrap_in64, optK_some', fzK_false', nilK_ptr, brK_true', brK_false', guardK_tt', guardK_ff', guardK_tf', guardK_ft', takeG_tt', takeG_ff', takeG_tf', takeG_ft', pickK_t', pickK_f', pickT_t', pickT_f', notK, extract2_0', extract2_1', extract3_0', extract3_1', extract3_2', here_load, here_fieldAt, here_indexAt, here_extract, here_un, here_conv, here_slice, here_bin, here_nil, and_here, true_and, Nat.zero_add, Nat.add_assoc, Nat.add_zero, Int.toNat_natCast, size_alloc, World.cell?_drew, World.frozen?_drew, Bool.not_true, Bool.not_false, Int.toNat_zero, dec_t, dec_f, int_eq_t, int_eq_f, int_ne_t, int_ne_f, wrap_in, kblss3, kld3, kbneq3, kbadd3, klen93, hlen93, kia93, e2]
  refine loopK1 (fun v w' => w' = w ∧ ∃ i : Nat, v = .int .i64 i ∧ i ≤ 2 ∧ (0 < i → a = 0) ∧ (1 < i → b = 0)) (fun v _ => 2 - (intOf v).toNat) ⟨rfl, 0, rfl, by omega, by omega, by omega⟩ ?_
  rintro _ _ w' ⟨hw, i, rfl, hi, ha, hb⟩
  obtain rfl : w' = w := hw
  rcases (by omega : i = 0 ∨ i = 1 ∨ i = 2) with rfl | rfl | rfl
  · have e0 : ((0 : Nat) : Int) = 0 := rfl
    by_cases h : a = 0
    · have e : (a != 0) = false := by rw [h]; rfl
      simp (maxSteps := 1000000) (disch := omega) only [hid1', hid2', guardK_u, takeG_u, wrap_in64, optK_some', fzK_false', nilK_ptr, brK_true', brK_false', guardK_tt', guardK_ff', guardK_tf', guardK_ft', takeG_tt', takeG_ff', takeG_tf', takeG_ft', pickK_t', pickK_f', pickT_t', pickT_f', notK, extract2_0', extract2_1', extract3_0', extract3_1', extract3_2', here_load, here_fieldAt, here_indexAt, here_extract, here_un, here_conv, here_slice, here_bin, here_nil, and_here, true_and, Nat.zero_add, Nat.add_assoc, Nat.add_zero, Int.toNat_natCast, size_alloc, World.cell?_drew, World.frozen?_drew, Bool.not_true, Bool.not_false, Int.toNat_zero, dec_t, dec_f, int_eq_t, int_eq_f, int_ne_t, int_ne_f, wrap_in, kblss3, kld3, kbneq3, kbadd3, klen93, hlen93, kia93, e0, h0, e]
      exact ⟨⟨rfl, 1, rfl, by omega, fun _ => h, by omega⟩, by simp [rel, intOf]⟩
    · have e : (a != 0) = true := bne_iff_ne.2 h
      rw [if_neg h] at hK
      simp (maxSteps := 1000000) (disch := omega) only [hid1', hid2', guardK_u, takeG_u, wrap_in64, optK_some', fzK_false', nilK_ptr, brK_true', brK_false', guardK_tt', guardK_ff', guardK_tf', guardK_ft', takeG_tt', takeG_ff', takeG_tf', takeG_ft', pickK_t', pickK_f', pickT_t', pickT_f', notK, extract2_0', extract2_1', extract3_0', extract3_1', extract3_2', here_load, here_fieldAt, here_indexAt, here_extract, here_un, here_conv, here_slice, here_bin, here_nil, and_here, true_and, Nat.zero_add, Nat.add_assoc, Nat.add_zero, Int.toNat_natCast, size_alloc, World.cell?_drew, World.frozen?_drew, Bool.not_true, Bool.not_false, Int.toNat_zero, dec_t, dec_f, int_eq_t, int_eq_f, int_ne_t, int_ne_f, wrap_in, kblss3, kld3, kbneq3, kbadd3, klen93, hlen93, kia93, e0, h0, e]
      exact hK
  · have e0 : ((1 : Nat) : Int) = 1 := rfl
    have eT : Int.toNat 1 = 1 := rfl
    rw [if_pos (ha (by omega))] at hK
    by_cases h : b = 0
    · have e : (b != 0) = false := by rw [h]; rfl
      simp (maxSteps := 1000000) (disch := omega) only [hid1', hid2', guardK_u, takeG_u, wrap_in64, optK_some', fzK_false', nilK_ptr, brK_true', brK_false', guardK_tt', guardK_ff', guardK_tf', guardK_ft', takeG_tt', takeG_ff', takeG_tf', takeG_ft', pickK_t', pickK_f', pickT_t', pickT_f', notK, extract2_0', extract2_1', extract3_0', extract3_1', extract3_2', here_load, here_fieldAt, here_indexAt, here_extract, here_un, here_conv, here_slice, here_bin, here_nil, and_here, true_and, Nat.zero_add, Nat.add_assoc, Nat.add_zero, Int.toNat_natCast, size_alloc, World.cell?_drew, World.frozen?_drew, Bool.not_true, Bool.not_false, Int.toNat_zero, dec_t, dec_f, int_eq_t, int_eq_f, int_ne_t, int_ne_f, wrap_in, kblss3, kld3, kbneq3, kbadd3, klen93, hlen93, kia93, e0, eT, h1, e]
      exact ⟨⟨rfl, 2, rfl, by omega, fun _ => ha (by omega), fun _ => h⟩, by simp [rel, intOf]⟩
    · have e : (b != 0) = true := bne_iff_ne.2 h
      simp (maxSteps := 1000000) (disch := omega) only [hid1', hid2', guardK_u, takeG_u, wrap_in64, optK_some', fzK_false', nilK_ptr, brK_true', brK_false', guardK_tt', guardK_ff', guardK_tf', guardK_ft', takeG_tt', takeG_ff', takeG_tf', takeG_ft', pickK_t', pickK_f', pickT_t', pickT_f', notK, extract2_0', extract2_1', extract3_0', extract3_1', extract3_2', here_load, here_fieldAt, here_indexAt, here_extract, here_un, here_conv, here_slice, here_bin, here_nil, and_here, true_and, Nat.zero_add, Nat.add_assoc, Nat.add_zero, Int.toNat_natCast, size_alloc, World.cell?_drew, World.frozen?_drew, Bool.not_true, Bool.not_false, Int.toNat_zero, dec_t, dec_f, int_eq_t, int_eq_f, int_ne_t, int_ne_f, wrap_in, kblss3, kld3, kbneq3, kbadd3, klen93, hlen93, kia93, e0, eT, h1, e]
      exact hK
  · rw [if_pos (ha (by omega)), hb (by omega)] at hK
    simp (maxSteps := 1000000) (disch := omega) only [hid1', hid2', guardK_u, takeG_u, wrap_in64, optK_some', fzK_false', nilK_ptr, brK_true', brK_false', guardK_tt', guardK_ff', guardK_tf', guardK_ft', takeG_tt', takeG_ff', takeG_tf', takeG_ft', pickK_t', pickK_f', pickT_t', pickT_f', notK, extract2_0', extract2_1', extract3_0', extract3_1', extract3_2', here_load, here_fieldAt, here_indexAt, here_extract, here_un, here_conv, here_slice, here_bin, here_nil, and_here, true_and, Nat.zero_add, Nat.add_assoc, Nat.add_zero, Int.toNat_natCast, size_alloc, World.cell?_drew, World.frozen?_drew, Bool.not_true, Bool.not_false, Int.toNat_zero, dec_t, dec_f, int_eq_t, int_eq_f, int_ne_t, int_ne_f, wrap_in, kblss3, kld3, kbneq3, kbadd3, klen93, hlen93, kia93, e2]
    exact hK
theorem cmp_key (x y p q : Int) : decide (0 < (if (if x < y then (-1:Int) else if y < x then 1 else 0) = 0 then (if p < q then (-1:Int) else if q < p then 1 else 0) else (if x < y then (-1) else if y < x then 1 else 0))) = (if x = y then decide (q < p) else decide (y < x)) := by
  by_cases h1 : x < y
  · have h2 : ¬ y < x := by omega
    have h3 : ¬ x = y := by omega
    simp [h1, h3, h2]
  · by_cases h2 : y < x
    · have h3 : ¬ x = y := by omega
      simp [h1, h2, h3]
    · have h3 : x = y := by omega
      subst h3
      by_cases h4 : p < q
      · have h5 : ¬ q < p := by omega
        simp [h4, h5]
      · by_cases h5 : q < p <;> simp [h4, h5]
theorem newE_cmp (a b : Ent) : decide (0 < (if cmp64 a.2.1 b.2.1 = 0 then cmp64 a.2.2 b.2.2 else cmp64 a.2.1 b.2.1)) = newE a b := by
  unfold newE cmp64
  exact cmp_key _ _ _ _
theorem newer_any {a b : Ent} {w : World} {K : Value → World → Prop} (hK : ∀ w', Qt w w' → K (.bool (newE a b)) w') : CallK Tryd.prog 23 #[SE.ev a, SE.ev b] K w := by
  refine F23_calls _ _ _ _ ?_; unfold F23
  have qx : Qt w (w.alloc (.cells #[.string a.1, .int .i64 a.2.1, .int .i64 a.2.2] 28)) := Chg.alloc Qt.refl _
  have hx : (w.alloc (.cells #[.string a.1, .int .i64 a.2.1, .int .i64 a.2.2] 28)).heap[w.heap.size]? = some (.cells #[.string a.1, .int .i64 a.2.1, .int .i64 a.2.2] 28 (0, 0)) := blk_new _ _
  have hs1 : (w.alloc (.cells #[.string a.1, .int .i64 a.2.1, .int .i64 a.2.2] 28)).heap.size = w.heap.size + 1 := size_alloc _ _
  simp (maxSteps := 1000000) (disch := omega) only [hid1', hid2', guardK_u, takeG_u, wrap_in64, optK_some', fzK_false', nilK_ptr, brK_true', brK_false', guardK_tt', guardK_ff', guardK_tf', guardK_ft', takeG_tt', takeG_ff', takeG_tf', takeG_ft', pickK_t', pickK_f', pickT_t', pickT_f', notK, extract2_0', extract2_1', extract3_0', extract3_1', extract3_2', here_load, here_fieldAt, here_indexAt, here_extract, here_un, here_conv, here_slice, here_bin, here_nil, and_here, true_and, Nat.zero_add, Nat.add_assoc, Nat.add_zero, Int.toNat_natCast, size_alloc, World.cell?_drew, World.frozen?_drew, Bool.not_true, Bool.not_false, Int.toNat_zero, dec_t, dec_f, int_eq_t, int_eq_f, int_ne_t, int_ne_f, wrap_in, kbgtr3, kld2, kbx28, kfa28_1, kfa28_2, kbs93_2_0_1]
  generalize (w.alloc (.cells #[.string a.1, .int .i64 a.2.1, .int .i64 a.2.2] 28)) = w1 at *
  have qy : Qt w1 (w1.alloc (.cells #[.string b.1, .int .i64 b.2.1, .int .i64 b.2.2] 28)) := Chg.alloc Qt.refl _
  have hy : (w1.alloc (.cells #[.string b.1, .int .i64 b.2.1, .int .i64 b.2.2] 28)).heap[w1.heap.size]? = some (.cells #[.string b.1, .int .i64 b.2.1, .int .i64 b.2.2] 28 (0, 0)) := blk_new _ _
  have hxy := qy.heap hx (fun h => h)
  rw [hs1] at hy
  generalize (w1.alloc (.cells #[.string b.1, .int .i64 b.2.1, .int .i64 b.2.2] 28)) = w2 at *
  clear hs1
  generalize w.heap.size = bx at *
  have X := fun w' (q : Qt w2 w') => cell3 (q.heap hxy (fun h => h))
  have Y := fun w' (q : Qt w2 w') => cell3 (q.heap hy (fun h => h))
  have kd : Qt w2 w2.drew := Qt.drew Qt.refl
  refine drawK_by (fun w' => Qt w2 w') kd ?_
  refine take_field (.pointer (some ⟨bx, 1, none⟩)) (fun w' _ => by (simp (maxSteps := 1000000) (disch := omega) only [hid1', hid2', guardK_u, takeG_u, wrap_in64, optK_some', fzK_false', nilK_ptr, brK_true', brK_false', guardK_tt', guardK_ff', guardK_tf', guardK_ft', takeG_tt', takeG_ff', takeG_tf', takeG_ft', pickK_t', pickK_f', pickT_t', pickT_f', notK, extract2_0', extract2_1', extract3_0', extract3_1', extract3_2', here_load, here_fieldAt, here_indexAt, here_extract, here_un, here_conv, here_slice, here_bin, here_nil, and_here, true_and, Nat.zero_add, Nat.add_assoc, Nat.add_zero, Int.toNat_natCast, size_alloc, World.cell?_drew, World.frozen?_drew, Bool.not_true, Bool.not_false, Int.toNat_zero, dec_t, dec_f, int_eq_t, int_eq_f, int_ne_t, int_ne_f, wrap_in, kbgtr3, kld2, kbx28, kfa28_1, kfa28_2, kbs93_2_0_1]; try (exact ⟨trivial, trivial⟩))) ?_
  refine take_load (.int .i64 a.2.1) (fun w' h => by have h := (X w' h).2.1; (simp (maxSteps := 1000000) (disch := omega) only [hid1', hid2', guardK_u, takeG_u, wrap_in64, optK_some', fzK_false', nilK_ptr, brK_true', brK_false', guardK_tt', guardK_ff', guardK_tf', guardK_ft', takeG_tt', takeG_ff', takeG_tf', takeG_ft', pickK_t', pickK_f', pickT_t', pickT_f', notK, extract2_0', extract2_1', extract3_0', extract3_1', extract3_2', here_load, here_fieldAt, here_indexAt, here_extract, here_un, here_conv, here_slice, here_bin, here_nil, and_here, true_and, Nat.zero_add, Nat.add_assoc, Nat.add_zero, Int.toNat_natCast, size_alloc, World.cell?_drew, World.frozen?_drew, Bool.not_true, Bool.not_false, Int.toNat_zero, dec_t, dec_f, int_eq_t, int_eq_f, int_ne_t, int_ne_f, wrap_in, kbgtr3, kld2, kbx28, kfa28_1, kfa28_2, kbs93_2_0_1, h]; try (exact ⟨trivial, trivial⟩))) ?_
  refine take_field (.pointer (some ⟨bx + 1, 1, none⟩)) (fun w' _ => by (simp (maxSteps := 1000000) (disch := omega) only [hid1', hid2', guardK_u, takeG_u, wrap_in64, optK_some', fzK_false', nilK_ptr, brK_true', brK_false', guardK_tt', guardK_ff', guardK_tf', guardK_ft', takeG_tt', takeG_ff', takeG_tf', takeG_ft', pickK_t', pickK_f', pickT_t', pickT_f', notK, extract2_0', extract2_1', extract3_0', extract3_1', extract3_2', here_load, here_fieldAt, here_indexAt, here_extract, here_un, here_conv, here_slice, here_bin, here_nil, and_here, true_and, Nat.zero_add, Nat.add_assoc, Nat.add_zero, Int.toNat_natCast, size_alloc, World.cell?_drew, World.frozen?_drew, Bool.not_true, Bool.not_false, Int.toNat_zero, dec_t, dec_f, int_eq_t, int_eq_f, int_ne_t, int_ne_f, wrap_in, kbgtr3, kld2, kbx28, kfa28_1, kfa28_2, kbs93_2_0_1]; try (exact ⟨trivial, trivial⟩))) ?_
  refine take_load (.int .i64 b.2.1) (fun w' h => by have h := (Y w' h).2.1; (simp (maxSteps := 1000000) (disch := omega) only [hid1', hid2', guardK_u, takeG_u, wrap_in64, optK_some', fzK_false', nilK_ptr, brK_true', brK_false', guardK_tt', guardK_ff', guardK_tf', guardK_ft', takeG_tt', takeG_ff', takeG_tf', takeG_ft', pickK_t', pickK_f', pickT_t', pickT_f', notK, extract2_0', extract2_1', extract3_0', extract3_1', extract3_2', here_load, here_fieldAt, here_indexAt, here_extract, here_un, here_conv, here_slice, here_bin, here_nil, and_here, true_and, Nat.zero_add, Nat.add_assoc, Nat.add_zero, Int.toNat_natCast, size_alloc, World.cell?_drew, World.frozen?_drew, Bool.not_true, Bool.not_false, Int.toNat_zero, dec_t, dec_f, int_eq_t, int_eq_f, int_ne_t, int_ne_f, wrap_in, kbgtr3, kld2, kbx28, kfa28_1, kfa28_2, kbs93_2_0_1, h]; try (exact ⟨trivial, trivial⟩))) ?_
  refine take_field (.pointer (some ⟨bx, 2, none⟩)) (fun w' _ => by (simp (maxSteps := 1000000) (disch := omega) only [hid1', hid2', guardK_u, takeG_u, wrap_in64, optK_some', fzK_false', nilK_ptr, brK_true', brK_false', guardK_tt', guardK_ff', guardK_tf', guardK_ft', takeG_tt', takeG_ff', takeG_tf', takeG_ft', pickK_t', pickK_f', pickT_t', pickT_f', notK, extract2_0', extract2_1', extract3_0', extract3_1', extract3_2', here_load, here_fieldAt, here_indexAt, here_extract, here_un, here_conv, here_slice, here_bin, here_nil, and_here, true_and, Nat.zero_add, Nat.add_assoc, Nat.add_zero, Int.toNat_natCast, size_alloc, World.cell?_drew, World.frozen?_drew, Bool.not_true, Bool.not_false, Int.toNat_zero, dec_t, dec_f, int_eq_t, int_eq_f, int_ne_t, int_ne_f, wrap_in, kbgtr3, kld2, kbx28, kfa28_1, kfa28_2, kbs93_2_0_1]; try (exact ⟨trivial, trivial⟩))) ?_
  refine take_load (.int .i64 a.2.2) (fun w' h => by have h := (X w' h).2.2; (simp (maxSteps := 1000000) (disch := omega) only [hid1', hid2', guardK_u, takeG_u, wrap_in64, optK_some', fzK_false', nilK_ptr, brK_true', brK_false', guardK_tt', guardK_ff', guardK_tf', guardK_ft', takeG_tt', takeG_ff', takeG_tf', takeG_ft', pickK_t', pickK_f', pickT_t', pickT_f', notK, extract2_0', extract2_1', extract3_0', extract3_1', extract3_2', here_load, here_fieldAt, here_indexAt, here_extract, here_un, here_conv, here_slice, here_bin, here_nil, and_here, true_and, Nat.zero_add, Nat.add_assoc, Nat.add_zero, Int.toNat_natCast, size_alloc, World.cell?_drew, World.frozen?_drew, Bool.not_true, Bool.not_false, Int.toNat_zero, dec_t, dec_f, int_eq_t, int_eq_f, int_ne_t, int_ne_f, wrap_in, kbgtr3, kld2, kbx28, kfa28_1, kfa28_2, kbs93_2_0_1, h]; try (exact ⟨trivial, trivial⟩))) ?_
  refine take_field (.pointer (some ⟨bx + 1, 2, none⟩)) (fun w' _ => by (simp (maxSteps := 1000000) (disch := omega) only [hid1', hid2', guardK_u, takeG_u, wrap_in64, optK_some', fzK_false', nilK_ptr, brK_true', brK_false', guardK_tt', guardK_ff', guardK_tf', guardK_ft', takeG_tt', takeG_ff', takeG_tf', takeG_ft', pickK_t', pickK_f', pickT_t', pickT_f', notK, extract2_0', extract2_1', extract3_0', extract3_1', extract3_2', here_load, here_fieldAt, here_indexAt, here_extract, here_un, here_conv, here_slice, here_bin, here_nil, and_here, true_and, Nat.zero_add, Nat.add_assoc, Nat.add_zero, Int.toNat_natCast, size_alloc, World.cell?_drew, World.frozen?_drew, Bool.not_true, Bool.not_false, Int.toNat_zero, dec_t, dec_f, int_eq_t, int_eq_f, int_ne_t, int_ne_f, wrap_in, kbgtr3, kld2, kbx28, kfa28_1, kfa28_2, kbs93_2_0_1]; try (exact ⟨trivial, trivial⟩))) ?_
  refine take_load (.int .i64 b.2.2) (fun w' h => by have h := (Y w' h).2.2; (simp (maxSteps := 1000000) (disch := omega) only [hid1', hid2', guardK_u, takeG_u, wrap_in64, optK_some', fzK_false', nilK_ptr, brK_true', brK_false', guardK_tt', guardK_ff', guardK_tf', guardK_ft', takeG_tt', takeG_ff', takeG_tf', takeG_ft', pickK_t', pickK_f', pickT_t', pickT_f', notK, extract2_0', extract2_1', extract3_0', extract3_1', extract3_2', here_load, here_fieldAt, here_indexAt, here_extract, here_un, here_conv, here_slice, here_bin, here_nil, and_here, true_and, Nat.zero_add, Nat.add_assoc, Nat.add_zero, Int.toNat_natCast, size_alloc, World.cell?_drew, World.frozen?_drew, Bool.not_true, Bool.not_false, Int.toNat_zero, dec_t, dec_f, int_eq_t, int_eq_f, int_ne_t, int_ne_f, wrap_in, kbgtr3, kld2, kbx28, kfa28_1, kfa28_2, kbs93_2_0_1, h]; try (exact ⟨trivial, trivial⟩))) ?_
  refine ⟨ck43 (cmp64_any ?_), trivial⟩
  simp (maxSteps := 1000000) (disch := omega) only [hid1', hid2', guardK_u, takeG_u, wrap_in64, optK_some', fzK_false', nilK_ptr, brK_true', brK_false', guardK_tt', guardK_ff', guardK_tf', guardK_ft', takeG_tt', takeG_ff', takeG_tf', takeG_ft', pickK_t', pickK_f', pickT_t', pickT_f', notK, extract2_0', extract2_1', extract3_0', extract3_1', extract3_2', here_load, here_fieldAt, here_indexAt, here_extract, here_un, here_conv, here_slice, here_bin, here_nil, and_here, true_and, Nat.zero_add, Nat.add_assoc, Nat.add_zero, Int.toNat_natCast, size_alloc, World.cell?_drew, World.frozen?_drew, Bool.not_true, Bool.not_false, Int.toNat_zero, dec_t, dec_f, int_eq_t, int_eq_f, int_ne_t, int_ne_f, wrap_in, kbgtr3, kld2, kbx28, kfa28_1, kfa28_2, kbs93_2_0_1]
  refine ⟨kd, ck43 (cmp64_any ?_), trivial⟩
  have fin := fun w' (q : Qt w2 w') => hK w' ((qx.trans qy).trans q)
  have hnew := newE_cmp a b
  rw [← hnew] at fin
  clear hnew hK
  generalize cmp64 a.2.1 b.2.1 = c1 at *
  generalize cmp64 a.2.2 b.2.2 = c2 at *
  have qb : Qt w2.drew (w2.drew.alloc (.cells #[.int .i64 c1, .int .i64 c2] 3)) := Chg.alloc Qt.refl _
  have hb : (w2.drew.alloc (.cells #[.int .i64 c1, .int .i64 c2] 3)).heap[w2.drew.heap.size]? = some (.cells #[.int .i64 c1, .int .i64 c2] 3 (0, 0)) := blk_new _ _
  simp (maxSteps := 1000000) (disch := omega) only [hid1', hid2', guardK_u, takeG_u, wrap_in64, optK_some', fzK_false', nilK_ptr, brK_true', brK_false', guardK_tt', guardK_ff', guardK_tf', guardK_ft', takeG_tt', takeG_ff', takeG_tf', takeG_ft', pickK_t', pickK_f', pickT_t', pickT_f', notK, extract2_0', extract2_1', extract3_0', extract3_1', extract3_2', here_load, here_fieldAt, here_indexAt, here_extract, here_un, here_conv, here_slice, here_bin, here_nil, and_here, true_and, Nat.zero_add, Nat.add_assoc, Nat.add_zero, Int.toNat_natCast, size_alloc, World.cell?_drew, World.frozen?_drew, Bool.not_true, Bool.not_false, Int.toNat_zero, dec_t, dec_f, int_eq_t, int_eq_f, int_ne_t, int_ne_f, wrap_in, kbgtr3, kld2, kbx28, kfa28_1, kfa28_2, kbs93_2_0_1]
  have qq := kd.trans qb
  generalize w2.drew.alloc (.cells #[.int .i64 c1, .int .i64 c2] 3) = w3 at *
  generalize w2.drew.heap.size = b3 at *
  have d0 : w3.cell? ⟨b3, 0, none⟩ = some (.int .i64 c1) := by rw [blk_cell hb]; rfl
  have d1 : w3.cell? ⟨b3, 1, none⟩ = some (.int .i64 c2) := by rw [blk_cell hb]; rfl
  refine ⟨kd, ⟨qq, ck42 (or2_any d0 d1 ?_), trivial⟩, trivial⟩
  have fin := fin w3 qq
  generalize (if c1 = 0 then c2 else c1) = c at *
  simp (maxSteps := 1000000) (disch := omega) only [hid1', hid2', guardK_u, takeG_u, wrap_in64, optK_some', fzK_false', nilK_ptr, brK_true', brK_false', guardK_tt', guardK_ff', guardK_tf', guardK_ft', takeG_tt', takeG_ff', takeG_tf', takeG_ft', pickK_t', pickK_f', pickT_t', pickT_f', notK, extract2_0', extract2_1', extract3_0', extract3_1', extract3_2', here_load, here_fieldAt, here_indexAt, here_extract, here_un, here_conv, here_slice, here_bin, here_nil, and_here, true_and, Nat.zero_add, Nat.add_assoc, Nat.add_zero, Int.toNat_natCast, size_alloc, World.cell?_drew, World.frozen?_drew, Bool.not_true, Bool.not_false, Int.toNat_zero, dec_t, dec_f, int_eq_t, int_eq_f, int_ne_t, int_ne_f, wrap_in, kbgtr3, kld2, kbx28, kfa28_1, kfa28_2, kbs93_2_0_1]
  refine ⟨qq, ?_⟩
  refine take_bin (.bool (decide (0 < c))) (fun w' _ => by (simp (maxSteps := 1000000) (disch := omega) only [hid1', hid2', guardK_u, takeG_u, wrap_in64, optK_some', fzK_false', nilK_ptr, brK_true', brK_false', guardK_tt', guardK_ff', guardK_tf', guardK_ft', takeG_tt', takeG_ff', takeG_tf', takeG_ft', pickK_t', pickK_f', pickT_t', pickT_f', notK, extract2_0', extract2_1', extract3_0', extract3_1', extract3_2', here_load, here_fieldAt, here_indexAt, here_extract, here_un, here_conv, here_slice, here_bin, here_nil, and_here, true_and, Nat.zero_add, Nat.add_assoc, Nat.add_zero, Int.toNat_natCast, size_alloc, World.cell?_drew, World.frozen?_drew, Bool.not_true, Bool.not_false, Int.toNat_zero, dec_t, dec_f, int_eq_t, int_eq_f, int_ne_t, int_ne_f, wrap_in, kbgtr3, kld2, kbx28, kfa28_1, kfa28_2, kbs93_2_0_1]; try (exact ⟨trivial, trivial⟩))) ?_
  exact fin
end Go.Proofs.YtbkficgmjgbbeaaDoor

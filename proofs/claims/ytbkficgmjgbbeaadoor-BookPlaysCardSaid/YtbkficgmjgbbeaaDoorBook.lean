/- book.Book: what its methods answer and leave. Conditions: at most 50000 bytes. -/
import Derived.Test.YtbkficgmjgbbeaaDoorEnt
set_option linter.unusedVariables false
set_option linter.unusedSimpArgs false
set_option maxRecDepth 100000
namespace Go.Proofs.YtbkficgmjgbbeaaDoor
open Go.RowKit Go.Cn
def BookAt (w : World) (x g : Nat) (m : EM) (F : Option Nat) : Prop := w.heap[x]? = some (.cells #[.pointer (some ⟨g, 0, none⟩)] 63 (0, 0)) ∧ SE.MapAt w g m F ∧ x ≠ g ∧ F ≠ some x
theorem BookAt.chg {w w' : World} {x g : Nat} {m : EM} {F : Option Nat} {S : Nat → Prop} (h : BookAt w x g m F) (c : Chg S w w') (hx : ¬ S x) (hg : ¬ S g) (hF : ∀ k, F = some k → ¬ S k) : BookAt w' x g m F :=
  ⟨c.heap h.1 hx, h.2.1.chg c hg hF, h.2.2⟩
theorem BookAt.quiet {w w' : World} {x g : Nat} {m : EM} {F : Option Nat} (h : BookAt w x g m F) (c : Qt w w') : BookAt w' x g m F := h.chg c (fun h => h) (fun h => h) (fun _ _ h => h)
theorem BookAt.cell {w : World} {x g : Nat} {m : EM} {F : Option Nat} (h : BookAt w x g m F) : w.cell? ⟨x, 0, none⟩ = some (.pointer (some ⟨g, 0, none⟩)) := by rw [blk_cell h.1]; rfl
theorem new_book {w : World} {K : Value → World → Prop} (hK : ∀ x g w', BookAt w' x g [] none → Qt w w' → w.heap.size ≤ x → w.heap.size ≤ g → K (.pointer (some ⟨x, 0, none⟩)) w') : CallK Tryd.prog 8 #[] K w := by
  refine F8_calls _ _ ?_; unfold F8
  refine ck28 (SE.new_any ?_)
  intro w1 h1 q1
  simp (maxSteps := 1000000) (disch := omega) only [hid1', hid2', guardK_u, takeG_u, wrap_in64, optK_some', fzK_false', nilK_ptr, brK_true', brK_false', guardK_tt', guardK_ff', guardK_tf', guardK_ft', takeG_tt', takeG_ff', takeG_tf', takeG_ft', pickK_t', pickK_f', pickT_t', pickT_f', notK, extract2_0', extract2_1', extract3_0', extract3_1', extract3_2', here_load, here_fieldAt, here_indexAt, here_extract, here_un, here_conv, here_slice, here_bin, here_nil, and_here, true_and, Nat.zero_add, Nat.add_assoc, Nat.add_zero, Int.toNat_natCast, size_alloc, World.cell?_drew, World.frozen?_drew, Bool.not_true, Bool.not_false, Int.toNat_zero, dec_t, dec_f, int_eq_t, int_eq_f, int_ne_t, int_ne_f, wrap_in, kbd63_0, kbx63]
  have q2 : Qt w1 (w1.alloc (.cells #[.pointer (some ⟨w.heap.size, 0, none⟩)] 63)) := Chg.alloc Qt.refl _
  have hlow := h1.low
  refine hK _ w.heap.size _ ⟨blk_new _ _, h1.quiet q2, by omega, fun h => by cases h⟩ (q1.trans q2) q1.size (Nat.le_refl _)
theorem there3 {w : World} {b : Nat} {t : TypeId} {a c d : Value} {x y z : Value} (h : w.heap[b]? = some (.cells #[a, c, d] t (0, 0))) : World.there w b 0 (#[x, y, z] : Array Value).size := fun j hj => by
  have hj : j < 3 := hj
  rw [Nat.zero_add, blk_cell h, blk_frozen h j]
  exact ⟨by rw [Array.getElem?_eq_getElem hj]; rfl, rfl⟩
/-- A struct stored into a block of its own: what lies there then. -/
theorem store3_any {w : World} {b : Nat} {t : TypeId} {a c d : Value} {e : Ent} (h : w.heap[b]? = some (.cells #[a, c, d] t (0, 0))) : (w.setCells b 0 [.string e.1, .int .i64 e.2.1, .int .i64 e.2.2]).heap[b]? = some (.cells #[.string e.1, .int .i64 e.2.1, .int .i64 e.2.2] t (0, 0)) ∧ Chg (fun q => q = b) w (w.setCells b 0 [.string e.1, .int .i64 e.2.1, .int .i64 e.2.2]) :=
  ⟨blk_setCells [.string e.1, .int .i64 e.2.1, .int .i64 e.2.2] 0 w _ h (Nat.le_refl 3), Chg.sets⟩
theorem get_book {w : World} {x g : Nat} {m : EM} {F : Option Nat} {p : ByteArray} {K : Value → World → Prop} (h : BookAt w x g m F)
    (hK : ∀ w', Qt w w' → K (.tuple #[SE.ev (getE m p), .bool (fnd SE.lt m p)]) w') : CallK Tryd.prog 12 #[.pointer (some ⟨x, 0, none⟩), .string p] K w := by
  refine F12_calls _ _ _ _ ?_; unfold F12
  have qx : Qt w (w.alloc (.cells #[.string ByteArray.empty, .int .i64 0, .int .i64 0] 28)) := Chg.alloc Qt.refl _
  have hx : (w.alloc (.cells #[.string ByteArray.empty, .int .i64 0, .int .i64 0] 28)).heap[w.heap.size]? = some (.cells #[.string ByteArray.empty, .int .i64 0, .int .i64 0] 28 (0, 0)) := blk_new _ _
  have h1 := h.quiet qx
  have c1 := h1.cell
  simp (maxSteps := 1000000) (disch := omega) only [hid1', hid2', guardK_u, takeG_u, wrap_in64, optK_some', fzK_false', nilK_ptr, brK_true', brK_false', guardK_tt', guardK_ff', guardK_tf', guardK_ft', takeG_tt', takeG_ff', takeG_tf', takeG_ft', pickK_t', pickK_f', pickT_t', pickT_f', notK, extract2_0', extract2_1', extract3_0', extract3_1', extract3_2', here_load, here_fieldAt, here_indexAt, here_extract, here_un, here_conv, here_slice, here_bin, here_nil, and_here, true_and, Nat.zero_add, Nat.add_assoc, Nat.add_zero, Int.toNat_natCast, size_alloc, World.cell?_drew, World.frozen?_drew, Bool.not_true, Bool.not_false, Int.toNat_zero, dec_t, dec_f, int_eq_t, int_eq_f, int_ne_t, int_ne_f, wrap_in, kld28, kal28, kst28f, kfa63_0, kld60, c1]
  generalize (w.alloc (.cells #[.string ByteArray.empty, .int .i64 0, .int .i64 0] 28)) = w1 at *
  generalize hbx : w.heap.size = bx at *
  refine ck31 (SE.get_any h1.2.1 ?_)
  intro w2 q2
  rw [getE_eq]
  have hx2 := q2.heap hx (fun h => h)
  generalize getE m p = e at *
  simp (maxSteps := 1000000) (disch := omega) only [hid1', hid2', guardK_u, takeG_u, wrap_in64, optK_some', fzK_false', nilK_ptr, brK_true', brK_false', guardK_tt', guardK_ff', guardK_tf', guardK_ft', takeG_tt', takeG_ff', takeG_tf', takeG_ft', pickK_t', pickK_f', pickT_t', pickT_f', notK, extract2_0', extract2_1', extract3_0', extract3_1', extract3_2', here_load, here_fieldAt, here_indexAt, here_extract, here_un, here_conv, here_slice, here_bin, here_nil, and_here, true_and, Nat.zero_add, Nat.add_assoc, Nat.add_zero, Int.toNat_natCast, size_alloc, World.cell?_drew, World.frozen?_drew, Bool.not_true, Bool.not_false, Int.toNat_zero, dec_t, dec_f, int_eq_t, int_eq_f, int_ne_t, int_ne_f, wrap_in, kld28, kal28, kst28f, kfa63_0, kld60]
  refine aggStoreK (there3 hx2) (by kernel_rfl) (SE.all3 rfl rfl rfl) ?_
  obtain ⟨hst, hch⟩ := store3_any (e := e) hx2
  obtain ⟨y0, y1, y2⟩ := cell3 hst
  simp (maxSteps := 1000000) (disch := omega) only [hid1', hid2', guardK_u, takeG_u, wrap_in64, optK_some', fzK_false', nilK_ptr, brK_true', brK_false', guardK_tt', guardK_ff', guardK_tf', guardK_ft', takeG_tt', takeG_ff', takeG_tf', takeG_ft', pickK_t', pickK_f', pickT_t', pickT_f', notK, extract2_0', extract2_1', extract3_0', extract3_1', extract3_2', here_load, here_fieldAt, here_indexAt, here_extract, here_un, here_conv, here_slice, here_bin, here_nil, and_here, true_and, Nat.zero_add, Nat.add_assoc, Nat.add_zero, Int.toNat_natCast, size_alloc, World.cell?_drew, World.frozen?_drew, Bool.not_true, Bool.not_false, Int.toNat_zero, dec_t, dec_f, int_eq_t, int_eq_f, int_ne_t, int_ne_f, wrap_in, kld28, kal28, kst28f, kfa63_0, kld60, y0, y1, y2]
  exact hK _ ((qx.trans q2).then hch (fun q hq => by omega))
theorem drop_book {w : World} {x g : Nat} {m : EM} {F : Option Nat} {p : ByteArray} {K : Value → World → Prop} (h : BookAt w x g m F)
    (hK : ∀ w', BookAt w' x g (dropM SE.lt m p) F → Chg (fun q => q = g ∨ F = some q) w w' → K (.bool (fnd SE.lt m p)) w') : CallK Tryd.prog 13 #[.pointer (some ⟨x, 0, none⟩), .string p] K w := by
  refine F13_calls _ _ _ _ ?_; unfold F13
  have c1 := h.cell
  simp (maxSteps := 1000000) (disch := omega) only [hid1', hid2', guardK_u, takeG_u, wrap_in64, optK_some', fzK_false', nilK_ptr, brK_true', brK_false', guardK_tt', guardK_ff', guardK_tf', guardK_ft', takeG_tt', takeG_ff', takeG_tf', takeG_ft', pickK_t', pickK_f', pickT_t', pickT_f', notK, extract2_0', extract2_1', extract3_0', extract3_1', extract3_2', here_load, here_fieldAt, here_indexAt, here_extract, here_un, here_conv, here_slice, here_bin, here_nil, and_here, true_and, Nat.zero_add, Nat.add_assoc, Nat.add_zero, Int.toNat_natCast, size_alloc, World.cell?_drew, World.frozen?_drew, Bool.not_true, Bool.not_false, Int.toNat_zero, dec_t, dec_f, int_eq_t, int_eq_f, int_ne_t, int_ne_f, wrap_in, kfa63_0, kld60, c1]
  refine ck34 (SE.drop_any h.2.1 ?_)
  intro w2 h2 k2
  simp (maxSteps := 1000000) (disch := omega) only [hid1', hid2', guardK_u, takeG_u, wrap_in64, optK_some', fzK_false', nilK_ptr, brK_true', brK_false', guardK_tt', guardK_ff', guardK_tf', guardK_ft', takeG_tt', takeG_ff', takeG_tf', takeG_ft', pickK_t', pickK_f', pickT_t', pickT_f', notK, extract2_0', extract2_1', extract3_0', extract3_1', extract3_2', here_load, here_fieldAt, here_indexAt, here_extract, here_un, here_conv, here_slice, here_bin, here_nil, and_here, true_and, Nat.zero_add, Nat.add_assoc, Nat.add_zero, Int.toNat_natCast, size_alloc, World.cell?_drew, World.frozen?_drew, Bool.not_true, Bool.not_false, Int.toNat_zero, dec_t, dec_f, int_eq_t, int_eq_f, int_ne_t, int_ne_f, wrap_in, kfa63_0, kld60]
  refine hK w2 ⟨k2.heap h.1 ?_, h2, h.2.2⟩ k2
  rintro (e | e)
  · exact h.2.2.1 e
  · exact h.2.2.2 e
theorem twin_book {w : World} {x g : Nat} {m : EM} {F : Option Nat} {K : Value → World → Prop} (h : BookAt w x g m F)
    (hK : ∀ x' g' F' w', BookAt w' x' g' m F' → Qt w w' → w.heap.size ≤ x' → w.heap.size ≤ g' → (∀ q, F' = some q → w.heap.size ≤ q) → K (.pointer (some ⟨x', 0, none⟩)) w') : CallK Tryd.prog 17 #[.pointer (some ⟨x, 0, none⟩)] K w := by
  refine F17_calls _ _ _ ?_; unfold F17
  have c1 := h.cell
  simp (maxSteps := 1000000) (disch := omega) only [hid1', hid2', guardK_u, takeG_u, wrap_in64, optK_some', fzK_false', nilK_ptr, brK_true', brK_false', guardK_tt', guardK_ff', guardK_tf', guardK_ft', takeG_tt', takeG_ff', takeG_tf', takeG_ft', pickK_t', pickK_f', pickT_t', pickT_f', notK, extract2_0', extract2_1', extract3_0', extract3_1', extract3_2', here_load, here_fieldAt, here_indexAt, here_extract, here_un, here_conv, here_slice, here_bin, here_nil, and_here, true_and, Nat.zero_add, Nat.add_assoc, Nat.add_zero, Int.toNat_natCast, size_alloc, World.cell?_drew, World.frozen?_drew, Bool.not_true, Bool.not_false, Int.toNat_zero, dec_t, dec_f, int_eq_t, int_eq_f, int_ne_t, int_ne_f, wrap_in, kbd63_0, kbx63, kfa63_0, kld60, c1]
  refine ck36 (SE.twin_any h.2.1 ?_)
  intro g' F' w1 h1 q1 hg' hF'
  simp (maxSteps := 1000000) (disch := omega) only [hid1', hid2', guardK_u, takeG_u, wrap_in64, optK_some', fzK_false', nilK_ptr, brK_true', brK_false', guardK_tt', guardK_ff', guardK_tf', guardK_ft', takeG_tt', takeG_ff', takeG_tf', takeG_ft', pickK_t', pickK_f', pickT_t', pickT_f', notK, extract2_0', extract2_1', extract3_0', extract3_1', extract3_2', here_load, here_fieldAt, here_indexAt, here_extract, here_un, here_conv, here_slice, here_bin, here_nil, and_here, true_and, Nat.zero_add, Nat.add_assoc, Nat.add_zero, Int.toNat_natCast, size_alloc, World.cell?_drew, World.frozen?_drew, Bool.not_true, Bool.not_false, Int.toNat_zero, dec_t, dec_f, int_eq_t, int_eq_f, int_ne_t, int_ne_f, wrap_in, kbd63_0, kbx63, kfa63_0, kld60]
  have q2 : Qt w1 (w1.alloc (.cells #[.pointer (some ⟨g', 0, none⟩)] 63)) := Chg.alloc Qt.refl _
  have hlow := h1.low
  refine hK w1.heap.size g' F' _ ⟨blk_new _ _, h1.quiet q2, by omega, fun e => by have := hlow.2 _ e; omega⟩ (q1.trans q2) q1.size hg' hF'
set_option maxHeartbeats 2000000 in
theorem put_book {w : World} {x g : Nat} {m : EM} {F : Option Nat} {e : Ent} {K : Value → World → Prop} (h : BookAt w x g m F) (hp : e.1.size ≤ 50000) (hm : MaxAt w) (hl : m.length ≤ 1000)
    (hK : ∀ F' w', BookAt w' x g (putE m e).1 F' → Chg (fun q => q = g ∨ F = some q) w w' → (∀ q, F' = some q → F = some q ∨ w.heap.size ≤ q) → K (.int .i64 (putE m e).2) w') :
    CallK Tryd.prog 11 #[.pointer (some ⟨x, 0, none⟩), SE.ev e] K w := by
  refine F11_calls _ _ _ _ ?_; unfold F11
  have qx : Qt w (w.alloc (.cells #[.string e.1, .int .i64 e.2.1, .int .i64 e.2.2] 28)) := Chg.alloc Qt.refl _
  have hx : (w.alloc (.cells #[.string e.1, .int .i64 e.2.1, .int .i64 e.2.2] 28)).heap[w.heap.size]? = some (.cells #[.string e.1, .int .i64 e.2.1, .int .i64 e.2.2] 28 (0, 0)) := blk_new _ _
  have h1 := h.quiet qx
  have hmm := hm.quiet qx
  simp (maxSteps := 1000000) (disch := omega) only [hid1', hid2', guardK_u, takeG_u, wrap_in64, optK_some', fzK_false', nilK_ptr, brK_true', brK_false', guardK_tt', guardK_ff', guardK_tf', guardK_ft', takeG_tt', takeG_ff', takeG_tf', takeG_ft', pickK_t', pickK_f', pickT_t', pickT_f', notK, extract2_0', extract2_1', extract3_0', extract3_1', extract3_2', here_load, here_fieldAt, here_indexAt, here_extract, here_un, here_conv, here_slice, here_bin, here_nil, and_here, true_and, Nat.zero_add, Nat.add_assoc, Nat.add_zero, Int.toNat_natCast, size_alloc, World.cell?_drew, World.frozen?_drew, Bool.not_true, Bool.not_false, Int.toNat_zero, dec_t, dec_f, int_eq_t, int_eq_f, int_ne_t, int_ne_f, wrap_in, kfa28_0, kld9, kld28, kal28, kst28f, kbx28, kbgeq3, kbneq36, kfa63_0, kld60]
  generalize (w.alloc (.cells #[.string e.1, .int .i64 e.2.1, .int .i64 e.2.2] 28)) = w1 at *
  generalize hbx : w.heap.size = bx at *
  obtain ⟨x0, x1, x2⟩ := cell3 hx
  simp (maxSteps := 1000000) (disch := omega) only [hid1', hid2', guardK_u, takeG_u, wrap_in64, optK_some', fzK_false', nilK_ptr, brK_true', brK_false', guardK_tt', guardK_ff', guardK_tf', guardK_ft', takeG_tt', takeG_ff', takeG_tf', takeG_ft', pickK_t', pickK_f', pickT_t', pickT_f', notK, extract2_0', extract2_1', extract3_0', extract3_1', extract3_2', here_load, here_fieldAt, here_indexAt, here_extract, here_un, here_conv, here_slice, here_bin, here_nil, and_here, true_and, Nat.zero_add, Nat.add_assoc, Nat.add_zero, Int.toNat_natCast, size_alloc, World.cell?_drew, World.frozen?_drew, Bool.not_true, Bool.not_false, Int.toNat_zero, dec_t, dec_f, int_eq_t, int_eq_f, int_ne_t, int_ne_f, wrap_in, kfa28_0, kld9, kld28, kal28, kst28f, kbx28, kbgeq3, kbneq36, kfa63_0, kld60, x0, x1, x2]
  refine ck30 (right_any hp hmm ?_)
  intro w2 q2
  have q02 := qx.trans q2
  have wk : ∀ {a b : World}, Qt a b → Chg (fun q => q = g ∨ F = some q) a b := fun c => c.mono (fun _ _ h => h.elim)
  have h2 := h1.quiet q2
  unfold putE at hK
  by_cases he : errE e ≠ 0
  · rw [if_pos he] at hK
    generalize errE e = ee at *
    simp (maxSteps := 1000000) (disch := omega) only [hid1', hid2', guardK_u, takeG_u, wrap_in64, optK_some', fzK_false', nilK_ptr, brK_true', brK_false', guardK_tt', guardK_ff', guardK_tf', guardK_ft', takeG_tt', takeG_ff', takeG_tf', takeG_ft', pickK_t', pickK_f', pickT_t', pickT_f', notK, extract2_0', extract2_1', extract3_0', extract3_1', extract3_2', here_load, here_fieldAt, here_indexAt, here_extract, here_un, here_conv, here_slice, here_bin, here_nil, and_here, true_and, Nat.zero_add, Nat.add_assoc, Nat.add_zero, Int.toNat_natCast, size_alloc, World.cell?_drew, World.frozen?_drew, Bool.not_true, Bool.not_false, Int.toNat_zero, dec_t, dec_f, int_eq_t, int_eq_f, int_ne_t, int_ne_f, wrap_in, kfa28_0, kld9, kld28, kal28, kst28f, kbx28, kbgeq3, kbneq36, kfa63_0, kld60]
    exact hK F w2 h2 (wk q02) (fun q hq => .inl hq)
  rw [if_neg he] at hK
  have he0 : errE e = 0 := by omega
  rw [he0]
  have hx2 := q2.heap hx (fun h => h)
  have kd : Qt w2 w2.drew := Qt.drew Qt.refl
  simp (maxSteps := 1000000) (disch := omega) only [hid1', hid2', guardK_u, takeG_u, wrap_in64, optK_some', fzK_false', nilK_ptr, brK_true', brK_false', guardK_tt', guardK_ff', guardK_tf', guardK_ft', takeG_tt', takeG_ff', takeG_tf', takeG_ft', pickK_t', pickK_f', pickT_t', pickT_f', notK, extract2_0', extract2_1', extract3_0', extract3_1', extract3_2', here_load, here_fieldAt, here_indexAt, here_extract, here_un, here_conv, here_slice, here_bin, here_nil, and_here, true_and, Nat.zero_add, Nat.add_assoc, Nat.add_zero, Int.toNat_natCast, size_alloc, World.cell?_drew, World.frozen?_drew, Bool.not_true, Bool.not_false, Int.toNat_zero, dec_t, dec_f, int_eq_t, int_eq_f, int_ne_t, int_ne_f, wrap_in, kfa28_0, kld9, kld28, kal28, kst28f, kbx28, kbgeq3, kbneq36, kfa63_0, kld60]
  refine cutK2 (fun a b w' => ∃ bo, a = .pointer (some ⟨bo, 0, none⟩) ∧ b = .bool (fnd SE.lt m e.1) ∧ w'.heap[bo]? = some (.cells #[.string (getE m e.1).1, .int .i64 (getE m e.1).2.1, .int .i64 (getE m e.1).2.2] 28 (0, 0)) ∧ Qt w2 w') ?_ ?_
  · refine drawK_by (fun w' => Qt w2 w') kd ?_
    refine take_nil ?_
    refine take_field (.pointer (some ⟨x, 0, none⟩)) (fun w' _ => by (simp (maxSteps := 1000000) (disch := omega) only [hid1', hid2', guardK_u, takeG_u, wrap_in64, optK_some', fzK_false', nilK_ptr, brK_true', brK_false', guardK_tt', guardK_ff', guardK_tf', guardK_ft', takeG_tt', takeG_ff', takeG_tf', takeG_ft', pickK_t', pickK_f', pickT_t', pickT_f', notK, extract2_0', extract2_1', extract3_0', extract3_1', extract3_2', here_load, here_fieldAt, here_indexAt, here_extract, here_un, here_conv, here_slice, here_bin, here_nil, and_here, true_and, Nat.zero_add, Nat.add_assoc, Nat.add_zero, Int.toNat_natCast, size_alloc, World.cell?_drew, World.frozen?_drew, Bool.not_true, Bool.not_false, Int.toNat_zero, dec_t, dec_f, int_eq_t, int_eq_f, int_ne_t, int_ne_f, wrap_in, kfa28_0, kld9, kld28, kal28, kst28f, kbx28, kbgeq3, kbneq36, kfa63_0, kld60]; try (exact ⟨trivial, trivial⟩))) ?_
    refine take_load (.pointer (some ⟨g, 0, none⟩)) (fun w' q => by have h := (h2.quiet q).cell; (simp (maxSteps := 1000000) (disch := omega) only [hid1', hid2', guardK_u, takeG_u, wrap_in64, optK_some', fzK_false', nilK_ptr, brK_true', brK_false', guardK_tt', guardK_ff', guardK_tf', guardK_ft', takeG_tt', takeG_ff', takeG_tf', takeG_ft', pickK_t', pickK_f', pickT_t', pickT_f', notK, extract2_0', extract2_1', extract3_0', extract3_1', extract3_2', here_load, here_fieldAt, here_indexAt, here_extract, here_un, here_conv, here_slice, here_bin, here_nil, and_here, true_and, Nat.zero_add, Nat.add_assoc, Nat.add_zero, Int.toNat_natCast, size_alloc, World.cell?_drew, World.frozen?_drew, Bool.not_true, Bool.not_false, Int.toNat_zero, dec_t, dec_f, int_eq_t, int_eq_f, int_ne_t, int_ne_f, wrap_in, kfa28_0, kld9, kld28, kal28, kst28f, kbx28, kbgeq3, kbneq36, kfa63_0, kld60, h]; try (exact ⟨trivial, trivial⟩))) ?_
    refine take_field (.pointer (some ⟨bx, 0, none⟩)) (fun w' _ => by (simp (maxSteps := 1000000) (disch := omega) only [hid1', hid2', guardK_u, takeG_u, wrap_in64, optK_some', fzK_false', nilK_ptr, brK_true', brK_false', guardK_tt', guardK_ff', guardK_tf', guardK_ft', takeG_tt', takeG_ff', takeG_tf', takeG_ft', pickK_t', pickK_f', pickT_t', pickT_f', notK, extract2_0', extract2_1', extract3_0', extract3_1', extract3_2', here_load, here_fieldAt, here_indexAt, here_extract, here_un, here_conv, here_slice, here_bin, here_nil, and_here, true_and, Nat.zero_add, Nat.add_assoc, Nat.add_zero, Int.toNat_natCast, size_alloc, World.cell?_drew, World.frozen?_drew, Bool.not_true, Bool.not_false, Int.toNat_zero, dec_t, dec_f, int_eq_t, int_eq_f, int_ne_t, int_ne_f, wrap_in, kfa28_0, kld9, kld28, kal28, kst28f, kbx28, kbgeq3, kbneq36, kfa63_0, kld60]; try (exact ⟨trivial, trivial⟩))) ?_
    refine take_load (.string e.1) (fun w' q => by have h := (cell3 (q.heap hx2 (fun h => h))).1; (simp (maxSteps := 1000000) (disch := omega) only [hid1', hid2', guardK_u, takeG_u, wrap_in64, optK_some', fzK_false', nilK_ptr, brK_true', brK_false', guardK_tt', guardK_ff', guardK_tf', guardK_ft', takeG_tt', takeG_ff', takeG_tf', takeG_ft', pickK_t', pickK_f', pickT_t', pickT_f', notK, extract2_0', extract2_1', extract3_0', extract3_1', extract3_2', here_load, here_fieldAt, here_indexAt, here_extract, here_un, here_conv, here_slice, here_bin, here_nil, and_here, true_and, Nat.zero_add, Nat.add_assoc, Nat.add_zero, Int.toNat_natCast, size_alloc, World.cell?_drew, World.frozen?_drew, Bool.not_true, Bool.not_false, Int.toNat_zero, dec_t, dec_f, int_eq_t, int_eq_f, int_ne_t, int_ne_f, wrap_in, kfa28_0, kld9, kld28, kal28, kst28f, kbx28, kbgeq3, kbneq36, kfa63_0, kld60, h]; try (exact ⟨trivial, trivial⟩))) ?_
    have h2d := h2.quiet kd
    refine ⟨ck31 (SE.get_any h2d.2.1 ?_), ?_, trivial⟩
    · intro w3 q3
      rw [getE_eq]
      have q23 := kd.trans q3
      generalize getE m e.1 = o at *
      have qa : Qt w3 (w3.alloc (.cells #[.string o.1, .int .i64 o.2.1, .int .i64 o.2.2] 28)) := Chg.alloc Qt.refl _
      have ha : (w3.alloc (.cells #[.string o.1, .int .i64 o.2.1, .int .i64 o.2.2] 28)).heap[w3.heap.size]? = some (.cells #[.string o.1, .int .i64 o.2.1, .int .i64 o.2.2] 28 (0, 0)) := blk_new _ _
      simp (maxSteps := 1000000) (disch := omega) only [hid1', hid2', guardK_u, takeG_u, wrap_in64, optK_some', fzK_false', nilK_ptr, brK_true', brK_false', guardK_tt', guardK_ff', guardK_tf', guardK_ft', takeG_tt', takeG_ff', takeG_tf', takeG_ft', pickK_t', pickK_f', pickT_t', pickT_f', notK, extract2_0', extract2_1', extract3_0', extract3_1', extract3_2', here_load, here_fieldAt, here_indexAt, here_extract, here_un, here_conv, here_slice, here_bin, here_nil, and_here, true_and, Nat.zero_add, Nat.add_assoc, Nat.add_zero, Int.toNat_natCast, size_alloc, World.cell?_drew, World.frozen?_drew, Bool.not_true, Bool.not_false, Int.toNat_zero, dec_t, dec_f, int_eq_t, int_eq_f, int_ne_t, int_ne_f, wrap_in, kfa28_0, kld9, kld28, kal28, kst28f, kbx28, kbgeq3, kbneq36, kfa63_0, kld60]
      refine ⟨q23, ?_⟩
      refine take_of (SE.ev o) (fun w' _ => by first | rfl | (go_simp; done)) ?_
      refine take_of (.bool (fnd SE.lt m e.1)) (fun w' _ => by first | rfl | (go_simp; done)) ?_
      have q2a := q23.trans qa
      simp (maxSteps := 1000000) (disch := omega) only [hid1', hid2', guardK_u, takeG_u, wrap_in64, optK_some', fzK_false', nilK_ptr, brK_true', brK_false', guardK_tt', guardK_ff', guardK_tf', guardK_ft', takeG_tt', takeG_ff', takeG_tf', takeG_ft', pickK_t', pickK_f', pickT_t', pickT_f', notK, extract2_0', extract2_1', extract3_0', extract3_1', extract3_2', here_load, here_fieldAt, here_indexAt, here_extract, here_un, here_conv, here_slice, here_bin, here_nil, and_here, true_and, Nat.zero_add, Nat.add_assoc, Nat.add_zero, Int.toNat_natCast, size_alloc, World.cell?_drew, World.frozen?_drew, Bool.not_true, Bool.not_false, Int.toNat_zero, dec_t, dec_f, int_eq_t, int_eq_f, int_ne_t, int_ne_f, wrap_in, kfa28_0, kld9, kld28, kal28, kst28f, kbx28, kbgeq3, kbneq36, kfa63_0, kld60]
      have q2z : Qt w2 (w3.alloc (.cells #[.string ByteArray.empty, .int .i64 0, .int .i64 0] 28)) := q23.trans (Chg.alloc Qt.refl _)
      exact ⟨⟨q2z, ⟨q2a, ⟨_, rfl, rfl, ha, q2a⟩⟩, trivial⟩, trivial⟩
    · have qz : Qt w2.drew (w2.drew.alloc (.cells #[.string ByteArray.empty, .int .i64 0, .int .i64 0] 28)) := Chg.alloc Qt.refl _
      have hz : (w2.drew.alloc (.cells #[.string ByteArray.empty, .int .i64 0, .int .i64 0] 28)).heap[w2.drew.heap.size]? = some (.cells #[.string ByteArray.empty, .int .i64 0, .int .i64 0] 28 (0, 0)) := blk_new _ _
      have hszd := kd.size
      simp (maxSteps := 1000000) (disch := omega) only [hid1', hid2', guardK_u, takeG_u, wrap_in64, optK_some', fzK_false', nilK_ptr, brK_true', brK_false', guardK_tt', guardK_ff', guardK_tf', guardK_ft', takeG_tt', takeG_ff', takeG_tf', takeG_ft', pickK_t', pickK_f', pickT_t', pickT_f', notK, extract2_0', extract2_1', extract3_0', extract3_1', extract3_2', here_load, here_fieldAt, here_indexAt, here_extract, here_un, here_conv, here_slice, here_bin, here_nil, and_here, true_and, Nat.zero_add, Nat.add_assoc, Nat.add_zero, Int.toNat_natCast, size_alloc, World.cell?_drew, World.frozen?_drew, Bool.not_true, Bool.not_false, Int.toNat_zero, dec_t, dec_f, int_eq_t, int_eq_f, int_ne_t, int_ne_f, wrap_in, kfa28_0, kld9, kld28, kal28, kst28f, kbx28, kbgeq3, kbneq36, kfa63_0, kld60]
      have h2z := h2d.quiet qz
      have q2z := kd.trans qz
      generalize (w2.drew.alloc (.cells #[.string ByteArray.empty, .int .i64 0, .int .i64 0] 28)) = wz at *
      generalize w2.drew.heap.size = bz at *
      refine ⟨q2z, ck31 (SE.get_any h2z.2.1 ?_), trivial⟩
      intro w3 q3
      rw [getE_eq]
      have q23 := q2z.trans q3
      have hz3 := q3.heap hz (fun h => h)
      generalize getE m e.1 = o at *
      simp (maxSteps := 1000000) (disch := omega) only [hid1', hid2', guardK_u, takeG_u, wrap_in64, optK_some', fzK_false', nilK_ptr, brK_true', brK_false', guardK_tt', guardK_ff', guardK_tf', guardK_ft', takeG_tt', takeG_ff', takeG_tf', takeG_ft', pickK_t', pickK_f', pickT_t', pickT_f', notK, extract2_0', extract2_1', extract3_0', extract3_1', extract3_2', here_load, here_fieldAt, here_indexAt, here_extract, here_un, here_conv, here_slice, here_bin, here_nil, and_here, true_and, Nat.zero_add, Nat.add_assoc, Nat.add_zero, Int.toNat_natCast, size_alloc, World.cell?_drew, World.frozen?_drew, Bool.not_true, Bool.not_false, Int.toNat_zero, dec_t, dec_f, int_eq_t, int_eq_f, int_ne_t, int_ne_f, wrap_in, kfa28_0, kld9, kld28, kal28, kst28f, kbx28, kbgeq3, kbneq36, kfa63_0, kld60]
      refine ⟨q23, ?_⟩
      refine take_of (SE.ev o) (fun w' _ => by first | rfl | (go_simp; done)) ?_
      refine take_of (.bool (fnd SE.lt m e.1)) (fun w' _ => by first | rfl | (go_simp; done)) ?_
      refine ⟨aggStoreK (there3 hz3) (by kernel_rfl) (SE.all3 rfl rfl rfl) ?_, trivial⟩
      obtain ⟨hst, hch⟩ := store3_any (e := o) hz3
      have q2s : Qt w2 (w3.setCells bz 0 [.string o.1, .int .i64 o.2.1, .int .i64 o.2.2]) := q23.then hch (fun q hq => by omega)
      simp (maxSteps := 1000000) (disch := omega) only [hid1', hid2', guardK_u, takeG_u, wrap_in64, optK_some', fzK_false', nilK_ptr, brK_true', brK_false', guardK_tt', guardK_ff', guardK_tf', guardK_ft', takeG_tt', takeG_ff', takeG_tf', takeG_ft', pickK_t', pickK_f', pickT_t', pickT_f', notK, extract2_0', extract2_1', extract3_0', extract3_1', extract3_2', here_load, here_fieldAt, here_indexAt, here_extract, here_un, here_conv, here_slice, here_bin, here_nil, and_here, true_and, Nat.zero_add, Nat.add_assoc, Nat.add_zero, Int.toNat_natCast, size_alloc, World.cell?_drew, World.frozen?_drew, Bool.not_true, Bool.not_false, Int.toNat_zero, dec_t, dec_f, int_eq_t, int_eq_f, int_ne_t, int_ne_f, wrap_in, kfa28_0, kld9, kld28, kal28, kst28f, kbx28, kbgeq3, kbneq36, kfa63_0, kld60]
      exact ⟨q2s, ⟨_, rfl, rfl, hst, q2s⟩⟩
  rintro _ _ _ w4 ⟨bo, rfl, rfl, ho, q24⟩
  have h4 := h2.quiet q24
  have q04 := q02.trans q24
  have c4 := h4.cell
  have hx4 := q24.heap hx2 (fun h => h)
  obtain ⟨x40, x41, x42⟩ := cell3 hx4
  obtain ⟨o40, o41, o42⟩ := cell3 ho
  have S0 := q04.size
  cases hf : fnd SE.lt m e.1 with
  | true =>
    rw [hf] at hK
    simp (maxSteps := 1000000) (disch := omega) only [hid1', hid2', guardK_u, takeG_u, wrap_in64, optK_some', fzK_false', nilK_ptr, brK_true', brK_false', guardK_tt', guardK_ff', guardK_tf', guardK_ft', takeG_tt', takeG_ff', takeG_tf', takeG_ft', pickK_t', pickK_f', pickT_t', pickT_f', notK, extract2_0', extract2_1', extract3_0', extract3_1', extract3_2', here_load, here_fieldAt, here_indexAt, here_extract, here_un, here_conv, here_slice, here_bin, here_nil, and_here, true_and, Nat.zero_add, Nat.add_assoc, Nat.add_zero, Int.toNat_natCast, size_alloc, World.cell?_drew, World.frozen?_drew, Bool.not_true, Bool.not_false, Int.toNat_zero, dec_t, dec_f, int_eq_t, int_eq_f, int_ne_t, int_ne_f, wrap_in, kfa28_0, kld9, kld28, kal28, kst28f, kbx28, kbgeq3, kbneq36, kfa63_0, kld60, o40, o41, o42, x40, x41, x42]
    refine ck23 (newer_any ?_)
    intro w5 q5
    have q05 := q04.trans q5
    have h5 := h4.quiet q5
    have hx5 := q5.heap hx4 (fun h => h)
    cases hn : newE e (getE m e.1) with
    | false =>
      rw [hn, if_pos ⟨rfl, rfl⟩] at hK
      simp (maxSteps := 1000000) (disch := omega) only [hid1', hid2', guardK_u, takeG_u, wrap_in64, optK_some', fzK_false', nilK_ptr, brK_true', brK_false', guardK_tt', guardK_ff', guardK_tf', guardK_ft', takeG_tt', takeG_ff', takeG_tf', takeG_ft', pickK_t', pickK_f', pickT_t', pickT_f', notK, extract2_0', extract2_1', extract3_0', extract3_1', extract3_2', here_load, here_fieldAt, here_indexAt, here_extract, here_un, here_conv, here_slice, here_bin, here_nil, and_here, true_and, Nat.zero_add, Nat.add_assoc, Nat.add_zero, Int.toNat_natCast, size_alloc, World.cell?_drew, World.frozen?_drew, Bool.not_true, Bool.not_false, Int.toNat_zero, dec_t, dec_f, int_eq_t, int_eq_f, int_ne_t, int_ne_f, wrap_in, kfa28_0, kld9, kld28, kal28, kst28f, kbx28, kbgeq3, kbneq36, kfa63_0, kld60]
      exact hK F w5 h5 (wk q05) (fun q hq => .inl hq)
    | true =>
      rw [hn, if_neg (by rintro ⟨_, h⟩; cases h), if_neg (by rintro ⟨h, _⟩; cases h)] at hK
      simp (maxSteps := 1000000) (disch := omega) only [hid1', hid2', guardK_u, takeG_u, wrap_in64, optK_some', fzK_false', nilK_ptr, brK_true', brK_false', guardK_tt', guardK_ff', guardK_tf', guardK_ft', takeG_tt', takeG_ff', takeG_tf', takeG_ft', pickK_t', pickK_f', pickT_t', pickT_f', notK, extract2_0', extract2_1', extract3_0', extract3_1', extract3_2', here_load, here_fieldAt, here_indexAt, here_extract, here_un, here_conv, here_slice, here_bin, here_nil, and_here, true_and, Nat.zero_add, Nat.add_assoc, Nat.add_zero, Int.toNat_natCast, size_alloc, World.cell?_drew, World.frozen?_drew, Bool.not_true, Bool.not_false, Int.toNat_zero, dec_t, dec_f, int_eq_t, int_eq_f, int_ne_t, int_ne_f, wrap_in, kfa28_0, kld9, kld28, kal28, kst28f, kbx28, kbgeq3, kbneq36, kfa63_0, kld60, guardK_u]
      have kd5 : Qt w5 w5.drew := Qt.drew Qt.refl
      refine drawK_by (fun w' => w'.heap[bx]? = some (.cells #[.string e.1, .int .i64 e.2.1, .int .i64 e.2.2] 28 (0, 0)) ∧ w'.cell? ⟨x, 0, none⟩ = some (.pointer (some ⟨g, 0, none⟩))) ⟨kd5.heap hx5 (fun h => h), h5.cell⟩ ?_
      refine take_nil ?_
      refine take_field (.pointer (some ⟨x, 0, none⟩)) (fun w' _ => by (simp (maxSteps := 1000000) (disch := omega) only [hid1', hid2', guardK_u, takeG_u, wrap_in64, optK_some', fzK_false', nilK_ptr, brK_true', brK_false', guardK_tt', guardK_ff', guardK_tf', guardK_ft', takeG_tt', takeG_ff', takeG_tf', takeG_ft', pickK_t', pickK_f', pickT_t', pickT_f', notK, extract2_0', extract2_1', extract3_0', extract3_1', extract3_2', here_load, here_fieldAt, here_indexAt, here_extract, here_un, here_conv, here_slice, here_bin, here_nil, and_here, true_and, Nat.zero_add, Nat.add_assoc, Nat.add_zero, Int.toNat_natCast, size_alloc, World.cell?_drew, World.frozen?_drew, Bool.not_true, Bool.not_false, Int.toNat_zero, dec_t, dec_f, int_eq_t, int_eq_f, int_ne_t, int_ne_f, wrap_in, kfa28_0, kld9, kld28, kal28, kst28f, kbx28, kbgeq3, kbneq36, kfa63_0, kld60]; try (exact ⟨trivial, trivial⟩))) ?_
      refine take_load (.pointer (some ⟨g, 0, none⟩)) (fun w' q => by have h := q.2; (simp (maxSteps := 1000000) (disch := omega) only [hid1', hid2', guardK_u, takeG_u, wrap_in64, optK_some', fzK_false', nilK_ptr, brK_true', brK_false', guardK_tt', guardK_ff', guardK_tf', guardK_ft', takeG_tt', takeG_ff', takeG_tf', takeG_ft', pickK_t', pickK_f', pickT_t', pickT_f', notK, extract2_0', extract2_1', extract3_0', extract3_1', extract3_2', here_load, here_fieldAt, here_indexAt, here_extract, here_un, here_conv, here_slice, here_bin, here_nil, and_here, true_and, Nat.zero_add, Nat.add_assoc, Nat.add_zero, Int.toNat_natCast, size_alloc, World.cell?_drew, World.frozen?_drew, Bool.not_true, Bool.not_false, Int.toNat_zero, dec_t, dec_f, int_eq_t, int_eq_f, int_ne_t, int_ne_f, wrap_in, kfa28_0, kld9, kld28, kal28, kst28f, kbx28, kbgeq3, kbneq36, kfa63_0, kld60, h]; try (exact ⟨trivial, trivial⟩))) ?_
      refine take_field (.pointer (some ⟨bx, 0, none⟩)) (fun w' _ => by (simp (maxSteps := 1000000) (disch := omega) only [hid1', hid2', guardK_u, takeG_u, wrap_in64, optK_some', fzK_false', nilK_ptr, brK_true', brK_false', guardK_tt', guardK_ff', guardK_tf', guardK_ft', takeG_tt', takeG_ff', takeG_tf', takeG_ft', pickK_t', pickK_f', pickT_t', pickT_f', notK, extract2_0', extract2_1', extract3_0', extract3_1', extract3_2', here_load, here_fieldAt, here_indexAt, here_extract, here_un, here_conv, here_slice, here_bin, here_nil, and_here, true_and, Nat.zero_add, Nat.add_assoc, Nat.add_zero, Int.toNat_natCast, size_alloc, World.cell?_drew, World.frozen?_drew, Bool.not_true, Bool.not_false, Int.toNat_zero, dec_t, dec_f, int_eq_t, int_eq_f, int_ne_t, int_ne_f, wrap_in, kfa28_0, kld9, kld28, kal28, kst28f, kbx28, kbgeq3, kbneq36, kfa63_0, kld60]; try (exact ⟨trivial, trivial⟩))) ?_
      refine take_load (.string e.1) (fun w' q => by have h := (cell3 q.1).1; (simp (maxSteps := 1000000) (disch := omega) only [hid1', hid2', guardK_u, takeG_u, wrap_in64, optK_some', fzK_false', nilK_ptr, brK_true', brK_false', guardK_tt', guardK_ff', guardK_tf', guardK_ft', takeG_tt', takeG_ff', takeG_tf', takeG_ft', pickK_t', pickK_f', pickT_t', pickT_f', notK, extract2_0', extract2_1', extract3_0', extract3_1', extract3_2', here_load, here_fieldAt, here_indexAt, here_extract, here_un, here_conv, here_slice, here_bin, here_nil, and_here, true_and, Nat.zero_add, Nat.add_assoc, Nat.add_zero, Int.toNat_natCast, size_alloc, World.cell?_drew, World.frozen?_drew, Bool.not_true, Bool.not_false, Int.toNat_zero, dec_t, dec_f, int_eq_t, int_eq_f, int_ne_t, int_ne_f, wrap_in, kfa28_0, kld9, kld28, kal28, kst28f, kbx28, kbgeq3, kbneq36, kfa63_0, kld60, h]; try (exact ⟨trivial, trivial⟩))) ?_
      refine take_load (SE.ev e) (fun w' q => by obtain ⟨h0, h1, h2⟩ := cell3 q.1; (simp (maxSteps := 1000000) (disch := omega) only [hid1', hid2', guardK_u, takeG_u, wrap_in64, optK_some', fzK_false', nilK_ptr, brK_true', brK_false', guardK_tt', guardK_ff', guardK_tf', guardK_ft', takeG_tt', takeG_ff', takeG_tf', takeG_ft', pickK_t', pickK_f', pickT_t', pickT_f', notK, extract2_0', extract2_1', extract3_0', extract3_1', extract3_2', here_load, here_fieldAt, here_indexAt, here_extract, here_un, here_conv, here_slice, here_bin, here_nil, and_here, true_and, Nat.zero_add, Nat.add_assoc, Nat.add_zero, Int.toNat_natCast, size_alloc, World.cell?_drew, World.frozen?_drew, Bool.not_true, Bool.not_false, Int.toNat_zero, dec_t, dec_f, int_eq_t, int_eq_f, int_ne_t, int_ne_f, wrap_in, kfa28_0, kld9, kld28, kal28, kst28f, kbx28, kbgeq3, kbneq36, kfa63_0, kld60, h0, h1, h2]; try (exact ⟨trivial, trivial⟩))) ?_
      have h5d := h5.quiet kd5
      have hlow := h5d.2.1.low
      refine ⟨ck33 (SE.put_any h5d.2.1 (by omega) ?_), trivial⟩
      intro F' w6 h6 k6 f6
      have hsz := (q05.trans kd5).size
      have hold := h.2.1.low
      have kx : ¬ (x = g ∨ F = some x) := by
        rintro (e | e)
        · exact h.2.2.1 e
        · exact h.2.2.2 e
      have kb : ¬ (bx = g ∨ F = some bx) := by
        rintro (e | e)
        · omega
        · have := hold.2 _ e; omega
      have hx6 := k6.heap (kd5.heap hx5 (fun h => h)) kb
      have hb6 := k6.heap h5d.1 kx
      simp (maxSteps := 1000000) (disch := omega) only [hid1', hid2', guardK_u, takeG_u, wrap_in64, optK_some', fzK_false', nilK_ptr, brK_true', brK_false', guardK_tt', guardK_ff', guardK_tf', guardK_ft', takeG_tt', takeG_ff', takeG_tf', takeG_ft', pickK_t', pickK_f', pickT_t', pickT_f', notK, extract2_0', extract2_1', extract3_0', extract3_1', extract3_2', here_load, here_fieldAt, here_indexAt, here_extract, here_un, here_conv, here_slice, here_bin, here_nil, and_here, true_and, Nat.zero_add, Nat.add_assoc, Nat.add_zero, Int.toNat_natCast, size_alloc, World.cell?_drew, World.frozen?_drew, Bool.not_true, Bool.not_false, Int.toNat_zero, dec_t, dec_f, int_eq_t, int_eq_f, int_ne_t, int_ne_f, wrap_in, kfa28_0, kld9, kld28, kal28, kst28f, kbx28, kbgeq3, kbneq36, kfa63_0, kld60]
      refine ⟨⟨hx6, by rw [blk_cell hb6]; rfl⟩, ?_⟩
      refine hK F' w6 ⟨hb6, h6, h.2.2.1, fun e => ?_⟩ ((wk (q05.trans kd5)).trans k6) (fun q hq => ?_)
      · rcases f6 x e with e | e
        · exact h.2.2.2 e
        · have := blk_lt h.1; omega
      · rcases f6 q hq with e | e
        · exact .inl e
        · right; omega
  | false =>
    rw [hf, if_neg (by rintro ⟨h, _⟩; cases h)] at hK
    simp (maxSteps := 1000000) (disch := omega) only [hid1', hid2', guardK_u, takeG_u, wrap_in64, optK_some', fzK_false', nilK_ptr, brK_true', brK_false', guardK_tt', guardK_ff', guardK_tf', guardK_ft', takeG_tt', takeG_ff', takeG_tf', takeG_ft', pickK_t', pickK_f', pickT_t', pickT_f', notK, extract2_0', extract2_1', extract3_0', extract3_1', extract3_2', here_load, here_fieldAt, here_indexAt, here_extract, here_un, here_conv, here_slice, here_bin, here_nil, and_here, true_and, Nat.zero_add, Nat.add_assoc, Nat.add_zero, Int.toNat_natCast, size_alloc, World.cell?_drew, World.frozen?_drew, Bool.not_true, Bool.not_false, Int.toNat_zero, dec_t, dec_f, int_eq_t, int_eq_f, int_ne_t, int_ne_f, wrap_in, kfa28_0, kld9, kld28, kal28, kst28f, kbx28, kbgeq3, kbneq36, kfa63_0, kld60, c4, guardK_u]
    refine ck32 (SE.len_any h4.2.1 ?_)
    by_cases h64 : 64 ≤ m.length
    · rw [if_pos ⟨rfl, h64⟩] at hK
      simp (maxSteps := 1000000) (disch := omega) only [hid1', hid2', guardK_u, takeG_u, wrap_in64, optK_some', fzK_false', nilK_ptr, brK_true', brK_false', guardK_tt', guardK_ff', guardK_tf', guardK_ft', takeG_tt', takeG_ff', takeG_tf', takeG_ft', pickK_t', pickK_f', pickT_t', pickT_f', notK, extract2_0', extract2_1', extract3_0', extract3_1', extract3_2', here_load, here_fieldAt, here_indexAt, here_extract, here_un, here_conv, here_slice, here_bin, here_nil, and_here, true_and, Nat.zero_add, Nat.add_assoc, Nat.add_zero, Int.toNat_natCast, size_alloc, World.cell?_drew, World.frozen?_drew, Bool.not_true, Bool.not_false, Int.toNat_zero, dec_t, dec_f, int_eq_t, int_eq_f, int_ne_t, int_ne_f, wrap_in, kfa28_0, kld9, kld28, kal28, kst28f, kbx28, kbgeq3, kbneq36, kfa63_0, kld60]
      exact hK F w4 h4 (wk q04) (fun q hq => .inl hq)
    · rw [if_neg (by rintro ⟨_, h⟩; exact h64 h)] at hK
      simp (maxSteps := 1000000) (disch := omega) only [hid1', hid2', guardK_u, takeG_u, wrap_in64, optK_some', fzK_false', nilK_ptr, brK_true', brK_false', guardK_tt', guardK_ff', guardK_tf', guardK_ft', takeG_tt', takeG_ff', takeG_tf', takeG_ft', pickK_t', pickK_f', pickT_t', pickT_f', notK, extract2_0', extract2_1', extract3_0', extract3_1', extract3_2', here_load, here_fieldAt, here_indexAt, here_extract, here_un, here_conv, here_slice, here_bin, here_nil, and_here, true_and, Nat.zero_add, Nat.add_assoc, Nat.add_zero, Int.toNat_natCast, size_alloc, World.cell?_drew, World.frozen?_drew, Bool.not_true, Bool.not_false, Int.toNat_zero, dec_t, dec_f, int_eq_t, int_eq_f, int_ne_t, int_ne_f, wrap_in, kfa28_0, kld9, kld28, kal28, kst28f, kbx28, kbgeq3, kbneq36, kfa63_0, kld60]
      have kd5 : Qt w4 w4.drew := Qt.drew Qt.refl
      refine drawK_by (fun w' => w'.heap[bx]? = some (.cells #[.string e.1, .int .i64 e.2.1, .int .i64 e.2.2] 28 (0, 0)) ∧ w'.cell? ⟨x, 0, none⟩ = some (.pointer (some ⟨g, 0, none⟩))) ⟨kd5.heap hx4 (fun h => h), h4.cell⟩ ?_
      refine take_nil ?_
      refine take_field (.pointer (some ⟨x, 0, none⟩)) (fun w' _ => by (simp (maxSteps := 1000000) (disch := omega) only [hid1', hid2', guardK_u, takeG_u, wrap_in64, optK_some', fzK_false', nilK_ptr, brK_true', brK_false', guardK_tt', guardK_ff', guardK_tf', guardK_ft', takeG_tt', takeG_ff', takeG_tf', takeG_ft', pickK_t', pickK_f', pickT_t', pickT_f', notK, extract2_0', extract2_1', extract3_0', extract3_1', extract3_2', here_load, here_fieldAt, here_indexAt, here_extract, here_un, here_conv, here_slice, here_bin, here_nil, and_here, true_and, Nat.zero_add, Nat.add_assoc, Nat.add_zero, Int.toNat_natCast, size_alloc, World.cell?_drew, World.frozen?_drew, Bool.not_true, Bool.not_false, Int.toNat_zero, dec_t, dec_f, int_eq_t, int_eq_f, int_ne_t, int_ne_f, wrap_in, kfa28_0, kld9, kld28, kal28, kst28f, kbx28, kbgeq3, kbneq36, kfa63_0, kld60]; try (exact ⟨trivial, trivial⟩))) ?_
      refine take_load (.pointer (some ⟨g, 0, none⟩)) (fun w' q => by have h := q.2; (simp (maxSteps := 1000000) (disch := omega) only [hid1', hid2', guardK_u, takeG_u, wrap_in64, optK_some', fzK_false', nilK_ptr, brK_true', brK_false', guardK_tt', guardK_ff', guardK_tf', guardK_ft', takeG_tt', takeG_ff', takeG_tf', takeG_ft', pickK_t', pickK_f', pickT_t', pickT_f', notK, extract2_0', extract2_1', extract3_0', extract3_1', extract3_2', here_load, here_fieldAt, here_indexAt, here_extract, here_un, here_conv, here_slice, here_bin, here_nil, and_here, true_and, Nat.zero_add, Nat.add_assoc, Nat.add_zero, Int.toNat_natCast, size_alloc, World.cell?_drew, World.frozen?_drew, Bool.not_true, Bool.not_false, Int.toNat_zero, dec_t, dec_f, int_eq_t, int_eq_f, int_ne_t, int_ne_f, wrap_in, kfa28_0, kld9, kld28, kal28, kst28f, kbx28, kbgeq3, kbneq36, kfa63_0, kld60, h]; try (exact ⟨trivial, trivial⟩))) ?_
      refine take_field (.pointer (some ⟨bx, 0, none⟩)) (fun w' _ => by (simp (maxSteps := 1000000) (disch := omega) only [hid1', hid2', guardK_u, takeG_u, wrap_in64, optK_some', fzK_false', nilK_ptr, brK_true', brK_false', guardK_tt', guardK_ff', guardK_tf', guardK_ft', takeG_tt', takeG_ff', takeG_tf', takeG_ft', pickK_t', pickK_f', pickT_t', pickT_f', notK, extract2_0', extract2_1', extract3_0', extract3_1', extract3_2', here_load, here_fieldAt, here_indexAt, here_extract, here_un, here_conv, here_slice, here_bin, here_nil, and_here, true_and, Nat.zero_add, Nat.add_assoc, Nat.add_zero, Int.toNat_natCast, size_alloc, World.cell?_drew, World.frozen?_drew, Bool.not_true, Bool.not_false, Int.toNat_zero, dec_t, dec_f, int_eq_t, int_eq_f, int_ne_t, int_ne_f, wrap_in, kfa28_0, kld9, kld28, kal28, kst28f, kbx28, kbgeq3, kbneq36, kfa63_0, kld60]; try (exact ⟨trivial, trivial⟩))) ?_
      refine take_load (.string e.1) (fun w' q => by have h := (cell3 q.1).1; (simp (maxSteps := 1000000) (disch := omega) only [hid1', hid2', guardK_u, takeG_u, wrap_in64, optK_some', fzK_false', nilK_ptr, brK_true', brK_false', guardK_tt', guardK_ff', guardK_tf', guardK_ft', takeG_tt', takeG_ff', takeG_tf', takeG_ft', pickK_t', pickK_f', pickT_t', pickT_f', notK, extract2_0', extract2_1', extract3_0', extract3_1', extract3_2', here_load, here_fieldAt, here_indexAt, here_extract, here_un, here_conv, here_slice, here_bin, here_nil, and_here, true_and, Nat.zero_add, Nat.add_assoc, Nat.add_zero, Int.toNat_natCast, size_alloc, World.cell?_drew, World.frozen?_drew, Bool.not_true, Bool.not_false, Int.toNat_zero, dec_t, dec_f, int_eq_t, int_eq_f, int_ne_t, int_ne_f, wrap_in, kfa28_0, kld9, kld28, kal28, kst28f, kbx28, kbgeq3, kbneq36, kfa63_0, kld60, h]; try (exact ⟨trivial, trivial⟩))) ?_
      refine take_load (SE.ev e) (fun w' q => by obtain ⟨h0, h1, h2⟩ := cell3 q.1; (simp (maxSteps := 1000000) (disch := omega) only [hid1', hid2', guardK_u, takeG_u, wrap_in64, optK_some', fzK_false', nilK_ptr, brK_true', brK_false', guardK_tt', guardK_ff', guardK_tf', guardK_ft', takeG_tt', takeG_ff', takeG_tf', takeG_ft', pickK_t', pickK_f', pickT_t', pickT_f', notK, extract2_0', extract2_1', extract3_0', extract3_1', extract3_2', here_load, here_fieldAt, here_indexAt, here_extract, here_un, here_conv, here_slice, here_bin, here_nil, and_here, true_and, Nat.zero_add, Nat.add_assoc, Nat.add_zero, Int.toNat_natCast, size_alloc, World.cell?_drew, World.frozen?_drew, Bool.not_true, Bool.not_false, Int.toNat_zero, dec_t, dec_f, int_eq_t, int_eq_f, int_ne_t, int_ne_f, wrap_in, kfa28_0, kld9, kld28, kal28, kst28f, kbx28, kbgeq3, kbneq36, kfa63_0, kld60, h0, h1, h2]; try (exact ⟨trivial, trivial⟩))) ?_
      have h5d := h4.quiet kd5
      have hlow := h5d.2.1.low
      refine ⟨ck33 (SE.put_any h5d.2.1 (by omega) ?_), trivial⟩
      intro F' w6 h6 k6 f6
      have hsz := (q04.trans kd5).size
      have hold := h.2.1.low
      have kx : ¬ (x = g ∨ F = some x) := by
        rintro (e | e)
        · exact h.2.2.1 e
        · exact h.2.2.2 e
      have kb : ¬ (bx = g ∨ F = some bx) := by
        rintro (e | e)
        · omega
        · have := hold.2 _ e; omega
      have hx6 := k6.heap (kd5.heap hx4 (fun h => h)) kb
      have hb6 := k6.heap h5d.1 kx
      simp (maxSteps := 1000000) (disch := omega) only [hid1', hid2', guardK_u, takeG_u, wrap_in64, optK_some', fzK_false', nilK_ptr, brK_true', brK_false', guardK_tt', guardK_ff', guardK_tf', guardK_ft', takeG_tt', takeG_ff', takeG_tf', takeG_ft', pickK_t', pickK_f', pickT_t', pickT_f', notK, extract2_0', extract2_1', extract3_0', extract3_1', extract3_2', here_load, here_fieldAt, here_indexAt, here_extract, here_un, here_conv, here_slice, here_bin, here_nil, and_here, true_and, Nat.zero_add, Nat.add_assoc, Nat.add_zero, Int.toNat_natCast, size_alloc, World.cell?_drew, World.frozen?_drew, Bool.not_true, Bool.not_false, Int.toNat_zero, dec_t, dec_f, int_eq_t, int_eq_f, int_ne_t, int_ne_f, wrap_in, kfa28_0, kld9, kld28, kal28, kst28f, kbx28, kbgeq3, kbneq36, kfa63_0, kld60]
      refine ⟨⟨hx6, by rw [blk_cell hb6]; rfl⟩, ?_⟩
      refine hK F' w6 ⟨hb6, h6, h.2.2.1, fun e => ?_⟩ ((wk (q04.trans kd5)).trans k6) (fun q hq => ?_)
      · rcases f6 x e with e | e
        · exact h.2.2.2 e
        · have := blk_lt h.1; omega
      · rcases f6 q hq with e | e
        · exact .inl e
        · right; omega
end Go.Proofs.YtbkficgmjgbbeaaDoor

/- sorted.Map[string, Entry], more of its methods. Conditions: at most 100000 keys. -/
import Derived.Test.YtbkficgmjgbbeaaDoorSE
import Derived.Test.YtbkficgmjgbbeaaDoorL7
import Derived.Test.YtbkficgmjgbbeaaDoorTwo
set_option linter.unusedVariables false
set_option linter.unusedSimpArgs false
set_option maxRecDepth 100000
namespace Go.Proofs.YtbkficgmjgbbeaaDoor.SE
open Go.RowKit Go.Cn
theorem flat_take (l : List (κ × ν)) : ∀ p, (l.take p).flatMap cell2 = (l.flatMap cell2).take (p * 4) := by
  induction l with
  | nil => intro p; simp
  | cons a l ih =>
    intro p
    cases p with
    | zero => simp
    | succ p =>
      rw [List.take_succ_cons, List.flatMap_cons, List.flatMap_cons, ih, Nat.succ_mul]
      rfl
theorem flat_drop (l : List (κ × ν)) : ∀ p, (l.drop p).flatMap cell2 = (l.flatMap cell2).drop (p * 4) := by
  induction l with
  | nil => intro p; simp
  | cons a l ih =>
    intro p
    cases p with
    | zero => simp
    | succ p =>
      rw [List.drop_succ_cons, List.flatMap_cons, ih, Nat.succ_mul]
      rfl
theorem flat_set (k : κ) (v : ν) (l : List (κ × ν)) (p : Nat) (h : p < l.length) (e : l[p].1 = k) : (l.set p (k, v)).flatMap cell2 = (l.flatMap cell2).take (p * 4 + 1) ++ [.string v.1, .int .i64 v.2.1, .int .i64 v.2.2] ++ (l.flatMap cell2).drop ((p + 1) * 4) := by
  rw [List.set_eq_take_append_cons_drop, if_pos h, List.flatMap_append, List.flatMap_cons, flat_take, flat_drop]
  have hl : (l.flatMap cell2).length = l.length * 4 := flat_len (sz := 4) (fun _ => rfl) l
  have h1 : (l.flatMap cell2)[p * 4]? = some (Value.string k) := by
    have h2 := flat_drop l p
    rw [List.drop_eq_getElem_cons h, List.flatMap_cons] at h2
    have h3 : (cell2 l[p] ++ (l.drop (p + 1)).flatMap cell2)[0]? = some (Value.string l[p].1) := rfl
    rw [h2, List.getElem?_drop, Nat.add_zero, e] at h3
    exact h3
  rw [List.take_add_one, h1]
  simp [cell2]
theorem put_len (l : List (κ × ν)) (k : κ) (v : ν) : (putM lt l k v).length = if fnd lt l k = true then l.length else l.length + 1 := by
  unfold putM
  have := pos_le (lt := lt) l k
  split
  · simp
  · simp; omega
theorem all3 {a b c : Value} (ha : a.oneCell' = true) (hb : b.oneCell' = true) (hc : c.oneCell' = true) : (#[a, b, c] : Array Value).all (·.oneCell') = true := by simp [ha, hb, hc]
theorem put_any {g : Nat} {l : List (κ × ν)} {F : Option Nat} {k : κ} {v : ν} {w : World} {K : Value → World → Prop} (h0 : MapAt w g l F) (hl : l.length < 100000)
    (hK : ∀ F' w', MapAt w' g (putM lt l k v) F' → Chg (fun q => q = g ∨ F = some q) w w' → (∀ q, F' = some q → F = some q ∨ w.heap.size ≤ q) → K (.bool (!fnd lt l k)) w') : CallK Tryd.prog 33 #[.pointer (some ⟨g, 0, none⟩), Value.string k, ev v] K w := by
  refine F33_calls _ _ _ _ _ ?_; unfold F33
  simp (maxSteps := 1000000) (disch := omega) only [hid1', hid2', guardK_u, takeG_u, wrap_in64, optK_some', fzK_false', nilK_ptr, brK_true', brK_false', guardK_tt', guardK_ff', guardK_tf', guardK_ft', takeG_tt', takeG_ff', takeG_tf', takeG_ft', pickK_t', pickK_f', pickT_t', pickT_f', notK, extract2_0', extract2_1', extract3_0', extract3_1', extract3_2', here_load, here_fieldAt, here_indexAt, here_extract, here_un, here_conv, here_slice, here_bin, here_nil, and_here, true_and, Nat.zero_add, Nat.add_assoc, Nat.add_zero, Int.toNat_natCast, size_alloc, World.cell?_drew, World.frozen?_drew, Bool.not_true, Bool.not_false, Int.toNat_zero, dec_t, dec_f, int_eq_t, int_eq_f, int_ne_t, int_ne_f, wrap_in, kld28, kst28f, kbx28, kfa78_0, kld76, kia76, kfa84_1, kbd84_0_1, kbs76_1_0, kst76]
  have qx : Qt w (w.alloc (.cells #[.string v.1, .int .i64 v.2.1, .int .i64 v.2.2] 28)) := Chg.alloc Qt.refl _
  have hx : (w.alloc (.cells #[.string v.1, .int .i64 v.2.1, .int .i64 v.2.2] 28)).heap[w.heap.size]? = some (.cells #[.string v.1, .int .i64 v.2.1, .int .i64 v.2.2] 28 (0, 0)) := blk_new _ _
  have h := h0.quiet qx
  have hlow0 := h0.low
  generalize (w.alloc (.cells #[.string v.1, .int .i64 v.2.1, .int .i64 v.2.2] 28)) = w0 at *
  generalize hbx : w.heap.size = bx at *
  refine ck48 (find_any h ?_)
  intro w1 q1
  have h1 := h.quiet q1
  have qw1 := qx.trans q1
  have hsz1 := qw1.size
  have hx1 := q1.heap hx (fun h => h)
  have x0 : w1.cell? ⟨bx, 0, none⟩ = some (.string v.1) := by rw [blk_cell hx1]; rfl
  have x1 : w1.cell? ⟨bx, 1, none⟩ = some (.int .i64 v.2.1) := by rw [blk_cell hx1]; rfl
  have x2 : w1.cell? ⟨bx, 2, none⟩ = some (.int .i64 v.2.2) := by rw [blk_cell hx1]; rfl
  have hpl := put_len l k v
  obtain ⟨u, hb, ho, hFg, hs, _⟩ := id h1
  obtain ⟨A, c, rfl, _⟩ := ho.shape
  have c0 : w1.cell? ⟨g, 0, none⟩ = some (.slice A l.length c) := by rw [blk_cell hb]; rfl
  have hlow := h1.low
  have hple := pos_le (lt := lt) l k
  have hput : putM lt l k v = if fnd lt l k = true then l.set (pos lt l k) (k, v) else l.take (pos lt l k) ++ (k, v) :: l.drop (pos lt l k) := rfl
  have hrise := hs.put O k v
  by_cases hf : fnd lt l k = true
  · obtain ⟨hp, hk⟩ := fnd_iff.1 hf
    rw [if_pos hf] at hput hpl
    rcases ho with ⟨_, h0, _⟩ | ⟨gb, cc, hA, rfl, hrow⟩
    · omega
    injection hA with a1 a2 a3
    subst a1 a3
    have hgb : gb ≠ g := fun e => hFg (by rw [e])
    have hxl := hrow.1
    have hth : World.there w1.drew gb (pos lt l k * 4 + 1) (#[.string v.1, .int .i64 v.2.1, .int .i64 v.2.2] : Array Value).size := fun j hj => by
      have hj : j < 3 := hj
      have e := hrow.cell (pos lt l k * 4 + 1 + j) (by omega)
      have z := hrow.frozen (pos lt l k * 4 + 1 + j)
      exact ⟨by show (w1.cell? _).isSome = true; rw [e, List.getElem?_eq_getElem (by omega)]; rfl, z⟩
    have hflat := flat_set k v l (pos lt l k) hp hk
    have hst := (hrow.chg (S := fun _ => False) (Qt.drew Qt.refl) (fun h => h)).put (pos lt l k * 4 + 1) ([.string v.1, .int .i64 v.2.1, .int .i64 v.2.2] : List Value) (by omega) l.length hrow.cap_le.1 (Nat.le_refl _) (by have := hrow.cap_le.1; simp only [List.length_cons, List.length_nil]; omega) (by simp only [List.length_cons, List.length_nil]; omega)
    have hxs : ((l.flatMap cell2).take (pos lt l k * 4 + 1) ++ ([.string v.1, .int .i64 v.2.1, .int .i64 v.2.2] : List Value) ++ (l.flatMap cell2).drop (pos lt l k * 4 + 1 + ([.string v.1, .int .i64 v.2.1, .int .i64 v.2.2] : List Value).length)).take (l.length * 4) = (putM lt l k v).flatMap cell2 := by
      rw [hput, hflat, List.take_of_length_le]
      · congr 2; simp only [List.length_cons, List.length_nil]; omega
      · simp only [List.length_append, List.length_take, List.length_drop, List.length_cons, List.length_nil]; omega
    rw [hxs] at hst
    have hch : Chg (fun q => q = gb) w1.drew (w1.drew.setCells gb (pos lt l k * 4 + 1) [.string v.1, .int .i64 v.2.1, .int .i64 v.2.2]) := Chg.sets
    have kd : Qt w1 w1.drew := Qt.drew Qt.refl
    rw [hf] at hK
    simp (maxSteps := 1000000) (disch := omega) only [hid1', hid2', guardK_u, takeG_u, wrap_in64, optK_some', fzK_false', nilK_ptr, brK_true', brK_false', guardK_tt', guardK_ff', guardK_tf', guardK_ft', takeG_tt', takeG_ff', takeG_tf', takeG_ft', pickK_t', pickK_f', pickT_t', pickT_f', notK, extract2_0', extract2_1', extract3_0', extract3_1', extract3_2', here_load, here_fieldAt, here_indexAt, here_extract, here_un, here_conv, here_slice, here_bin, here_nil, and_here, true_and, Nat.zero_add, Nat.add_assoc, Nat.add_zero, Int.toNat_natCast, size_alloc, World.cell?_drew, World.frozen?_drew, Bool.not_true, Bool.not_false, Int.toNat_zero, dec_t, dec_f, int_eq_t, int_eq_f, int_ne_t, int_ne_f, wrap_in, kld28, kst28f, kbx28, kfa78_0, kld76, kia76, kfa84_1, kbd84_0_1, kbs76_1_0, kst76, hf]
    refine drawK_by (fun w'' => w''.heap[bx]? = some (.cells #[.string v.1, .int .i64 v.2.1, .int .i64 v.2.2] 28 (0, 0)) ∧ w''.cell? ⟨g, 0, none⟩ = some (.slice (some ⟨gb, 0, none⟩) l.length c)) ⟨kd.heap hx1 (fun h => h), c0⟩ ?_
    refine take_nil ?_
    refine take_field (.pointer (some ⟨g, 0, none⟩)) (fun w'' _ => by (simp (maxSteps := 1000000) (disch := omega) only [hid1', hid2', guardK_u, takeG_u, wrap_in64, optK_some', fzK_false', nilK_ptr, brK_true', brK_false', guardK_tt', guardK_ff', guardK_tf', guardK_ft', takeG_tt', takeG_ff', takeG_tf', takeG_ft', pickK_t', pickK_f', pickT_t', pickT_f', notK, extract2_0', extract2_1', extract3_0', extract3_1', extract3_2', here_load, here_fieldAt, here_indexAt, here_extract, here_un, here_conv, here_slice, here_bin, here_nil, and_here, true_and, Nat.zero_add, Nat.add_assoc, Nat.add_zero, Int.toNat_natCast, size_alloc, World.cell?_drew, World.frozen?_drew, Bool.not_true, Bool.not_false, Int.toNat_zero, dec_t, dec_f, int_eq_t, int_eq_f, int_ne_t, int_ne_f, wrap_in, kld28, kst28f, kbx28, kfa78_0, kld76, kia76, kfa84_1, kbd84_0_1, kbs76_1_0, kst76]; try (exact ⟨trivial, trivial⟩))) ?_
    refine take_load (.slice (some ⟨gb, 0, none⟩) l.length c) (fun w'' hw => by have h := hw.2; (simp (maxSteps := 1000000) (disch := omega) only [hid1', hid2', guardK_u, takeG_u, wrap_in64, optK_some', fzK_false', nilK_ptr, brK_true', brK_false', guardK_tt', guardK_ff', guardK_tf', guardK_ft', takeG_tt', takeG_ff', takeG_tf', takeG_ft', pickK_t', pickK_f', pickT_t', pickT_f', notK, extract2_0', extract2_1', extract3_0', extract3_1', extract3_2', here_load, here_fieldAt, here_indexAt, here_extract, here_un, here_conv, here_slice, here_bin, here_nil, and_here, true_and, Nat.zero_add, Nat.add_assoc, Nat.add_zero, Int.toNat_natCast, size_alloc, World.cell?_drew, World.frozen?_drew, Bool.not_true, Bool.not_false, Int.toNat_zero, dec_t, dec_f, int_eq_t, int_eq_f, int_ne_t, int_ne_f, wrap_in, kld28, kst28f, kbx28, kfa78_0, kld76, kia76, kfa84_1, kbd84_0_1, kbs76_1_0, kst76, h]; try (exact ⟨trivial, trivial⟩))) ?_
    refine take_load (.agg #[.string v.1, .int .i64 v.2.1, .int .i64 v.2.2]) (fun w'' hw => by
      have h := hw.1
      have y0 : w''.cell? ⟨bx, 0, none⟩ = some (.string v.1) := by rw [blk_cell h]; rfl
      have y1 : w''.cell? ⟨bx, 1, none⟩ = some (.int .i64 v.2.1) := by rw [blk_cell h]; rfl
      have y2 : w''.cell? ⟨bx, 2, none⟩ = some (.int .i64 v.2.2) := by rw [blk_cell h]; rfl
      (simp (maxSteps := 1000000) (disch := omega) only [hid1', hid2', guardK_u, takeG_u, wrap_in64, optK_some', fzK_false', nilK_ptr, brK_true', brK_false', guardK_tt', guardK_ff', guardK_tf', guardK_ft', takeG_tt', takeG_ff', takeG_tf', takeG_ft', pickK_t', pickK_f', pickT_t', pickT_f', notK, extract2_0', extract2_1', extract3_0', extract3_1', extract3_2', here_load, here_fieldAt, here_indexAt, here_extract, here_un, here_conv, here_slice, here_bin, here_nil, and_here, true_and, Nat.zero_add, Nat.add_assoc, Nat.add_zero, Int.toNat_natCast, size_alloc, World.cell?_drew, World.frozen?_drew, Bool.not_true, Bool.not_false, Int.toNat_zero, dec_t, dec_f, int_eq_t, int_eq_f, int_ne_t, int_ne_f, wrap_in, kld28, kst28f, kbx28, kfa78_0, kld76, kia76, kfa84_1, kbd84_0_1, kbs76_1_0, kst76, y0, y1, y2]; try (exact ⟨trivial, trivial⟩))) ?_
    refine take_index (.pointer (some ⟨gb, pos lt l k * 4, none⟩)) (fun w'' _ => by (simp (maxSteps := 1000000) (disch := omega) only [hid1', hid2', guardK_u, takeG_u, wrap_in64, optK_some', fzK_false', nilK_ptr, brK_true', brK_false', guardK_tt', guardK_ff', guardK_tf', guardK_ft', takeG_tt', takeG_ff', takeG_tf', takeG_ft', pickK_t', pickK_f', pickT_t', pickT_f', notK, extract2_0', extract2_1', extract3_0', extract3_1', extract3_2', here_load, here_fieldAt, here_indexAt, here_extract, here_un, here_conv, here_slice, here_bin, here_nil, and_here, true_and, Nat.zero_add, Nat.add_assoc, Nat.add_zero, Int.toNat_natCast, size_alloc, World.cell?_drew, World.frozen?_drew, Bool.not_true, Bool.not_false, Int.toNat_zero, dec_t, dec_f, int_eq_t, int_eq_f, int_ne_t, int_ne_f, wrap_in, kld28, kst28f, kbx28, kfa78_0, kld76, kia76, kfa84_1, kbd84_0_1, kbs76_1_0, kst76]; try (exact ⟨trivial, trivial⟩))) ?_
    refine take_field (.pointer (some ⟨gb, pos lt l k * 4 + 1, none⟩)) (fun w'' _ => by (simp (maxSteps := 1000000) (disch := omega) only [hid1', hid2', guardK_u, takeG_u, wrap_in64, optK_some', fzK_false', nilK_ptr, brK_true', brK_false', guardK_tt', guardK_ff', guardK_tf', guardK_ft', takeG_tt', takeG_ff', takeG_tf', takeG_ft', pickK_t', pickK_f', pickT_t', pickT_f', notK, extract2_0', extract2_1', extract3_0', extract3_1', extract3_2', here_load, here_fieldAt, here_indexAt, here_extract, here_un, here_conv, here_slice, here_bin, here_nil, and_here, true_and, Nat.zero_add, Nat.add_assoc, Nat.add_zero, Int.toNat_natCast, size_alloc, World.cell?_drew, World.frozen?_drew, Bool.not_true, Bool.not_false, Int.toNat_zero, dec_t, dec_f, int_eq_t, int_eq_f, int_ne_t, int_ne_f, wrap_in, kld28, kst28f, kbx28, kfa78_0, kld76, kia76, kfa84_1, kbd84_0_1, kbs76_1_0, kst76]; try (exact ⟨trivial, trivial⟩))) ?_
    refine ⟨aggStoreK hth (by kernel_rfl) (all3 rfl rfl rfl) ?_, trivial⟩
    have hgbx : gb ≠ bx := fun e => by
      have := hlow0.2 gb rfl; omega
    simp (maxSteps := 1000000) (disch := omega) only [hid1', hid2', guardK_u, takeG_u, wrap_in64, optK_some', fzK_false', nilK_ptr, brK_true', brK_false', guardK_tt', guardK_ff', guardK_tf', guardK_ft', takeG_tt', takeG_ff', takeG_tf', takeG_ft', pickK_t', pickK_f', pickT_t', pickT_f', notK, extract2_0', extract2_1', extract3_0', extract3_1', extract3_2', here_load, here_fieldAt, here_indexAt, here_extract, here_un, here_conv, here_slice, here_bin, here_nil, and_here, true_and, Nat.zero_add, Nat.add_assoc, Nat.add_zero, Int.toNat_natCast, size_alloc, World.cell?_drew, World.frozen?_drew, Bool.not_true, Bool.not_false, Int.toNat_zero, dec_t, dec_f, int_eq_t, int_eq_f, int_ne_t, int_ne_f, wrap_in, kld28, kst28f, kbx28, kfa78_0, kld76, kia76, kfa84_1, kbd84_0_1, kbs76_1_0, kst76]
    refine ⟨⟨hch.heap (kd.heap hx1 (fun h => h)) (fun e => hgbx e.symm), ?_⟩, ?_⟩
    · exact hch.cell c0 (fun e => hgb e.symm)
    refine hK (some gb) _ ⟨_, hch.heap (kd.heap hb (fun h => h)) (fun e => hgb e.symm), ?_, hFg, hrise, by omega⟩ ?_ (fun q hq => .inl hq)
    · rw [hpl]; exact hst.own2
    · exact (((qw1.trans kd).mono (fun _ _ h => h.elim)).trans hch).mono (fun q _ hq => .inr (by rw [hq]))
  · have hfb : fnd lt l k = false := (Bool.not_eq_true _).mp hf
    rw [if_neg hf] at hput hpl
    rw [hfb] at hK
    simp (maxSteps := 1000000) (disch := omega) only [hid1', hid2', guardK_u, takeG_u, wrap_in64, optK_some', fzK_false', nilK_ptr, brK_true', brK_false', guardK_tt', guardK_ff', guardK_tf', guardK_ft', takeG_tt', takeG_ff', takeG_tf', takeG_ft', pickK_t', pickK_f', pickT_t', pickT_f', notK, extract2_0', extract2_1', extract3_0', extract3_1', extract3_2', here_load, here_fieldAt, here_indexAt, here_extract, here_un, here_conv, here_slice, here_bin, here_nil, and_here, true_and, Nat.zero_add, Nat.add_assoc, Nat.add_zero, Int.toNat_natCast, size_alloc, World.cell?_drew, World.frozen?_drew, Bool.not_true, Bool.not_false, Int.toNat_zero, dec_t, dec_f, int_eq_t, int_eq_f, int_ne_t, int_ne_f, wrap_in, kld28, kst28f, kbx28, kfa78_0, kld76, kia76, kfa84_1, kbd84_0_1, kbs76_1_0, kst76, hfb]
    have kd : Qt w1 w1.drew := Qt.drew Qt.refl
    refine drawK_by (fun w'' => w''.heap[bx]? = some (.cells #[.string v.1, .int .i64 v.2.1, .int .i64 v.2.2] 28 (0, 0))) (kd.heap hx1 (fun h => h)) ?_
    refine take_nil ?_
    refine take_field (.pointer (some ⟨g, 0, none⟩)) (fun w'' _ => by (simp (maxSteps := 1000000) (disch := omega) only [hid1', hid2', guardK_u, takeG_u, wrap_in64, optK_some', fzK_false', nilK_ptr, brK_true', brK_false', guardK_tt', guardK_ff', guardK_tf', guardK_ft', takeG_tt', takeG_ff', takeG_tf', takeG_ft', pickK_t', pickK_f', pickT_t', pickT_f', notK, extract2_0', extract2_1', extract3_0', extract3_1', extract3_2', here_load, here_fieldAt, here_indexAt, here_extract, here_un, here_conv, here_slice, here_bin, here_nil, and_here, true_and, Nat.zero_add, Nat.add_assoc, Nat.add_zero, Int.toNat_natCast, size_alloc, World.cell?_drew, World.frozen?_drew, Bool.not_true, Bool.not_false, Int.toNat_zero, dec_t, dec_f, int_eq_t, int_eq_f, int_ne_t, int_ne_f, wrap_in, kld28, kst28f, kbx28, kfa78_0, kld76, kia76, kfa84_1, kbd84_0_1, kbs76_1_0, kst76]; try (exact ⟨trivial, trivial⟩))) ?_
    refine take_load (.agg #[.string v.1, .int .i64 v.2.1, .int .i64 v.2.2]) (fun w'' h => by
      have y0 : w''.cell? ⟨bx, 0, none⟩ = some (.string v.1) := by rw [blk_cell h]; rfl
      have y1 : w''.cell? ⟨bx, 1, none⟩ = some (.int .i64 v.2.1) := by rw [blk_cell h]; rfl
      have y2 : w''.cell? ⟨bx, 2, none⟩ = some (.int .i64 v.2.2) := by rw [blk_cell h]; rfl
      (simp (maxSteps := 1000000) (disch := omega) only [hid1', hid2', guardK_u, takeG_u, wrap_in64, optK_some', fzK_false', nilK_ptr, brK_true', brK_false', guardK_tt', guardK_ff', guardK_tf', guardK_ft', takeG_tt', takeG_ff', takeG_tf', takeG_ft', pickK_t', pickK_f', pickT_t', pickT_f', notK, extract2_0', extract2_1', extract3_0', extract3_1', extract3_2', here_load, here_fieldAt, here_indexAt, here_extract, here_un, here_conv, here_slice, here_bin, here_nil, and_here, true_and, Nat.zero_add, Nat.add_assoc, Nat.add_zero, Int.toNat_natCast, size_alloc, World.cell?_drew, World.frozen?_drew, Bool.not_true, Bool.not_false, Int.toNat_zero, dec_t, dec_f, int_eq_t, int_eq_f, int_ne_t, int_ne_f, wrap_in, kld28, kst28f, kbx28, kfa78_0, kld76, kia76, kfa84_1, kbd84_0_1, kbs76_1_0, kst76, y0, y1, y2]; try (exact ⟨trivial, trivial⟩))) ?_
    have hxd := kd.heap hx1 (fun h => h)
    have hbd := kd.heap hb (fun h => h)
    have hod := ho.chg kd (fun _ _ h => h)
    have hsd := kd.size
    have qwd := qw1.trans kd
    have c0d : w1.drew.cell? ⟨g, 0, none⟩ = some (.slice A l.length c) := c0
    generalize w1.drew = wd at *
    have qe : Qt wd (wd.alloc (.cells #[Value.string k, .string v.1, .int .i64 v.2.1, .int .i64 v.2.2] 84)) := Chg.alloc Qt.refl _
    have hxe := qe.heap hxd (fun h => h)
    have c0e := qe.cell c0d (fun h => h)
    have hput' : (putM lt l k v).flatMap cell2 = (l.flatMap cell2).take (pos lt l k * 4) ++ [Value.string k, .string v.1, .int .i64 v.2.1, .int .i64 v.2.2] ++ (l.flatMap cell2).drop (pos lt l k * 4) := by
      rw [hput, List.flatMap_append, List.flatMap_cons, flat_take, flat_drop, List.append_assoc]; rfl
    have hgd := blk_lt hbd
    simp (maxSteps := 1000000) (disch := omega) only [hid1', hid2', guardK_u, takeG_u, wrap_in64, optK_some', fzK_false', nilK_ptr, brK_true', brK_false', guardK_tt', guardK_ff', guardK_tf', guardK_ft', takeG_tt', takeG_ff', takeG_tf', takeG_ft', pickK_t', pickK_f', pickT_t', pickT_f', notK, extract2_0', extract2_1', extract3_0', extract3_1', extract3_2', here_load, here_fieldAt, here_indexAt, here_extract, here_un, here_conv, here_slice, here_bin, here_nil, and_here, true_and, Nat.zero_add, Nat.add_assoc, Nat.add_zero, Int.toNat_natCast, size_alloc, World.cell?_drew, World.frozen?_drew, Bool.not_true, Bool.not_false, Int.toNat_zero, dec_t, dec_f, int_eq_t, int_eq_f, int_ne_t, int_ne_f, wrap_in, kld28, kst28f, kbx28, kfa78_0, kld76, kia76, kfa84_1, kbd84_0_1, kbs76_1_0, kst76, c0d, c0e]
    repeat' (first | exact hxd | exact hxe | exact trivial | apply And.intro)
    all_goals
      refine ck49 (ins_any hod (one2 l) hple (by omega) ?_)
      intro A' c' F' w2 o2 k2 f2
      have hxF : F ≠ some bx := fun e => by
        have := hlow0.2 bx e; omega
      have hb2 := k2.heap hbd (fun e => hFg e)
      have hx2 := k2.heap hxd (fun e => hxF e)
      have c2 : w2.cell? ⟨g, 0, none⟩ = some (.slice A l.length c) := by rw [blk_cell hb2]; rfl
      have z2 : w2.frozen? ⟨g, 0, none⟩ = false := blk_frozen hb2 0
      simp (maxSteps := 1000000) (disch := omega) only [hid1', hid2', guardK_u, takeG_u, wrap_in64, optK_some', fzK_false', nilK_ptr, brK_true', brK_false', guardK_tt', guardK_ff', guardK_tf', guardK_ft', takeG_tt', takeG_ff', takeG_tf', takeG_ft', pickK_t', pickK_f', pickT_t', pickT_f', notK, extract2_0', extract2_1', extract3_0', extract3_1', extract3_2', here_load, here_fieldAt, here_indexAt, here_extract, here_un, here_conv, here_slice, here_bin, here_nil, and_here, true_and, Nat.zero_add, Nat.add_assoc, Nat.add_zero, Int.toNat_natCast, size_alloc, World.cell?_drew, World.frozen?_drew, Bool.not_true, Bool.not_false, Int.toNat_zero, dec_t, dec_f, int_eq_t, int_eq_f, int_ne_t, int_ne_f, wrap_in, kld28, kst28f, kbx28, kfa78_0, kld76, kia76, kfa84_1, kbd84_0_1, kbs76_1_0, kst76]
      refine ⟨hx2, ?_⟩
      refine take_nil ?_
      refine take_field (.pointer (some ⟨g, 0, none⟩)) (fun w'' _ => by (simp (maxSteps := 1000000) (disch := omega) only [hid1', hid2', guardK_u, takeG_u, wrap_in64, optK_some', fzK_false', nilK_ptr, brK_true', brK_false', guardK_tt', guardK_ff', guardK_tf', guardK_ft', takeG_tt', takeG_ff', takeG_tf', takeG_ft', pickK_t', pickK_f', pickT_t', pickT_f', notK, extract2_0', extract2_1', extract3_0', extract3_1', extract3_2', here_load, here_fieldAt, here_indexAt, here_extract, here_un, here_conv, here_slice, here_bin, here_nil, and_here, true_and, Nat.zero_add, Nat.add_assoc, Nat.add_zero, Int.toNat_natCast, size_alloc, World.cell?_drew, World.frozen?_drew, Bool.not_true, Bool.not_false, Int.toNat_zero, dec_t, dec_f, int_eq_t, int_eq_f, int_ne_t, int_ne_f, wrap_in, kld28, kst28f, kbx28, kfa78_0, kld76, kia76, kfa84_1, kbd84_0_1, kbs76_1_0, kst76]; try (exact ⟨trivial, trivial⟩))) ?_
      have hF'g : F' ≠ some g := fun e => by
        rcases f2 g e with h | h
        · exact hFg h
        · omega
      have hgx : bx ≠ g := by omega
      have hch : Chg (fun q => q = g) w2 (w2.setCell ⟨g, 0, none⟩ (.slice A' (l.length + 1) c')) := (Chg.refl (fun q => q = g) w2).setCell (p := ⟨g, _, none⟩) (.inl rfl) _
      simp (maxSteps := 1000000) (disch := omega) only [hid1', hid2', guardK_u, takeG_u, wrap_in64, optK_some', fzK_false', nilK_ptr, brK_true', brK_false', guardK_tt', guardK_ff', guardK_tf', guardK_ft', takeG_tt', takeG_ff', takeG_tf', takeG_ft', pickK_t', pickK_f', pickT_t', pickT_f', notK, extract2_0', extract2_1', extract3_0', extract3_1', extract3_2', here_load, here_fieldAt, here_indexAt, here_extract, here_un, here_conv, here_slice, here_bin, here_nil, and_here, true_and, Nat.zero_add, Nat.add_assoc, Nat.add_zero, Int.toNat_natCast, size_alloc, World.cell?_drew, World.frozen?_drew, Bool.not_true, Bool.not_false, Int.toNat_zero, dec_t, dec_f, int_eq_t, int_eq_f, int_ne_t, int_ne_f, wrap_in, kld28, kst28f, kbx28, kfa78_0, kld76, kia76, kfa84_1, kbd84_0_1, kbs76_1_0, kst76, c2, z2]
      refine ⟨⟨hch.heap hx2 hgx, ?_⟩, trivial⟩
      refine hK F' _ ⟨.slice A' (l.length + 1) c', by rw [blk_set hb2]; rfl, ?_, hF'g, hrise, by omega⟩ ?_ (fun q hq => ?_)
      · rw [hpl, hput']
        exact o2.chg hch (fun q hq e => hF'g (by rw [hq, e]))
      · exact ((qwd.mono (fun _ _ h => h.elim)).trans (k2.mono (fun q _ hq => .inr hq))).trans (hch.mono (fun q _ hq => .inl hq))
      · rcases f2 q hq with h | h
        · exact .inl h
        · exact .inr (by omega)
theorem keys_any {g : Nat} {l : List (κ × ν)} {F : Option Nat} {w : World} {K : Value → World → Prop} (h : MapAt w g l F)
    (hK : ∀ A' c' F' w', Own w' 9 1 (.slice A' l.length c') l.length ((l.map Prod.fst).map (Value.string)) F' → Qt w w' → (∀ q, F' = some q → w.heap.size ≤ q) → K (.slice A' l.length c') w') : CallK Tryd.prog 39 #[.pointer (some ⟨g, 0, none⟩)] K w := by
  refine F39_calls _ _ _ ?_; unfold F39
  obtain ⟨A, c, c0, _, ho, hr, hs, hl⟩ := h.opened
  simp (maxSteps := 1000000) (disch := omega) only [hid1', hid2', guardK_u, takeG_u, wrap_in64, optK_some', fzK_false', nilK_ptr, brK_true', brK_false', guardK_tt', guardK_ff', guardK_tf', guardK_ft', takeG_tt', takeG_ff', takeG_tf', takeG_ft', pickK_t', pickK_f', pickT_t', pickT_f', notK, extract2_0', extract2_1', extract3_0', extract3_1', extract3_2', here_load, here_fieldAt, here_indexAt, here_extract, here_un, here_conv, here_slice, here_bin, here_nil, and_here, true_and, Nat.zero_add, Nat.add_assoc, Nat.add_zero, Int.toNat_natCast, size_alloc, World.cell?_drew, World.frozen?_drew, Bool.not_true, Bool.not_false, Int.toNat_zero, dec_t, dec_f, int_eq_t, int_eq_f, int_ne_t, int_ne_f, wrap_in, kblss3, kld9, kbadd3, kbs41_1_0, kfa78_0, kld76, kia76, klen76, hlen76, kal84, kfa84_0, kld84, kst84f, c0]
  refine make0K tyK l.length (by omega) (by omega) ?_
  intro w1 o1 q1
  have c1 : w1.cell? ⟨g, 0, none⟩ = some (.slice A l.length c) := q1.cell c0 (fun h => h)
  simp (maxSteps := 1000000) (disch := omega) only [hid1', hid2', guardK_u, takeG_u, wrap_in64, optK_some', fzK_false', nilK_ptr, brK_true', brK_false', guardK_tt', guardK_ff', guardK_tf', guardK_ft', takeG_tt', takeG_ff', takeG_tf', takeG_ft', pickK_t', pickK_f', pickT_t', pickT_f', notK, extract2_0', extract2_1', extract3_0', extract3_1', extract3_2', here_load, here_fieldAt, here_indexAt, here_extract, here_un, here_conv, here_slice, here_bin, here_nil, and_here, true_and, Nat.zero_add, Nat.add_assoc, Nat.add_zero, Int.toNat_natCast, size_alloc, World.cell?_drew, World.frozen?_drew, Bool.not_true, Bool.not_false, Int.toNat_zero, dec_t, dec_f, int_eq_t, int_eq_f, int_ne_t, int_ne_f, wrap_in, kblss3, kld9, kbadd3, kbs41_1_0, kfa78_0, kld76, kia76, klen76, hlen76, kal84, kfa84_0, kld84, kst84f, c1]
  refine loopK2 (fun o x w' => ∃ (i : Nat) (G : Option Nat), x = .int .i64 i ∧ i ≤ l.length ∧ Own w' 9 1 o i (((l.take i).map Prod.fst).map (Value.string)) G ∧ Qt w w' ∧ (∀ q, G = some q → w.heap.size ≤ q)) (fun _ x _ => l.length - (intOf x).toNat) ⟨0, _, rfl, by omega, by simpa using o1, q1, fun q hq => (by cases hq; exact Nat.le_refl _)⟩ ?_
  rintro _ o _ w' ⟨i, G, rfl, hi, hoo, hq, hG⟩
  by_cases hlt : i < l.length
  · obtain ⟨gb, of, rfl, k0, k1, k2, k3⟩ := cells_at (hr.quiet hq) hlt
    simp (maxSteps := 1000000) (disch := omega) only [hid1', hid2', guardK_u, takeG_u, wrap_in64, optK_some', fzK_false', nilK_ptr, brK_true', brK_false', guardK_tt', guardK_ff', guardK_tf', guardK_ft', takeG_tt', takeG_ff', takeG_tf', takeG_ft', pickK_t', pickK_f', pickT_t', pickT_f', notK, extract2_0', extract2_1', extract3_0', extract3_1', extract3_2', here_load, here_fieldAt, here_indexAt, here_extract, here_un, here_conv, here_slice, here_bin, here_nil, and_here, true_and, Nat.zero_add, Nat.add_assoc, Nat.add_zero, Int.toNat_natCast, size_alloc, World.cell?_drew, World.frozen?_drew, Bool.not_true, Bool.not_false, Int.toNat_zero, dec_t, dec_f, int_eq_t, int_eq_f, int_ne_t, int_ne_f, wrap_in, kblss3, kld9, kbadd3, kbs41_1_0, kfa78_0, kld76, kia76, klen76, hlen76, kal84, kfa84_0, kld84, kst84f, k0, k1, k2, k3]
    have cN : (w'.alloc (.cells #[Value.string l[i].1, .string l[i].2.1, .int .i64 l[i].2.2.1, .int .i64 l[i].2.2.2] 84)).cell? ⟨w'.heap.size, 0, none⟩ = some (Value.string l[i].1) := by rw [blk_cell (blk_new _ _)]; rfl
    have hcN : Qt w' (w'.alloc (.cells #[Value.string l[i].1, .string l[i].2.1, .int .i64 l[i].2.2.1, .int .i64 l[i].2.2.2] 84)) := Chg.alloc Qt.refl _
    have hsN : (w'.alloc (.cells #[Value.string l[i].1, .string l[i].2.1, .int .i64 l[i].2.2.1, .int .i64 l[i].2.2.2] 84)).heap.size = w'.heap.size + 1 := size_alloc _ _
    simp (maxSteps := 1000000) (disch := omega) only [hid1', hid2', guardK_u, takeG_u, wrap_in64, optK_some', fzK_false', nilK_ptr, brK_true', brK_false', guardK_tt', guardK_ff', guardK_tf', guardK_ft', takeG_tt', takeG_ff', takeG_tf', takeG_ft', pickK_t', pickK_f', pickT_t', pickT_f', notK, extract2_0', extract2_1', extract3_0', extract3_1', extract3_2', here_load, here_fieldAt, here_indexAt, here_extract, here_un, here_conv, here_slice, here_bin, here_nil, and_here, true_and, Nat.zero_add, Nat.add_assoc, Nat.add_zero, Int.toNat_natCast, size_alloc, World.cell?_drew, World.frozen?_drew, Bool.not_true, Bool.not_false, Int.toNat_zero, dec_t, dec_f, int_eq_t, int_eq_f, int_ne_t, int_ne_f, wrap_in, kblss3, kld9, kbadd3, kbs41_1_0, kfa78_0, kld76, kia76, klen76, hlen76, kal84, kfa84_0, kld84, kst84f, cN]
    rw [← hsN]
    have hoo2 := hoo.chg hcN (fun _ _ h => h)
    have hq2 := hq.trans hcN
    generalize (w'.alloc (.cells #[Value.string l[i].1, .string l[i].2.1, .int .i64 l[i].2.2.1, .int .i64 l[i].2.2.2] 84)) = w2 at *
    obtain ⟨A2, c2, G2, w3, ha, ho2, hc2, hf2⟩ := append2_run (P := Tryd.prog) tyK hoo2 [Value.string l[i].1] rfl (by intro u hu; simp at hu; subst hu; rfl) (by omega) (by omega) 41
    refine appK ha ?_
    simp (maxSteps := 1000000) (disch := omega) only [hid1', hid2', guardK_u, takeG_u, wrap_in64, optK_some', fzK_false', nilK_ptr, brK_true', brK_false', guardK_tt', guardK_ff', guardK_tf', guardK_ft', takeG_tt', takeG_ff', takeG_tf', takeG_ft', pickK_t', pickK_f', pickT_t', pickT_f', notK, extract2_0', extract2_1', extract3_0', extract3_1', extract3_2', here_load, here_fieldAt, here_indexAt, here_extract, here_un, here_conv, here_slice, here_bin, here_nil, and_here, true_and, Nat.zero_add, Nat.add_assoc, Nat.add_zero, Int.toNat_natCast, size_alloc, World.cell?_drew, World.frozen?_drew, Bool.not_true, Bool.not_false, Int.toNat_zero, dec_t, dec_f, int_eq_t, int_eq_f, int_ne_t, int_ne_f, wrap_in, kblss3, kld9, kbadd3, kbs41_1_0, kfa78_0, kld76, kia76, klen76, hlen76, kal84, kfa84_0, kld84, kst84f]
    refine ⟨⟨i + 1, G2, by go_num, by omega, ?_, Qt.then hq2 hc2 hG, fun q hqq => ?_⟩, by simp [rel, intOf]; omega⟩
    · rw [List.take_succ_eq_append_getElem hlt, List.map_append, List.map_append]; exact ho2
    · rcases hf2 q hqq with h | h
      · exact hG q h
      · have := hq2.size; omega
  · obtain rfl : i = l.length := by omega
    obtain ⟨A2, c2, rfl, _⟩ := hoo.shape
    simp (maxSteps := 1000000) (disch := omega) only [hid1', hid2', guardK_u, takeG_u, wrap_in64, optK_some', fzK_false', nilK_ptr, brK_true', brK_false', guardK_tt', guardK_ff', guardK_tf', guardK_ft', takeG_tt', takeG_ff', takeG_tf', takeG_ft', pickK_t', pickK_f', pickT_t', pickT_f', notK, extract2_0', extract2_1', extract3_0', extract3_1', extract3_2', here_load, here_fieldAt, here_indexAt, here_extract, here_un, here_conv, here_slice, here_bin, here_nil, and_here, true_and, Nat.zero_add, Nat.add_assoc, Nat.add_zero, Int.toNat_natCast, size_alloc, World.cell?_drew, World.frozen?_drew, Bool.not_true, Bool.not_false, Int.toNat_zero, dec_t, dec_f, int_eq_t, int_eq_f, int_ne_t, int_ne_f, wrap_in, kblss3, kld9, kbadd3, kbs41_1_0, kfa78_0, kld76, kia76, klen76, hlen76, kal84, kfa84_0, kld84, kst84f]
    rw [List.take_length] at hoo
    exact hK A2 c2 G w' hoo hq hG
def getM (l : List (κ × ν)) (k : κ) : ν := if fnd lt l k = true then ((l[pos lt l k]?).map Prod.snd).getD v0 else v0
theorem get_any {g : Nat} {l : List (κ × ν)} {F : Option Nat} {k : κ} {w : World} {K : Value → World → Prop} (h0 : MapAt w g l F)
    (hK : ∀ w', Qt w w' → K (.tuple #[ev (getM l k), .bool (fnd lt l k)]) w') : CallK Tryd.prog 31 #[.pointer (some ⟨g, 0, none⟩), Value.string k] K w := by
  refine F31_calls _ _ _ _ ?_; unfold F31
  simp (maxSteps := 1000000) (disch := omega) only [hid1', hid2', guardK_u, takeG_u, wrap_in64, optK_some', fzK_false', nilK_ptr, brK_true', brK_false', guardK_tt', guardK_ff', guardK_tf', guardK_ft', takeG_tt', takeG_ff', takeG_tf', takeG_ft', pickK_t', pickK_f', pickT_t', pickT_f', notK, extract2_0', extract2_1', extract3_0', extract3_1', extract3_2', here_load, here_fieldAt, here_indexAt, here_extract, here_un, here_conv, here_slice, here_bin, here_nil, and_here, true_and, Nat.zero_add, Nat.add_assoc, Nat.add_zero, Int.toNat_natCast, size_alloc, World.cell?_drew, World.frozen?_drew, Bool.not_true, Bool.not_false, Int.toNat_zero, dec_t, dec_f, int_eq_t, int_eq_f, int_ne_t, int_ne_f, wrap_in, kld28, kal28, kst28f, kfa78_0, kld76, kia76, kfa84_1]
  have qx : Qt w (w.alloc (.cells #[.string ByteArray.empty, .int .i64 0, .int .i64 0] 28)) := Chg.alloc Qt.refl _
  have hx : (w.alloc (.cells #[.string ByteArray.empty, .int .i64 0, .int .i64 0] 28)).heap[w.heap.size]? = some (.cells #[.string ByteArray.empty, .int .i64 0, .int .i64 0] 28 (0, 0)) := blk_new _ _
  have h := h0.quiet qx
  generalize (w.alloc (.cells #[.string ByteArray.empty, .int .i64 0, .int .i64 0] 28)) = w0 at *
  generalize hbx : w.heap.size = bx at *
  refine ck48 (find_any h ?_)
  intro w1 q1
  have h1 := h.quiet q1
  have qw1 := qx.trans q1
  have hx1 := q1.heap hx (fun h => h)
  obtain ⟨A, c, c0, _, ho, hr, hs, hl⟩ := h1.opened
  have fin : ∀ (e : ν) (b : Bool) (w2 : World), Qt w w2 → w2.heap[bx]? = some (.cells #[.string ByteArray.empty, .int .i64 0, .int .i64 0] 28 (0, 0)) → (∀ w', Qt w w' → K (.tuple #[ev e, .bool b]) w') → StoreK Tryd.prog 28 (.pointer (some ⟨bx, 0, none⟩)) (.agg #[.string e.1, .int .i64 e.2.1, .int .i64 e.2.2]) (@Cn.hid _ ⟨fun _ w16 => LoadK Tryd.prog 28 (.pointer (some ⟨bx, 0, none⟩)) (@Cn.hid _ ⟨fun c17 w18 => w18 = w16 ∧ K (.tuple #[c17, .bool b]) w16⟩) w16⟩) w2 := by
    intro e b w2 q2 hx2 hk
    refine aggStoreK (fun j hj => ?_) (by kernel_rfl) (all3 rfl rfl rfl) ?_
    · have hj : j < 3 := hj
      rw [Nat.zero_add, blk_cell hx2, blk_frozen hx2 j]
      exact ⟨by rw [Array.getElem?_eq_getElem hj]; rfl, rfl⟩
    have hst := blk_setCells [.string e.1, .int .i64 e.2.1, .int .i64 e.2.2] 0 w2 _ hx2 (Nat.le_refl 3)
    have hch : Chg (fun q => q = bx) w2 (w2.setCells bx 0 [.string e.1, .int .i64 e.2.1, .int .i64 e.2.2]) := Chg.sets
    have y0 : (w2.setCells bx 0 [.string e.1, .int .i64 e.2.1, .int .i64 e.2.2]).cell? ⟨bx, 0, none⟩ = some (.string e.1) := by rw [blk_cell hst]; rfl
    have y1 : (w2.setCells bx 0 [.string e.1, .int .i64 e.2.1, .int .i64 e.2.2]).cell? ⟨bx, 1, none⟩ = some (.int .i64 e.2.1) := by rw [blk_cell hst]; rfl
    have y2 : (w2.setCells bx 0 [.string e.1, .int .i64 e.2.1, .int .i64 e.2.2]).cell? ⟨bx, 2, none⟩ = some (.int .i64 e.2.2) := by rw [blk_cell hst]; rfl
    simp (maxSteps := 1000000) (disch := omega) only [hid1', hid2', guardK_u, takeG_u, wrap_in64, optK_some', fzK_false', nilK_ptr, brK_true', brK_false', guardK_tt', guardK_ff', guardK_tf', guardK_ft', takeG_tt', takeG_ff', takeG_tf', takeG_ft', pickK_t', pickK_f', pickT_t', pickT_f', notK, extract2_0', extract2_1', extract3_0', extract3_1', extract3_2', here_load, here_fieldAt, here_indexAt, here_extract, here_un, here_conv, here_slice, here_bin, here_nil, and_here, true_and, Nat.zero_add, Nat.add_assoc, Nat.add_zero, Int.toNat_natCast, size_alloc, World.cell?_drew, World.frozen?_drew, Bool.not_true, Bool.not_false, Int.toNat_zero, dec_t, dec_f, int_eq_t, int_eq_f, int_ne_t, int_ne_f, wrap_in, kld28, kal28, kst28f, kfa78_0, kld76, kia76, kfa84_1, y0, y1, y2]
    exact hk _ (q2.then hch (fun q hq => by omega))
  by_cases hf : fnd lt l k = true
  · have hp := fnd_lt hf
    obtain ⟨gb, of, rfl, k0, k1, k2, k3⟩ := cells_at hr hp
    have hg : getM l k = l[pos lt l k].2 := by unfold getM; rw [if_pos hf, List.getElem?_eq_getElem hp]; rfl
    rw [hg] at hK
    rw [hf] at hK
    simp (maxSteps := 1000000) (disch := omega) only [hid1', hid2', guardK_u, takeG_u, wrap_in64, optK_some', fzK_false', nilK_ptr, brK_true', brK_false', guardK_tt', guardK_ff', guardK_tf', guardK_ft', takeG_tt', takeG_ff', takeG_tf', takeG_ft', pickK_t', pickK_f', pickT_t', pickT_f', notK, extract2_0', extract2_1', extract3_0', extract3_1', extract3_2', here_load, here_fieldAt, here_indexAt, here_extract, here_un, here_conv, here_slice, here_bin, here_nil, and_here, true_and, Nat.zero_add, Nat.add_assoc, Nat.add_zero, Int.toNat_natCast, size_alloc, World.cell?_drew, World.frozen?_drew, Bool.not_true, Bool.not_false, Int.toNat_zero, dec_t, dec_f, int_eq_t, int_eq_f, int_ne_t, int_ne_f, wrap_in, kld28, kal28, kst28f, kfa78_0, kld76, kia76, kfa84_1, hf, c0, k0, k1, k2, k3]
    exact fin l[pos lt l k].2 true w1 qw1 hx1 hK
  · have hfb : fnd lt l k = false := (Bool.not_eq_true _).mp hf
    have hg : getM l k = v0 := by unfold getM; rw [if_neg hf]
    rw [hg] at hK
    rw [hfb] at hK
    have qe : Qt w1 (w1.alloc (.cells #[.string ByteArray.empty, .int .i64 0, .int .i64 0] 28)) := Chg.alloc Qt.refl _
    have he : (w1.alloc (.cells #[.string ByteArray.empty, .int .i64 0, .int .i64 0] 28)).heap[w1.heap.size]? = some (.cells #[.string ByteArray.empty, .int .i64 0, .int .i64 0] 28 (0, 0)) := blk_new _ _
    simp (maxSteps := 1000000) (disch := omega) only [hid1', hid2', guardK_u, takeG_u, wrap_in64, optK_some', fzK_false', nilK_ptr, brK_true', brK_false', guardK_tt', guardK_ff', guardK_tf', guardK_ft', takeG_tt', takeG_ff', takeG_tf', takeG_ft', pickK_t', pickK_f', pickT_t', pickT_f', notK, extract2_0', extract2_1', extract3_0', extract3_1', extract3_2', here_load, here_fieldAt, here_indexAt, here_extract, here_un, here_conv, here_slice, here_bin, here_nil, and_here, true_and, Nat.zero_add, Nat.add_assoc, Nat.add_zero, Int.toNat_natCast, size_alloc, World.cell?_drew, World.frozen?_drew, Bool.not_true, Bool.not_false, Int.toNat_zero, dec_t, dec_f, int_eq_t, int_eq_f, int_ne_t, int_ne_f, wrap_in, kld28, kal28, kst28f, kfa78_0, kld76, kia76, kfa84_1, hfb]
    have hxe := qe.heap hx1 (fun h => h)
    have qwe := qw1.trans qe
    generalize (w1.alloc (.cells #[.string ByteArray.empty, .int .i64 0, .int .i64 0] 28)) = w2 at *
    generalize w1.heap.size = b2 at *
    have y0 : w2.cell? ⟨b2, 0, none⟩ = some (.string ByteArray.empty) := by rw [blk_cell he]; rfl
    have y1 : w2.cell? ⟨b2, 1, none⟩ = some (.int .i64 0) := by rw [blk_cell he]; rfl
    have y2 : w2.cell? ⟨b2, 2, none⟩ = some (.int .i64 0) := by rw [blk_cell he]; rfl
    simp (maxSteps := 1000000) (disch := omega) only [hid1', hid2', guardK_u, takeG_u, wrap_in64, optK_some', fzK_false', nilK_ptr, brK_true', brK_false', guardK_tt', guardK_ff', guardK_tf', guardK_ft', takeG_tt', takeG_ff', takeG_tf', takeG_ft', pickK_t', pickK_f', pickT_t', pickT_f', notK, extract2_0', extract2_1', extract3_0', extract3_1', extract3_2', here_load, here_fieldAt, here_indexAt, here_extract, here_un, here_conv, here_slice, here_bin, here_nil, and_here, true_and, Nat.zero_add, Nat.add_assoc, Nat.add_zero, Int.toNat_natCast, size_alloc, World.cell?_drew, World.frozen?_drew, Bool.not_true, Bool.not_false, Int.toNat_zero, dec_t, dec_f, int_eq_t, int_eq_f, int_ne_t, int_ne_f, wrap_in, kld28, kal28, kst28f, kfa78_0, kld76, kia76, kfa84_1, y0, y1, y2]
    exact fin v0 false w2 qwe hxe hK
set_option maxHeartbeats 1000000 in
theorem del_any {n i : Nat} {gb c : Nat} {xs : List Value} {w : World} {K : Value → World → Prop} (hrow : RowAt w 84 4 gb n c xs) (h1 : ∀ u ∈ xs, u.oneCell' = true) (hi : i < n) (hn : n ≤ 100000)
    (hK : ∀ w', RowAt w' 84 4 gb (n - 1) c (xs.take (i * 4) ++ xs.drop ((i + 1) * 4)) → Chg (fun q => q = gb) w w' → K (.slice (some ⟨gb, 0, none⟩) (n - 1) c) w') :
    CallK Tryd.prog 50 #[.slice (some ⟨gb, 0, none⟩) n c, .int .i64 i, .int .i64 ((i : Int) + 1)] K w := by
  refine F50_calls _ _ _ _ _ ?_; unfold F50
  have hcap := hrow.cap_le
  have hxl := hrow.1
  have hbe : ((i : Int) == (i : Int) + 1) = false := beq_eq_false_iff_ne.2 (by omega)
  have hi1 : ((i : Int) + 1).toNat = i + 1 := by omega
  simp (maxSteps := 1000000) (disch := omega) only [hid1', hid2', guardK_u, takeG_u, wrap_in64, optK_some', fzK_false', nilK_ptr, brK_true', brK_false', guardK_tt', guardK_ff', guardK_tf', guardK_ft', takeG_tt', takeG_ff', takeG_tf', takeG_ft', pickK_t', pickK_f', pickT_t', pickT_f', notK, extract2_0', extract2_1', extract3_0', extract3_1', extract3_2', here_load, here_fieldAt, here_indexAt, here_extract, here_un, here_conv, here_slice, here_bin, here_nil, and_here, true_and, Nat.zero_add, Nat.add_assoc, Nat.add_zero, Int.toNat_natCast, size_alloc, World.cell?_drew, World.frozen?_drew, Bool.not_true, Bool.not_false, Int.toNat_zero, dec_t, dec_f, int_eq_t, int_eq_f, int_ne_t, int_ne_f, wrap_in, kbeql3, klen76, hlen76, ksl76_100z, ksl76_100, ksl76_010z, ksl76_010, ksl76_111, ksl76_110, hbe, hi1]
  refine drawK_by (fun _ => True) trivial ?_
  refine take_slice (.slice (some ⟨gb, 0, none⟩) i c) (fun w' _ => by (simp (maxSteps := 1000000) (disch := omega) only [hid1', hid2', guardK_u, takeG_u, wrap_in64, optK_some', fzK_false', nilK_ptr, brK_true', brK_false', guardK_tt', guardK_ff', guardK_tf', guardK_ft', takeG_tt', takeG_ff', takeG_tf', takeG_ft', pickK_t', pickK_f', pickT_t', pickT_f', notK, extract2_0', extract2_1', extract3_0', extract3_1', extract3_2', here_load, here_fieldAt, here_indexAt, here_extract, here_un, here_conv, here_slice, here_bin, here_nil, and_here, true_and, Nat.zero_add, Nat.add_assoc, Nat.add_zero, Int.toNat_natCast, size_alloc, World.cell?_drew, World.frozen?_drew, Bool.not_true, Bool.not_false, Int.toNat_zero, dec_t, dec_f, int_eq_t, int_eq_f, int_ne_t, int_ne_f, wrap_in, kbeql3, klen76, hlen76, ksl76_100z, ksl76_100, ksl76_010z, ksl76_010, ksl76_111, ksl76_110]; try (exact ⟨trivial, trivial⟩))) ?_
  try simp (maxSteps := 1000000) (disch := omega) only [hid1', hid2', guardK_u, takeG_u, wrap_in64, optK_some', fzK_false', nilK_ptr, brK_true', brK_false', guardK_tt', guardK_ff', guardK_tf', guardK_ft', takeG_tt', takeG_ff', takeG_tf', takeG_ft', pickK_t', pickK_f', pickT_t', pickT_f', notK, extract2_0', extract2_1', extract3_0', extract3_1', extract3_2', here_load, here_fieldAt, here_indexAt, here_extract, here_un, here_conv, here_slice, here_bin, here_nil, and_here, true_and, Nat.zero_add, Nat.add_assoc, Nat.add_zero, Int.toNat_natCast, size_alloc, World.cell?_drew, World.frozen?_drew, Bool.not_true, Bool.not_false, Int.toNat_zero, dec_t, dec_f, int_eq_t, int_eq_f, int_ne_t, int_ne_f, wrap_in, kbeql3, klen76, hlen76, ksl76_100z, ksl76_100, ksl76_010z, ksl76_010, ksl76_111, ksl76_110]
  refine take_slice (.slice (if c = i + 1 then some ⟨gb, 0, none⟩ else some ⟨gb, (i + 1) * 4, none⟩) (n - (i + 1)) (c - (i + 1))) (fun w' _ => by (simp (maxSteps := 1000000) (disch := omega) only [hid1', hid2', guardK_u, takeG_u, wrap_in64, optK_some', fzK_false', nilK_ptr, brK_true', brK_false', guardK_tt', guardK_ff', guardK_tf', guardK_ft', takeG_tt', takeG_ff', takeG_tf', takeG_ft', pickK_t', pickK_f', pickT_t', pickT_f', notK, extract2_0', extract2_1', extract3_0', extract3_1', extract3_2', here_load, here_fieldAt, here_indexAt, here_extract, here_un, here_conv, here_slice, here_bin, here_nil, and_here, true_and, Nat.zero_add, Nat.add_assoc, Nat.add_zero, Int.toNat_natCast, size_alloc, World.cell?_drew, World.frozen?_drew, Bool.not_true, Bool.not_false, Int.toNat_zero, dec_t, dec_f, int_eq_t, int_eq_f, int_ne_t, int_ne_f, wrap_in, kbeql3, klen76, hlen76, ksl76_100z, ksl76_100, ksl76_010z, ksl76_010, ksl76_111, ksl76_110, hi1]; try (exact ⟨trivial, trivial⟩))) ?_
  refine ⟨?_, trivial⟩
  have kd : Chg (fun _ => False) w w.drew := Qt.drew Qt.refl
  have hrow2 := hrow.chg kd (fun h => h)
  have hdl : (xs.drop ((i + 1) * 4)).length = (n - (i + 1)) * 4 := by rw [List.length_drop]; omega
  have hd1 : ∀ u ∈ xs.drop ((i + 1) * 4), u.oneCell' = true := fun u hu => h1 u (List.mem_of_mem_drop hu)
  generalize w.drew = w2 at *
  have hsrc : Cn.Src w2 (if c = i + 1 then some ⟨gb, 0, none⟩ else some ⟨gb, (i + 1) * 4, none⟩) (xs.drop ((i + 1) * 4)) := by
    by_cases hc : c = i + 1
    · rw [List.drop_eq_nil_of_le (by omega)]; exact Src.nil _ _
    · rw [if_neg hc]; exact src_row hrow2 (i + 1)
  have hA : (if c = i + 1 then some (⟨gb, 0, none⟩ : Addr) else some ⟨gb, (i + 1) * 4, none⟩) = some (if c = i + 1 then (⟨gb, 0, none⟩ : Addr) else ⟨gb, (i + 1) * 4, none⟩) := by split <;> rfl
  rw [hA] at hsrc ⊢
  obtain ⟨w3, p3, r3, k3⟩ := app_room (P := Tryd.prog) ty (n := i) hrow2 rfl (by omega) _ (n - (i + 1)) (c - (i + 1)) (xs.drop ((i + 1) * 4)) hdl hsrc hd1 (by omega) 76
  refine appK p3 ?_
  have hn1 : i + (n - (i + 1)) = n - 1 := by omega
  rw [hn1] at r3 ⊢
  refine ⟨trivial, ?_⟩
  have hcn : ¬ c = n - 1 := by omega
  have hnn : n - (n - 1) = 1 := by omega
  simp (maxSteps := 1000000) (disch := omega) only [hid1', hid2', guardK_u, takeG_u, wrap_in64, optK_some', fzK_false', nilK_ptr, brK_true', brK_false', guardK_tt', guardK_ff', guardK_tf', guardK_ft', takeG_tt', takeG_ff', takeG_tf', takeG_ft', pickK_t', pickK_f', pickT_t', pickT_f', notK, extract2_0', extract2_1', extract3_0', extract3_1', extract3_2', here_load, here_fieldAt, here_indexAt, here_extract, here_un, here_conv, here_slice, here_bin, here_nil, and_here, true_and, Nat.zero_add, Nat.add_assoc, Nat.add_zero, Int.toNat_natCast, size_alloc, World.cell?_drew, World.frozen?_drew, Bool.not_true, Bool.not_false, Int.toNat_zero, dec_t, dec_f, int_eq_t, int_eq_f, int_ne_t, int_ne_f, wrap_in, kbeql3, klen76, hlen76, ksl76_100z, ksl76_100, ksl76_010z, ksl76_010, ksl76_111, ksl76_110, eq_false hcn, if_false, hnn]
  obtain ⟨w4, p4, r4, k4⟩ := clear_run (P := Tryd.prog) ty (by intro u hu; simp [Value.cells] at hu; rcases hu with rfl | rfl | rfl | rfl <;> rfl) r3 1 (c - (n - 1)) (by omega) (by omega) ((n - 1) * 4) rfl 0
  refine clearK p4 ?_
  simp (maxSteps := 1000000) (disch := omega) only [hid1', hid2', guardK_u, takeG_u, wrap_in64, optK_some', fzK_false', nilK_ptr, brK_true', brK_false', guardK_tt', guardK_ff', guardK_tf', guardK_ft', takeG_tt', takeG_ff', takeG_tf', takeG_ft', pickK_t', pickK_f', pickT_t', pickT_f', notK, extract2_0', extract2_1', extract3_0', extract3_1', extract3_2', here_load, here_fieldAt, here_indexAt, here_extract, here_un, here_conv, here_slice, here_bin, here_nil, and_here, true_and, Nat.zero_add, Nat.add_assoc, Nat.add_zero, Int.toNat_natCast, size_alloc, World.cell?_drew, World.frozen?_drew, Bool.not_true, Bool.not_false, Int.toNat_zero, dec_t, dec_f, int_eq_t, int_eq_f, int_ne_t, int_ne_f, wrap_in, kbeql3, klen76, hlen76, ksl76_100z, ksl76_100, ksl76_010z, ksl76_010, ksl76_111, ksl76_110]
  exact hK w4 r4 ((kd.mono (fun _ _ h => h.elim)).trans (k3.trans k4))
theorem drop_len (l : List (κ × ν)) (k : κ) : (dropM lt l k).length = if fnd lt l k = true then l.length - 1 else l.length := by
  unfold dropM
  split
  · rename_i h
    have := fnd_lt h
    simp; omega
  · rfl
theorem drop_any {g : Nat} {l : List (κ × ν)} {F : Option Nat} {k : κ} {w : World} {K : Value → World → Prop} (h : MapAt w g l F)
    (hK : ∀ w', MapAt w' g (dropM lt l k) F → Chg (fun q => q = g ∨ F = some q) w w' → K (.bool (fnd lt l k)) w') : CallK Tryd.prog 34 #[.pointer (some ⟨g, 0, none⟩), Value.string k] K w := by
  refine F34_calls _ _ _ _ ?_; unfold F34
  refine ck48 (find_any h ?_)
  intro w1 q1
  have h1 := h.quiet q1
  obtain ⟨u, hb, ho, hFg, hs, hl⟩ := id h1
  obtain ⟨A, c, rfl, _⟩ := ho.shape
  have c0 : w1.cell? ⟨g, 0, none⟩ = some (.slice A l.length c) := by rw [blk_cell hb]; rfl
  have hrise := hs.drop k
  have hdl := drop_len l k
  have hdrop : dropM lt l k = if fnd lt l k = true then l.take (pos lt l k) ++ l.drop (pos lt l k + 1) else l := rfl
  by_cases hf : fnd lt l k = true
  · have hp := fnd_lt hf
    rw [if_pos hf] at hdl hdrop
    rcases ho with ⟨_, h0, _⟩ | ⟨gb, cc, hA, rfl, hrow⟩
    · omega
    injection hA with a1 a2 a3
    subst a1 a3
    have hgb : gb ≠ g := fun e => hFg (by rw [e])
    rw [hf] at hK
    simp (maxSteps := 1000000) (disch := omega) only [hid1', hid2', guardK_u, takeG_u, wrap_in64, optK_some', fzK_false', nilK_ptr, brK_true', brK_false', guardK_tt', guardK_ff', guardK_tf', guardK_ft', takeG_tt', takeG_ff', takeG_tf', takeG_ft', pickK_t', pickK_f', pickT_t', pickT_f', notK, extract2_0', extract2_1', extract3_0', extract3_1', extract3_2', here_load, here_fieldAt, here_indexAt, here_extract, here_un, here_conv, here_slice, here_bin, here_nil, and_here, true_and, Nat.zero_add, Nat.add_assoc, Nat.add_zero, Int.toNat_natCast, size_alloc, World.cell?_drew, World.frozen?_drew, Bool.not_true, Bool.not_false, Int.toNat_zero, dec_t, dec_f, int_eq_t, int_eq_f, int_ne_t, int_ne_f, wrap_in, kbadd3, kfa78_0, kld76, kst76, hf, c0]
    refine ck50 (del_any hrow (one2 l) hp hl ?_)
    intro w2 r2 k2
    have hb2 := k2.heap hb (fun e => hgb e.symm)
    have c2 : w2.cell? ⟨g, 0, none⟩ = some (.slice (some ⟨gb, 0, none⟩) l.length c) := by rw [blk_cell hb2]; rfl
    have z2 : w2.frozen? ⟨g, 0, none⟩ = false := blk_frozen hb2 0
    simp (maxSteps := 1000000) (disch := omega) only [hid1', hid2', guardK_u, takeG_u, wrap_in64, optK_some', fzK_false', nilK_ptr, brK_true', brK_false', guardK_tt', guardK_ff', guardK_tf', guardK_ft', takeG_tt', takeG_ff', takeG_tf', takeG_ft', pickK_t', pickK_f', pickT_t', pickT_f', notK, extract2_0', extract2_1', extract3_0', extract3_1', extract3_2', here_load, here_fieldAt, here_indexAt, here_extract, here_un, here_conv, here_slice, here_bin, here_nil, and_here, true_and, Nat.zero_add, Nat.add_assoc, Nat.add_zero, Int.toNat_natCast, size_alloc, World.cell?_drew, World.frozen?_drew, Bool.not_true, Bool.not_false, Int.toNat_zero, dec_t, dec_f, int_eq_t, int_eq_f, int_ne_t, int_ne_f, wrap_in, kbadd3, kfa78_0, kld76, kst76, c2, z2]
    have hch : Chg (fun q => q = g) w2 (w2.setCell ⟨g, 0, none⟩ (.slice (some ⟨gb, 0, none⟩) (l.length - 1) c)) := (Chg.refl (fun q => q = g) w2).setCell (p := ⟨g, _, none⟩) (.inl rfl) _
    have hxs : (dropM lt l k).flatMap cell2 = (l.flatMap cell2).take (pos lt l k * 4) ++ (l.flatMap cell2).drop ((pos lt l k + 1) * 4) := by
      rw [hdrop, List.flatMap_append, flat_take, flat_drop]
    refine hK _ ⟨.slice (some ⟨gb, 0, none⟩) (l.length - 1) c, by rw [blk_set hb2]; rfl, ?_, hFg, hrise, by omega⟩ ?_
    · rw [hdl, hxs]
      exact (r2.chg hch (fun e => hgb e)).own2
    · exact ((q1.mono (fun _ _ h => h.elim)).trans (k2.mono (fun q _ hq => .inr (by rw [hq])))).trans (hch.mono (fun q _ hq => .inl hq))
  · have hfb : fnd lt l k = false := (Bool.not_eq_true _).mp hf
    rw [if_neg hf] at hdrop
    rw [hfb] at hK
    simp (maxSteps := 1000000) (disch := omega) only [hid1', hid2', guardK_u, takeG_u, wrap_in64, optK_some', fzK_false', nilK_ptr, brK_true', brK_false', guardK_tt', guardK_ff', guardK_tf', guardK_ft', takeG_tt', takeG_ff', takeG_tf', takeG_ft', pickK_t', pickK_f', pickT_t', pickT_f', notK, extract2_0', extract2_1', extract3_0', extract3_1', extract3_2', here_load, here_fieldAt, here_indexAt, here_extract, here_un, here_conv, here_slice, here_bin, here_nil, and_here, true_and, Nat.zero_add, Nat.add_assoc, Nat.add_zero, Int.toNat_natCast, size_alloc, World.cell?_drew, World.frozen?_drew, Bool.not_true, Bool.not_false, Int.toNat_zero, dec_t, dec_f, int_eq_t, int_eq_f, int_ne_t, int_ne_f, wrap_in, kbadd3, kfa78_0, kld76, kst76, hfb, c0]
    refine hK w1 (by rw [hdrop]; exact h1) (q1.mono (fun _ _ h => h.elim))
theorem twin_any {g : Nat} {l : List (κ × ν)} {F : Option Nat} {w : World} {K : Value → World → Prop} (h : MapAt w g l F)
    (hK : ∀ g' F' w', MapAt w' g' l F' → Qt w w' → w.heap.size ≤ g' → (∀ q, F' = some q → w.heap.size ≤ q) → K (.pointer (some ⟨g', 0, none⟩)) w') : CallK Tryd.prog 36 #[.pointer (some ⟨g, 0, none⟩)] K w := by
  refine F36_calls _ _ _ ?_; unfold F36
  obtain ⟨A, c, c0, _, ho, hr, hs, hl⟩ := h.opened
  simp (maxSteps := 1000000) (disch := omega) only [hid1', hid2', guardK_u, takeG_u, wrap_in64, optK_some', fzK_false', nilK_ptr, brK_true', brK_false', guardK_tt', guardK_ff', guardK_tf', guardK_ft', takeG_tt', takeG_ff', takeG_tf', takeG_ft', pickK_t', pickK_f', pickT_t', pickT_f', notK, extract2_0', extract2_1', extract3_0', extract3_1', extract3_2', here_load, here_fieldAt, here_indexAt, here_extract, here_un, here_conv, here_slice, here_bin, here_nil, and_here, true_and, Nat.zero_add, Nat.add_assoc, Nat.add_zero, Int.toNat_natCast, size_alloc, World.cell?_drew, World.frozen?_drew, Bool.not_true, Bool.not_false, Int.toNat_zero, dec_t, dec_f, int_eq_t, int_eq_f, int_ne_t, int_ne_f, wrap_in, kbx78, kfa78_0, kld76, kbd78_0, kbeql76n, kbeql76z, kbs76_0, c0]
  have key : ∀ (A' : Option Addr) (c' : Nat) (F' : Option Nat) (w' : World), Own w' 84 4 (.slice A' l.length c') l.length (l.flatMap cell2) F' → Qt w w' → (∀ q, F' = some q → w.heap.size ≤ q) → K (.pointer (some ⟨w'.heap.size, 0, none⟩)) (w'.alloc (.cells #[.slice A' l.length c'] 78)) := by
    intro A' c' F' w' o' q' f'
    have ha : Qt w' (w'.alloc (.cells #[.slice A' l.length c'] 78)) := Chg.alloc Qt.refl _
    refine hK _ F' _ ⟨_, blk_new _ _, o'.chg ha (fun _ _ h => h), fun e => ?_, hs, hl⟩ (q'.trans ha) q'.size f'
    have := o'.lt e
    omega
  refine ck51 ?_
  refine F51_calls _ _ _ ?_; unfold F51
  rcases id ho with ⟨hv, h0, hx, rfl⟩ | ⟨gb, cc, hA, rfl, hrow⟩
  · injection hv with a1 a2 a3
    subst a1 a3
    simp (maxSteps := 1000000) (disch := omega) only [hid1', hid2', guardK_u, takeG_u, wrap_in64, optK_some', fzK_false', nilK_ptr, brK_true', brK_false', guardK_tt', guardK_ff', guardK_tf', guardK_ft', takeG_tt', takeG_ff', takeG_tf', takeG_ft', pickK_t', pickK_f', pickT_t', pickT_f', notK, extract2_0', extract2_1', extract3_0', extract3_1', extract3_2', here_load, here_fieldAt, here_indexAt, here_extract, here_un, here_conv, here_slice, here_bin, here_nil, and_here, true_and, Nat.zero_add, Nat.add_assoc, Nat.add_zero, Int.toNat_natCast, size_alloc, World.cell?_drew, World.frozen?_drew, Bool.not_true, Bool.not_false, Int.toNat_zero, dec_t, dec_f, int_eq_t, int_eq_f, int_ne_t, int_ne_f, wrap_in, kbx78, kfa78_0, kld76, kbd78_0, kbeql76n, kbeql76z, kbs76_0]
    have := key none 0 none w (by rw [h0] at ho ⊢; exact ho) Qt.refl (fun q hq => by cases hq)
    rw [h0] at this
    exact this
  · injection hA with a1 a2 a3
    subst a1 a3
    simp (maxSteps := 1000000) (disch := omega) only [hid1', hid2', guardK_u, takeG_u, wrap_in64, optK_some', fzK_false', nilK_ptr, brK_true', brK_false', guardK_tt', guardK_ff', guardK_tf', guardK_ft', takeG_tt', takeG_ff', takeG_tf', takeG_ft', pickK_t', pickK_f', pickT_t', pickT_f', notK, extract2_0', extract2_1', extract3_0', extract3_1', extract3_2', here_load, here_fieldAt, here_indexAt, here_extract, here_un, here_conv, here_slice, here_bin, here_nil, and_here, true_and, Nat.zero_add, Nat.add_assoc, Nat.add_zero, Int.toNat_natCast, size_alloc, World.cell?_drew, World.frozen?_drew, Bool.not_true, Bool.not_false, Int.toNat_zero, dec_t, dec_f, int_eq_t, int_eq_f, int_ne_t, int_ne_f, wrap_in, kbx78, kfa78_0, kld76, kbd78_0, kbeql76n, kbeql76z, kbs76_0]
    obtain ⟨A2, c2, F2, w2, p2, o2, k2, f2⟩ := apart_run (P := Tryd.prog) ty (some ⟨gb, 0, none⟩) l.length c (l.flatMap cell2) (flat_len cell2_len l) hr.src (one2 l) (by omega) (by omega) 76
    refine appK p2 ?_
    simp (maxSteps := 1000000) (disch := omega) only [hid1', hid2', guardK_u, takeG_u, wrap_in64, optK_some', fzK_false', nilK_ptr, brK_true', brK_false', guardK_tt', guardK_ff', guardK_tf', guardK_ft', takeG_tt', takeG_ff', takeG_tf', takeG_ft', pickK_t', pickK_f', pickT_t', pickT_f', notK, extract2_0', extract2_1', extract3_0', extract3_1', extract3_2', here_load, here_fieldAt, here_indexAt, here_extract, here_un, here_conv, here_slice, here_bin, here_nil, and_here, true_and, Nat.zero_add, Nat.add_assoc, Nat.add_zero, Int.toNat_natCast, size_alloc, World.cell?_drew, World.frozen?_drew, Bool.not_true, Bool.not_false, Int.toNat_zero, dec_t, dec_f, int_eq_t, int_eq_f, int_ne_t, int_ne_f, wrap_in, kbx78, kfa78_0, kld76, kbd78_0, kbeql76n, kbeql76z, kbs76_0]
    exact key A2 c2 F2 w2 o2 k2 f2
theorem len_any {g : Nat} {l : List (κ × ν)} {F : Option Nat} {w : World} {K : Value → World → Prop} (h : MapAt w g l F) (hK : K (.int .i64 l.length) w) : CallK Tryd.prog 32 #[.pointer (some ⟨g, 0, none⟩)] K w := by
  refine F32_calls _ _ _ ?_; unfold F32
  obtain ⟨A, c, c0, _, ho, hr, hs, hl⟩ := h.opened
  simp (maxSteps := 1000000) (disch := omega) only [hid1', hid2', guardK_u, takeG_u, wrap_in64, optK_some', fzK_false', nilK_ptr, brK_true', brK_false', guardK_tt', guardK_ff', guardK_tf', guardK_ft', takeG_tt', takeG_ff', takeG_tf', takeG_ft', pickK_t', pickK_f', pickT_t', pickT_f', notK, extract2_0', extract2_1', extract3_0', extract3_1', extract3_2', here_load, here_fieldAt, here_indexAt, here_extract, here_un, here_conv, here_slice, here_bin, here_nil, and_here, true_and, Nat.zero_add, Nat.add_assoc, Nat.add_zero, Int.toNat_natCast, size_alloc, World.cell?_drew, World.frozen?_drew, Bool.not_true, Bool.not_false, Int.toNat_zero, dec_t, dec_f, int_eq_t, int_eq_f, int_ne_t, int_ne_f, wrap_in, kfa78_0, kld76, klen76, hlen76, c0]
  exact hK
def atM (l : List (κ × ν)) (i : Int) : κ × ν × Bool := if h : 0 ≤ i ∧ i.toNat < l.length then (l[i.toNat].1, l[i.toNat].2, true) else (ByteArray.empty, v0, false)
theorem at_any {g : Nat} {l : List (κ × ν)} {F : Option Nat} {i : Nat} {w : World} {K : Value → World → Prop} (h0 : MapAt w g l F) (hi : i < l.length)
    (hK : ∀ w', Qt w w' → K (.tuple #[Value.string l[i].1, ev l[i].2, .bool true]) w') : CallK Tryd.prog 37 #[.pointer (some ⟨g, 0, none⟩), .int .i64 i] K w := by
  refine F37_calls _ _ _ _ ?_; unfold F37
  have qx : Qt w (w.alloc (.cells #[.string ByteArray.empty, .int .i64 0, .int .i64 0] 28)) := Chg.alloc Qt.refl _
  have hx : (w.alloc (.cells #[.string ByteArray.empty, .int .i64 0, .int .i64 0] 28)).heap[w.heap.size]? = some (.cells #[.string ByteArray.empty, .int .i64 0, .int .i64 0] 28 (0, 0)) := blk_new _ _
  have h := h0.quiet qx
  obtain ⟨A, c, c0, _, ho, hr, hs, hl⟩ := h.opened
  obtain ⟨gb, of, rfl, k0, k1, k2, k3⟩ := cells_at hr hi
  have hlow := h0.low
  simp (maxSteps := 1000000) (disch := omega) only [hid1', hid2', guardK_u, takeG_u, wrap_in64, optK_some', fzK_false', nilK_ptr, brK_true', brK_false', guardK_tt', guardK_ff', guardK_tf', guardK_ft', takeG_tt', takeG_ff', takeG_tf', takeG_ft', pickK_t', pickK_f', pickT_t', pickT_f', notK, extract2_0', extract2_1', extract3_0', extract3_1', extract3_2', here_load, here_fieldAt, here_indexAt, here_extract, here_un, here_conv, here_slice, here_bin, here_nil, and_here, true_and, Nat.zero_add, Nat.add_assoc, Nat.add_zero, Int.toNat_natCast, size_alloc, World.cell?_drew, World.frozen?_drew, Bool.not_true, Bool.not_false, Int.toNat_zero, dec_t, dec_f, int_eq_t, int_eq_f, int_ne_t, int_ne_f, wrap_in, kblss3, kld9, kld28, kal28, kst28f, kbgeq3, kfa78_0, kld76, kia76, kfa84_1, klen76, hlen76, kal84, kfa84_0, c0]
  generalize (w.alloc (.cells #[.string ByteArray.empty, .int .i64 0, .int .i64 0] 28)) = w0 at *
  generalize hbx : w.heap.size = bx at *
  have kd : Qt w0 w0.drew := Qt.drew Qt.refl
  refine drawK_by (fun w'' => w''.cell? ⟨g, 0, none⟩ = some (.slice (some ⟨gb, of, none⟩) l.length c) ∧ w''.cell? ⟨gb, of + i * 4, none⟩ = some (Value.string l[i].1) ∧ w''.cell? ⟨gb, of + (i * 4 + 1), none⟩ = some (.string l[i].2.1) ∧ w''.cell? ⟨gb, of + (i * 4 + 2), none⟩ = some (.int .i64 l[i].2.2.1) ∧ w''.cell? ⟨gb, of + (i * 4 + 3), none⟩ = some (.int .i64 l[i].2.2.2)) ⟨c0, k0, k1, k2, k3⟩ ?_
  refine take_nil ?_
  refine take_field (.pointer (some ⟨g, 0, none⟩)) (fun w'' _ => by (simp (maxSteps := 1000000) (disch := omega) only [hid1', hid2', guardK_u, takeG_u, wrap_in64, optK_some', fzK_false', nilK_ptr, brK_true', brK_false', guardK_tt', guardK_ff', guardK_tf', guardK_ft', takeG_tt', takeG_ff', takeG_tf', takeG_ft', pickK_t', pickK_f', pickT_t', pickT_f', notK, extract2_0', extract2_1', extract3_0', extract3_1', extract3_2', here_load, here_fieldAt, here_indexAt, here_extract, here_un, here_conv, here_slice, here_bin, here_nil, and_here, true_and, Nat.zero_add, Nat.add_assoc, Nat.add_zero, Int.toNat_natCast, size_alloc, World.cell?_drew, World.frozen?_drew, Bool.not_true, Bool.not_false, Int.toNat_zero, dec_t, dec_f, int_eq_t, int_eq_f, int_ne_t, int_ne_f, wrap_in, kblss3, kld9, kld28, kal28, kst28f, kbgeq3, kfa78_0, kld76, kia76, kfa84_1, klen76, hlen76, kal84, kfa84_0]; try (exact ⟨trivial, trivial⟩))) ?_
  refine take_load (.slice (some ⟨gb, of, none⟩) l.length c) (fun w'' hw => by have h := hw.1; (simp (maxSteps := 1000000) (disch := omega) only [hid1', hid2', guardK_u, takeG_u, wrap_in64, optK_some', fzK_false', nilK_ptr, brK_true', brK_false', guardK_tt', guardK_ff', guardK_tf', guardK_ft', takeG_tt', takeG_ff', takeG_tf', takeG_ft', pickK_t', pickK_f', pickT_t', pickT_f', notK, extract2_0', extract2_1', extract3_0', extract3_1', extract3_2', here_load, here_fieldAt, here_indexAt, here_extract, here_un, here_conv, here_slice, here_bin, here_nil, and_here, true_and, Nat.zero_add, Nat.add_assoc, Nat.add_zero, Int.toNat_natCast, size_alloc, World.cell?_drew, World.frozen?_drew, Bool.not_true, Bool.not_false, Int.toNat_zero, dec_t, dec_f, int_eq_t, int_eq_f, int_ne_t, int_ne_f, wrap_in, kblss3, kld9, kld28, kal28, kst28f, kbgeq3, kfa78_0, kld76, kia76, kfa84_1, klen76, hlen76, kal84, kfa84_0, h]; try (exact ⟨trivial, trivial⟩))) ?_
  refine take_index (.pointer (some ⟨gb, of + i * 4, none⟩)) (fun w'' _ => by (simp (maxSteps := 1000000) (disch := omega) only [hid1', hid2', guardK_u, takeG_u, wrap_in64, optK_some', fzK_false', nilK_ptr, brK_true', brK_false', guardK_tt', guardK_ff', guardK_tf', guardK_ft', takeG_tt', takeG_ff', takeG_tf', takeG_ft', pickK_t', pickK_f', pickT_t', pickT_f', notK, extract2_0', extract2_1', extract3_0', extract3_1', extract3_2', here_load, here_fieldAt, here_indexAt, here_extract, here_un, here_conv, here_slice, here_bin, here_nil, and_here, true_and, Nat.zero_add, Nat.add_assoc, Nat.add_zero, Int.toNat_natCast, size_alloc, World.cell?_drew, World.frozen?_drew, Bool.not_true, Bool.not_false, Int.toNat_zero, dec_t, dec_f, int_eq_t, int_eq_f, int_ne_t, int_ne_f, wrap_in, kblss3, kld9, kld28, kal28, kst28f, kbgeq3, kfa78_0, kld76, kia76, kfa84_1, klen76, hlen76, kal84, kfa84_0]; try (exact ⟨trivial, trivial⟩))) ?_
  refine take_field (.pointer (some ⟨gb, of + i * 4, none⟩)) (fun w'' _ => by (simp (maxSteps := 1000000) (disch := omega) only [hid1', hid2', guardK_u, takeG_u, wrap_in64, optK_some', fzK_false', nilK_ptr, brK_true', brK_false', guardK_tt', guardK_ff', guardK_tf', guardK_ft', takeG_tt', takeG_ff', takeG_tf', takeG_ft', pickK_t', pickK_f', pickT_t', pickT_f', notK, extract2_0', extract2_1', extract3_0', extract3_1', extract3_2', here_load, here_fieldAt, here_indexAt, here_extract, here_un, here_conv, here_slice, here_bin, here_nil, and_here, true_and, Nat.zero_add, Nat.add_assoc, Nat.add_zero, Int.toNat_natCast, size_alloc, World.cell?_drew, World.frozen?_drew, Bool.not_true, Bool.not_false, Int.toNat_zero, dec_t, dec_f, int_eq_t, int_eq_f, int_ne_t, int_ne_f, wrap_in, kblss3, kld9, kld28, kal28, kst28f, kbgeq3, kfa78_0, kld76, kia76, kfa84_1, klen76, hlen76, kal84, kfa84_0]; try (exact ⟨trivial, trivial⟩))) ?_
  refine take_load (Value.string l[i].1) (fun w'' hw => by have h := hw.2.1; (simp (maxSteps := 1000000) (disch := omega) only [hid1', hid2', guardK_u, takeG_u, wrap_in64, optK_some', fzK_false', nilK_ptr, brK_true', brK_false', guardK_tt', guardK_ff', guardK_tf', guardK_ft', takeG_tt', takeG_ff', takeG_tf', takeG_ft', pickK_t', pickK_f', pickT_t', pickT_f', notK, extract2_0', extract2_1', extract3_0', extract3_1', extract3_2', here_load, here_fieldAt, here_indexAt, here_extract, here_un, here_conv, here_slice, here_bin, here_nil, and_here, true_and, Nat.zero_add, Nat.add_assoc, Nat.add_zero, Int.toNat_natCast, size_alloc, World.cell?_drew, World.frozen?_drew, Bool.not_true, Bool.not_false, Int.toNat_zero, dec_t, dec_f, int_eq_t, int_eq_f, int_ne_t, int_ne_f, wrap_in, kblss3, kld9, kld28, kal28, kst28f, kbgeq3, kfa78_0, kld76, kia76, kfa84_1, klen76, hlen76, kal84, kfa84_0, h]; try (exact ⟨trivial, trivial⟩))) ?_
  refine take_nil ?_
  refine take_field (.pointer (some ⟨g, 0, none⟩)) (fun w'' _ => by (simp (maxSteps := 1000000) (disch := omega) only [hid1', hid2', guardK_u, takeG_u, wrap_in64, optK_some', fzK_false', nilK_ptr, brK_true', brK_false', guardK_tt', guardK_ff', guardK_tf', guardK_ft', takeG_tt', takeG_ff', takeG_tf', takeG_ft', pickK_t', pickK_f', pickT_t', pickT_f', notK, extract2_0', extract2_1', extract3_0', extract3_1', extract3_2', here_load, here_fieldAt, here_indexAt, here_extract, here_un, here_conv, here_slice, here_bin, here_nil, and_here, true_and, Nat.zero_add, Nat.add_assoc, Nat.add_zero, Int.toNat_natCast, size_alloc, World.cell?_drew, World.frozen?_drew, Bool.not_true, Bool.not_false, Int.toNat_zero, dec_t, dec_f, int_eq_t, int_eq_f, int_ne_t, int_ne_f, wrap_in, kblss3, kld9, kld28, kal28, kst28f, kbgeq3, kfa78_0, kld76, kia76, kfa84_1, klen76, hlen76, kal84, kfa84_0]; try (exact ⟨trivial, trivial⟩))) ?_
  refine take_load (.slice (some ⟨gb, of, none⟩) l.length c) (fun w'' hw => by have h := hw.1; (simp (maxSteps := 1000000) (disch := omega) only [hid1', hid2', guardK_u, takeG_u, wrap_in64, optK_some', fzK_false', nilK_ptr, brK_true', brK_false', guardK_tt', guardK_ff', guardK_tf', guardK_ft', takeG_tt', takeG_ff', takeG_tf', takeG_ft', pickK_t', pickK_f', pickT_t', pickT_f', notK, extract2_0', extract2_1', extract3_0', extract3_1', extract3_2', here_load, here_fieldAt, here_indexAt, here_extract, here_un, here_conv, here_slice, here_bin, here_nil, and_here, true_and, Nat.zero_add, Nat.add_assoc, Nat.add_zero, Int.toNat_natCast, size_alloc, World.cell?_drew, World.frozen?_drew, Bool.not_true, Bool.not_false, Int.toNat_zero, dec_t, dec_f, int_eq_t, int_eq_f, int_ne_t, int_ne_f, wrap_in, kblss3, kld9, kld28, kal28, kst28f, kbgeq3, kfa78_0, kld76, kia76, kfa84_1, klen76, hlen76, kal84, kfa84_0, h]; try (exact ⟨trivial, trivial⟩))) ?_
  refine take_index (.pointer (some ⟨gb, of + i * 4, none⟩)) (fun w'' _ => by (simp (maxSteps := 1000000) (disch := omega) only [hid1', hid2', guardK_u, takeG_u, wrap_in64, optK_some', fzK_false', nilK_ptr, brK_true', brK_false', guardK_tt', guardK_ff', guardK_tf', guardK_ft', takeG_tt', takeG_ff', takeG_tf', takeG_ft', pickK_t', pickK_f', pickT_t', pickT_f', notK, extract2_0', extract2_1', extract3_0', extract3_1', extract3_2', here_load, here_fieldAt, here_indexAt, here_extract, here_un, here_conv, here_slice, here_bin, here_nil, and_here, true_and, Nat.zero_add, Nat.add_assoc, Nat.add_zero, Int.toNat_natCast, size_alloc, World.cell?_drew, World.frozen?_drew, Bool.not_true, Bool.not_false, Int.toNat_zero, dec_t, dec_f, int_eq_t, int_eq_f, int_ne_t, int_ne_f, wrap_in, kblss3, kld9, kld28, kal28, kst28f, kbgeq3, kfa78_0, kld76, kia76, kfa84_1, klen76, hlen76, kal84, kfa84_0]; try (exact ⟨trivial, trivial⟩))) ?_
  refine take_field (.pointer (some ⟨gb, of + (i * 4 + 1), none⟩)) (fun w'' _ => by (simp (maxSteps := 1000000) (disch := omega) only [hid1', hid2', guardK_u, takeG_u, wrap_in64, optK_some', fzK_false', nilK_ptr, brK_true', brK_false', guardK_tt', guardK_ff', guardK_tf', guardK_ft', takeG_tt', takeG_ff', takeG_tf', takeG_ft', pickK_t', pickK_f', pickT_t', pickT_f', notK, extract2_0', extract2_1', extract3_0', extract3_1', extract3_2', here_load, here_fieldAt, here_indexAt, here_extract, here_un, here_conv, here_slice, here_bin, here_nil, and_here, true_and, Nat.zero_add, Nat.add_assoc, Nat.add_zero, Int.toNat_natCast, size_alloc, World.cell?_drew, World.frozen?_drew, Bool.not_true, Bool.not_false, Int.toNat_zero, dec_t, dec_f, int_eq_t, int_eq_f, int_ne_t, int_ne_f, wrap_in, kblss3, kld9, kld28, kal28, kst28f, kbgeq3, kfa78_0, kld76, kia76, kfa84_1, klen76, hlen76, kal84, kfa84_0]; try (exact ⟨trivial, trivial⟩))) ?_
  refine take_load (.agg #[.string l[i].2.1, .int .i64 l[i].2.2.1, .int .i64 l[i].2.2.2]) (fun w'' hw => by obtain ⟨_, _, h1, h2, h3⟩ := hw; (simp (maxSteps := 1000000) (disch := omega) only [hid1', hid2', guardK_u, takeG_u, wrap_in64, optK_some', fzK_false', nilK_ptr, brK_true', brK_false', guardK_tt', guardK_ff', guardK_tf', guardK_ft', takeG_tt', takeG_ff', takeG_tf', takeG_ft', pickK_t', pickK_f', pickT_t', pickT_f', notK, extract2_0', extract2_1', extract3_0', extract3_1', extract3_2', here_load, here_fieldAt, here_indexAt, here_extract, here_un, here_conv, here_slice, here_bin, here_nil, and_here, true_and, Nat.zero_add, Nat.add_assoc, Nat.add_zero, Int.toNat_natCast, size_alloc, World.cell?_drew, World.frozen?_drew, Bool.not_true, Bool.not_false, Int.toNat_zero, dec_t, dec_f, int_eq_t, int_eq_f, int_ne_t, int_ne_f, wrap_in, kblss3, kld9, kld28, kal28, kst28f, kbgeq3, kfa78_0, kld76, kia76, kfa84_1, klen76, hlen76, kal84, kfa84_0, h1, h2, h3]; try (exact ⟨trivial, trivial⟩))) ?_
  have hx2 := kd.heap hx (fun h => h)
  refine ⟨?_, trivial⟩
  refine aggStoreK (fun j hj => ?_) (by kernel_rfl) (all3 rfl rfl rfl) ?_
  · have hj : j < 3 := hj
    rw [Nat.zero_add, blk_cell hx2, blk_frozen hx2 j]
    exact ⟨by rw [Array.getElem?_eq_getElem hj]; rfl, rfl⟩
  have hst := blk_setCells [.string l[i].2.1, .int .i64 l[i].2.2.1, .int .i64 l[i].2.2.2] 0 w0.drew _ hx2 (Nat.le_refl 3)
  have hch : Chg (fun q => q = bx) w0.drew (w0.drew.setCells bx 0 [.string l[i].2.1, .int .i64 l[i].2.2.1, .int .i64 l[i].2.2.2]) := Chg.sets
  have y0 : (w0.drew.setCells bx 0 [.string l[i].2.1, .int .i64 l[i].2.2.1, .int .i64 l[i].2.2.2]).cell? ⟨bx, 0, none⟩ = some (.string l[i].2.1) := by rw [blk_cell hst]; rfl
  have y1 : (w0.drew.setCells bx 0 [.string l[i].2.1, .int .i64 l[i].2.2.1, .int .i64 l[i].2.2.2]).cell? ⟨bx, 1, none⟩ = some (.int .i64 l[i].2.2.1) := by rw [blk_cell hst]; rfl
  have y2 : (w0.drew.setCells bx 0 [.string l[i].2.1, .int .i64 l[i].2.2.1, .int .i64 l[i].2.2.2]).cell? ⟨bx, 2, none⟩ = some (.int .i64 l[i].2.2.2) := by rw [blk_cell hst]; rfl
  have hgx : g ≠ bx := by omega
  have hbgx : gb ≠ bx := fun e => by
    rcases ho with ⟨hv, _⟩ | ⟨_, _, hv, hF, _⟩
    · cases hv
    · cases hv
      have := hlow.2 _ hF; omega
  simp (maxSteps := 1000000) (disch := omega) only [hid1', hid2', guardK_u, takeG_u, wrap_in64, optK_some', fzK_false', nilK_ptr, brK_true', brK_false', guardK_tt', guardK_ff', guardK_tf', guardK_ft', takeG_tt', takeG_ff', takeG_tf', takeG_ft', pickK_t', pickK_f', pickT_t', pickT_f', notK, extract2_0', extract2_1', extract3_0', extract3_1', extract3_2', here_load, here_fieldAt, here_indexAt, here_extract, here_un, here_conv, here_slice, here_bin, here_nil, and_here, true_and, Nat.zero_add, Nat.add_assoc, Nat.add_zero, Int.toNat_natCast, size_alloc, World.cell?_drew, World.frozen?_drew, Bool.not_true, Bool.not_false, Int.toNat_zero, dec_t, dec_f, int_eq_t, int_eq_f, int_ne_t, int_ne_f, wrap_in, kblss3, kld9, kld28, kal28, kst28f, kbgeq3, kfa78_0, kld76, kia76, kfa84_1, klen76, hlen76, kal84, kfa84_0, y0, y1, y2]
  refine ⟨⟨?_, ?_, ?_, ?_, ?_⟩, hK _ ((qx.trans kd).then hch (fun q hq => by omega))⟩
  · exact hch.cell c0 (fun e => hgx e)
  · exact hch.cell k0 (fun e => hbgx e)
  · exact hch.cell k1 (fun e => hbgx e)
  · exact hch.cell k2 (fun e => hbgx e)
  · exact hch.cell k3 (fun e => hbgx e)
end Go.Proofs.YtbkficgmjgbbeaaDoor.SE

/- The document's PutEntry. Conditions: at most 1000 entries. -/
import Derived.Test.YtbkficgmjgbbeaaDoorBook2
import Derived.Test.YtbkficgmjgbbeaaDoorL5
set_option linter.unusedVariables false
set_option linter.unusedSimpArgs false
set_option maxRecDepth 100000
namespace Go.Proofs.YtbkficgmjgbbeaaDoor
open Go.RowKit Go.Cn
theorem put_split (m : EM) (p : ByteArray) (v : Ent) : putM SE.lt m p v = m.take (pos SE.lt m p) ++ [(p, v)] ++ m.drop (if fnd SE.lt m p = true then pos SE.lt m p + 1 else pos SE.lt m p) := by
  unfold putM
  by_cases h : fnd SE.lt m p = true
  · have hlt := fnd_lt h
    rw [if_pos h, if_pos h, List.set_eq_take_append_cons_drop, if_pos hlt]
    simp
  · rw [if_neg h, if_neg h]; simp
theorem rowE_app (a b : EM) : rowE (a ++ b) = rowE a ++ rowE b := by unfold rowE; rw [List.flatMap_append]
theorem rowE_take (m : EM) : ∀ n, rowE (m.take n) = (rowE m).take (n * 3) := by
  induction m with
  | nil => intro n; simp [rowE]
  | cons a m ih =>
    intro n
    cases n with
    | zero => simp [rowE]
    | succ n =>
      have := ih n
      unfold rowE at *
      rw [List.take_succ_cons, List.flatMap_cons, List.flatMap_cons, this, Nat.succ_mul]; rfl
theorem rowE_drop (m : EM) : ∀ n, rowE (m.drop n) = (rowE m).drop (n * 3) := by
  induction m with
  | nil => intro n; simp [rowE]
  | cons a m ih =>
    intro n
    cases n with
    | zero => simp [rowE]
    | succ n =>
      have := ih n
      unfold rowE at *
      rw [List.drop_succ_cons, List.flatMap_cons, this, Nat.succ_mul]; rfl
theorem rowE_one (m : EM) : ∀ u ∈ rowE m, u.oneCell' = true := by
  intro u hu
  obtain ⟨x, _, hx⟩ := List.mem_flatMap.1 hu
  exact cellE_one x.2 u hx
theorem ent_at {w : World} {A : Option Addr} {m : EM} (h : Reads w A (rowE m)) {i : Nat} (hi : i < m.length) : ∃ b o, A = some ⟨b, o, none⟩ ∧ w.cell? ⟨b, o + i * 3, none⟩ = some (.string m[i].2.1) ∧ w.cell? ⟨b, o + (i * 3 + 1), none⟩ = some (.int .i64 m[i].2.2.1) ∧ w.cell? ⟨b, o + (i * 3 + 2), none⟩ = some (.int .i64 m[i].2.2.2) := by
  obtain ⟨b, o, e, hc⟩ := @Reads.at 3 (SE.κ × SE.ν) ⟨m[i]⟩ (fun x => cellE x.2) (fun _ => rfl) w A m h i hi (by omega)
  have ee : @List.getD (SE.κ × SE.ν) m i (@default _ ⟨m[i]⟩) = m[i] := by simp [hi]
  rw [ee] at hc
  exact ⟨b, o, e, hc 0 (by omega), hc 1 (by omega), hc 2 (by omega)⟩
theorem reads_take3 {w : World} {A : Option Addr} {m : EM} (hr : Reads w A (rowE m)) (i : Nat) : Cn.Src w A (rowE (m.take i)) := by
  intro j u hj
  refine hr.src j u ?_
  rw [rowE_take, List.getElem?_take] at hj
  split at hj
  · exact hj
  · cases hj
theorem reads_drop3 {w : World} {g o c : Nat} {m : EM} (hr : Reads w (some ⟨g, o, none⟩) (rowE m)) (hc : m.length ≤ c) (i : Nat) (hi : i ≤ m.length) : Cn.Src w (if c = i then some ⟨g, o, none⟩ else some ⟨g, o + i * 3, none⟩) (rowE (m.drop i)) := by
  by_cases h : c = i
  · have : m.drop i = [] := List.drop_eq_nil_of_le (by omega)
    rw [this]; exact Src.nil _ _
  · rw [if_neg h, rowE_drop]
    intro j u hj
    refine ⟨_, rfl, ?_⟩
    rw [Addr.add_lit]
    rw [List.getElem?_drop] at hj
    rcases hr with e | ⟨g', o', e, hcell⟩
    · rw [e] at hj; simp at hj
    · cases e
      have hlt := (List.getElem?_eq_some_iff.1 hj).1
      have := hcell (i * 3 + j) hlt
      rw [hj] at this
      rw [← this]; congr 2; omega
theorem getE_at {m : EM} {p : ByteArray} (hf : fnd SE.lt m p = true) {i : Nat} (hi : pos SE.lt m p = i) (hlt : i < m.length) : getE m p = m[i].2 := by
  unfold getE SE.getM
  rw [if_pos hf, hi, List.getElem?_eq_getElem hlt]; rfl
theorem src_blk {w : World} {b : Nat} {e : Ent} (h : w.heap[b]? = some (.cells #[.string e.1, .int .i64 e.2.1, .int .i64 e.2.2] 33 (0, 0))) : Cn.Src w (some ⟨b, 0, none⟩) (cellE e) := fun j u hj => ⟨_, rfl, by rw [Addr.add_lit, Nat.zero_add, blk_cell h]; simpa [cellE] using hj⟩
theorem sl_z (K : Value → World → Prop) (w : World) (h : K (.slice none 0 0) w) : SliceK Tryd.prog 26 (.slice none 0 0) none (some (.int .i64 0)) none K w := by
  unfold SliceK; go_simp; exact h
theorem sl_n (K : Value → World → Prop) (w : World) (h : K (.slice none 0 0) w) : SliceK Tryd.prog 26 (.slice none 0 0) (some (.int .i64 0)) none none K w := by
  unfold SliceK; go_simp; exact h
set_option maxHeartbeats 1000000 in
theorem putR_any {w : World} {A : Option Addr} {c : Nat} {m : EM} {e : Ent} {K : Value → World → Prop} (hr : Reads w A (rowE m)) (hc : m.length ≤ c) (hA : (A = none ∧ c = 0) ∨ ∃ g o, A = some ⟨g, o, none⟩) (hs : Rises SE.lt m) (hk : ∀ x ∈ m, x.2.1 = x.1) (hp : e.1.size ≤ 50000) (hl : m.length ≤ 1000)
    (hK : ∀ A' c' w', Reads w' A' (rowE (putE m e).1) → (putE m e).1.length ≤ c' → ((A' = none ∧ c' = 0) ∨ ∃ g o, A' = some ⟨g, o, none⟩) → Qt w w' → (∀ ad, A' = some ad → (A = some ad ∧ (putE m e).1 = m) ∨ w.heap.size ≤ ad.block) → K (.tuple #[.slice A' (putE m e).1.length c', .int .i64 (putE m e).2]) w') :
    CallK Tryd.prog 9 #[.slice A m.length c, SE.ev e] K w := by
  refine F9_calls _ _ _ _ ?_; unfold F9
  have qx : Qt w (w.alloc (.cells #[.string e.1, .int .i64 e.2.1, .int .i64 e.2.2] 33)) := Chg.alloc Qt.refl _
  have hx : (w.alloc (.cells #[.string e.1, .int .i64 e.2.1, .int .i64 e.2.2] 33)).heap[w.heap.size]? = some (.cells #[.string e.1, .int .i64 e.2.1, .int .i64 e.2.2] 33 (0, 0)) := blk_new _ _
  have r1 := hr.quiet qx
  obtain ⟨x0, x1, x2⟩ := cell3 hx
  simp (maxSteps := 1000000) (disch := omega) only [hid1', hid2', guardK_u, takeG_u, wrap_in64, optK_some', fzK_false', nilK_ptr, brK_true', brK_false', guardK_tt', guardK_ff', guardK_tf', guardK_ft', takeG_tt', takeG_ff', takeG_tf', takeG_ft', pickK_t', pickK_f', pickT_t', pickT_f', notK, extract2_0', extract2_1', extract3_0', extract3_1', extract3_2', here_load, here_fieldAt, here_indexAt, here_extract, here_un, here_conv, here_slice, here_bin, here_nil, and_here, true_and, Nat.zero_add, Nat.add_assoc, Nat.add_zero, Int.toNat_natCast, size_alloc, World.cell?_drew, World.frozen?_drew, Bool.not_true, Bool.not_false, Int.toNat_zero, dec_t, dec_f, int_eq_t, int_eq_f, int_ne_t, int_ne_f, wrap_in, kblss3, kld9, kia26, kld33, kbneq3, klen26, hlen26, kfa33_0, kbs26_1_0, kbadd3, kbgeq3, kbeql9, kbx33, kblss9, kbs26_0, ksl26_010z, ksl26_010, ksl26_100z, ksl26_100, x0, x1, x2]
  generalize (w.alloc (.cells #[.string e.1, .int .i64 e.2.1, .int .i64 e.2.2] 33)) = w1 at *
  generalize hbx : w.heap.size = bx at *
  clear x0 x1 x2
  refine ck29 (checkR_any hp ?_)
  intro w2 q2
  have q02 := qx.trans q2
  have r2 := r1.quiet q2
  unfold putE at hK
  by_cases he : errE e ≠ 0
  · rw [if_pos he] at hK
    generalize errE e = ee at *
    simp (maxSteps := 1000000) (disch := omega) only [hid1', hid2', guardK_u, takeG_u, wrap_in64, optK_some', fzK_false', nilK_ptr, brK_true', brK_false', guardK_tt', guardK_ff', guardK_tf', guardK_ft', takeG_tt', takeG_ff', takeG_tf', takeG_ft', pickK_t', pickK_f', pickT_t', pickT_f', notK, extract2_0', extract2_1', extract3_0', extract3_1', extract3_2', here_load, here_fieldAt, here_indexAt, here_extract, here_un, here_conv, here_slice, here_bin, here_nil, and_here, true_and, Nat.zero_add, Nat.add_assoc, Nat.add_zero, Int.toNat_natCast, size_alloc, World.cell?_drew, World.frozen?_drew, Bool.not_true, Bool.not_false, Int.toNat_zero, dec_t, dec_f, int_eq_t, int_eq_f, int_ne_t, int_ne_f, wrap_in, kblss3, kld9, kia26, kld33, kbneq3, klen26, hlen26, kfa33_0, kbs26_1_0, kbadd3, kbgeq3, kbeql9, kbx33, kblss9, kbs26_0, ksl26_010z, ksl26_010, ksl26_100z, ksl26_100]
    exact hK A c w2 r2 hc hA q02 (fun _ h => .inl ⟨h, rfl⟩)
  rw [if_neg he] at hK
  have he0 : errE e = 0 := by omega
  rw [he0]
  have hx2 := q2.heap hx (fun h => h)
  clear hr r1 hx q2
  have X := fun w' (q : Qt w2 w') => cell3 (q.heap hx2 (fun h => h))
  have hple := pos_le (lt := SE.lt) m e.1
  simp (maxSteps := 1000000) (disch := omega) only [hid1', hid2', guardK_u, takeG_u, wrap_in64, optK_some', fzK_false', nilK_ptr, brK_true', brK_false', guardK_tt', guardK_ff', guardK_tf', guardK_ft', takeG_tt', takeG_ff', takeG_tf', takeG_ft', pickK_t', pickK_f', pickT_t', pickT_f', notK, extract2_0', extract2_1', extract3_0', extract3_1', extract3_2', here_load, here_fieldAt, here_indexAt, here_extract, here_un, here_conv, here_slice, here_bin, here_nil, and_here, true_and, Nat.zero_add, Nat.add_assoc, Nat.add_zero, Int.toNat_natCast, size_alloc, World.cell?_drew, World.frozen?_drew, Bool.not_true, Bool.not_false, Int.toNat_zero, dec_t, dec_f, int_eq_t, int_eq_f, int_ne_t, int_ne_f, wrap_in, kblss3, kld9, kia26, kld33, kbneq3, klen26, hlen26, kfa33_0, kbs26_1_0, kbadd3, kbgeq3, kbeql9, kbx33, kblss9, kbs26_0, ksl26_010z, ksl26_010, ksl26_100z, ksl26_100]
  refine cutK1 (fun v w' => v = .int .i64 (pos SE.lt m e.1 : Int) ∧ Qt w2 w') ?_ ?_
  · refine loopK1 (fun v w' => ∃ i : Nat, v = .int .i64 i ∧ i ≤ m.length ∧ (∀ j (h : j < m.length), j < i → SE.lt m[j].1 e.1 = true) ∧ Qt w2 w') (fun v _ => m.length - (intOf v).toNat) ⟨0, rfl, by omega, fun j h hj => by omega, Qt.refl⟩ ?_
    rintro _ _ w3 ⟨i, rfl, hi, hlo, q3⟩
    have kd : Qt w3 w3.drew := Qt.drew Qt.refl
    refine drawK_by (fun w' => Qt w2 w') (q3.trans kd) ?_
    refine take_o (.int .i64 m.length) (fun w => by first | (go_simp; rfl) | (go_simp; done)) ?_
    by_cases hlt : i < m.length
    · have hkey := hk m[i] (List.getElem_mem hlt)
      have next : SE.lt m[i].1 e.1 = true → ∀ j (h : j < m.length), j < i + 1 → SE.lt m[j].1 e.1 = true := fun hb j h hj => by
        by_cases ee : j = i
        · subst ee; exact hb
        · exact hlo j h (by omega)
      have body : SE.lt m[i].1 e.1 = false → pos SE.lt m e.1 = i := fun hb => pos_eq m e.1 i hi hlo (fun _ => hb)
      have T := fun w' (q : Qt w2 w') => ent_at (r2.quiet q) hlt
      obtain ⟨b, o, rfl, _⟩ := T w2 Qt.refl
      have T0 : ∀ w', Qt w2 w' → w'.cell? ⟨b, o + i * 3, none⟩ = some (.string m[i].1) := fun w' q => by
        obtain ⟨b', o', ee, h, _⟩ := T w' q
        cases ee; rw [h, hkey]
      clear T
      generalize m[i].1 = key at *
      refine take_bin (.bool true) (fun w' _ => by (simp (maxSteps := 1000000) (disch := omega) only [hid1', hid2', guardK_u, takeG_u, wrap_in64, optK_some', fzK_false', nilK_ptr, brK_true', brK_false', guardK_tt', guardK_ff', guardK_tf', guardK_ft', takeG_tt', takeG_ff', takeG_tf', takeG_ft', pickK_t', pickK_f', pickT_t', pickT_f', notK, extract2_0', extract2_1', extract3_0', extract3_1', extract3_2', here_load, here_fieldAt, here_indexAt, here_extract, here_un, here_conv, here_slice, here_bin, here_nil, and_here, true_and, Nat.zero_add, Nat.add_assoc, Nat.add_zero, Int.toNat_natCast, size_alloc, World.cell?_drew, World.frozen?_drew, Bool.not_true, Bool.not_false, Int.toNat_zero, dec_t, dec_f, int_eq_t, int_eq_f, int_ne_t, int_ne_f, wrap_in, kblss3, kld9, kia26, kld33, kbneq3, klen26, hlen26, kfa33_0, kbs26_1_0, kbadd3, kbgeq3, kbeql9, kbx33, kblss9, kbs26_0, ksl26_010z, ksl26_010, ksl26_100z, ksl26_100]; try (exact ⟨trivial, trivial⟩))) ?_
      simp (maxSteps := 1000000) (disch := omega) only [hid1', hid2', guardK_u, takeG_u, wrap_in64, optK_some', fzK_false', nilK_ptr, brK_true', brK_false', guardK_tt', guardK_ff', guardK_tf', guardK_ft', takeG_tt', takeG_ff', takeG_tf', takeG_ft', pickK_t', pickK_f', pickT_t', pickT_f', notK, extract2_0', extract2_1', extract3_0', extract3_1', extract3_2', here_load, here_fieldAt, here_indexAt, here_extract, here_un, here_conv, here_slice, here_bin, here_nil, and_here, true_and, Nat.zero_add, Nat.add_assoc, Nat.add_zero, Int.toNat_natCast, size_alloc, World.cell?_drew, World.frozen?_drew, Bool.not_true, Bool.not_false, Int.toNat_zero, dec_t, dec_f, int_eq_t, int_eq_f, int_ne_t, int_ne_f, wrap_in, kblss3, kld9, kia26, kld33, kbneq3, klen26, hlen26, kfa33_0, kbs26_1_0, kbadd3, kbgeq3, kbeql9, kbx33, kblss9, kbs26_0, ksl26_010z, ksl26_010, ksl26_100z, ksl26_100]
      refine take_index (.pointer (some ⟨b, o + i * 3, none⟩)) (fun w' hq => by (simp (maxSteps := 1000000) (disch := omega) only [hid1', hid2', guardK_u, takeG_u, wrap_in64, optK_some', fzK_false', nilK_ptr, brK_true', brK_false', guardK_tt', guardK_ff', guardK_tf', guardK_ft', takeG_tt', takeG_ff', takeG_tf', takeG_ft', pickK_t', pickK_f', pickT_t', pickT_f', notK, extract2_0', extract2_1', extract3_0', extract3_1', extract3_2', here_load, here_fieldAt, here_indexAt, here_extract, here_un, here_conv, here_slice, here_bin, here_nil, and_here, true_and, Nat.zero_add, Nat.add_assoc, Nat.add_zero, Int.toNat_natCast, size_alloc, World.cell?_drew, World.frozen?_drew, Bool.not_true, Bool.not_false, Int.toNat_zero, dec_t, dec_f, int_eq_t, int_eq_f, int_ne_t, int_ne_f, wrap_in, kblss3, kld9, kia26, kld33, kbneq3, klen26, hlen26, kfa33_0, kbs26_1_0, kbadd3, kbgeq3, kbeql9, kbx33, kblss9, kbs26_0, ksl26_010z, ksl26_010, ksl26_100z, ksl26_100]; try (exact ⟨trivial, trivial⟩))) ?_
      refine take_field (.pointer (some ⟨b, o + i * 3, none⟩)) (fun w' hq => by (simp (maxSteps := 1000000) (disch := omega) only [hid1', hid2', guardK_u, takeG_u, wrap_in64, optK_some', fzK_false', nilK_ptr, brK_true', brK_false', guardK_tt', guardK_ff', guardK_tf', guardK_ft', takeG_tt', takeG_ff', takeG_tf', takeG_ft', pickK_t', pickK_f', pickT_t', pickT_f', notK, extract2_0', extract2_1', extract3_0', extract3_1', extract3_2', here_load, here_fieldAt, here_indexAt, here_extract, here_un, here_conv, here_slice, here_bin, here_nil, and_here, true_and, Nat.zero_add, Nat.add_assoc, Nat.add_zero, Int.toNat_natCast, size_alloc, World.cell?_drew, World.frozen?_drew, Bool.not_true, Bool.not_false, Int.toNat_zero, dec_t, dec_f, int_eq_t, int_eq_f, int_ne_t, int_ne_f, wrap_in, kblss3, kld9, kia26, kld33, kbneq3, klen26, hlen26, kfa33_0, kbs26_1_0, kbadd3, kbgeq3, kbeql9, kbx33, kblss9, kbs26_0, ksl26_010z, ksl26_010, ksl26_100z, ksl26_100]; try (exact ⟨trivial, trivial⟩))) ?_
      refine take_load (.string key) (fun w' hq => by have h := T0 w' hq; (simp (maxSteps := 1000000) (disch := omega) only [hid1', hid2', guardK_u, takeG_u, wrap_in64, optK_some', fzK_false', nilK_ptr, brK_true', brK_false', guardK_tt', guardK_ff', guardK_tf', guardK_ft', takeG_tt', takeG_ff', takeG_tf', takeG_ft', pickK_t', pickK_f', pickT_t', pickT_f', notK, extract2_0', extract2_1', extract3_0', extract3_1', extract3_2', here_load, here_fieldAt, here_indexAt, here_extract, here_un, here_conv, here_slice, here_bin, here_nil, and_here, true_and, Nat.zero_add, Nat.add_assoc, Nat.add_zero, Int.toNat_natCast, size_alloc, World.cell?_drew, World.frozen?_drew, Bool.not_true, Bool.not_false, Int.toNat_zero, dec_t, dec_f, int_eq_t, int_eq_f, int_ne_t, int_ne_f, wrap_in, kblss3, kld9, kia26, kld33, kbneq3, klen26, hlen26, kfa33_0, kbs26_1_0, kbadd3, kbgeq3, kbeql9, kbx33, kblss9, kbs26_0, ksl26_010z, ksl26_010, ksl26_100z, ksl26_100, h]; try (exact ⟨trivial, trivial⟩))) ?_
      refine take_field (.pointer (some ⟨bx, 0, none⟩)) (fun w' hq => by (simp (maxSteps := 1000000) (disch := omega) only [hid1', hid2', guardK_u, takeG_u, wrap_in64, optK_some', fzK_false', nilK_ptr, brK_true', brK_false', guardK_tt', guardK_ff', guardK_tf', guardK_ft', takeG_tt', takeG_ff', takeG_tf', takeG_ft', pickK_t', pickK_f', pickT_t', pickT_f', notK, extract2_0', extract2_1', extract3_0', extract3_1', extract3_2', here_load, here_fieldAt, here_indexAt, here_extract, here_un, here_conv, here_slice, here_bin, here_nil, and_here, true_and, Nat.zero_add, Nat.add_assoc, Nat.add_zero, Int.toNat_natCast, size_alloc, World.cell?_drew, World.frozen?_drew, Bool.not_true, Bool.not_false, Int.toNat_zero, dec_t, dec_f, int_eq_t, int_eq_f, int_ne_t, int_ne_f, wrap_in, kblss3, kld9, kia26, kld33, kbneq3, klen26, hlen26, kfa33_0, kbs26_1_0, kbadd3, kbgeq3, kbeql9, kbx33, kblss9, kbs26_0, ksl26_010z, ksl26_010, ksl26_100z, ksl26_100]; try (exact ⟨trivial, trivial⟩))) ?_
      refine take_load (.string e.1) (fun w' hq => by have h := (X w' hq).1; (simp (maxSteps := 1000000) (disch := omega) only [hid1', hid2', guardK_u, takeG_u, wrap_in64, optK_some', fzK_false', nilK_ptr, brK_true', brK_false', guardK_tt', guardK_ff', guardK_tf', guardK_ft', takeG_tt', takeG_ff', takeG_tf', takeG_ft', pickK_t', pickK_f', pickT_t', pickT_f', notK, extract2_0', extract2_1', extract3_0', extract3_1', extract3_2', here_load, here_fieldAt, here_indexAt, here_extract, here_un, here_conv, here_slice, here_bin, here_nil, and_here, true_and, Nat.zero_add, Nat.add_assoc, Nat.add_zero, Int.toNat_natCast, size_alloc, World.cell?_drew, World.frozen?_drew, Bool.not_true, Bool.not_false, Int.toNat_zero, dec_t, dec_f, int_eq_t, int_eq_f, int_ne_t, int_ne_f, wrap_in, kblss3, kld9, kia26, kld33, kbneq3, klen26, hlen26, kfa33_0, kbs26_1_0, kbadd3, kbgeq3, kbeql9, kbx33, kblss9, kbs26_0, ksl26_010z, ksl26_010, ksl26_100z, ksl26_100, h]; try (exact ⟨trivial, trivial⟩))) ?_
      cases hb : SE.lt key e.1 with
      | true =>
        refine take_bin (.bool true) (fun w' hq => by simp (maxSteps := 1000000) (disch := omega) only [hid1', hid2', guardK_u, takeG_u, wrap_in64, optK_some', fzK_false', nilK_ptr, brK_true', brK_false', guardK_tt', guardK_ff', guardK_tf', guardK_ft', takeG_tt', takeG_ff', takeG_tf', takeG_ft', pickK_t', pickK_f', pickT_t', pickT_f', notK, extract2_0', extract2_1', extract3_0', extract3_1', extract3_2', here_load, here_fieldAt, here_indexAt, here_extract, here_un, here_conv, here_slice, here_bin, here_nil, and_here, true_and, Nat.zero_add, Nat.add_assoc, Nat.add_zero, Int.toNat_natCast, size_alloc, World.cell?_drew, World.frozen?_drew, Bool.not_true, Bool.not_false, Int.toNat_zero, dec_t, dec_f, int_eq_t, int_eq_f, int_ne_t, int_ne_f, wrap_in, kblss3, kld9, kia26, kld33, kbneq3, klen26, hlen26, kfa33_0, kbs26_1_0, kbadd3, kbgeq3, kbeql9, kbx33, kblss9, kbs26_0, ksl26_010z, ksl26_010, ksl26_100z, ksl26_100]; exact ⟨by rw [show Op.bytesLess key.toList e.1.toList = SE.lt key e.1 from rfl, hb], trivial⟩) ?_
        simp (maxSteps := 1000000) (disch := omega) only [hid1', hid2', guardK_u, takeG_u, wrap_in64, optK_some', fzK_false', nilK_ptr, brK_true', brK_false', guardK_tt', guardK_ff', guardK_tf', guardK_ft', takeG_tt', takeG_ff', takeG_tf', takeG_ft', pickK_t', pickK_f', pickT_t', pickT_f', notK, extract2_0', extract2_1', extract3_0', extract3_1', extract3_2', here_load, here_fieldAt, here_indexAt, here_extract, here_un, here_conv, here_slice, here_bin, here_nil, and_here, true_and, Nat.zero_add, Nat.add_assoc, Nat.add_zero, Int.toNat_natCast, size_alloc, World.cell?_drew, World.frozen?_drew, Bool.not_true, Bool.not_false, Int.toNat_zero, dec_t, dec_f, int_eq_t, int_eq_f, int_ne_t, int_ne_f, wrap_in, kblss3, kld9, kia26, kld33, kbneq3, klen26, hlen26, kfa33_0, kbs26_1_0, kbadd3, kbgeq3, kbeql9, kbx33, kblss9, kbs26_0, ksl26_010z, ksl26_010, ksl26_100z, ksl26_100]
        exact ⟨⟨i + 1, by go_num, by omega, next hb, q3.trans kd⟩, by simp [rel, intOf]; omega⟩
      | false =>
        refine take_bin (.bool false) (fun w' hq => by simp (maxSteps := 1000000) (disch := omega) only [hid1', hid2', guardK_u, takeG_u, wrap_in64, optK_some', fzK_false', nilK_ptr, brK_true', brK_false', guardK_tt', guardK_ff', guardK_tf', guardK_ft', takeG_tt', takeG_ff', takeG_tf', takeG_ft', pickK_t', pickK_f', pickT_t', pickT_f', notK, extract2_0', extract2_1', extract3_0', extract3_1', extract3_2', here_load, here_fieldAt, here_indexAt, here_extract, here_un, here_conv, here_slice, here_bin, here_nil, and_here, true_and, Nat.zero_add, Nat.add_assoc, Nat.add_zero, Int.toNat_natCast, size_alloc, World.cell?_drew, World.frozen?_drew, Bool.not_true, Bool.not_false, Int.toNat_zero, dec_t, dec_f, int_eq_t, int_eq_f, int_ne_t, int_ne_f, wrap_in, kblss3, kld9, kia26, kld33, kbneq3, klen26, hlen26, kfa33_0, kbs26_1_0, kbadd3, kbgeq3, kbeql9, kbx33, kblss9, kbs26_0, ksl26_010z, ksl26_010, ksl26_100z, ksl26_100]; exact ⟨by rw [show Op.bytesLess key.toList e.1.toList = SE.lt key e.1 from rfl, hb], trivial⟩) ?_
        have hpos := body hb
        simp (maxSteps := 1000000) (disch := omega) only [hid1', hid2', guardK_u, takeG_u, wrap_in64, optK_some', fzK_false', nilK_ptr, brK_true', brK_false', guardK_tt', guardK_ff', guardK_tf', guardK_ft', takeG_tt', takeG_ff', takeG_tf', takeG_ft', pickK_t', pickK_f', pickT_t', pickT_f', notK, extract2_0', extract2_1', extract3_0', extract3_1', extract3_2', here_load, here_fieldAt, here_indexAt, here_extract, here_un, here_conv, here_slice, here_bin, here_nil, and_here, true_and, Nat.zero_add, Nat.add_assoc, Nat.add_zero, Int.toNat_natCast, size_alloc, World.cell?_drew, World.frozen?_drew, Bool.not_true, Bool.not_false, Int.toNat_zero, dec_t, dec_f, int_eq_t, int_eq_f, int_ne_t, int_ne_f, wrap_in, kblss3, kld9, kia26, kld33, kbneq3, klen26, hlen26, kfa33_0, kbs26_1_0, kbadd3, kbgeq3, kbeql9, kbx33, kblss9, kbs26_0, ksl26_010z, ksl26_010, ksl26_100z, ksl26_100]
        exact ⟨by rw [hpos], q3.trans kd⟩
    · have hpos : pos SE.lt m e.1 = i := pos_eq m e.1 i hi hlo (fun h => absurd h hlt)
      refine take_bin (.bool false) (fun w' _ => by (simp (maxSteps := 1000000) (disch := omega) only [hid1', hid2', guardK_u, takeG_u, wrap_in64, optK_some', fzK_false', nilK_ptr, brK_true', brK_false', guardK_tt', guardK_ff', guardK_tf', guardK_ft', takeG_tt', takeG_ff', takeG_tf', takeG_ft', pickK_t', pickK_f', pickT_t', pickT_f', notK, extract2_0', extract2_1', extract3_0', extract3_1', extract3_2', here_load, here_fieldAt, here_indexAt, here_extract, here_un, here_conv, here_slice, here_bin, here_nil, and_here, true_and, Nat.zero_add, Nat.add_assoc, Nat.add_zero, Int.toNat_natCast, size_alloc, World.cell?_drew, World.frozen?_drew, Bool.not_true, Bool.not_false, Int.toNat_zero, dec_t, dec_f, int_eq_t, int_eq_f, int_ne_t, int_ne_f, wrap_in, kblss3, kld9, kia26, kld33, kbneq3, klen26, hlen26, kfa33_0, kbs26_1_0, kbadd3, kbgeq3, kbeql9, kbx33, kblss9, kbs26_0, ksl26_010z, ksl26_010, ksl26_100z, ksl26_100]; try (exact ⟨trivial, trivial⟩))) ?_
      simp (maxSteps := 1000000) (disch := omega) only [hid1', hid2', guardK_u, takeG_u, wrap_in64, optK_some', fzK_false', nilK_ptr, brK_true', brK_false', guardK_tt', guardK_ff', guardK_tf', guardK_ft', takeG_tt', takeG_ff', takeG_tf', takeG_ft', pickK_t', pickK_f', pickT_t', pickT_f', notK, extract2_0', extract2_1', extract3_0', extract3_1', extract3_2', here_load, here_fieldAt, here_indexAt, here_extract, here_un, here_conv, here_slice, here_bin, here_nil, and_here, true_and, Nat.zero_add, Nat.add_assoc, Nat.add_zero, Int.toNat_natCast, size_alloc, World.cell?_drew, World.frozen?_drew, Bool.not_true, Bool.not_false, Int.toNat_zero, dec_t, dec_f, int_eq_t, int_eq_f, int_ne_t, int_ne_f, wrap_in, kblss3, kld9, kia26, kld33, kbneq3, klen26, hlen26, kfa33_0, kbs26_1_0, kbadd3, kbgeq3, kbeql9, kbx33, kblss9, kbs26_0, ksl26_010z, ksl26_010, ksl26_100z, ksl26_100]
      exact ⟨by rw [hpos], q3.trans kd⟩
  rintro _ _ w3 ⟨rfl, q3⟩
  generalize hpos : pos SE.lt m e.1 = i at *
  have kd : Qt w3 w3.drew := Qt.drew Qt.refl
  have fnd0 : i = m.length → fnd SE.lt m e.1 = false := fun hh => by
    cases h : fnd SE.lt m e.1 with
    | false => rfl
    | true => have := fnd_lt h; omega
  refine cutK1 (fun v w' => v = .bool (fnd SE.lt m e.1) ∧ Qt w2 w') ?_ ?_
  · refine drawK_by (fun w' => Qt w2 w') (q3.trans kd) ?_
    refine take_o (.int .i64 m.length) (fun w => by first | (go_simp; rfl) | (go_simp; done)) ?_
    by_cases hlt : i < m.length
    · have hkey := hk m[i] (List.getElem_mem hlt)
      have T := fun w' (q : Qt w2 w') => ent_at (r2.quiet q) hlt
      obtain ⟨b, o, rfl, _⟩ := T w2 Qt.refl
      have T0 : ∀ w', Qt w2 w' → w'.cell? ⟨b, o + i * 3, none⟩ = some (.string m[i].1) := fun w' q => by
        obtain ⟨b', o', ee, h, _⟩ := T w' q
        cases ee; rw [h, hkey]
      have hfe : fnd SE.lt m e.1 = decide (m[i].1 = e.1) := by
        unfold fnd
        rw [hpos, List.getElem?_eq_getElem hlt]
      clear T
      rw [hfe]
      generalize m[i].1 = key at *
      refine take_bin (.bool true) (fun w' _ => by (simp (maxSteps := 1000000) (disch := omega) only [hid1', hid2', guardK_u, takeG_u, wrap_in64, optK_some', fzK_false', nilK_ptr, brK_true', brK_false', guardK_tt', guardK_ff', guardK_tf', guardK_ft', takeG_tt', takeG_ff', takeG_tf', takeG_ft', pickK_t', pickK_f', pickT_t', pickT_f', notK, extract2_0', extract2_1', extract3_0', extract3_1', extract3_2', here_load, here_fieldAt, here_indexAt, here_extract, here_un, here_conv, here_slice, here_bin, here_nil, and_here, true_and, Nat.zero_add, Nat.add_assoc, Nat.add_zero, Int.toNat_natCast, size_alloc, World.cell?_drew, World.frozen?_drew, Bool.not_true, Bool.not_false, Int.toNat_zero, dec_t, dec_f, int_eq_t, int_eq_f, int_ne_t, int_ne_f, wrap_in, kblss3, kld9, kia26, kld33, kbneq3, klen26, hlen26, kfa33_0, kbs26_1_0, kbadd3, kbgeq3, kbeql9, kbx33, kblss9, kbs26_0, ksl26_010z, ksl26_010, ksl26_100z, ksl26_100]; try (exact ⟨trivial, trivial⟩))) ?_
      simp (maxSteps := 1000000) (disch := omega) only [hid1', hid2', guardK_u, takeG_u, wrap_in64, optK_some', fzK_false', nilK_ptr, brK_true', brK_false', guardK_tt', guardK_ff', guardK_tf', guardK_ft', takeG_tt', takeG_ff', takeG_tf', takeG_ft', pickK_t', pickK_f', pickT_t', pickT_f', notK, extract2_0', extract2_1', extract3_0', extract3_1', extract3_2', here_load, here_fieldAt, here_indexAt, here_extract, here_un, here_conv, here_slice, here_bin, here_nil, and_here, true_and, Nat.zero_add, Nat.add_assoc, Nat.add_zero, Int.toNat_natCast, size_alloc, World.cell?_drew, World.frozen?_drew, Bool.not_true, Bool.not_false, Int.toNat_zero, dec_t, dec_f, int_eq_t, int_eq_f, int_ne_t, int_ne_f, wrap_in, kblss3, kld9, kia26, kld33, kbneq3, klen26, hlen26, kfa33_0, kbs26_1_0, kbadd3, kbgeq3, kbeql9, kbx33, kblss9, kbs26_0, ksl26_010z, ksl26_010, ksl26_100z, ksl26_100]
      refine take_index (.pointer (some ⟨b, o + i * 3, none⟩)) (fun w' hq => by (simp (maxSteps := 1000000) (disch := omega) only [hid1', hid2', guardK_u, takeG_u, wrap_in64, optK_some', fzK_false', nilK_ptr, brK_true', brK_false', guardK_tt', guardK_ff', guardK_tf', guardK_ft', takeG_tt', takeG_ff', takeG_tf', takeG_ft', pickK_t', pickK_f', pickT_t', pickT_f', notK, extract2_0', extract2_1', extract3_0', extract3_1', extract3_2', here_load, here_fieldAt, here_indexAt, here_extract, here_un, here_conv, here_slice, here_bin, here_nil, and_here, true_and, Nat.zero_add, Nat.add_assoc, Nat.add_zero, Int.toNat_natCast, size_alloc, World.cell?_drew, World.frozen?_drew, Bool.not_true, Bool.not_false, Int.toNat_zero, dec_t, dec_f, int_eq_t, int_eq_f, int_ne_t, int_ne_f, wrap_in, kblss3, kld9, kia26, kld33, kbneq3, klen26, hlen26, kfa33_0, kbs26_1_0, kbadd3, kbgeq3, kbeql9, kbx33, kblss9, kbs26_0, ksl26_010z, ksl26_010, ksl26_100z, ksl26_100]; try (exact ⟨trivial, trivial⟩))) ?_
      refine take_field (.pointer (some ⟨b, o + i * 3, none⟩)) (fun w' hq => by (simp (maxSteps := 1000000) (disch := omega) only [hid1', hid2', guardK_u, takeG_u, wrap_in64, optK_some', fzK_false', nilK_ptr, brK_true', brK_false', guardK_tt', guardK_ff', guardK_tf', guardK_ft', takeG_tt', takeG_ff', takeG_tf', takeG_ft', pickK_t', pickK_f', pickT_t', pickT_f', notK, extract2_0', extract2_1', extract3_0', extract3_1', extract3_2', here_load, here_fieldAt, here_indexAt, here_extract, here_un, here_conv, here_slice, here_bin, here_nil, and_here, true_and, Nat.zero_add, Nat.add_assoc, Nat.add_zero, Int.toNat_natCast, size_alloc, World.cell?_drew, World.frozen?_drew, Bool.not_true, Bool.not_false, Int.toNat_zero, dec_t, dec_f, int_eq_t, int_eq_f, int_ne_t, int_ne_f, wrap_in, kblss3, kld9, kia26, kld33, kbneq3, klen26, hlen26, kfa33_0, kbs26_1_0, kbadd3, kbgeq3, kbeql9, kbx33, kblss9, kbs26_0, ksl26_010z, ksl26_010, ksl26_100z, ksl26_100]; try (exact ⟨trivial, trivial⟩))) ?_
      refine take_load (.string key) (fun w' hq => by have h := T0 w' hq; (simp (maxSteps := 1000000) (disch := omega) only [hid1', hid2', guardK_u, takeG_u, wrap_in64, optK_some', fzK_false', nilK_ptr, brK_true', brK_false', guardK_tt', guardK_ff', guardK_tf', guardK_ft', takeG_tt', takeG_ff', takeG_tf', takeG_ft', pickK_t', pickK_f', pickT_t', pickT_f', notK, extract2_0', extract2_1', extract3_0', extract3_1', extract3_2', here_load, here_fieldAt, here_indexAt, here_extract, here_un, here_conv, here_slice, here_bin, here_nil, and_here, true_and, Nat.zero_add, Nat.add_assoc, Nat.add_zero, Int.toNat_natCast, size_alloc, World.cell?_drew, World.frozen?_drew, Bool.not_true, Bool.not_false, Int.toNat_zero, dec_t, dec_f, int_eq_t, int_eq_f, int_ne_t, int_ne_f, wrap_in, kblss3, kld9, kia26, kld33, kbneq3, klen26, hlen26, kfa33_0, kbs26_1_0, kbadd3, kbgeq3, kbeql9, kbx33, kblss9, kbs26_0, ksl26_010z, ksl26_010, ksl26_100z, ksl26_100, h]; try (exact ⟨trivial, trivial⟩))) ?_
      refine take_field (.pointer (some ⟨bx, 0, none⟩)) (fun w' hq => by (simp (maxSteps := 1000000) (disch := omega) only [hid1', hid2', guardK_u, takeG_u, wrap_in64, optK_some', fzK_false', nilK_ptr, brK_true', brK_false', guardK_tt', guardK_ff', guardK_tf', guardK_ft', takeG_tt', takeG_ff', takeG_tf', takeG_ft', pickK_t', pickK_f', pickT_t', pickT_f', notK, extract2_0', extract2_1', extract3_0', extract3_1', extract3_2', here_load, here_fieldAt, here_indexAt, here_extract, here_un, here_conv, here_slice, here_bin, here_nil, and_here, true_and, Nat.zero_add, Nat.add_assoc, Nat.add_zero, Int.toNat_natCast, size_alloc, World.cell?_drew, World.frozen?_drew, Bool.not_true, Bool.not_false, Int.toNat_zero, dec_t, dec_f, int_eq_t, int_eq_f, int_ne_t, int_ne_f, wrap_in, kblss3, kld9, kia26, kld33, kbneq3, klen26, hlen26, kfa33_0, kbs26_1_0, kbadd3, kbgeq3, kbeql9, kbx33, kblss9, kbs26_0, ksl26_010z, ksl26_010, ksl26_100z, ksl26_100]; try (exact ⟨trivial, trivial⟩))) ?_
      refine take_load (.string e.1) (fun w' hq => by have h := (X w' hq).1; (simp (maxSteps := 1000000) (disch := omega) only [hid1', hid2', guardK_u, takeG_u, wrap_in64, optK_some', fzK_false', nilK_ptr, brK_true', brK_false', guardK_tt', guardK_ff', guardK_tf', guardK_ft', takeG_tt', takeG_ff', takeG_tf', takeG_ft', pickK_t', pickK_f', pickT_t', pickT_f', notK, extract2_0', extract2_1', extract3_0', extract3_1', extract3_2', here_load, here_fieldAt, here_indexAt, here_extract, here_un, here_conv, here_slice, here_bin, here_nil, and_here, true_and, Nat.zero_add, Nat.add_assoc, Nat.add_zero, Int.toNat_natCast, size_alloc, World.cell?_drew, World.frozen?_drew, Bool.not_true, Bool.not_false, Int.toNat_zero, dec_t, dec_f, int_eq_t, int_eq_f, int_ne_t, int_ne_f, wrap_in, kblss3, kld9, kia26, kld33, kbneq3, klen26, hlen26, kfa33_0, kbs26_1_0, kbadd3, kbgeq3, kbeql9, kbx33, kblss9, kbs26_0, ksl26_010z, ksl26_010, ksl26_100z, ksl26_100, h]; try (exact ⟨trivial, trivial⟩))) ?_
      by_cases hke : key = e.1
      · have hb : (key.toList == e.1.toList) = true := by rw [hke]; exact beq_self_eq_true _
        refine take_bin (.bool true) (fun w' hq => by simp (maxSteps := 1000000) (disch := omega) only [hid1', hid2', guardK_u, takeG_u, wrap_in64, optK_some', fzK_false', nilK_ptr, brK_true', brK_false', guardK_tt', guardK_ff', guardK_tf', guardK_ft', takeG_tt', takeG_ff', takeG_tf', takeG_ft', pickK_t', pickK_f', pickT_t', pickT_f', notK, extract2_0', extract2_1', extract3_0', extract3_1', extract3_2', here_load, here_fieldAt, here_indexAt, here_extract, here_un, here_conv, here_slice, here_bin, here_nil, and_here, true_and, Nat.zero_add, Nat.add_assoc, Nat.add_zero, Int.toNat_natCast, size_alloc, World.cell?_drew, World.frozen?_drew, Bool.not_true, Bool.not_false, Int.toNat_zero, dec_t, dec_f, int_eq_t, int_eq_f, int_ne_t, int_ne_f, wrap_in, kblss3, kld9, kia26, kld33, kbneq3, klen26, hlen26, kfa33_0, kbs26_1_0, kbadd3, kbgeq3, kbeql9, kbx33, kblss9, kbs26_0, ksl26_010z, ksl26_010, ksl26_100z, ksl26_100, hb]; try (exact ⟨rfl, trivial⟩)) ?_
        simp (maxSteps := 1000000) (disch := omega) only [hid1', hid2', guardK_u, takeG_u, wrap_in64, optK_some', fzK_false', nilK_ptr, brK_true', brK_false', guardK_tt', guardK_ff', guardK_tf', guardK_ft', takeG_tt', takeG_ff', takeG_tf', takeG_ft', pickK_t', pickK_f', pickT_t', pickT_f', notK, extract2_0', extract2_1', extract3_0', extract3_1', extract3_2', here_load, here_fieldAt, here_indexAt, here_extract, here_un, here_conv, here_slice, here_bin, here_nil, and_here, true_and, Nat.zero_add, Nat.add_assoc, Nat.add_zero, Int.toNat_natCast, size_alloc, World.cell?_drew, World.frozen?_drew, Bool.not_true, Bool.not_false, Int.toNat_zero, dec_t, dec_f, int_eq_t, int_eq_f, int_ne_t, int_ne_f, wrap_in, kblss3, kld9, kia26, kld33, kbneq3, klen26, hlen26, kfa33_0, kbs26_1_0, kbadd3, kbgeq3, kbeql9, kbx33, kblss9, kbs26_0, ksl26_010z, ksl26_010, ksl26_100z, ksl26_100]
        exact ⟨by rw [decide_eq_true hke], q3.trans kd⟩
      · have hb : (key.toList == e.1.toList) = false := by rw [beq_eq_false_iff_ne]; exact fun x => hke (toList_inj x)
        refine take_bin (.bool false) (fun w' hq => by simp (maxSteps := 1000000) (disch := omega) only [hid1', hid2', guardK_u, takeG_u, wrap_in64, optK_some', fzK_false', nilK_ptr, brK_true', brK_false', guardK_tt', guardK_ff', guardK_tf', guardK_ft', takeG_tt', takeG_ff', takeG_tf', takeG_ft', pickK_t', pickK_f', pickT_t', pickT_f', notK, extract2_0', extract2_1', extract3_0', extract3_1', extract3_2', here_load, here_fieldAt, here_indexAt, here_extract, here_un, here_conv, here_slice, here_bin, here_nil, and_here, true_and, Nat.zero_add, Nat.add_assoc, Nat.add_zero, Int.toNat_natCast, size_alloc, World.cell?_drew, World.frozen?_drew, Bool.not_true, Bool.not_false, Int.toNat_zero, dec_t, dec_f, int_eq_t, int_eq_f, int_ne_t, int_ne_f, wrap_in, kblss3, kld9, kia26, kld33, kbneq3, klen26, hlen26, kfa33_0, kbs26_1_0, kbadd3, kbgeq3, kbeql9, kbx33, kblss9, kbs26_0, ksl26_010z, ksl26_010, ksl26_100z, ksl26_100, hb]; try (exact ⟨rfl, trivial⟩)) ?_
        simp (maxSteps := 1000000) (disch := omega) only [hid1', hid2', guardK_u, takeG_u, wrap_in64, optK_some', fzK_false', nilK_ptr, brK_true', brK_false', guardK_tt', guardK_ff', guardK_tf', guardK_ft', takeG_tt', takeG_ff', takeG_tf', takeG_ft', pickK_t', pickK_f', pickT_t', pickT_f', notK, extract2_0', extract2_1', extract3_0', extract3_1', extract3_2', here_load, here_fieldAt, here_indexAt, here_extract, here_un, here_conv, here_slice, here_bin, here_nil, and_here, true_and, Nat.zero_add, Nat.add_assoc, Nat.add_zero, Int.toNat_natCast, size_alloc, World.cell?_drew, World.frozen?_drew, Bool.not_true, Bool.not_false, Int.toNat_zero, dec_t, dec_f, int_eq_t, int_eq_f, int_ne_t, int_ne_f, wrap_in, kblss3, kld9, kia26, kld33, kbneq3, klen26, hlen26, kfa33_0, kbs26_1_0, kbadd3, kbgeq3, kbeql9, kbx33, kblss9, kbs26_0, ksl26_010z, ksl26_010, ksl26_100z, ksl26_100]
        exact ⟨by rw [decide_eq_false hke], q3.trans kd⟩
    · refine take_bin (.bool false) (fun w' _ => by (simp (maxSteps := 1000000) (disch := omega) only [hid1', hid2', guardK_u, takeG_u, wrap_in64, optK_some', fzK_false', nilK_ptr, brK_true', brK_false', guardK_tt', guardK_ff', guardK_tf', guardK_ft', takeG_tt', takeG_ff', takeG_tf', takeG_ft', pickK_t', pickK_f', pickT_t', pickT_f', notK, extract2_0', extract2_1', extract3_0', extract3_1', extract3_2', here_load, here_fieldAt, here_indexAt, here_extract, here_un, here_conv, here_slice, here_bin, here_nil, and_here, true_and, Nat.zero_add, Nat.add_assoc, Nat.add_zero, Int.toNat_natCast, size_alloc, World.cell?_drew, World.frozen?_drew, Bool.not_true, Bool.not_false, Int.toNat_zero, dec_t, dec_f, int_eq_t, int_eq_f, int_ne_t, int_ne_f, wrap_in, kblss3, kld9, kia26, kld33, kbneq3, klen26, hlen26, kfa33_0, kbs26_1_0, kbadd3, kbgeq3, kbeql9, kbx33, kblss9, kbs26_0, ksl26_010z, ksl26_010, ksl26_100z, ksl26_100]; try (exact ⟨trivial, trivial⟩))) ?_
      simp (maxSteps := 1000000) (disch := omega) only [hid1', hid2', guardK_u, takeG_u, wrap_in64, optK_some', fzK_false', nilK_ptr, brK_true', brK_false', guardK_tt', guardK_ff', guardK_tf', guardK_ft', takeG_tt', takeG_ff', takeG_tf', takeG_ft', pickK_t', pickK_f', pickT_t', pickT_f', notK, extract2_0', extract2_1', extract3_0', extract3_1', extract3_2', here_load, here_fieldAt, here_indexAt, here_extract, here_un, here_conv, here_slice, here_bin, here_nil, and_here, true_and, Nat.zero_add, Nat.add_assoc, Nat.add_zero, Int.toNat_natCast, size_alloc, World.cell?_drew, World.frozen?_drew, Bool.not_true, Bool.not_false, Int.toNat_zero, dec_t, dec_f, int_eq_t, int_eq_f, int_ne_t, int_ne_f, wrap_in, kblss3, kld9, kia26, kld33, kbneq3, klen26, hlen26, kfa33_0, kbs26_1_0, kbadd3, kbgeq3, kbeql9, kbx33, kblss9, kbs26_0, ksl26_010z, ksl26_010, ksl26_100z, ksl26_100]
      exact ⟨by rw [fnd0 (by omega)], q3.trans kd⟩
  rintro _ _ w4 ⟨rfl, q4⟩
  clear kd q3
  have kd : Qt w4 w4.drew := Qt.drew Qt.refl
  have q4d := q4.trans kd
  refine drawK_by (fun w' => Qt w2 w') q4d ?_
  cases hf : fnd SE.lt m e.1 with
  | true =>
    have hlt := fnd_lt hf
    rw [hpos] at hlt
    have T := fun w' (q : Qt w2 w') => ent_at (r2.quiet q) hlt
    obtain ⟨b, o, rfl, _⟩ := T w2 Qt.refl
    have T0 : ∀ w', Qt w2 w' → w'.cell? ⟨b, o + i * 3, none⟩ = some (.string m[i].2.1) ∧ w'.cell? ⟨b, o + (i * 3 + 1), none⟩ = some (.int .i64 m[i].2.2.1) ∧ w'.cell? ⟨b, o + (i * 3 + 2), none⟩ = some (.int .i64 m[i].2.2.2) := fun w' q => by
      obtain ⟨b', o', ee, h⟩ := T w' q
      cases ee; exact h
    have hge := getE_at hf hpos hlt
    rw [hf, hge] at hK
    generalize hq : m[i].2 = old at *
    simp (maxSteps := 1000000) (disch := omega) only [hid1', hid2', guardK_u, takeG_u, wrap_in64, optK_some', fzK_false', nilK_ptr, brK_true', brK_false', guardK_tt', guardK_ff', guardK_tf', guardK_ft', takeG_tt', takeG_ff', takeG_tf', takeG_ft', pickK_t', pickK_f', pickT_t', pickT_f', notK, extract2_0', extract2_1', extract3_0', extract3_1', extract3_2', here_load, here_fieldAt, here_indexAt, here_extract, here_un, here_conv, here_slice, here_bin, here_nil, and_here, true_and, Nat.zero_add, Nat.add_assoc, Nat.add_zero, Int.toNat_natCast, size_alloc, World.cell?_drew, World.frozen?_drew, Bool.not_true, Bool.not_false, Int.toNat_zero, dec_t, dec_f, int_eq_t, int_eq_f, int_ne_t, int_ne_f, wrap_in, kblss3, kld9, kia26, kld33, kbneq3, klen26, hlen26, kfa33_0, kbs26_1_0, kbadd3, kbgeq3, kbeql9, kbx33, kblss9, kbs26_0, ksl26_010z, ksl26_010, ksl26_100z, ksl26_100]
    refine take_load (SE.ev e) (fun w' hq => by obtain ⟨h0, h1, h2⟩ := X w' hq; (simp (maxSteps := 1000000) (disch := omega) only [hid1', hid2', guardK_u, takeG_u, wrap_in64, optK_some', fzK_false', nilK_ptr, brK_true', brK_false', guardK_tt', guardK_ff', guardK_tf', guardK_ft', takeG_tt', takeG_ff', takeG_tf', takeG_ft', pickK_t', pickK_f', pickT_t', pickT_f', notK, extract2_0', extract2_1', extract3_0', extract3_1', extract3_2', here_load, here_fieldAt, here_indexAt, here_extract, here_un, here_conv, here_slice, here_bin, here_nil, and_here, true_and, Nat.zero_add, Nat.add_assoc, Nat.add_zero, Int.toNat_natCast, size_alloc, World.cell?_drew, World.frozen?_drew, Bool.not_true, Bool.not_false, Int.toNat_zero, dec_t, dec_f, int_eq_t, int_eq_f, int_ne_t, int_ne_f, wrap_in, kblss3, kld9, kia26, kld33, kbneq3, klen26, hlen26, kfa33_0, kbs26_1_0, kbadd3, kbgeq3, kbeql9, kbx33, kblss9, kbs26_0, ksl26_010z, ksl26_010, ksl26_100z, ksl26_100, h0, h1, h2]; try (exact ⟨trivial, trivial⟩))) ?_
    simp (maxSteps := 1000000) (disch := omega) only [hid1', hid2', guardK_u, takeG_u, wrap_in64, optK_some', fzK_false', nilK_ptr, brK_true', brK_false', guardK_tt', guardK_ff', guardK_tf', guardK_ft', takeG_tt', takeG_ff', takeG_tf', takeG_ft', pickK_t', pickK_f', pickT_t', pickT_f', notK, extract2_0', extract2_1', extract3_0', extract3_1', extract3_2', here_load, here_fieldAt, here_indexAt, here_extract, here_un, here_conv, here_slice, here_bin, here_nil, and_here, true_and, Nat.zero_add, Nat.add_assoc, Nat.add_zero, Int.toNat_natCast, size_alloc, World.cell?_drew, World.frozen?_drew, Bool.not_true, Bool.not_false, Int.toNat_zero, dec_t, dec_f, int_eq_t, int_eq_f, int_ne_t, int_ne_f, wrap_in, kblss3, kld9, kia26, kld33, kbneq3, klen26, hlen26, kfa33_0, kbs26_1_0, kbadd3, kbgeq3, kbeql9, kbx33, kblss9, kbs26_0, ksl26_010z, ksl26_010, ksl26_100z, ksl26_100]
    refine take_index (.pointer (some ⟨b, o + i * 3, none⟩)) (fun w' hq => by (simp (maxSteps := 1000000) (disch := omega) only [hid1', hid2', guardK_u, takeG_u, wrap_in64, optK_some', fzK_false', nilK_ptr, brK_true', brK_false', guardK_tt', guardK_ff', guardK_tf', guardK_ft', takeG_tt', takeG_ff', takeG_tf', takeG_ft', pickK_t', pickK_f', pickT_t', pickT_f', notK, extract2_0', extract2_1', extract3_0', extract3_1', extract3_2', here_load, here_fieldAt, here_indexAt, here_extract, here_un, here_conv, here_slice, here_bin, here_nil, and_here, true_and, Nat.zero_add, Nat.add_assoc, Nat.add_zero, Int.toNat_natCast, size_alloc, World.cell?_drew, World.frozen?_drew, Bool.not_true, Bool.not_false, Int.toNat_zero, dec_t, dec_f, int_eq_t, int_eq_f, int_ne_t, int_ne_f, wrap_in, kblss3, kld9, kia26, kld33, kbneq3, klen26, hlen26, kfa33_0, kbs26_1_0, kbadd3, kbgeq3, kbeql9, kbx33, kblss9, kbs26_0, ksl26_010z, ksl26_010, ksl26_100z, ksl26_100]; try (exact ⟨trivial, trivial⟩))) ?_
    refine take_load (SE.ev old) (fun w' hq => by obtain ⟨h0, h1, h2⟩ := T0 w' hq; (simp (maxSteps := 1000000) (disch := omega) only [hid1', hid2', guardK_u, takeG_u, wrap_in64, optK_some', fzK_false', nilK_ptr, brK_true', brK_false', guardK_tt', guardK_ff', guardK_tf', guardK_ft', takeG_tt', takeG_ff', takeG_tf', takeG_ft', pickK_t', pickK_f', pickT_t', pickT_f', notK, extract2_0', extract2_1', extract3_0', extract3_1', extract3_2', here_load, here_fieldAt, here_indexAt, here_extract, here_un, here_conv, here_slice, here_bin, here_nil, and_here, true_and, Nat.zero_add, Nat.add_assoc, Nat.add_zero, Int.toNat_natCast, size_alloc, World.cell?_drew, World.frozen?_drew, Bool.not_true, Bool.not_false, Int.toNat_zero, dec_t, dec_f, int_eq_t, int_eq_f, int_ne_t, int_ne_f, wrap_in, kblss3, kld9, kia26, kld33, kbneq3, klen26, hlen26, kfa33_0, kbs26_1_0, kbadd3, kbgeq3, kbeql9, kbx33, kblss9, kbs26_0, ksl26_010z, ksl26_010, ksl26_100z, ksl26_100, h0, h1, h2]; try (exact ⟨trivial, trivial⟩))) ?_
    simp (maxSteps := 1000000) (disch := omega) only [hid1', hid2', guardK_u, takeG_u, wrap_in64, optK_some', fzK_false', nilK_ptr, brK_true', brK_false', guardK_tt', guardK_ff', guardK_tf', guardK_ft', takeG_tt', takeG_ff', takeG_tf', takeG_ft', pickK_t', pickK_f', pickT_t', pickT_f', notK, extract2_0', extract2_1', extract3_0', extract3_1', extract3_2', here_load, here_fieldAt, here_indexAt, here_extract, here_un, here_conv, here_slice, here_bin, here_nil, and_here, true_and, Nat.zero_add, Nat.add_assoc, Nat.add_zero, Int.toNat_natCast, size_alloc, World.cell?_drew, World.frozen?_drew, Bool.not_true, Bool.not_false, Int.toNat_zero, dec_t, dec_f, int_eq_t, int_eq_f, int_ne_t, int_ne_f, wrap_in, kblss3, kld9, kia26, kld33, kbneq3, klen26, hlen26, kfa33_0, kbs26_1_0, kbadd3, kbgeq3, kbeql9, kbx33, kblss9, kbs26_0, ksl26_010z, ksl26_010, ksl26_100z, ksl26_100]
    refine ⟨ck24 (newerR_any ?_), trivial⟩
    intro w5 k5
    have q5 := q4d.trans k5
    cases hn : newE e old with
    | false =>
      rw [hn, if_pos ⟨rfl, rfl⟩] at hK
      simp (maxSteps := 1000000) (disch := omega) only [hid1', hid2', guardK_u, takeG_u, wrap_in64, optK_some', fzK_false', nilK_ptr, brK_true', brK_false', guardK_tt', guardK_ff', guardK_tf', guardK_ft', takeG_tt', takeG_ff', takeG_tf', takeG_ft', pickK_t', pickK_f', pickT_t', pickT_f', notK, extract2_0', extract2_1', extract3_0', extract3_1', extract3_2', here_load, here_fieldAt, here_indexAt, here_extract, here_un, here_conv, here_slice, here_bin, here_nil, and_here, true_and, Nat.zero_add, Nat.add_assoc, Nat.add_zero, Int.toNat_natCast, size_alloc, World.cell?_drew, World.frozen?_drew, Bool.not_true, Bool.not_false, Int.toNat_zero, dec_t, dec_f, int_eq_t, int_eq_f, int_ne_t, int_ne_f, wrap_in, kblss3, kld9, kia26, kld33, kbneq3, klen26, hlen26, kfa33_0, kbs26_1_0, kbadd3, kbgeq3, kbeql9, kbx33, kblss9, kbs26_0, ksl26_010z, ksl26_010, ksl26_100z, ksl26_100]
      refine ⟨q5, ?_⟩
      refine take_of (.bool true) (fun w' _ => by first | rfl | (go_simp; done)) ?_
      simp (maxSteps := 1000000) (disch := omega) only [hid1', hid2', guardK_u, takeG_u, wrap_in64, optK_some', fzK_false', nilK_ptr, brK_true', brK_false', guardK_tt', guardK_ff', guardK_tf', guardK_ft', takeG_tt', takeG_ff', takeG_tf', takeG_ft', pickK_t', pickK_f', pickT_t', pickT_f', notK, extract2_0', extract2_1', extract3_0', extract3_1', extract3_2', here_load, here_fieldAt, here_indexAt, here_extract, here_un, here_conv, here_slice, here_bin, here_nil, and_here, true_and, Nat.zero_add, Nat.add_assoc, Nat.add_zero, Int.toNat_natCast, size_alloc, World.cell?_drew, World.frozen?_drew, Bool.not_true, Bool.not_false, Int.toNat_zero, dec_t, dec_f, int_eq_t, int_eq_f, int_ne_t, int_ne_f, wrap_in, kblss3, kld9, kia26, kld33, kbneq3, klen26, hlen26, kfa33_0, kbs26_1_0, kbadd3, kbgeq3, kbeql9, kbx33, kblss9, kbs26_0, ksl26_010z, ksl26_010, ksl26_100z, ksl26_100]
      exact hK _ c w5 (r2.quiet q5) hc hA (q02.trans q5) (fun _ h => .inl ⟨h, rfl⟩)
    | true =>
      rw [hn, if_neg (by rintro ⟨_, h⟩; cases h), if_neg (by rintro ⟨h, _⟩; cases h)] at hK
      simp (maxSteps := 1000000) (disch := omega) only [hid1', hid2', guardK_u, takeG_u, wrap_in64, optK_some', fzK_false', nilK_ptr, brK_true', brK_false', guardK_tt', guardK_ff', guardK_tf', guardK_ft', takeG_tt', takeG_ff', takeG_tf', takeG_ft', pickK_t', pickK_f', pickT_t', pickT_f', notK, extract2_0', extract2_1', extract3_0', extract3_1', extract3_2', here_load, here_fieldAt, here_indexAt, here_extract, here_un, here_conv, here_slice, here_bin, here_nil, and_here, true_and, Nat.zero_add, Nat.add_assoc, Nat.add_zero, Int.toNat_natCast, size_alloc, World.cell?_drew, World.frozen?_drew, Bool.not_true, Bool.not_false, Int.toNat_zero, dec_t, dec_f, int_eq_t, int_eq_f, int_ne_t, int_ne_f, wrap_in, kblss3, kld9, kia26, kld33, kbneq3, klen26, hlen26, kfa33_0, kbs26_1_0, kbadd3, kbgeq3, kbeql9, kbx33, kblss9, kbs26_0, ksl26_010z, ksl26_010, ksl26_100z, ksl26_100]
      refine ⟨q5, ?_⟩
      refine take_of (.bool false) (fun w' _ => by first | rfl | (go_simp; done)) ?_
      refine cutK0 (fun w' => Qt w2 w') ?_ ?_
      · simp (maxSteps := 1000000) (disch := omega) only [hid1', hid2', guardK_u, takeG_u, wrap_in64, optK_some', fzK_false', nilK_ptr, brK_true', brK_false', guardK_tt', guardK_ff', guardK_tf', guardK_ft', takeG_tt', takeG_ff', takeG_tf', takeG_ft', pickK_t', pickK_f', pickT_t', pickT_f', notK, extract2_0', extract2_1', extract3_0', extract3_1', extract3_2', here_load, here_fieldAt, here_indexAt, here_extract, here_un, here_conv, here_slice, here_bin, here_nil, and_here, true_and, Nat.zero_add, Nat.add_assoc, Nat.add_zero, Int.toNat_natCast, size_alloc, World.cell?_drew, World.frozen?_drew, Bool.not_true, Bool.not_false, Int.toNat_zero, dec_t, dec_f, int_eq_t, int_eq_f, int_ne_t, int_ne_f, wrap_in, kblss3, kld9, kia26, kld33, kbneq3, klen26, hlen26, kfa33_0, kbs26_1_0, kbadd3, kbgeq3, kbeql9, kbx33, kblss9, kbs26_0, ksl26_010z, ksl26_010, ksl26_100z, ksl26_100, guardK_u]
        exact q5
      clear q5 k5
      rintro _ w5 q5
      have kd5 : Qt w5 w5.drew := Qt.drew Qt.refl
      have q5d := q5.trans kd5
      refine cutK1 (fun v w' => ∃ F6, Own w' 33 3 v (i + 1) (rowE (m.take i) ++ cellE e) F6 ∧ (∀ k, F6 = some k → w2.heap.size ≤ k) ∧ Qt w2 w') ?_ ?_
      · refine drawK_by (fun w' => Qt w2 w') q5d ?_
        refine take_slice (.slice (some ⟨b, o, none⟩) i c) (fun w' _ => by (simp (maxSteps := 1000000) (disch := omega) only [hid1', hid2', guardK_u, takeG_u, wrap_in64, optK_some', fzK_false', nilK_ptr, brK_true', brK_false', guardK_tt', guardK_ff', guardK_tf', guardK_ft', takeG_tt', takeG_ff', takeG_tf', takeG_ft', pickK_t', pickK_f', pickT_t', pickT_f', notK, extract2_0', extract2_1', extract3_0', extract3_1', extract3_2', here_load, here_fieldAt, here_indexAt, here_extract, here_un, here_conv, here_slice, here_bin, here_nil, and_here, true_and, Nat.zero_add, Nat.add_assoc, Nat.add_zero, Int.toNat_natCast, size_alloc, World.cell?_drew, World.frozen?_drew, Bool.not_true, Bool.not_false, Int.toNat_zero, dec_t, dec_f, int_eq_t, int_eq_f, int_ne_t, int_ne_f, wrap_in, kblss3, kld9, kia26, kld33, kbneq3, klen26, hlen26, kfa33_0, kbs26_1_0, kbadd3, kbgeq3, kbeql9, kbx33, kblss9, kbs26_0, ksl26_010z, ksl26_010, ksl26_100z, ksl26_100]; try (exact ⟨trivial, trivial⟩))) ?_
        refine take_load (SE.ev e) (fun w' hq => by obtain ⟨h0, h1, h2⟩ := X w' hq; (simp (maxSteps := 1000000) (disch := omega) only [hid1', hid2', guardK_u, takeG_u, wrap_in64, optK_some', fzK_false', nilK_ptr, brK_true', brK_false', guardK_tt', guardK_ff', guardK_tf', guardK_ft', takeG_tt', takeG_ff', takeG_tf', takeG_ft', pickK_t', pickK_f', pickT_t', pickT_f', notK, extract2_0', extract2_1', extract3_0', extract3_1', extract3_2', here_load, here_fieldAt, here_indexAt, here_extract, here_un, here_conv, here_slice, here_bin, here_nil, and_here, true_and, Nat.zero_add, Nat.add_assoc, Nat.add_zero, Int.toNat_natCast, size_alloc, World.cell?_drew, World.frozen?_drew, Bool.not_true, Bool.not_false, Int.toNat_zero, dec_t, dec_f, int_eq_t, int_eq_f, int_ne_t, int_ne_f, wrap_in, kblss3, kld9, kia26, kld33, kbneq3, klen26, hlen26, kfa33_0, kbs26_1_0, kbadd3, kbgeq3, kbeql9, kbx33, kblss9, kbs26_0, ksl26_010z, ksl26_010, ksl26_100z, ksl26_100, h0, h1, h2]; try (exact ⟨trivial, trivial⟩))) ?_
        have rT := fun w' (q : Qt w2 w') => reads_take3 (r2.quiet q) i
        have s5 := q5d.size
        generalize w5.drew = wd at *
        have step1 : ∀ (w' : World) (bb : Nat), Own w' 33 3 (.slice (some ⟨bb, 0, none⟩) 0 0) 0 [] (some bb) → Qt w2 w' → w2.heap.size ≤ bb → ∃ A' cap F' w'', (Builtin.append_ #[26, 26] 26 #[.slice (some ⟨bb, 0, none⟩) 0 0, .slice (some ⟨b, o, none⟩) i c]).run Tryd.prog w' = .ok (.slice A' i cap) w'' ∧ Own w'' 33 3 (.slice A' i cap) i (rowE (m.take i)) F' ∧ Qt w2 w'' ∧ (∀ k, F' = some k → w2.heap.size ≤ k) ∧ (∀ k, k < w'.heap.size → k ≠ bb → w''.heap[k]? = w'.heap[k]? ∧ F' ≠ some k) := by
          intro w' bb oo q hb
          obtain ⟨A', cap, F', w'', p, o', k, f⟩ := app_run (P := Tryd.prog) tyN oo (some ⟨b, o, none⟩) i c (rowE (m.take i)) (by rw [rowE_len, List.length_take]; omega) (rT w' q) (rowE_one _) (by omega) (by omega) 26
          rw [Nat.zero_add] at p o'
          rw [List.nil_append] at o'
          refine ⟨A', cap, F', w'', p, o', Qt.then q k (fun j hj => by cases hj; exact hb), fun j hj => ?_, fun j hj hne => ⟨k.block j hj (fun h => by cases h; exact hne rfl), fun h => ?_⟩⟩
          · rcases f j hj with h | h
            · cases h; exact hb
            · have := q.size; omega
          · rcases f j h with h | h
            · cases h; exact hne rfl
            · omega
        have z0 : ∀ w', Qt w' (w'.alloc (.cells #[] 33)) := fun w' => Chg.alloc Qt.refl _
        have z1 : ∀ w', Qt w' (w'.alloc (.cells #[.string e.1, .int .i64 e.2.1, .int .i64 e.2.2] 33)) := fun w' => Chg.alloc Qt.refl _
        have qa := q5d.trans (z0 wd)
        have qab := qa.trans (z1 _)
        have qb := q5d.trans (z1 wd)
        have qba := qb.trans (z0 _)
        have push2 : ∀ (w' : World) (A' : Option Addr) (cap : Nat) (F' : Option Nat) (b1 : Nat), Own w' 33 3 (.slice A' i cap) i (rowE (m.take i)) F' → Qt w2 w' → (∀ k, F' = some k → w2.heap.size ≤ k) → w'.heap[b1]? = some (.cells #[.string e.1, .int .i64 e.2.1, .int .i64 e.2.2] 33 (0, 0)) → ∃ A6 c6 F6 w6, (Builtin.append_ #[26, 26] 26 #[.slice A' i cap, .slice (some ⟨b1, 0, none⟩) 1 1]).run Tryd.prog w' = .ok (.slice A6 (i + 1) c6) w6 ∧ Own w6 33 3 (.slice A6 (i + 1) c6) (i + 1) (rowE (m.take i) ++ cellE e) F6 ∧ (∀ k, F6 = some k → w2.heap.size ≤ k) ∧ Qt w2 w6 := by
          intro w' A' cap F' b1 o q hF hb1
          obtain ⟨A6, c6, F6, w6, p, o6, k, f⟩ := app_run (P := Tryd.prog) tyN o (some ⟨b1, 0, none⟩) 1 1 (cellE e) rfl (src_blk hb1) (cellE_one e) (by omega) (by omega) 26
          refine ⟨A6, c6, F6, w6, p, o6, fun j hj => ?_, Qt.then q k hF⟩
          rcases f j hj with h | h
          · exact hF j h
          · have := q.size; omega
        have hz0 : (wd.alloc (.cells #[] 33)).heap.size = wd.heap.size + 1 := size_alloc _ _
        have hz1 : (wd.alloc (.cells #[.string e.1, .int .i64 e.2.1, .int .i64 e.2.2] 33)).heap.size = wd.heap.size + 1 := size_alloc _ _
        have o0 := own_empty wd 33 3
        have o1 := own_empty (wd.alloc (.cells #[.string e.1, .int .i64 e.2.1, .int .i64 e.2.2] 33)) 33 3
        have b0 : ((wd.alloc (.cells #[] 33)).alloc (.cells #[.string e.1, .int .i64 e.2.1, .int .i64 e.2.2] 33)).heap[wd.heap.size + 1]? = some (.cells #[.string e.1, .int .i64 e.2.1, .int .i64 e.2.2] 33 (0, 0)) := by rw [← hz0]; exact blk_new _ _
        have b1 : ((wd.alloc (.cells #[.string e.1, .int .i64 e.2.1, .int .i64 e.2.2] 33)).alloc (.cells #[] 33)).heap[wd.heap.size]? = some (.cells #[.string e.1, .int .i64 e.2.1, .int .i64 e.2.2] 33 (0, 0)) := (z0 _).heap (blk_new _ _) (fun h => h)
        rw [hz1] at o1
        have o0b := o0.chg (z1 _) (fun _ _ h => h)
        have l0 := blk_lt b0
        have l1 := blk_lt b1
        simp (maxSteps := 1000000) (disch := omega) only [hid1', hid2', guardK_u, takeG_u, wrap_in64, optK_some', fzK_false', nilK_ptr, brK_true', brK_false', guardK_tt', guardK_ff', guardK_tf', guardK_ft', takeG_tt', takeG_ff', takeG_tf', takeG_ft', pickK_t', pickK_f', pickT_t', pickT_f', notK, extract2_0', extract2_1', extract3_0', extract3_1', extract3_2', here_load, here_fieldAt, here_indexAt, here_extract, here_un, here_conv, here_slice, here_bin, here_nil, and_here, true_and, Nat.zero_add, Nat.add_assoc, Nat.add_zero, Int.toNat_natCast, size_alloc, World.cell?_drew, World.frozen?_drew, Bool.not_true, Bool.not_false, Int.toNat_zero, dec_t, dec_f, int_eq_t, int_eq_f, int_ne_t, int_ne_f, wrap_in, kblss3, kld9, kia26, kld33, kbneq3, klen26, hlen26, kfa33_0, kbs26_1_0, kbadd3, kbgeq3, kbeql9, kbx33, kblss9, kbs26_0, ksl26_010z, ksl26_010, ksl26_100z, ksl26_100]
        repeat' (first | with_reducible exact qa | with_reducible exact qab | with_reducible exact qb | with_reducible exact qba | with_reducible exact trivial | with_reducible apply And.intro)
        · obtain ⟨A', cap, F', w6, p6, o6, q6, f6, _⟩ := step1 _ _ o0 qa s5
          refine appK p6 ?_
          obtain ⟨A7, c7, F7, w7, p7, o7, f7, q7⟩ := push2 (w6.alloc (.cells #[.string e.1, .int .i64 e.2.1, .int .i64 e.2.2] 33)) A' cap F' w6.heap.size (o6.chg (z1 _) (fun _ _ h => h)) (q6.trans (z1 _)) f6 (blk_new _ _)
          simp (maxSteps := 1000000) (disch := omega) only [hid1', hid2', guardK_u, takeG_u, wrap_in64, optK_some', fzK_false', nilK_ptr, brK_true', brK_false', guardK_tt', guardK_ff', guardK_tf', guardK_ft', takeG_tt', takeG_ff', takeG_tf', takeG_ft', pickK_t', pickK_f', pickT_t', pickT_f', notK, extract2_0', extract2_1', extract3_0', extract3_1', extract3_2', here_load, here_fieldAt, here_indexAt, here_extract, here_un, here_conv, here_slice, here_bin, here_nil, and_here, true_and, Nat.zero_add, Nat.add_assoc, Nat.add_zero, Int.toNat_natCast, size_alloc, World.cell?_drew, World.frozen?_drew, Bool.not_true, Bool.not_false, Int.toNat_zero, dec_t, dec_f, int_eq_t, int_eq_f, int_ne_t, int_ne_f, wrap_in, kblss3, kld9, kia26, kld33, kbneq3, klen26, hlen26, kfa33_0, kbs26_1_0, kbadd3, kbgeq3, kbeql9, kbx33, kblss9, kbs26_0, ksl26_010z, ksl26_010, ksl26_100z, ksl26_100]
          refine ⟨q6, ⟨q6.trans (z1 _), appK p7 ?_, trivial⟩, trivial⟩
          simp (maxSteps := 1000000) (disch := omega) only [hid1', hid2', guardK_u, takeG_u, wrap_in64, optK_some', fzK_false', nilK_ptr, brK_true', brK_false', guardK_tt', guardK_ff', guardK_tf', guardK_ft', takeG_tt', takeG_ff', takeG_tf', takeG_ft', pickK_t', pickK_f', pickT_t', pickT_f', notK, extract2_0', extract2_1', extract3_0', extract3_1', extract3_2', here_load, here_fieldAt, here_indexAt, here_extract, here_un, here_conv, here_slice, here_bin, here_nil, and_here, true_and, Nat.zero_add, Nat.add_assoc, Nat.add_zero, Int.toNat_natCast, size_alloc, World.cell?_drew, World.frozen?_drew, Bool.not_true, Bool.not_false, Int.toNat_zero, dec_t, dec_f, int_eq_t, int_eq_f, int_ne_t, int_ne_f, wrap_in, kblss3, kld9, kia26, kld33, kbneq3, klen26, hlen26, kfa33_0, kbs26_1_0, kbadd3, kbgeq3, kbeql9, kbx33, kblss9, kbs26_0, ksl26_010z, ksl26_010, ksl26_100z, ksl26_100]
          exact ⟨q7, F7, o7, f7, q7⟩
        · obtain ⟨A', cap, F', w6, p6, o6, q6, f6, k6⟩ := step1 _ _ o0b qab s5
          refine appK p6 ?_
          obtain ⟨A7, c7, F7, w7, p7, o7, f7, q7⟩ := push2 w6 A' cap F' (wd.heap.size + 1) o6 q6 f6 (by rw [(k6 _ l0 (by omega)).1]; exact b0)
          simp (maxSteps := 1000000) (disch := omega) only [hid1', hid2', guardK_u, takeG_u, wrap_in64, optK_some', fzK_false', nilK_ptr, brK_true', brK_false', guardK_tt', guardK_ff', guardK_tf', guardK_ft', takeG_tt', takeG_ff', takeG_tf', takeG_ft', pickK_t', pickK_f', pickT_t', pickT_f', notK, extract2_0', extract2_1', extract3_0', extract3_1', extract3_2', here_load, here_fieldAt, here_indexAt, here_extract, here_un, here_conv, here_slice, here_bin, here_nil, and_here, true_and, Nat.zero_add, Nat.add_assoc, Nat.add_zero, Int.toNat_natCast, size_alloc, World.cell?_drew, World.frozen?_drew, Bool.not_true, Bool.not_false, Int.toNat_zero, dec_t, dec_f, int_eq_t, int_eq_f, int_ne_t, int_ne_f, wrap_in, kblss3, kld9, kia26, kld33, kbneq3, klen26, hlen26, kfa33_0, kbs26_1_0, kbadd3, kbgeq3, kbeql9, kbx33, kblss9, kbs26_0, ksl26_010z, ksl26_010, ksl26_100z, ksl26_100]
          refine ⟨q6, appK p7 ?_, trivial⟩
          simp (maxSteps := 1000000) (disch := omega) only [hid1', hid2', guardK_u, takeG_u, wrap_in64, optK_some', fzK_false', nilK_ptr, brK_true', brK_false', guardK_tt', guardK_ff', guardK_tf', guardK_ft', takeG_tt', takeG_ff', takeG_tf', takeG_ft', pickK_t', pickK_f', pickT_t', pickT_f', notK, extract2_0', extract2_1', extract3_0', extract3_1', extract3_2', here_load, here_fieldAt, here_indexAt, here_extract, here_un, here_conv, here_slice, here_bin, here_nil, and_here, true_and, Nat.zero_add, Nat.add_assoc, Nat.add_zero, Int.toNat_natCast, size_alloc, World.cell?_drew, World.frozen?_drew, Bool.not_true, Bool.not_false, Int.toNat_zero, dec_t, dec_f, int_eq_t, int_eq_f, int_ne_t, int_ne_f, wrap_in, kblss3, kld9, kia26, kld33, kbneq3, klen26, hlen26, kfa33_0, kbs26_1_0, kbadd3, kbgeq3, kbeql9, kbx33, kblss9, kbs26_0, ksl26_010z, ksl26_010, ksl26_100z, ksl26_100]
          exact ⟨q7, F7, o7, f7, q7⟩
        · obtain ⟨A', cap, F', w6, p6, o6, q6, f6, k6⟩ := step1 _ _ o1 qba (by omega)
          refine appK p6 ?_
          obtain ⟨A7, c7, F7, w7, p7, o7, f7, q7⟩ := push2 w6 A' cap F' wd.heap.size o6 q6 f6 (by rw [(k6 _ l1 (by omega)).1]; exact b1)
          simp (maxSteps := 1000000) (disch := omega) only [hid1', hid2', guardK_u, takeG_u, wrap_in64, optK_some', fzK_false', nilK_ptr, brK_true', brK_false', guardK_tt', guardK_ff', guardK_tf', guardK_ft', takeG_tt', takeG_ff', takeG_tf', takeG_ft', pickK_t', pickK_f', pickT_t', pickT_f', notK, extract2_0', extract2_1', extract3_0', extract3_1', extract3_2', here_load, here_fieldAt, here_indexAt, here_extract, here_un, here_conv, here_slice, here_bin, here_nil, and_here, true_and, Nat.zero_add, Nat.add_assoc, Nat.add_zero, Int.toNat_natCast, size_alloc, World.cell?_drew, World.frozen?_drew, Bool.not_true, Bool.not_false, Int.toNat_zero, dec_t, dec_f, int_eq_t, int_eq_f, int_ne_t, int_ne_f, wrap_in, kblss3, kld9, kia26, kld33, kbneq3, klen26, hlen26, kfa33_0, kbs26_1_0, kbadd3, kbgeq3, kbeql9, kbx33, kblss9, kbs26_0, ksl26_010z, ksl26_010, ksl26_100z, ksl26_100]
          refine ⟨q6, appK p7 ?_, trivial⟩
          simp (maxSteps := 1000000) (disch := omega) only [hid1', hid2', guardK_u, takeG_u, wrap_in64, optK_some', fzK_false', nilK_ptr, brK_true', brK_false', guardK_tt', guardK_ff', guardK_tf', guardK_ft', takeG_tt', takeG_ff', takeG_tf', takeG_ft', pickK_t', pickK_f', pickT_t', pickT_f', notK, extract2_0', extract2_1', extract3_0', extract3_1', extract3_2', here_load, here_fieldAt, here_indexAt, here_extract, here_un, here_conv, here_slice, here_bin, here_nil, and_here, true_and, Nat.zero_add, Nat.add_assoc, Nat.add_zero, Int.toNat_natCast, size_alloc, World.cell?_drew, World.frozen?_drew, Bool.not_true, Bool.not_false, Int.toNat_zero, dec_t, dec_f, int_eq_t, int_eq_f, int_ne_t, int_ne_f, wrap_in, kblss3, kld9, kia26, kld33, kbneq3, klen26, hlen26, kfa33_0, kbs26_1_0, kbadd3, kbgeq3, kbeql9, kbx33, kblss9, kbs26_0, ksl26_010z, ksl26_010, ksl26_100z, ksl26_100]
          exact ⟨q7, F7, o7, f7, q7⟩
      rintro _ v w6 ⟨F6, o6, hF6, q6⟩
      obtain ⟨A6, c6, rfl, _, _⟩ := o6.shape
      refine cutK1 (fun v w' => v = .int .i64 ((i : Int) + 1 : Int) ∧ w' = w6) ?_ ?_
      · simp (maxSteps := 1000000) (disch := omega) only [hid1', hid2', guardK_u, takeG_u, wrap_in64, optK_some', fzK_false', nilK_ptr, brK_true', brK_false', guardK_tt', guardK_ff', guardK_tf', guardK_ft', takeG_tt', takeG_ff', takeG_tf', takeG_ft', pickK_t', pickK_f', pickT_t', pickT_f', notK, extract2_0', extract2_1', extract3_0', extract3_1', extract3_2', here_load, here_fieldAt, here_indexAt, here_extract, here_un, here_conv, here_slice, here_bin, here_nil, and_here, true_and, Nat.zero_add, Nat.add_assoc, Nat.add_zero, Int.toNat_natCast, size_alloc, World.cell?_drew, World.frozen?_drew, Bool.not_true, Bool.not_false, Int.toNat_zero, dec_t, dec_f, int_eq_t, int_eq_f, int_ne_t, int_ne_f, wrap_in, kblss3, kld9, kia26, kld33, kbneq3, klen26, hlen26, kfa33_0, kbs26_1_0, kbadd3, kbgeq3, kbeql9, kbx33, kblss9, kbs26_0, ksl26_010z, ksl26_010, ksl26_100z, ksl26_100]
        exact ⟨rfl, rfl⟩
      rintro _ _ w7 ⟨rfl, hw⟩
      obtain rfl : w7 = w6 := hw
      simp (maxSteps := 1000000) (disch := omega) only [hid1', hid2', guardK_u, takeG_u, wrap_in64, optK_some', fzK_false', nilK_ptr, brK_true', brK_false', guardK_tt', guardK_ff', guardK_tf', guardK_ft', takeG_tt', takeG_ff', takeG_tf', takeG_ft', pickK_t', pickK_f', pickT_t', pickT_f', notK, extract2_0', extract2_1', extract3_0', extract3_1', extract3_2', here_load, here_fieldAt, here_indexAt, here_extract, here_un, here_conv, here_slice, here_bin, here_nil, and_here, true_and, Nat.zero_add, Nat.add_assoc, Nat.add_zero, Int.toNat_natCast, size_alloc, World.cell?_drew, World.frozen?_drew, Bool.not_true, Bool.not_false, Int.toNat_zero, dec_t, dec_f, int_eq_t, int_eq_f, int_ne_t, int_ne_f, wrap_in, kblss3, kld9, kia26, kld33, kbneq3, klen26, hlen26, kfa33_0, kbs26_1_0, kbadd3, kbgeq3, kbeql9, kbx33, kblss9, kbs26_0, ksl26_010z, ksl26_010, ksl26_100z, ksl26_100, show ((i : Int) + 1).toNat = i + 1 by omega]
      obtain ⟨A8, c8, F8, w8, p8, o8, k8, f8⟩ := app_run (P := Tryd.prog) tyN o6 (if c = i + 1 then some ⟨b, o, none⟩ else some ⟨b, o + (i + 1) * 3, none⟩) (m.length - (i + 1)) (c - (i + 1)) (rowE (m.drop (i + 1))) (by rw [rowE_len, List.length_drop]) (reads_drop3 (r2.quiet q6) hc (i + 1) (by omega)) (rowE_one _) (by omega) (by omega) 26
      refine appK p8 ?_
      simp (maxSteps := 1000000) (disch := omega) only [hid1', hid2', guardK_u, takeG_u, wrap_in64, optK_some', fzK_false', nilK_ptr, brK_true', brK_false', guardK_tt', guardK_ff', guardK_tf', guardK_ft', takeG_tt', takeG_ff', takeG_tf', takeG_ft', pickK_t', pickK_f', pickT_t', pickT_f', notK, extract2_0', extract2_1', extract3_0', extract3_1', extract3_2', here_load, here_fieldAt, here_indexAt, here_extract, here_un, here_conv, here_slice, here_bin, here_nil, and_here, true_and, Nat.zero_add, Nat.add_assoc, Nat.add_zero, Int.toNat_natCast, size_alloc, World.cell?_drew, World.frozen?_drew, Bool.not_true, Bool.not_false, Int.toNat_zero, dec_t, dec_f, int_eq_t, int_eq_f, int_ne_t, int_ne_f, wrap_in, kblss3, kld9, kia26, kld33, kbneq3, klen26, hlen26, kfa33_0, kbs26_1_0, kbadd3, kbgeq3, kbeql9, kbx33, kblss9, kbs26_0, ksl26_010z, ksl26_010, ksl26_100z, ksl26_100]
      have q8 : Qt w2 w8 := Qt.then q6 k8 hF6
      have er : rowE (m.take i) ++ cellE e ++ rowE (m.drop (i + 1)) = rowE (putM SE.lt m e.1 e) := by
        rw [put_split, hpos, hf, if_pos rfl, rowE_app, rowE_app]; unfold rowE; simp
      have el : (putM SE.lt m e.1 e).length = i + 1 + (m.length - (i + 1)) := by
        rw [put_split, hpos, hf, if_pos rfl, List.length_append, List.length_append, List.length_take, List.length_drop]; simp; omega
      rw [er, ← el] at o8
      rw [show i + (1 + (m.length - (i + 1))) = (putM SE.lt m e.1 e).length by omega]
      have sh8 := o8.shape
      refine hK A8 c8 w8 (reads_own o8) ?_ ?_ (q02.trans q8) ?_
      · show (putM SE.lt m e.1 e).length ≤ c8
        obtain ⟨_, _, ee, h, _⟩ := sh8
        injection ee with _ _ ee
        omega
      · rcases own_cases o8 with ⟨h1, _, h2, _⟩ | ⟨g8, h1, _⟩
        · exact .inl ⟨h1, h2⟩
        · exact .inr ⟨g8, 0, h1⟩
      · intro ad had
        right
        rcases own_cases o8 with ⟨h1, _⟩ | ⟨g8, h1, h2, _⟩
        · rw [h1] at had; cases had
        · rw [h1] at had; cases had
          show bx ≤ g8
          have := q02.size
          rcases f8 _ h2 with h | h
          · have := hF6 _ h; omega
          · have := q6.size; omega
  | false =>
    rw [hf, if_neg (by rintro ⟨h, _⟩; cases h)] at hK
    simp (maxSteps := 1000000) (disch := omega) only [hid1', hid2', guardK_u, takeG_u, wrap_in64, optK_some', fzK_false', nilK_ptr, brK_true', brK_false', guardK_tt', guardK_ff', guardK_tf', guardK_ft', takeG_tt', takeG_ff', takeG_tf', takeG_ft', pickK_t', pickK_f', pickT_t', pickT_f', notK, extract2_0', extract2_1', extract3_0', extract3_1', extract3_2', here_load, here_fieldAt, here_indexAt, here_extract, here_un, here_conv, here_slice, here_bin, here_nil, and_here, true_and, Nat.zero_add, Nat.add_assoc, Nat.add_zero, Int.toNat_natCast, size_alloc, World.cell?_drew, World.frozen?_drew, Bool.not_true, Bool.not_false, Int.toNat_zero, dec_t, dec_f, int_eq_t, int_eq_f, int_ne_t, int_ne_f, wrap_in, kblss3, kld9, kia26, kld33, kbneq3, klen26, hlen26, kfa33_0, kbs26_1_0, kbadd3, kbgeq3, kbeql9, kbx33, kblss9, kbs26_0, ksl26_010z, ksl26_010, ksl26_100z, ksl26_100, guardK_u, takeG_u]
    refine ⟨⟨q4d, ?_⟩, trivial⟩
    by_cases h64 : 64 ≤ m.length
    · rw [if_pos ⟨rfl, h64⟩] at hK
      refine cutK0 (fun _ => False) ?_ ?_
      · simp (maxSteps := 1000000) (disch := omega) only [hid1', hid2', guardK_u, takeG_u, wrap_in64, optK_some', fzK_false', nilK_ptr, brK_true', brK_false', guardK_tt', guardK_ff', guardK_tf', guardK_ft', takeG_tt', takeG_ff', takeG_tf', takeG_ft', pickK_t', pickK_f', pickT_t', pickT_f', notK, extract2_0', extract2_1', extract3_0', extract3_1', extract3_2', here_load, here_fieldAt, here_indexAt, here_extract, here_un, here_conv, here_slice, here_bin, here_nil, and_here, true_and, Nat.zero_add, Nat.add_assoc, Nat.add_zero, Int.toNat_natCast, size_alloc, World.cell?_drew, World.frozen?_drew, Bool.not_true, Bool.not_false, Int.toNat_zero, dec_t, dec_f, int_eq_t, int_eq_f, int_ne_t, int_ne_f, wrap_in, kblss3, kld9, kia26, kld33, kbneq3, klen26, hlen26, kfa33_0, kbs26_1_0, kbadd3, kbgeq3, kbeql9, kbx33, kblss9, kbs26_0, ksl26_010z, ksl26_010, ksl26_100z, ksl26_100, guardK_u]
        exact hK A c w4.drew (r2.quiet q4d) hc hA (q02.trans q4d) (fun _ h => .inl ⟨h, rfl⟩)
      · rintro _ _ h; exact h.elim
    rw [if_neg (by rintro ⟨_, h⟩; exact h64 h)] at hK
    rcases hA with ⟨rfl, rfl⟩ | ⟨b, o, rfl⟩
    · obtain rfl : m = [] := List.eq_nil_of_length_eq_zero (by omega)
      obtain rfl : i = 0 := by simpa using hple
      have e00 : ((0 : Nat) : Int) = 0 := rfl
      refine cutK0 (fun w' => Qt w2 w') ?_ ?_
      · simp (maxSteps := 1000000) (disch := omega) only [hid1', hid2', guardK_u, takeG_u, wrap_in64, optK_some', fzK_false', nilK_ptr, brK_true', brK_false', guardK_tt', guardK_ff', guardK_tf', guardK_ft', takeG_tt', takeG_ff', takeG_tf', takeG_ft', pickK_t', pickK_f', pickT_t', pickT_f', notK, extract2_0', extract2_1', extract3_0', extract3_1', extract3_2', here_load, here_fieldAt, here_indexAt, here_extract, here_un, here_conv, here_slice, here_bin, here_nil, and_here, true_and, Nat.zero_add, Nat.add_assoc, Nat.add_zero, Int.toNat_natCast, size_alloc, World.cell?_drew, World.frozen?_drew, Bool.not_true, Bool.not_false, Int.toNat_zero, dec_t, dec_f, int_eq_t, int_eq_f, int_ne_t, int_ne_f, wrap_in, kblss3, kld9, kia26, kld33, kbneq3, klen26, hlen26, kfa33_0, kbs26_1_0, kbadd3, kbgeq3, kbeql9, kbx33, kblss9, kbs26_0, ksl26_010z, ksl26_010, ksl26_100z, ksl26_100, guardK_u]
        exact q4d
      rintro _ w5 q5
      have kd5 : Qt w5 w5.drew := Qt.drew Qt.refl
      have q5d := q5.trans kd5
      refine cutK1 (fun v w' => ∃ F6, Own w' 33 3 v (0 + 1) (rowE (([] : EM).take 0) ++ cellE e) F6 ∧ (∀ k, F6 = some k → w2.heap.size ≤ k) ∧ Qt w2 w') ?_ ?_
      · refine drawK_by (fun w' => Qt w2 w') q5d ?_
        refine take_slice (.slice none 0 0) (fun w' _ => by exact sl_z _ _ ⟨rfl, rfl⟩) ?_
        refine take_load (SE.ev e) (fun w' hq => by obtain ⟨h0, h1, h2⟩ := X w' hq; (simp (maxSteps := 1000000) (disch := omega) only [hid1', hid2', guardK_u, takeG_u, wrap_in64, optK_some', fzK_false', nilK_ptr, brK_true', brK_false', guardK_tt', guardK_ff', guardK_tf', guardK_ft', takeG_tt', takeG_ff', takeG_tf', takeG_ft', pickK_t', pickK_f', pickT_t', pickT_f', notK, extract2_0', extract2_1', extract3_0', extract3_1', extract3_2', here_load, here_fieldAt, here_indexAt, here_extract, here_un, here_conv, here_slice, here_bin, here_nil, and_here, true_and, Nat.zero_add, Nat.add_assoc, Nat.add_zero, Int.toNat_natCast, size_alloc, World.cell?_drew, World.frozen?_drew, Bool.not_true, Bool.not_false, Int.toNat_zero, dec_t, dec_f, int_eq_t, int_eq_f, int_ne_t, int_ne_f, wrap_in, kblss3, kld9, kia26, kld33, kbneq3, klen26, hlen26, kfa33_0, kbs26_1_0, kbadd3, kbgeq3, kbeql9, kbx33, kblss9, kbs26_0, ksl26_010z, ksl26_010, ksl26_100z, ksl26_100, h0, h1, h2]; try (exact ⟨trivial, trivial⟩))) ?_
        have rT := fun w' (q : Qt w2 w') => reads_take3 (r2.quiet q) 0
        have s5 := q5d.size
        generalize w5.drew = wd at *
        have step1 : ∀ (w' : World) (bb : Nat), Own w' 33 3 (.slice (some ⟨bb, 0, none⟩) 0 0) 0 [] (some bb) → Qt w2 w' → w2.heap.size ≤ bb → ∃ A' cap F' w'', (Builtin.append_ #[26, 26] 26 #[.slice (some ⟨bb, 0, none⟩) 0 0, .slice none 0 0]).run Tryd.prog w' = .ok (.slice A' 0 cap) w'' ∧ Own w'' 33 3 (.slice A' 0 cap) 0 (rowE (([] : EM).take 0)) F' ∧ Qt w2 w'' ∧ (∀ k, F' = some k → w2.heap.size ≤ k) ∧ (∀ k, k < w'.heap.size → k ≠ bb → w''.heap[k]? = w'.heap[k]? ∧ F' ≠ some k) := by
          intro w' bb oo q hb
          obtain ⟨A', cap, F', w'', p, o', k, f⟩ := app_run (P := Tryd.prog) tyN oo none 0 0 (rowE (([] : EM).take 0)) (by rw [rowE_len, List.length_take]; omega) (rT w' q) (rowE_one _) (by omega) (by omega) 26
          rw [Nat.zero_add] at p o'
          rw [List.nil_append] at o'
          refine ⟨A', cap, F', w'', p, o', Qt.then q k (fun j hj => by cases hj; exact hb), fun j hj => ?_, fun j hj hne => ⟨k.block j hj (fun h => by cases h; exact hne rfl), fun h => ?_⟩⟩
          · rcases f j hj with h | h
            · cases h; exact hb
            · have := q.size; omega
          · rcases f j h with h | h
            · cases h; exact hne rfl
            · omega
        have z0 : ∀ w', Qt w' (w'.alloc (.cells #[] 33)) := fun w' => Chg.alloc Qt.refl _
        have z1 : ∀ w', Qt w' (w'.alloc (.cells #[.string e.1, .int .i64 e.2.1, .int .i64 e.2.2] 33)) := fun w' => Chg.alloc Qt.refl _
        have qa := q5d.trans (z0 wd)
        have qab := qa.trans (z1 _)
        have qb := q5d.trans (z1 wd)
        have qba := qb.trans (z0 _)
        have push2 : ∀ (w' : World) (A' : Option Addr) (cap : Nat) (F' : Option Nat) (b1 : Nat), Own w' 33 3 (.slice A' 0 cap) 0 (rowE (([] : EM).take 0)) F' → Qt w2 w' → (∀ k, F' = some k → w2.heap.size ≤ k) → w'.heap[b1]? = some (.cells #[.string e.1, .int .i64 e.2.1, .int .i64 e.2.2] 33 (0, 0)) → ∃ A6 c6 F6 w6, (Builtin.append_ #[26, 26] 26 #[.slice A' 0 cap, .slice (some ⟨b1, 0, none⟩) 1 1]).run Tryd.prog w' = .ok (.slice A6 (0 + 1) c6) w6 ∧ Own w6 33 3 (.slice A6 (0 + 1) c6) (0 + 1) (rowE (([] : EM).take 0) ++ cellE e) F6 ∧ (∀ k, F6 = some k → w2.heap.size ≤ k) ∧ Qt w2 w6 := by
          intro w' A' cap F' b1 o q hF hb1
          obtain ⟨A6, c6, F6, w6, p, o6, k, f⟩ := app_run (P := Tryd.prog) tyN o (some ⟨b1, 0, none⟩) 1 1 (cellE e) rfl (src_blk hb1) (cellE_one e) (by omega) (by omega) 26
          refine ⟨A6, c6, F6, w6, p, o6, fun j hj => ?_, Qt.then q k hF⟩
          rcases f j hj with h | h
          · exact hF j h
          · have := q.size; omega
        have hz0 : (wd.alloc (.cells #[] 33)).heap.size = wd.heap.size + 1 := size_alloc _ _
        have hz1 : (wd.alloc (.cells #[.string e.1, .int .i64 e.2.1, .int .i64 e.2.2] 33)).heap.size = wd.heap.size + 1 := size_alloc _ _
        have o0 := own_empty wd 33 3
        have o1 := own_empty (wd.alloc (.cells #[.string e.1, .int .i64 e.2.1, .int .i64 e.2.2] 33)) 33 3
        have b0 : ((wd.alloc (.cells #[] 33)).alloc (.cells #[.string e.1, .int .i64 e.2.1, .int .i64 e.2.2] 33)).heap[wd.heap.size + 1]? = some (.cells #[.string e.1, .int .i64 e.2.1, .int .i64 e.2.2] 33 (0, 0)) := by rw [← hz0]; exact blk_new _ _
        have b1 : ((wd.alloc (.cells #[.string e.1, .int .i64 e.2.1, .int .i64 e.2.2] 33)).alloc (.cells #[] 33)).heap[wd.heap.size]? = some (.cells #[.string e.1, .int .i64 e.2.1, .int .i64 e.2.2] 33 (0, 0)) := (z0 _).heap (blk_new _ _) (fun h => h)
        rw [hz1] at o1
        have o0b := o0.chg (z1 _) (fun _ _ h => h)
        have l0 := blk_lt b0
        have l1 := blk_lt b1
        simp (maxSteps := 1000000) (disch := omega) only [hid1', hid2', guardK_u, takeG_u, wrap_in64, optK_some', fzK_false', nilK_ptr, brK_true', brK_false', guardK_tt', guardK_ff', guardK_tf', guardK_ft', takeG_tt', takeG_ff', takeG_tf', takeG_ft', pickK_t', pickK_f', pickT_t', pickT_f', notK, extract2_0', extract2_1', extract3_0', extract3_1', extract3_2', here_load, here_fieldAt, here_indexAt, here_extract, here_un, here_conv, here_slice, here_bin, here_nil, and_here, true_and, Nat.zero_add, Nat.add_assoc, Nat.add_zero, Int.toNat_natCast, size_alloc, World.cell?_drew, World.frozen?_drew, Bool.not_true, Bool.not_false, Int.toNat_zero, dec_t, dec_f, int_eq_t, int_eq_f, int_ne_t, int_ne_f, wrap_in, kblss3, kld9, kia26, kld33, kbneq3, klen26, hlen26, kfa33_0, kbs26_1_0, kbadd3, kbgeq3, kbeql9, kbx33, kblss9, kbs26_0, ksl26_010z, ksl26_010, ksl26_100z, ksl26_100]
        repeat' (first | with_reducible exact qa | with_reducible exact qab | with_reducible exact qb | with_reducible exact qba | with_reducible exact trivial | with_reducible apply And.intro)
        · obtain ⟨A', cap, F', w6, p6, o6, q6, f6, _⟩ := step1 _ _ o0 qa s5
          refine appK p6 ?_
          obtain ⟨A7, c7, F7, w7, p7, o7, f7, q7⟩ := push2 (w6.alloc (.cells #[.string e.1, .int .i64 e.2.1, .int .i64 e.2.2] 33)) A' cap F' w6.heap.size (o6.chg (z1 _) (fun _ _ h => h)) (q6.trans (z1 _)) f6 (blk_new _ _)
          simp (maxSteps := 1000000) (disch := omega) only [hid1', hid2', guardK_u, takeG_u, wrap_in64, optK_some', fzK_false', nilK_ptr, brK_true', brK_false', guardK_tt', guardK_ff', guardK_tf', guardK_ft', takeG_tt', takeG_ff', takeG_tf', takeG_ft', pickK_t', pickK_f', pickT_t', pickT_f', notK, extract2_0', extract2_1', extract3_0', extract3_1', extract3_2', here_load, here_fieldAt, here_indexAt, here_extract, here_un, here_conv, here_slice, here_bin, here_nil, and_here, true_and, Nat.zero_add, Nat.add_assoc, Nat.add_zero, Int.toNat_natCast, size_alloc, World.cell?_drew, World.frozen?_drew, Bool.not_true, Bool.not_false, Int.toNat_zero, dec_t, dec_f, int_eq_t, int_eq_f, int_ne_t, int_ne_f, wrap_in, kblss3, kld9, kia26, kld33, kbneq3, klen26, hlen26, kfa33_0, kbs26_1_0, kbadd3, kbgeq3, kbeql9, kbx33, kblss9, kbs26_0, ksl26_010z, ksl26_010, ksl26_100z, ksl26_100]
          refine ⟨q6, ⟨q6.trans (z1 _), appK p7 ?_, trivial⟩, trivial⟩
          simp (maxSteps := 1000000) (disch := omega) only [hid1', hid2', guardK_u, takeG_u, wrap_in64, optK_some', fzK_false', nilK_ptr, brK_true', brK_false', guardK_tt', guardK_ff', guardK_tf', guardK_ft', takeG_tt', takeG_ff', takeG_tf', takeG_ft', pickK_t', pickK_f', pickT_t', pickT_f', notK, extract2_0', extract2_1', extract3_0', extract3_1', extract3_2', here_load, here_fieldAt, here_indexAt, here_extract, here_un, here_conv, here_slice, here_bin, here_nil, and_here, true_and, Nat.zero_add, Nat.add_assoc, Nat.add_zero, Int.toNat_natCast, size_alloc, World.cell?_drew, World.frozen?_drew, Bool.not_true, Bool.not_false, Int.toNat_zero, dec_t, dec_f, int_eq_t, int_eq_f, int_ne_t, int_ne_f, wrap_in, kblss3, kld9, kia26, kld33, kbneq3, klen26, hlen26, kfa33_0, kbs26_1_0, kbadd3, kbgeq3, kbeql9, kbx33, kblss9, kbs26_0, ksl26_010z, ksl26_010, ksl26_100z, ksl26_100]
          exact ⟨q7, F7, o7, f7, q7⟩
        · obtain ⟨A', cap, F', w6, p6, o6, q6, f6, k6⟩ := step1 _ _ o0b qab s5
          refine appK p6 ?_
          obtain ⟨A7, c7, F7, w7, p7, o7, f7, q7⟩ := push2 w6 A' cap F' (wd.heap.size + 1) o6 q6 f6 (by rw [(k6 _ l0 (by omega)).1]; exact b0)
          simp (maxSteps := 1000000) (disch := omega) only [hid1', hid2', guardK_u, takeG_u, wrap_in64, optK_some', fzK_false', nilK_ptr, brK_true', brK_false', guardK_tt', guardK_ff', guardK_tf', guardK_ft', takeG_tt', takeG_ff', takeG_tf', takeG_ft', pickK_t', pickK_f', pickT_t', pickT_f', notK, extract2_0', extract2_1', extract3_0', extract3_1', extract3_2', here_load, here_fieldAt, here_indexAt, here_extract, here_un, here_conv, here_slice, here_bin, here_nil, and_here, true_and, Nat.zero_add, Nat.add_assoc, Nat.add_zero, Int.toNat_natCast, size_alloc, World.cell?_drew, World.frozen?_drew, Bool.not_true, Bool.not_false, Int.toNat_zero, dec_t, dec_f, int_eq_t, int_eq_f, int_ne_t, int_ne_f, wrap_in, kblss3, kld9, kia26, kld33, kbneq3, klen26, hlen26, kfa33_0, kbs26_1_0, kbadd3, kbgeq3, kbeql9, kbx33, kblss9, kbs26_0, ksl26_010z, ksl26_010, ksl26_100z, ksl26_100]
          refine ⟨q6, appK p7 ?_, trivial⟩
          simp (maxSteps := 1000000) (disch := omega) only [hid1', hid2', guardK_u, takeG_u, wrap_in64, optK_some', fzK_false', nilK_ptr, brK_true', brK_false', guardK_tt', guardK_ff', guardK_tf', guardK_ft', takeG_tt', takeG_ff', takeG_tf', takeG_ft', pickK_t', pickK_f', pickT_t', pickT_f', notK, extract2_0', extract2_1', extract3_0', extract3_1', extract3_2', here_load, here_fieldAt, here_indexAt, here_extract, here_un, here_conv, here_slice, here_bin, here_nil, and_here, true_and, Nat.zero_add, Nat.add_assoc, Nat.add_zero, Int.toNat_natCast, size_alloc, World.cell?_drew, World.frozen?_drew, Bool.not_true, Bool.not_false, Int.toNat_zero, dec_t, dec_f, int_eq_t, int_eq_f, int_ne_t, int_ne_f, wrap_in, kblss3, kld9, kia26, kld33, kbneq3, klen26, hlen26, kfa33_0, kbs26_1_0, kbadd3, kbgeq3, kbeql9, kbx33, kblss9, kbs26_0, ksl26_010z, ksl26_010, ksl26_100z, ksl26_100]
          exact ⟨q7, F7, o7, f7, q7⟩
        · obtain ⟨A', cap, F', w6, p6, o6, q6, f6, k6⟩ := step1 _ _ o1 qba (by omega)
          refine appK p6 ?_
          obtain ⟨A7, c7, F7, w7, p7, o7, f7, q7⟩ := push2 w6 A' cap F' wd.heap.size o6 q6 f6 (by rw [(k6 _ l1 (by omega)).1]; exact b1)
          simp (maxSteps := 1000000) (disch := omega) only [hid1', hid2', guardK_u, takeG_u, wrap_in64, optK_some', fzK_false', nilK_ptr, brK_true', brK_false', guardK_tt', guardK_ff', guardK_tf', guardK_ft', takeG_tt', takeG_ff', takeG_tf', takeG_ft', pickK_t', pickK_f', pickT_t', pickT_f', notK, extract2_0', extract2_1', extract3_0', extract3_1', extract3_2', here_load, here_fieldAt, here_indexAt, here_extract, here_un, here_conv, here_slice, here_bin, here_nil, and_here, true_and, Nat.zero_add, Nat.add_assoc, Nat.add_zero, Int.toNat_natCast, size_alloc, World.cell?_drew, World.frozen?_drew, Bool.not_true, Bool.not_false, Int.toNat_zero, dec_t, dec_f, int_eq_t, int_eq_f, int_ne_t, int_ne_f, wrap_in, kblss3, kld9, kia26, kld33, kbneq3, klen26, hlen26, kfa33_0, kbs26_1_0, kbadd3, kbgeq3, kbeql9, kbx33, kblss9, kbs26_0, ksl26_010z, ksl26_010, ksl26_100z, ksl26_100]
          refine ⟨q6, appK p7 ?_, trivial⟩
          simp (maxSteps := 1000000) (disch := omega) only [hid1', hid2', guardK_u, takeG_u, wrap_in64, optK_some', fzK_false', nilK_ptr, brK_true', brK_false', guardK_tt', guardK_ff', guardK_tf', guardK_ft', takeG_tt', takeG_ff', takeG_tf', takeG_ft', pickK_t', pickK_f', pickT_t', pickT_f', notK, extract2_0', extract2_1', extract3_0', extract3_1', extract3_2', here_load, here_fieldAt, here_indexAt, here_extract, here_un, here_conv, here_slice, here_bin, here_nil, and_here, true_and, Nat.zero_add, Nat.add_assoc, Nat.add_zero, Int.toNat_natCast, size_alloc, World.cell?_drew, World.frozen?_drew, Bool.not_true, Bool.not_false, Int.toNat_zero, dec_t, dec_f, int_eq_t, int_eq_f, int_ne_t, int_ne_f, wrap_in, kblss3, kld9, kia26, kld33, kbneq3, klen26, hlen26, kfa33_0, kbs26_1_0, kbadd3, kbgeq3, kbeql9, kbx33, kblss9, kbs26_0, ksl26_010z, ksl26_010, ksl26_100z, ksl26_100]
          exact ⟨q7, F7, o7, f7, q7⟩
      rintro _ v w6 ⟨F6, o6, hF6, q6⟩
      obtain ⟨A6, c6, rfl, _, _⟩ := o6.shape
      refine cutK1 (fun v w' => v = .int .i64 (0 : Int) ∧ w' = w6) ?_ ?_
      · simp (maxSteps := 1000000) (disch := omega) only [hid1', hid2', guardK_u, takeG_u, wrap_in64, optK_some', fzK_false', nilK_ptr, brK_true', brK_false', guardK_tt', guardK_ff', guardK_tf', guardK_ft', takeG_tt', takeG_ff', takeG_tf', takeG_ft', pickK_t', pickK_f', pickT_t', pickT_f', notK, extract2_0', extract2_1', extract3_0', extract3_1', extract3_2', here_load, here_fieldAt, here_indexAt, here_extract, here_un, here_conv, here_slice, here_bin, here_nil, and_here, true_and, Nat.zero_add, Nat.add_assoc, Nat.add_zero, Int.toNat_natCast, size_alloc, World.cell?_drew, World.frozen?_drew, Bool.not_true, Bool.not_false, Int.toNat_zero, dec_t, dec_f, int_eq_t, int_eq_f, int_ne_t, int_ne_f, wrap_in, kblss3, kld9, kia26, kld33, kbneq3, klen26, hlen26, kfa33_0, kbs26_1_0, kbadd3, kbgeq3, kbeql9, kbx33, kblss9, kbs26_0, ksl26_010z, ksl26_010, ksl26_100z, ksl26_100]
        exact ⟨rfl, rfl⟩
      rintro _ _ w7 ⟨rfl, hw⟩
      obtain rfl : w7 = w6 := hw
      refine sl_n _ _ ?_
      simp (maxSteps := 1000000) (disch := omega) only [hid1', hid2', guardK_u, takeG_u, wrap_in64, optK_some', fzK_false', nilK_ptr, brK_true', brK_false', guardK_tt', guardK_ff', guardK_tf', guardK_ft', takeG_tt', takeG_ff', takeG_tf', takeG_ft', pickK_t', pickK_f', pickT_t', pickT_f', notK, extract2_0', extract2_1', extract3_0', extract3_1', extract3_2', here_load, here_fieldAt, here_indexAt, here_extract, here_un, here_conv, here_slice, here_bin, here_nil, and_here, true_and, Nat.zero_add, Nat.add_assoc, Nat.add_zero, Int.toNat_natCast, size_alloc, World.cell?_drew, World.frozen?_drew, Bool.not_true, Bool.not_false, Int.toNat_zero, dec_t, dec_f, int_eq_t, int_eq_f, int_ne_t, int_ne_f, wrap_in, kblss3, kld9, kia26, kld33, kbneq3, klen26, hlen26, kfa33_0, kbs26_1_0, kbadd3, kbgeq3, kbeql9, kbx33, kblss9, kbs26_0, ksl26_010z, ksl26_010, ksl26_100z, ksl26_100]
      obtain ⟨A8, c8, F8, w8, p8, o8, k8, f8⟩ := app_run (P := Tryd.prog) tyN o6 none (([] : EM).length - (0)) 0 (rowE (([] : EM).drop (0))) (by rw [rowE_len, List.length_drop]) (Src.nil _ _) (rowE_one _) (by omega) (by omega) 26
      refine appK p8 ?_
      simp (maxSteps := 1000000) (disch := omega) only [hid1', hid2', guardK_u, takeG_u, wrap_in64, optK_some', fzK_false', nilK_ptr, brK_true', brK_false', guardK_tt', guardK_ff', guardK_tf', guardK_ft', takeG_tt', takeG_ff', takeG_tf', takeG_ft', pickK_t', pickK_f', pickT_t', pickT_f', notK, extract2_0', extract2_1', extract3_0', extract3_1', extract3_2', here_load, here_fieldAt, here_indexAt, here_extract, here_un, here_conv, here_slice, here_bin, here_nil, and_here, true_and, Nat.zero_add, Nat.add_assoc, Nat.add_zero, Int.toNat_natCast, size_alloc, World.cell?_drew, World.frozen?_drew, Bool.not_true, Bool.not_false, Int.toNat_zero, dec_t, dec_f, int_eq_t, int_eq_f, int_ne_t, int_ne_f, wrap_in, kblss3, kld9, kia26, kld33, kbneq3, klen26, hlen26, kfa33_0, kbs26_1_0, kbadd3, kbgeq3, kbeql9, kbx33, kblss9, kbs26_0, ksl26_010z, ksl26_010, ksl26_100z, ksl26_100]
      have q8 : Qt w2 w8 := Qt.then q6 k8 hF6
      have er : rowE (([] : EM).take 0) ++ cellE e ++ rowE (([] : EM).drop (0)) = rowE (putM SE.lt ([] : EM) e.1 e) := by
        rw [put_split, hpos, hf, if_neg (by decide), rowE_app, rowE_app]; unfold rowE; simp
      have el : (putM SE.lt ([] : EM) e.1 e).length = 0 + 1 + (([] : EM).length - (0)) := by rw [put_split]; simp
      rw [er, ← el] at o8
      rw [show (1 : Nat) = (putM SE.lt ([] : EM) e.1 e).length by rw [el]; rfl]
      have sh8 := o8.shape
      refine hK A8 c8 w8 (reads_own o8) ?_ ?_ (q02.trans q8) ?_
      · show (putM SE.lt ([] : EM) e.1 e).length ≤ c8
        obtain ⟨_, _, ee, h, _⟩ := sh8
        injection ee with _ _ ee
        omega
      · rcases own_cases o8 with ⟨h1, _, h2, _⟩ | ⟨g8, h1, _⟩
        · exact .inl ⟨h1, h2⟩
        · exact .inr ⟨g8, 0, h1⟩
      · intro ad had
        right
        rcases own_cases o8 with ⟨h1, _⟩ | ⟨g8, h1, h2, _⟩
        · rw [h1] at had; cases had
        · rw [h1] at had; cases had
          show bx ≤ g8
          have := q02.size
          rcases f8 _ h2 with h | h
          · have := hF6 _ h; omega
          · have := q6.size; omega
    · skip
      refine cutK0 (fun w' => Qt w2 w') ?_ ?_
      · simp (maxSteps := 1000000) (disch := omega) only [hid1', hid2', guardK_u, takeG_u, wrap_in64, optK_some', fzK_false', nilK_ptr, brK_true', brK_false', guardK_tt', guardK_ff', guardK_tf', guardK_ft', takeG_tt', takeG_ff', takeG_tf', takeG_ft', pickK_t', pickK_f', pickT_t', pickT_f', notK, extract2_0', extract2_1', extract3_0', extract3_1', extract3_2', here_load, here_fieldAt, here_indexAt, here_extract, here_un, here_conv, here_slice, here_bin, here_nil, and_here, true_and, Nat.zero_add, Nat.add_assoc, Nat.add_zero, Int.toNat_natCast, size_alloc, World.cell?_drew, World.frozen?_drew, Bool.not_true, Bool.not_false, Int.toNat_zero, dec_t, dec_f, int_eq_t, int_eq_f, int_ne_t, int_ne_f, wrap_in, kblss3, kld9, kia26, kld33, kbneq3, klen26, hlen26, kfa33_0, kbs26_1_0, kbadd3, kbgeq3, kbeql9, kbx33, kblss9, kbs26_0, ksl26_010z, ksl26_010, ksl26_100z, ksl26_100, guardK_u]
        exact q4d
      rintro _ w5 q5
      have kd5 : Qt w5 w5.drew := Qt.drew Qt.refl
      have q5d := q5.trans kd5
      refine cutK1 (fun v w' => ∃ F6, Own w' 33 3 v (i + 1) (rowE (m.take i) ++ cellE e) F6 ∧ (∀ k, F6 = some k → w2.heap.size ≤ k) ∧ Qt w2 w') ?_ ?_
      · refine drawK_by (fun w' => Qt w2 w') q5d ?_
        refine take_slice (.slice (some ⟨b, o, none⟩) i c) (fun w' _ => by (simp (maxSteps := 1000000) (disch := omega) only [hid1', hid2', guardK_u, takeG_u, wrap_in64, optK_some', fzK_false', nilK_ptr, brK_true', brK_false', guardK_tt', guardK_ff', guardK_tf', guardK_ft', takeG_tt', takeG_ff', takeG_tf', takeG_ft', pickK_t', pickK_f', pickT_t', pickT_f', notK, extract2_0', extract2_1', extract3_0', extract3_1', extract3_2', here_load, here_fieldAt, here_indexAt, here_extract, here_un, here_conv, here_slice, here_bin, here_nil, and_here, true_and, Nat.zero_add, Nat.add_assoc, Nat.add_zero, Int.toNat_natCast, size_alloc, World.cell?_drew, World.frozen?_drew, Bool.not_true, Bool.not_false, Int.toNat_zero, dec_t, dec_f, int_eq_t, int_eq_f, int_ne_t, int_ne_f, wrap_in, kblss3, kld9, kia26, kld33, kbneq3, klen26, hlen26, kfa33_0, kbs26_1_0, kbadd3, kbgeq3, kbeql9, kbx33, kblss9, kbs26_0, ksl26_010z, ksl26_010, ksl26_100z, ksl26_100]; try (exact ⟨trivial, trivial⟩))) ?_
        refine take_load (SE.ev e) (fun w' hq => by obtain ⟨h0, h1, h2⟩ := X w' hq; (simp (maxSteps := 1000000) (disch := omega) only [hid1', hid2', guardK_u, takeG_u, wrap_in64, optK_some', fzK_false', nilK_ptr, brK_true', brK_false', guardK_tt', guardK_ff', guardK_tf', guardK_ft', takeG_tt', takeG_ff', takeG_tf', takeG_ft', pickK_t', pickK_f', pickT_t', pickT_f', notK, extract2_0', extract2_1', extract3_0', extract3_1', extract3_2', here_load, here_fieldAt, here_indexAt, here_extract, here_un, here_conv, here_slice, here_bin, here_nil, and_here, true_and, Nat.zero_add, Nat.add_assoc, Nat.add_zero, Int.toNat_natCast, size_alloc, World.cell?_drew, World.frozen?_drew, Bool.not_true, Bool.not_false, Int.toNat_zero, dec_t, dec_f, int_eq_t, int_eq_f, int_ne_t, int_ne_f, wrap_in, kblss3, kld9, kia26, kld33, kbneq3, klen26, hlen26, kfa33_0, kbs26_1_0, kbadd3, kbgeq3, kbeql9, kbx33, kblss9, kbs26_0, ksl26_010z, ksl26_010, ksl26_100z, ksl26_100, h0, h1, h2]; try (exact ⟨trivial, trivial⟩))) ?_
        have rT := fun w' (q : Qt w2 w') => reads_take3 (r2.quiet q) i
        have s5 := q5d.size
        generalize w5.drew = wd at *
        have step1 : ∀ (w' : World) (bb : Nat), Own w' 33 3 (.slice (some ⟨bb, 0, none⟩) 0 0) 0 [] (some bb) → Qt w2 w' → w2.heap.size ≤ bb → ∃ A' cap F' w'', (Builtin.append_ #[26, 26] 26 #[.slice (some ⟨bb, 0, none⟩) 0 0, .slice (some ⟨b, o, none⟩) i c]).run Tryd.prog w' = .ok (.slice A' i cap) w'' ∧ Own w'' 33 3 (.slice A' i cap) i (rowE (m.take i)) F' ∧ Qt w2 w'' ∧ (∀ k, F' = some k → w2.heap.size ≤ k) ∧ (∀ k, k < w'.heap.size → k ≠ bb → w''.heap[k]? = w'.heap[k]? ∧ F' ≠ some k) := by
          intro w' bb oo q hb
          obtain ⟨A', cap, F', w'', p, o', k, f⟩ := app_run (P := Tryd.prog) tyN oo (some ⟨b, o, none⟩) i c (rowE (m.take i)) (by rw [rowE_len, List.length_take]; omega) (rT w' q) (rowE_one _) (by omega) (by omega) 26
          rw [Nat.zero_add] at p o'
          rw [List.nil_append] at o'
          refine ⟨A', cap, F', w'', p, o', Qt.then q k (fun j hj => by cases hj; exact hb), fun j hj => ?_, fun j hj hne => ⟨k.block j hj (fun h => by cases h; exact hne rfl), fun h => ?_⟩⟩
          · rcases f j hj with h | h
            · cases h; exact hb
            · have := q.size; omega
          · rcases f j h with h | h
            · cases h; exact hne rfl
            · omega
        have z0 : ∀ w', Qt w' (w'.alloc (.cells #[] 33)) := fun w' => Chg.alloc Qt.refl _
        have z1 : ∀ w', Qt w' (w'.alloc (.cells #[.string e.1, .int .i64 e.2.1, .int .i64 e.2.2] 33)) := fun w' => Chg.alloc Qt.refl _
        have qa := q5d.trans (z0 wd)
        have qab := qa.trans (z1 _)
        have qb := q5d.trans (z1 wd)
        have qba := qb.trans (z0 _)
        have push2 : ∀ (w' : World) (A' : Option Addr) (cap : Nat) (F' : Option Nat) (b1 : Nat), Own w' 33 3 (.slice A' i cap) i (rowE (m.take i)) F' → Qt w2 w' → (∀ k, F' = some k → w2.heap.size ≤ k) → w'.heap[b1]? = some (.cells #[.string e.1, .int .i64 e.2.1, .int .i64 e.2.2] 33 (0, 0)) → ∃ A6 c6 F6 w6, (Builtin.append_ #[26, 26] 26 #[.slice A' i cap, .slice (some ⟨b1, 0, none⟩) 1 1]).run Tryd.prog w' = .ok (.slice A6 (i + 1) c6) w6 ∧ Own w6 33 3 (.slice A6 (i + 1) c6) (i + 1) (rowE (m.take i) ++ cellE e) F6 ∧ (∀ k, F6 = some k → w2.heap.size ≤ k) ∧ Qt w2 w6 := by
          intro w' A' cap F' b1 o q hF hb1
          obtain ⟨A6, c6, F6, w6, p, o6, k, f⟩ := app_run (P := Tryd.prog) tyN o (some ⟨b1, 0, none⟩) 1 1 (cellE e) rfl (src_blk hb1) (cellE_one e) (by omega) (by omega) 26
          refine ⟨A6, c6, F6, w6, p, o6, fun j hj => ?_, Qt.then q k hF⟩
          rcases f j hj with h | h
          · exact hF j h
          · have := q.size; omega
        have hz0 : (wd.alloc (.cells #[] 33)).heap.size = wd.heap.size + 1 := size_alloc _ _
        have hz1 : (wd.alloc (.cells #[.string e.1, .int .i64 e.2.1, .int .i64 e.2.2] 33)).heap.size = wd.heap.size + 1 := size_alloc _ _
        have o0 := own_empty wd 33 3
        have o1 := own_empty (wd.alloc (.cells #[.string e.1, .int .i64 e.2.1, .int .i64 e.2.2] 33)) 33 3
        have b0 : ((wd.alloc (.cells #[] 33)).alloc (.cells #[.string e.1, .int .i64 e.2.1, .int .i64 e.2.2] 33)).heap[wd.heap.size + 1]? = some (.cells #[.string e.1, .int .i64 e.2.1, .int .i64 e.2.2] 33 (0, 0)) := by rw [← hz0]; exact blk_new _ _
        have b1 : ((wd.alloc (.cells #[.string e.1, .int .i64 e.2.1, .int .i64 e.2.2] 33)).alloc (.cells #[] 33)).heap[wd.heap.size]? = some (.cells #[.string e.1, .int .i64 e.2.1, .int .i64 e.2.2] 33 (0, 0)) := (z0 _).heap (blk_new _ _) (fun h => h)
        rw [hz1] at o1
        have o0b := o0.chg (z1 _) (fun _ _ h => h)
        have l0 := blk_lt b0
        have l1 := blk_lt b1
        simp (maxSteps := 1000000) (disch := omega) only [hid1', hid2', guardK_u, takeG_u, wrap_in64, optK_some', fzK_false', nilK_ptr, brK_true', brK_false', guardK_tt', guardK_ff', guardK_tf', guardK_ft', takeG_tt', takeG_ff', takeG_tf', takeG_ft', pickK_t', pickK_f', pickT_t', pickT_f', notK, extract2_0', extract2_1', extract3_0', extract3_1', extract3_2', here_load, here_fieldAt, here_indexAt, here_extract, here_un, here_conv, here_slice, here_bin, here_nil, and_here, true_and, Nat.zero_add, Nat.add_assoc, Nat.add_zero, Int.toNat_natCast, size_alloc, World.cell?_drew, World.frozen?_drew, Bool.not_true, Bool.not_false, Int.toNat_zero, dec_t, dec_f, int_eq_t, int_eq_f, int_ne_t, int_ne_f, wrap_in, kblss3, kld9, kia26, kld33, kbneq3, klen26, hlen26, kfa33_0, kbs26_1_0, kbadd3, kbgeq3, kbeql9, kbx33, kblss9, kbs26_0, ksl26_010z, ksl26_010, ksl26_100z, ksl26_100]
        repeat' (first | with_reducible exact qa | with_reducible exact qab | with_reducible exact qb | with_reducible exact qba | with_reducible exact trivial | with_reducible apply And.intro)
        · obtain ⟨A', cap, F', w6, p6, o6, q6, f6, _⟩ := step1 _ _ o0 qa s5
          refine appK p6 ?_
          obtain ⟨A7, c7, F7, w7, p7, o7, f7, q7⟩ := push2 (w6.alloc (.cells #[.string e.1, .int .i64 e.2.1, .int .i64 e.2.2] 33)) A' cap F' w6.heap.size (o6.chg (z1 _) (fun _ _ h => h)) (q6.trans (z1 _)) f6 (blk_new _ _)
          simp (maxSteps := 1000000) (disch := omega) only [hid1', hid2', guardK_u, takeG_u, wrap_in64, optK_some', fzK_false', nilK_ptr, brK_true', brK_false', guardK_tt', guardK_ff', guardK_tf', guardK_ft', takeG_tt', takeG_ff', takeG_tf', takeG_ft', pickK_t', pickK_f', pickT_t', pickT_f', notK, extract2_0', extract2_1', extract3_0', extract3_1', extract3_2', here_load, here_fieldAt, here_indexAt, here_extract, here_un, here_conv, here_slice, here_bin, here_nil, and_here, true_and, Nat.zero_add, Nat.add_assoc, Nat.add_zero, Int.toNat_natCast, size_alloc, World.cell?_drew, World.frozen?_drew, Bool.not_true, Bool.not_false, Int.toNat_zero, dec_t, dec_f, int_eq_t, int_eq_f, int_ne_t, int_ne_f, wrap_in, kblss3, kld9, kia26, kld33, kbneq3, klen26, hlen26, kfa33_0, kbs26_1_0, kbadd3, kbgeq3, kbeql9, kbx33, kblss9, kbs26_0, ksl26_010z, ksl26_010, ksl26_100z, ksl26_100]
          refine ⟨q6, ⟨q6.trans (z1 _), appK p7 ?_, trivial⟩, trivial⟩
          simp (maxSteps := 1000000) (disch := omega) only [hid1', hid2', guardK_u, takeG_u, wrap_in64, optK_some', fzK_false', nilK_ptr, brK_true', brK_false', guardK_tt', guardK_ff', guardK_tf', guardK_ft', takeG_tt', takeG_ff', takeG_tf', takeG_ft', pickK_t', pickK_f', pickT_t', pickT_f', notK, extract2_0', extract2_1', extract3_0', extract3_1', extract3_2', here_load, here_fieldAt, here_indexAt, here_extract, here_un, here_conv, here_slice, here_bin, here_nil, and_here, true_and, Nat.zero_add, Nat.add_assoc, Nat.add_zero, Int.toNat_natCast, size_alloc, World.cell?_drew, World.frozen?_drew, Bool.not_true, Bool.not_false, Int.toNat_zero, dec_t, dec_f, int_eq_t, int_eq_f, int_ne_t, int_ne_f, wrap_in, kblss3, kld9, kia26, kld33, kbneq3, klen26, hlen26, kfa33_0, kbs26_1_0, kbadd3, kbgeq3, kbeql9, kbx33, kblss9, kbs26_0, ksl26_010z, ksl26_010, ksl26_100z, ksl26_100]
          exact ⟨q7, F7, o7, f7, q7⟩
        · obtain ⟨A', cap, F', w6, p6, o6, q6, f6, k6⟩ := step1 _ _ o0b qab s5
          refine appK p6 ?_
          obtain ⟨A7, c7, F7, w7, p7, o7, f7, q7⟩ := push2 w6 A' cap F' (wd.heap.size + 1) o6 q6 f6 (by rw [(k6 _ l0 (by omega)).1]; exact b0)
          simp (maxSteps := 1000000) (disch := omega) only [hid1', hid2', guardK_u, takeG_u, wrap_in64, optK_some', fzK_false', nilK_ptr, brK_true', brK_false', guardK_tt', guardK_ff', guardK_tf', guardK_ft', takeG_tt', takeG_ff', takeG_tf', takeG_ft', pickK_t', pickK_f', pickT_t', pickT_f', notK, extract2_0', extract2_1', extract3_0', extract3_1', extract3_2', here_load, here_fieldAt, here_indexAt, here_extract, here_un, here_conv, here_slice, here_bin, here_nil, and_here, true_and, Nat.zero_add, Nat.add_assoc, Nat.add_zero, Int.toNat_natCast, size_alloc, World.cell?_drew, World.frozen?_drew, Bool.not_true, Bool.not_false, Int.toNat_zero, dec_t, dec_f, int_eq_t, int_eq_f, int_ne_t, int_ne_f, wrap_in, kblss3, kld9, kia26, kld33, kbneq3, klen26, hlen26, kfa33_0, kbs26_1_0, kbadd3, kbgeq3, kbeql9, kbx33, kblss9, kbs26_0, ksl26_010z, ksl26_010, ksl26_100z, ksl26_100]
          refine ⟨q6, appK p7 ?_, trivial⟩
          simp (maxSteps := 1000000) (disch := omega) only [hid1', hid2', guardK_u, takeG_u, wrap_in64, optK_some', fzK_false', nilK_ptr, brK_true', brK_false', guardK_tt', guardK_ff', guardK_tf', guardK_ft', takeG_tt', takeG_ff', takeG_tf', takeG_ft', pickK_t', pickK_f', pickT_t', pickT_f', notK, extract2_0', extract2_1', extract3_0', extract3_1', extract3_2', here_load, here_fieldAt, here_indexAt, here_extract, here_un, here_conv, here_slice, here_bin, here_nil, and_here, true_and, Nat.zero_add, Nat.add_assoc, Nat.add_zero, Int.toNat_natCast, size_alloc, World.cell?_drew, World.frozen?_drew, Bool.not_true, Bool.not_false, Int.toNat_zero, dec_t, dec_f, int_eq_t, int_eq_f, int_ne_t, int_ne_f, wrap_in, kblss3, kld9, kia26, kld33, kbneq3, klen26, hlen26, kfa33_0, kbs26_1_0, kbadd3, kbgeq3, kbeql9, kbx33, kblss9, kbs26_0, ksl26_010z, ksl26_010, ksl26_100z, ksl26_100]
          exact ⟨q7, F7, o7, f7, q7⟩
        · obtain ⟨A', cap, F', w6, p6, o6, q6, f6, k6⟩ := step1 _ _ o1 qba (by omega)
          refine appK p6 ?_
          obtain ⟨A7, c7, F7, w7, p7, o7, f7, q7⟩ := push2 w6 A' cap F' wd.heap.size o6 q6 f6 (by rw [(k6 _ l1 (by omega)).1]; exact b1)
          simp (maxSteps := 1000000) (disch := omega) only [hid1', hid2', guardK_u, takeG_u, wrap_in64, optK_some', fzK_false', nilK_ptr, brK_true', brK_false', guardK_tt', guardK_ff', guardK_tf', guardK_ft', takeG_tt', takeG_ff', takeG_tf', takeG_ft', pickK_t', pickK_f', pickT_t', pickT_f', notK, extract2_0', extract2_1', extract3_0', extract3_1', extract3_2', here_load, here_fieldAt, here_indexAt, here_extract, here_un, here_conv, here_slice, here_bin, here_nil, and_here, true_and, Nat.zero_add, Nat.add_assoc, Nat.add_zero, Int.toNat_natCast, size_alloc, World.cell?_drew, World.frozen?_drew, Bool.not_true, Bool.not_false, Int.toNat_zero, dec_t, dec_f, int_eq_t, int_eq_f, int_ne_t, int_ne_f, wrap_in, kblss3, kld9, kia26, kld33, kbneq3, klen26, hlen26, kfa33_0, kbs26_1_0, kbadd3, kbgeq3, kbeql9, kbx33, kblss9, kbs26_0, ksl26_010z, ksl26_010, ksl26_100z, ksl26_100]
          refine ⟨q6, appK p7 ?_, trivial⟩
          simp (maxSteps := 1000000) (disch := omega) only [hid1', hid2', guardK_u, takeG_u, wrap_in64, optK_some', fzK_false', nilK_ptr, brK_true', brK_false', guardK_tt', guardK_ff', guardK_tf', guardK_ft', takeG_tt', takeG_ff', takeG_tf', takeG_ft', pickK_t', pickK_f', pickT_t', pickT_f', notK, extract2_0', extract2_1', extract3_0', extract3_1', extract3_2', here_load, here_fieldAt, here_indexAt, here_extract, here_un, here_conv, here_slice, here_bin, here_nil, and_here, true_and, Nat.zero_add, Nat.add_assoc, Nat.add_zero, Int.toNat_natCast, size_alloc, World.cell?_drew, World.frozen?_drew, Bool.not_true, Bool.not_false, Int.toNat_zero, dec_t, dec_f, int_eq_t, int_eq_f, int_ne_t, int_ne_f, wrap_in, kblss3, kld9, kia26, kld33, kbneq3, klen26, hlen26, kfa33_0, kbs26_1_0, kbadd3, kbgeq3, kbeql9, kbx33, kblss9, kbs26_0, ksl26_010z, ksl26_010, ksl26_100z, ksl26_100]
          exact ⟨q7, F7, o7, f7, q7⟩
      rintro _ v w6 ⟨F6, o6, hF6, q6⟩
      obtain ⟨A6, c6, rfl, _, _⟩ := o6.shape
      refine cutK1 (fun v w' => v = .int .i64 (i : Int) ∧ w' = w6) ?_ ?_
      · simp (maxSteps := 1000000) (disch := omega) only [hid1', hid2', guardK_u, takeG_u, wrap_in64, optK_some', fzK_false', nilK_ptr, brK_true', brK_false', guardK_tt', guardK_ff', guardK_tf', guardK_ft', takeG_tt', takeG_ff', takeG_tf', takeG_ft', pickK_t', pickK_f', pickT_t', pickT_f', notK, extract2_0', extract2_1', extract3_0', extract3_1', extract3_2', here_load, here_fieldAt, here_indexAt, here_extract, here_un, here_conv, here_slice, here_bin, here_nil, and_here, true_and, Nat.zero_add, Nat.add_assoc, Nat.add_zero, Int.toNat_natCast, size_alloc, World.cell?_drew, World.frozen?_drew, Bool.not_true, Bool.not_false, Int.toNat_zero, dec_t, dec_f, int_eq_t, int_eq_f, int_ne_t, int_ne_f, wrap_in, kblss3, kld9, kia26, kld33, kbneq3, klen26, hlen26, kfa33_0, kbs26_1_0, kbadd3, kbgeq3, kbeql9, kbx33, kblss9, kbs26_0, ksl26_010z, ksl26_010, ksl26_100z, ksl26_100]
        exact ⟨rfl, rfl⟩
      rintro _ _ w7 ⟨rfl, hw⟩
      obtain rfl : w7 = w6 := hw
      simp (maxSteps := 1000000) (disch := omega) only [hid1', hid2', guardK_u, takeG_u, wrap_in64, optK_some', fzK_false', nilK_ptr, brK_true', brK_false', guardK_tt', guardK_ff', guardK_tf', guardK_ft', takeG_tt', takeG_ff', takeG_tf', takeG_ft', pickK_t', pickK_f', pickT_t', pickT_f', notK, extract2_0', extract2_1', extract3_0', extract3_1', extract3_2', here_load, here_fieldAt, here_indexAt, here_extract, here_un, here_conv, here_slice, here_bin, here_nil, and_here, true_and, Nat.zero_add, Nat.add_assoc, Nat.add_zero, Int.toNat_natCast, size_alloc, World.cell?_drew, World.frozen?_drew, Bool.not_true, Bool.not_false, Int.toNat_zero, dec_t, dec_f, int_eq_t, int_eq_f, int_ne_t, int_ne_f, wrap_in, kblss3, kld9, kia26, kld33, kbneq3, klen26, hlen26, kfa33_0, kbs26_1_0, kbadd3, kbgeq3, kbeql9, kbx33, kblss9, kbs26_0, ksl26_010z, ksl26_010, ksl26_100z, ksl26_100]
      obtain ⟨A8, c8, F8, w8, p8, o8, k8, f8⟩ := app_run (P := Tryd.prog) tyN o6 (if c = i then some ⟨b, o, none⟩ else some ⟨b, o + i * 3, none⟩) (m.length - (i)) (c - i) (rowE (m.drop (i))) (by rw [rowE_len, List.length_drop]) (reads_drop3 (r2.quiet q6) hc i (by omega)) (rowE_one _) (by omega) (by omega) 26
      refine appK p8 ?_
      simp (maxSteps := 1000000) (disch := omega) only [hid1', hid2', guardK_u, takeG_u, wrap_in64, optK_some', fzK_false', nilK_ptr, brK_true', brK_false', guardK_tt', guardK_ff', guardK_tf', guardK_ft', takeG_tt', takeG_ff', takeG_tf', takeG_ft', pickK_t', pickK_f', pickT_t', pickT_f', notK, extract2_0', extract2_1', extract3_0', extract3_1', extract3_2', here_load, here_fieldAt, here_indexAt, here_extract, here_un, here_conv, here_slice, here_bin, here_nil, and_here, true_and, Nat.zero_add, Nat.add_assoc, Nat.add_zero, Int.toNat_natCast, size_alloc, World.cell?_drew, World.frozen?_drew, Bool.not_true, Bool.not_false, Int.toNat_zero, dec_t, dec_f, int_eq_t, int_eq_f, int_ne_t, int_ne_f, wrap_in, kblss3, kld9, kia26, kld33, kbneq3, klen26, hlen26, kfa33_0, kbs26_1_0, kbadd3, kbgeq3, kbeql9, kbx33, kblss9, kbs26_0, ksl26_010z, ksl26_010, ksl26_100z, ksl26_100]
      have q8 : Qt w2 w8 := Qt.then q6 k8 hF6
      have er : rowE (m.take i) ++ cellE e ++ rowE (m.drop (i)) = rowE (putM SE.lt m e.1 e) := by
        rw [put_split, hpos, hf, if_neg (by decide), rowE_app, rowE_app]; unfold rowE; simp
      have el : (putM SE.lt m e.1 e).length = i + 1 + (m.length - (i)) := by
        rw [put_split, hpos, hf, if_neg (by decide), List.length_append, List.length_append, List.length_take, List.length_drop]; simp; omega
      rw [er, ← el] at o8
      rw [show i + (1 + (m.length - i)) = (putM SE.lt m e.1 e).length by omega]
      have sh8 := o8.shape
      refine hK A8 c8 w8 (reads_own o8) ?_ ?_ (q02.trans q8) ?_
      · show (putM SE.lt m e.1 e).length ≤ c8
        obtain ⟨_, _, ee, h, _⟩ := sh8
        injection ee with _ _ ee
        omega
      · rcases own_cases o8 with ⟨h1, _, h2, _⟩ | ⟨g8, h1, _⟩
        · exact .inl ⟨h1, h2⟩
        · exact .inr ⟨g8, 0, h1⟩
      · intro ad had
        right
        rcases own_cases o8 with ⟨h1, _⟩ | ⟨g8, h1, h2, _⟩
        · rw [h1] at had; cases had
        · rw [h1] at had; cases had
          show bx ≤ g8
          have := q02.size
          rcases f8 _ h2 with h | h
          · have := hF6 _ h; omega
          · have := q6.size; omega
end Go.Proofs.YtbkficgmjgbbeaaDoor

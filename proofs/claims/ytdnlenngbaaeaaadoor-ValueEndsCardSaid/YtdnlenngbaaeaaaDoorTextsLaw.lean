/- ValueTexts: the walk. Condition: none. -/
import Derived.Test.YtdnlenngbaaeaaaDoorRefP
import Derived.Test.YtdnlenngbaaeaaaDoorKnown
set_option linter.unusedVariables false
set_option linter.unusedSimpArgs false
set_option maxRecDepth 100000
namespace Go.Proofs.YtdnlenngbaaeaaaDoor
open Go.RowKit Go.Cn
theorem txt_beq (a b : List UInt8) : ((txt a).toList == (txt b).toList) = decide (a = b) := by
  rw [ByteArray.toList_eq, ByteArray.toList_eq, txt_data, txt_data]
  by_cases h : a = b
  · rw [h, decide_eq_true rfl]; exact beq_self_eq_true _
  · rw [decide_eq_false h, beq_eq_false_iff_ne]; exact h
theorem parse_small {s : List UInt8} (hs : s.length ≤ 1000) : (parseV s).1.2.2.2.length ≤ 1001 ∧ (parseV s).1.2.2.1.size ≤ 1000 := by
  unfold parseV
  cases hr : readV s with
  | none => exact ⟨by simp [v0], by show 0 ≤ _; omega⟩
  | some x =>
    have := read_in hr
    simp only
    split
    · exact ⟨by simp [v0], by show 0 ≤ _; omega⟩
    · exact ⟨by show x.2.2.2.length ≤ _; omega, by show x.2.2.1.size ≤ _; omega⟩
theorem check_list {v : Val} (h : checkV v = 0) (hk : v.1 = 3) : v.2.2.2.length ≤ 16 := by
  unfold checkV at h
  rw [hk, if_neg (by decide), if_neg (by decide), if_pos rfl] at h
  unfold listE at h
  split at h
  · cases h
  · omega
theorem parse_list {s : List UInt8} {v : Val} (h : parseV s = (v, 0)) : v.2.2.2.length ≤ 16 := by
  have hb := parse_back h
  by_cases hk : v.1 = 3
  · exact check_list hb.2.2.2.2 hk
  · unfold parseV at h
    cases hr : readV s with
    | none => rw [hr] at h; simp at h
    | some x =>
      rw [hr] at h
      simp only at h
      split at h
      · rename_i hc; injection h with _ h; exact absurd h hc
      · injection h with h _
        subst h
        unfold readV at hr
        split at hr
        · cases hr; simp
        · split at hr
          · split at hr
            · cases hr; exact absurd rfl hk
            · split at hr
              · cases hr; exact absurd rfl hk
              · cases hr
          · split at hr
            · cases hr; simp
            · cases hr
set_option maxHeartbeats 4000000 in
theorem valueTexts_any {s : ByteArray} {w : World} {K : Value → World → Prop} (he : Env2 w) (hK : ∀ w', Qt w w' → K (.bool true) w') : CallK Tryd.prog 4 #[.string s] K w := by
  obtain ⟨l, rfl⟩ : ∃ l, s = txt l := ⟨s.data.toList, (txt_list _).symm⟩
  refine F4_calls _ _ _ ?_; unfold F4
  refine ck9 (known_any he ?_)
  intro w1 q1
  have hsz := txt_size l
  by_cases h500 : 500 < l.length
  · simp (maxSteps := 1000000) (disch := omega) only [hid1', hid2', guardK_u, takeG_u, wrap_in64, optK_some', fzK_false', nilK_ptr, brK_true', brK_false', guardK_tt', guardK_ff', guardK_tf', guardK_ft', takeG_tt', takeG_ff', takeG_tf', takeG_ft', pickK_t', pickK_f', pickT_t', pickT_f', notK, extract2_0', extract2_1', extract3_0', extract3_1', extract3_2', here_load, here_fieldAt, here_indexAt, here_extract, here_un, here_conv, here_slice, here_bin, here_nil, and_here, true_and, Nat.zero_add, Nat.add_assoc, Nat.add_zero, Int.toNat_natCast, size_alloc, World.cell?_drew, World.frozen?_drew, Bool.not_true, Bool.not_false, Int.toNat_zero, dec_t, dec_f, int_eq_t, int_eq_f, int_ne_t, int_ne_f, wrap_in, kld24, kbneq3, kal24, kst24f, kbeql3, klen9, hlen9, kbgtr3, kal28, kst28f, kfa24_0, kld3, kfa28_0, kld28, kbeql9, hsz]
    exact hK w1 q1
  simp (maxSteps := 1000000) (disch := omega) only [hid1', hid2', guardK_u, takeG_u, wrap_in64, optK_some', fzK_false', nilK_ptr, brK_true', brK_false', guardK_tt', guardK_ff', guardK_tf', guardK_ft', takeG_tt', takeG_ff', takeG_tf', takeG_ft', pickK_t', pickK_f', pickT_t', pickT_f', notK, extract2_0', extract2_1', extract3_0', extract3_1', extract3_2', here_load, here_fieldAt, here_indexAt, here_extract, here_un, here_conv, here_slice, here_bin, here_nil, and_here, true_and, Nat.zero_add, Nat.add_assoc, Nat.add_zero, Int.toNat_natCast, size_alloc, World.cell?_drew, World.frozen?_drew, Bool.not_true, Bool.not_false, Int.toNat_zero, dec_t, dec_f, int_eq_t, int_eq_f, int_ne_t, int_ne_f, wrap_in, kld24, kbneq3, kal24, kst24f, kbeql3, klen9, hlen9, kbgtr3, kal28, kst28f, kfa24_0, kld3, kfa28_0, kld28, kbeql9, hsz]
  have he1 := he.quiet q1
  have hsm := parse_small (s := l) (by omega)
  refine ck18 (parse18 (by omega) he1 ?_)
  intro A2 c2 w2 q2 r2 f2
  cases hp : parseV l with
  | mk v e =>
  rw [hp] at r2 hsm
  simp only at r2 hsm
  obtain ⟨q3, h3⟩ := box4 w2 v A2 c2 24
  have r3 := r2.quiet q3
  have q03 := (q1.trans q2).trans q3
  simp (maxSteps := 1000000) (disch := omega) only [hid1', hid2', guardK_u, takeG_u, wrap_in64, optK_some', fzK_false', nilK_ptr, brK_true', brK_false', guardK_tt', guardK_ff', guardK_tf', guardK_ft', takeG_tt', takeG_ff', takeG_tf', takeG_ft', pickK_t', pickK_f', pickT_t', pickT_f', notK, extract2_0', extract2_1', extract3_0', extract3_1', extract3_2', here_load, here_fieldAt, here_indexAt, here_extract, here_un, here_conv, here_slice, here_bin, here_nil, and_here, true_and, Nat.zero_add, Nat.add_assoc, Nat.add_zero, Int.toNat_natCast, size_alloc, World.cell?_drew, World.frozen?_drew, Bool.not_true, Bool.not_false, Int.toNat_zero, dec_t, dec_f, int_eq_t, int_eq_f, int_ne_t, int_ne_f, wrap_in, kld24, kbneq3, kal24, kst24f, kbeql3, klen9, hlen9, kbgtr3, kal28, kst28f, kfa24_0, kld3, kfa28_0, kld28, kbeql9]
  generalize (w2.alloc (.cells #[.int .i64 v.1, .int .i64 v.2.1, .string v.2.2.1, .slice A2 v.2.2.2.length c2] 24)) = w3 at *
  generalize w2.heap.size = b3 at *
  refine ck20 (parse20 (by omega) ?_)
  rw [hp]
  intro A4 c4 w4 q4 r4 f4
  simp only at r4
  obtain ⟨q5, h5⟩ := box4 w4 v A4 c4 28
  have r5 := r4.quiet q5
  have q05 := (q03.trans q4).trans q5
  have q35 := q4.trans q5
  have h35 := q35.heap h3 (fun h => h)
  have r35 := r3.quiet q35
  simp (maxSteps := 1000000) (disch := omega) only [hid1', hid2', guardK_u, takeG_u, wrap_in64, optK_some', fzK_false', nilK_ptr, brK_true', brK_false', guardK_tt', guardK_ff', guardK_tf', guardK_ft', takeG_tt', takeG_ff', takeG_tf', takeG_ft', pickK_t', pickK_f', pickT_t', pickT_f', notK, extract2_0', extract2_1', extract3_0', extract3_1', extract3_2', here_load, here_fieldAt, here_indexAt, here_extract, here_un, here_conv, here_slice, here_bin, here_nil, and_here, true_and, Nat.zero_add, Nat.add_assoc, Nat.add_zero, Int.toNat_natCast, size_alloc, World.cell?_drew, World.frozen?_drew, Bool.not_true, Bool.not_false, Int.toNat_zero, dec_t, dec_f, int_eq_t, int_eq_f, int_ne_t, int_ne_f, wrap_in, kld24, kbneq3, kal24, kst24f, kbeql3, klen9, hlen9, kbgtr3, kal28, kst28f, kfa24_0, kld3, kfa28_0, kld28, kbeql9]
  generalize (w4.alloc (.cells #[.int .i64 v.1, .int .i64 v.2.1, .string v.2.2.1, .slice A4 v.2.2.2.length c4] 28)) = w5 at *
  generalize w4.heap.size = b5 at *
  have X := fun w' (q : Qt w5 w') => cell4 (q.heap h35 (fun h => h))
  have Y := fun w' (q : Qt w5 w') => cell4 (q.heap h5 (fun h => h))
  obtain ⟨x0, x1, x2, x3⟩ := X w5 Qt.refl
  obtain ⟨y0, y1, y2, y3⟩ := Y w5 Qt.refl
  have e1 : (e != e) = false := by simp
  have e2 : (v.1 != v.1) = false := by simp
  simp (maxSteps := 1000000) (disch := omega) only [hid1', hid2', guardK_u, takeG_u, wrap_in64, optK_some', fzK_false', nilK_ptr, brK_true', brK_false', guardK_tt', guardK_ff', guardK_tf', guardK_ft', takeG_tt', takeG_ff', takeG_tf', takeG_ft', pickK_t', pickK_f', pickT_t', pickT_f', notK, extract2_0', extract2_1', extract3_0', extract3_1', extract3_2', here_load, here_fieldAt, here_indexAt, here_extract, here_un, here_conv, here_slice, here_bin, here_nil, and_here, true_and, Nat.zero_add, Nat.add_assoc, Nat.add_zero, Int.toNat_natCast, size_alloc, World.cell?_drew, World.frozen?_drew, Bool.not_true, Bool.not_false, Int.toNat_zero, dec_t, dec_f, int_eq_t, int_eq_f, int_ne_t, int_ne_f, wrap_in, kld24, kbneq3, kal24, kst24f, kbeql3, klen9, hlen9, kbgtr3, kal28, kst28f, kfa24_0, kld3, kfa28_0, kld28, kbeql9, e1, e2, x0, y0]
  have q5d : Qt w5 w5.drew := Qt.drew Qt.refl
  refine drawK_by (fun w' => Qt w5 w') q5d ?_
  by_cases h0 : e = 0
  · subst h0
    have hb := parse_back hp
    have hll := parse_list hp
    have z : ((0 : Int) != 0) = false := rfl
    refine take_bin (.bool false) (fun w' _ => by simp (maxSteps := 1000000) (disch := omega) only [hid1', hid2', guardK_u, takeG_u, wrap_in64, optK_some', fzK_false', nilK_ptr, brK_true', brK_false', guardK_tt', guardK_ff', guardK_tf', guardK_ft', takeG_tt', takeG_ff', takeG_tf', takeG_ft', pickK_t', pickK_f', pickT_t', pickT_f', notK, extract2_0', extract2_1', extract3_0', extract3_1', extract3_2', here_load, here_fieldAt, here_indexAt, here_extract, here_un, here_conv, here_slice, here_bin, here_nil, and_here, true_and, Nat.zero_add, Nat.add_assoc, Nat.add_zero, Int.toNat_natCast, size_alloc, World.cell?_drew, World.frozen?_drew, Bool.not_true, Bool.not_false, Int.toNat_zero, dec_t, dec_f, int_eq_t, int_eq_f, int_ne_t, int_ne_f, wrap_in, kld24, kbneq3, kal24, kst24f, kbeql3, klen9, hlen9, kbgtr3, kal28, kst28f, kfa24_0, kld3, kfa28_0, kld28, kbeql9, z, here_rfl]; try (exact ⟨trivial, trivial⟩)) ?_
    simp (maxSteps := 1000000) (disch := omega) only [hid1', hid2', guardK_u, takeG_u, wrap_in64, optK_some', fzK_false', nilK_ptr, brK_true', brK_false', guardK_tt', guardK_ff', guardK_tf', guardK_ft', takeG_tt', takeG_ff', takeG_tf', takeG_ft', pickK_t', pickK_f', pickT_t', pickT_f', notK, extract2_0', extract2_1', extract3_0', extract3_1', extract3_2', here_load, here_fieldAt, here_indexAt, here_extract, here_un, here_conv, here_slice, here_bin, here_nil, and_here, true_and, Nat.zero_add, Nat.add_assoc, Nat.add_zero, Int.toNat_natCast, size_alloc, World.cell?_drew, World.frozen?_drew, Bool.not_true, Bool.not_false, Int.toNat_zero, dec_t, dec_f, int_eq_t, int_eq_f, int_ne_t, int_ne_f, wrap_in, kld24, kbneq3, kal24, kst24f, kbeql3, klen9, hlen9, kbgtr3, kal28, kst28f, kfa24_0, kld3, kfa28_0, kld28, kbeql9]
    refine take_load (vv v A2 c2) (fun w' hq => by obtain ⟨h0, h1, h2, h3⟩ := X w' hq; (simp (maxSteps := 1000000) (disch := omega) only [hid1', hid2', guardK_u, takeG_u, wrap_in64, optK_some', fzK_false', nilK_ptr, brK_true', brK_false', guardK_tt', guardK_ff', guardK_tf', guardK_ft', takeG_tt', takeG_ff', takeG_tf', takeG_ft', pickK_t', pickK_f', pickT_t', pickT_f', notK, extract2_0', extract2_1', extract3_0', extract3_1', extract3_2', here_load, here_fieldAt, here_indexAt, here_extract, here_un, here_conv, here_slice, here_bin, here_nil, and_here, true_and, Nat.zero_add, Nat.add_assoc, Nat.add_zero, Int.toNat_natCast, size_alloc, World.cell?_drew, World.frozen?_drew, Bool.not_true, Bool.not_false, Int.toNat_zero, dec_t, dec_f, int_eq_t, int_eq_f, int_ne_t, int_ne_f, wrap_in, kld24, kbneq3, kal24, kst24f, kbeql3, klen9, hlen9, kbgtr3, kal28, kst28f, kfa24_0, kld3, kfa28_0, kld28, kbeql9, h0, h1, h2, h3]) <;> exact ⟨rfl, rfl⟩) ?_
    simp (maxSteps := 1000000) (disch := omega) only [hid1', hid2', guardK_u, takeG_u, wrap_in64, optK_some', fzK_false', nilK_ptr, brK_true', brK_false', guardK_tt', guardK_ff', guardK_tf', guardK_ft', takeG_tt', takeG_ff', takeG_tf', takeG_ft', pickK_t', pickK_f', pickT_t', pickT_f', notK, extract2_0', extract2_1', extract3_0', extract3_1', extract3_2', here_load, here_fieldAt, here_indexAt, here_extract, here_un, here_conv, here_slice, here_bin, here_nil, and_here, true_and, Nat.zero_add, Nat.add_assoc, Nat.add_zero, Int.toNat_natCast, size_alloc, World.cell?_drew, World.frozen?_drew, Bool.not_true, Bool.not_false, Int.toNat_zero, dec_t, dec_f, int_eq_t, int_eq_f, int_ne_t, int_ne_f, wrap_in, kld24, kbneq3, kal24, kst24f, kbeql3, klen9, hlen9, kbgtr3, kal28, kst28f, kfa24_0, kld3, kfa28_0, kld28, kbeql9]
    refine take_load (vv v A4 c4) (fun w' hq => by obtain ⟨h0, h1, h2, h3⟩ := Y w' hq; (simp (maxSteps := 1000000) (disch := omega) only [hid1', hid2', guardK_u, takeG_u, wrap_in64, optK_some', fzK_false', nilK_ptr, brK_true', brK_false', guardK_tt', guardK_ff', guardK_tf', guardK_ft', takeG_tt', takeG_ff', takeG_tf', takeG_ft', pickK_t', pickK_f', pickT_t', pickT_f', notK, extract2_0', extract2_1', extract3_0', extract3_1', extract3_2', here_load, here_fieldAt, here_indexAt, here_extract, here_un, here_conv, here_slice, here_bin, here_nil, and_here, true_and, Nat.zero_add, Nat.add_assoc, Nat.add_zero, Int.toNat_natCast, size_alloc, World.cell?_drew, World.frozen?_drew, Bool.not_true, Bool.not_false, Int.toNat_zero, dec_t, dec_f, int_eq_t, int_eq_f, int_ne_t, int_ne_f, wrap_in, kld24, kbneq3, kal24, kst24f, kbeql3, klen9, hlen9, kbgtr3, kal28, kst28f, kfa24_0, kld3, kfa28_0, kld28, kbeql9, h0, h1, h2, h3]) <;> exact ⟨rfl, rfl⟩) ?_
    simp (maxSteps := 1000000) (disch := omega) only [hid1', hid2', guardK_u, takeG_u, wrap_in64, optK_some', fzK_false', nilK_ptr, brK_true', brK_false', guardK_tt', guardK_ff', guardK_tf', guardK_ft', takeG_tt', takeG_ff', takeG_tf', takeG_ft', pickK_t', pickK_f', pickT_t', pickT_f', notK, extract2_0', extract2_1', extract3_0', extract3_1', extract3_2', here_load, here_fieldAt, here_indexAt, here_extract, here_un, here_conv, here_slice, here_bin, here_nil, and_here, true_and, Nat.zero_add, Nat.add_assoc, Nat.add_zero, Int.toNat_natCast, size_alloc, World.cell?_drew, World.frozen?_drew, Bool.not_true, Bool.not_false, Int.toNat_zero, dec_t, dec_f, int_eq_t, int_eq_f, int_ne_t, int_ne_f, wrap_in, kld24, kbneq3, kal24, kst24f, kbeql3, klen9, hlen9, kbgtr3, kal28, kst28f, kfa24_0, kld3, kfa28_0, kld28, kbeql9]
    refine ⟨?_, trivial⟩
    refine ck12 (of12 ?_)
    intro w6 q6
    have q56 := q5d.trans q6
    simp (maxSteps := 1000000) (disch := omega) only [hid1', hid2', guardK_u, takeG_u, wrap_in64, optK_some', fzK_false', nilK_ptr, brK_true', brK_false', guardK_tt', guardK_ff', guardK_tf', guardK_ft', takeG_tt', takeG_ff', takeG_tf', takeG_ft', pickK_t', pickK_f', pickT_t', pickT_f', notK, extract2_0', extract2_1', extract3_0', extract3_1', extract3_2', here_load, here_fieldAt, here_indexAt, here_extract, here_un, here_conv, here_slice, here_bin, here_nil, and_here, true_and, Nat.zero_add, Nat.add_assoc, Nat.add_zero, Int.toNat_natCast, size_alloc, World.cell?_drew, World.frozen?_drew, Bool.not_true, Bool.not_false, Int.toNat_zero, dec_t, dec_f, int_eq_t, int_eq_f, int_ne_t, int_ne_f, wrap_in, kld24, kbneq3, kal24, kst24f, kbeql3, klen9, hlen9, kbgtr3, kal28, kst28f, kfa24_0, kld3, kfa28_0, kld28, kbeql9]
    refine ⟨q56, ?_, trivial⟩
    refine ck14 (cmp14 (a := v) (b := v) (r35.quiet q56) (r5.quiet q56) (by omega) (by omega) ?_)
    intro w7 q7
    have q57 := q56.trans q7
    have hcs : cmpV v v = 0 := cmpL_self _
    rw [hcs]
    simp (maxSteps := 1000000) (disch := omega) only [hid1', hid2', guardK_u, takeG_u, wrap_in64, optK_some', fzK_false', nilK_ptr, brK_true', brK_false', guardK_tt', guardK_ff', guardK_tf', guardK_ft', takeG_tt', takeG_ff', takeG_tf', takeG_ft', pickK_t', pickK_f', pickT_t', pickT_f', notK, extract2_0', extract2_1', extract3_0', extract3_1', extract3_2', here_load, here_fieldAt, here_indexAt, here_extract, here_un, here_conv, here_slice, here_bin, here_nil, and_here, true_and, Nat.zero_add, Nat.add_assoc, Nat.add_zero, Int.toNat_natCast, size_alloc, World.cell?_drew, World.frozen?_drew, Bool.not_true, Bool.not_false, Int.toNat_zero, dec_t, dec_f, int_eq_t, int_eq_f, int_ne_t, int_ne_f, wrap_in, kld24, kbneq3, kal24, kst24f, kbeql3, klen9, hlen9, kbgtr3, kal28, kst28f, kfa24_0, kld3, kfa28_0, kld28, kbeql9]
    refine ⟨q57, ?_⟩
    have z0 : ((0 : Int) == 0) = true := rfl
    refine take_bin (.bool true) (fun w' _ => by simp (maxSteps := 1000000) (disch := omega) only [hid1', hid2', guardK_u, takeG_u, wrap_in64, optK_some', fzK_false', nilK_ptr, brK_true', brK_false', guardK_tt', guardK_ff', guardK_tf', guardK_ft', takeG_tt', takeG_ff', takeG_tf', takeG_ft', pickK_t', pickK_f', pickT_t', pickT_f', notK, extract2_0', extract2_1', extract3_0', extract3_1', extract3_2', here_load, here_fieldAt, here_indexAt, here_extract, here_un, here_conv, here_slice, here_bin, here_nil, and_here, true_and, Nat.zero_add, Nat.add_assoc, Nat.add_zero, Int.toNat_natCast, size_alloc, World.cell?_drew, World.frozen?_drew, Bool.not_true, Bool.not_false, Int.toNat_zero, dec_t, dec_f, int_eq_t, int_eq_f, int_ne_t, int_ne_f, wrap_in, kld24, kbneq3, kal24, kst24f, kbeql3, klen9, hlen9, kbgtr3, kal28, kst28f, kfa24_0, kld3, kfa28_0, kld28, kbeql9, z0, here_rfl]; try (exact ⟨trivial, trivial⟩)) ?_
    simp (maxSteps := 1000000) (disch := omega) only [hid1', hid2', guardK_u, takeG_u, wrap_in64, optK_some', fzK_false', nilK_ptr, brK_true', brK_false', guardK_tt', guardK_ff', guardK_tf', guardK_ft', takeG_tt', takeG_ff', takeG_tf', takeG_ft', pickK_t', pickK_f', pickT_t', pickT_f', notK, extract2_0', extract2_1', extract3_0', extract3_1', extract3_2', here_load, here_fieldAt, here_indexAt, here_extract, here_un, here_conv, here_slice, here_bin, here_nil, and_here, true_and, Nat.zero_add, Nat.add_assoc, Nat.add_zero, Int.toNat_natCast, size_alloc, World.cell?_drew, World.frozen?_drew, Bool.not_true, Bool.not_false, Int.toNat_zero, dec_t, dec_f, int_eq_t, int_eq_f, int_ne_t, int_ne_f, wrap_in, kld24, kbneq3, kal24, kst24f, kbeql3, klen9, hlen9, kbgtr3, kal28, kst28f, kfa24_0, kld3, kfa28_0, kld28, kbeql9]
    refine take_load (vv v A2 c2) (fun w' hq => by obtain ⟨h0, h1, h2, h3⟩ := X w' hq; (simp (maxSteps := 1000000) (disch := omega) only [hid1', hid2', guardK_u, takeG_u, wrap_in64, optK_some', fzK_false', nilK_ptr, brK_true', brK_false', guardK_tt', guardK_ff', guardK_tf', guardK_ft', takeG_tt', takeG_ff', takeG_tf', takeG_ft', pickK_t', pickK_f', pickT_t', pickT_f', notK, extract2_0', extract2_1', extract3_0', extract3_1', extract3_2', here_load, here_fieldAt, here_indexAt, here_extract, here_un, here_conv, here_slice, here_bin, here_nil, and_here, true_and, Nat.zero_add, Nat.add_assoc, Nat.add_zero, Int.toNat_natCast, size_alloc, World.cell?_drew, World.frozen?_drew, Bool.not_true, Bool.not_false, Int.toNat_zero, dec_t, dec_f, int_eq_t, int_eq_f, int_ne_t, int_ne_f, wrap_in, kld24, kbneq3, kal24, kst24f, kbeql3, klen9, hlen9, kbgtr3, kal28, kst28f, kfa24_0, kld3, kfa28_0, kld28, kbeql9, h0, h1, h2, h3]) <;> exact ⟨rfl, rfl⟩) ?_
    simp (maxSteps := 1000000) (disch := omega) only [hid1', hid2', guardK_u, takeG_u, wrap_in64, optK_some', fzK_false', nilK_ptr, brK_true', brK_false', guardK_tt', guardK_ff', guardK_tf', guardK_ft', takeG_tt', takeG_ff', takeG_tf', takeG_ft', pickK_t', pickK_f', pickT_t', pickT_f', notK, extract2_0', extract2_1', extract3_0', extract3_1', extract3_2', here_load, here_fieldAt, here_indexAt, here_extract, here_un, here_conv, here_slice, here_bin, here_nil, and_here, true_and, Nat.zero_add, Nat.add_assoc, Nat.add_zero, Int.toNat_natCast, size_alloc, World.cell?_drew, World.frozen?_drew, Bool.not_true, Bool.not_false, Int.toNat_zero, dec_t, dec_f, int_eq_t, int_eq_f, int_ne_t, int_ne_f, wrap_in, kld24, kbneq3, kal24, kst24f, kbeql3, klen9, hlen9, kbgtr3, kal28, kst28f, kfa24_0, kld3, kfa28_0, kld28, kbeql9]
    refine ⟨?_, trivial⟩
    refine ck16 (text16 (a := v) (A := A2) (c := c2) (r35.quiet q57) (by omega) (by omega) hb.2.2.1 hb.2.2.2.1 ((he.quiet q05).quiet q57) ?_)
    intro w8 q8
    rw [hb.1]
    simp (maxSteps := 1000000) (disch := omega) only [hid1', hid2', guardK_u, takeG_u, wrap_in64, optK_some', fzK_false', nilK_ptr, brK_true', brK_false', guardK_tt', guardK_ff', guardK_tf', guardK_ft', takeG_tt', takeG_ff', takeG_tf', takeG_ft', pickK_t', pickK_f', pickT_t', pickT_f', notK, extract2_0', extract2_1', extract3_0', extract3_1', extract3_2', here_load, here_fieldAt, here_indexAt, here_extract, here_un, here_conv, here_slice, here_bin, here_nil, and_here, true_and, Nat.zero_add, Nat.add_assoc, Nat.add_zero, Int.toNat_natCast, size_alloc, World.cell?_drew, World.frozen?_drew, Bool.not_true, Bool.not_false, Int.toNat_zero, dec_t, dec_f, int_eq_t, int_eq_f, int_ne_t, int_ne_f, wrap_in, kld24, kbneq3, kal24, kst24f, kbeql3, klen9, hlen9, kbgtr3, kal28, kst28f, kfa24_0, kld3, kfa28_0, kld28, kbeql9]
    refine ⟨q57.trans q8, ?_⟩
    refine take_bin (.bool true) (fun w' _ => by simp (maxSteps := 1000000) (disch := omega) only [hid1', hid2', guardK_u, takeG_u, wrap_in64, optK_some', fzK_false', nilK_ptr, brK_true', brK_false', guardK_tt', guardK_ff', guardK_tf', guardK_ft', takeG_tt', takeG_ff', takeG_tf', takeG_ft', pickK_t', pickK_f', pickT_t', pickT_f', notK, extract2_0', extract2_1', extract3_0', extract3_1', extract3_2', here_load, here_fieldAt, here_indexAt, here_extract, here_un, here_conv, here_slice, here_bin, here_nil, and_here, true_and, Nat.zero_add, Nat.add_assoc, Nat.add_zero, Int.toNat_natCast, size_alloc, World.cell?_drew, World.frozen?_drew, Bool.not_true, Bool.not_false, Int.toNat_zero, dec_t, dec_f, int_eq_t, int_eq_f, int_ne_t, int_ne_f, wrap_in, kld24, kbneq3, kal24, kst24f, kbeql3, klen9, hlen9, kbgtr3, kal28, kst28f, kfa24_0, kld3, kfa28_0, kld28, kbeql9, beq_self_eq_true, here_rfl]; try (exact ⟨trivial, trivial⟩)) ?_
    simp (maxSteps := 1000000) (disch := omega) only [hid1', hid2', guardK_u, takeG_u, wrap_in64, optK_some', fzK_false', nilK_ptr, brK_true', brK_false', guardK_tt', guardK_ff', guardK_tf', guardK_ft', takeG_tt', takeG_ff', takeG_tf', takeG_ft', pickK_t', pickK_f', pickT_t', pickT_f', notK, extract2_0', extract2_1', extract3_0', extract3_1', extract3_2', here_load, here_fieldAt, here_indexAt, here_extract, here_un, here_conv, here_slice, here_bin, here_nil, and_here, true_and, Nat.zero_add, Nat.add_assoc, Nat.add_zero, Int.toNat_natCast, size_alloc, World.cell?_drew, World.frozen?_drew, Bool.not_true, Bool.not_false, Int.toNat_zero, dec_t, dec_f, int_eq_t, int_eq_f, int_ne_t, int_ne_f, wrap_in, kld24, kbneq3, kal24, kst24f, kbeql3, klen9, hlen9, kbgtr3, kal28, kst28f, kfa24_0, kld3, kfa28_0, kld28, kbeql9]
    exact hK _ (q05.trans (q57.trans q8))
  · have z : (e != 0) = true := by rw [bne_iff_ne]; exact h0
    refine take_bin (.bool true) (fun w' _ => by simp (maxSteps := 1000000) (disch := omega) only [hid1', hid2', guardK_u, takeG_u, wrap_in64, optK_some', fzK_false', nilK_ptr, brK_true', brK_false', guardK_tt', guardK_ff', guardK_tf', guardK_ft', takeG_tt', takeG_ff', takeG_tf', takeG_ft', pickK_t', pickK_f', pickT_t', pickT_f', notK, extract2_0', extract2_1', extract3_0', extract3_1', extract3_2', here_load, here_fieldAt, here_indexAt, here_extract, here_un, here_conv, here_slice, here_bin, here_nil, and_here, true_and, Nat.zero_add, Nat.add_assoc, Nat.add_zero, Int.toNat_natCast, size_alloc, World.cell?_drew, World.frozen?_drew, Bool.not_true, Bool.not_false, Int.toNat_zero, dec_t, dec_f, int_eq_t, int_eq_f, int_ne_t, int_ne_f, wrap_in, kld24, kbneq3, kal24, kst24f, kbeql3, klen9, hlen9, kbgtr3, kal28, kst28f, kfa24_0, kld3, kfa28_0, kld28, kbeql9, z, here_rfl]; try (exact ⟨trivial, trivial⟩)) ?_
    simp (maxSteps := 1000000) (disch := omega) only [hid1', hid2', guardK_u, takeG_u, wrap_in64, optK_some', fzK_false', nilK_ptr, brK_true', brK_false', guardK_tt', guardK_ff', guardK_tf', guardK_ft', takeG_tt', takeG_ff', takeG_tf', takeG_ft', pickK_t', pickK_f', pickT_t', pickT_f', notK, extract2_0', extract2_1', extract3_0', extract3_1', extract3_2', here_load, here_fieldAt, here_indexAt, here_extract, here_un, here_conv, here_slice, here_bin, here_nil, and_here, true_and, Nat.zero_add, Nat.add_assoc, Nat.add_zero, Int.toNat_natCast, size_alloc, World.cell?_drew, World.frozen?_drew, Bool.not_true, Bool.not_false, Int.toNat_zero, dec_t, dec_f, int_eq_t, int_eq_f, int_ne_t, int_ne_f, wrap_in, kld24, kbneq3, kal24, kst24f, kbeql3, klen9, hlen9, kbgtr3, kal28, kst28f, kfa24_0, kld3, kfa28_0, kld28, kbeql9, takeG_u, guardK_u]
    exact ⟨⟨q5d, ⟨q5d, ⟨q5d, hK _ (q05.trans q5d)⟩, trivial⟩, trivial⟩, trivial⟩
end Go.Proofs.YtdnlenngbaaeaaaDoor

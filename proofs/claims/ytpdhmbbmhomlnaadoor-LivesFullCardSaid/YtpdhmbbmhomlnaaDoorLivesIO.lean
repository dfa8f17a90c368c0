/- The document's Of; lives in bytes, the program's and the document's. -/
import Derived.Test.YtpdhmbbmhomlnaaDoorBeginR
import Derived.Test.YtpdhmbbmhomlnaaDoorLiveL
set_option linter.unusedVariables false
set_option linter.unusedSimpArgs false
set_option maxRecDepth 100000
namespace Go.Proofs.YtpdhmbbmhomlnaaDoor
open Go.RowKit Go.Cn Go.Cn.Num
theorem getN_mem {m : LM} (hs : Rises SI.lt m) {p : ByteArray} {n : Int} (h : (p, n) ∈ m) : getN m p = n := by
  obtain ⟨hlt, hf, he⟩ := mem_fnd SI.O hs h
  rw [getN_at hf rfl hlt, he]
theorem ofR_any {w : World} {A : Option Addr} {c : Nat} {m : LM} {q : ByteArray} {K : Value → World → Prop} (hr : Reads w A (m.flatMap SI.cell2)) (hs : Rises SI.lt m) (hl : m.length ≤ 1000)
    (hK : K (.int .i64 (getN m q)) w) : CallK Tryd.prog 15 #[.slice A m.length c, .string q] K w := by
  refine F15_calls _ _ _ _ ?_; unfold F15
  refine loopK1 (fun v w' => w' = w ∧ ∃ i : Nat, v = .int .i64 i ∧ i ≤ m.length ∧ ∀ j (h : j < m.length), j < i → m[j].1 ≠ q) (fun v _ => m.length - (intOf v).toNat) ⟨rfl, 0, rfl, by omega, fun j h hj => by omega⟩ ?_
  rintro _ _ w' ⟨hw, i, rfl, hi, hno⟩
  obtain rfl : w' = w := hw
  by_cases hlt : i < m.length
  · obtain ⟨g, o, rfl, hc0, hc1⟩ := SI.cells_at hr hlt
    by_cases he : m[i].1 = q
    · have hd : (m[i].1.toList == q.toList) = true := by rw [he]; simp
      have hg : getN m q = m[i].2 := getN_mem hs (by rw [← he]; exact List.getElem_mem hlt)
      rw [hg] at hK
      generalize m[i] = x at *
      simp (maxSteps := 1000000) (disch := omega) only [hid1', hid2', guardK_u, takeG_u, wrap_in64, optK_some', fzK_false', nilK_ptr, brK_true', brK_false', guardK_tt', guardK_ff', guardK_tf', guardK_ft', takeG_tt', takeG_ff', takeG_tf', takeG_ft', pickK_t', pickK_f', pickT_t', pickT_f', notK, extract2_0', extract2_1', extract3_0', extract3_1', extract3_2', here_load, here_fieldAt, here_indexAt, here_extract, here_un, here_conv, here_slice, here_bin, here_nil, and_here, true_and, Nat.zero_add, Nat.add_assoc, Nat.add_zero, Int.toNat_natCast, size_alloc, World.cell?_drew, World.frozen?_drew, Bool.not_true, Bool.not_false, Int.toNat_zero, dec_t, dec_f, int_eq_t, int_eq_f, int_ne_t, int_ne_f, wrap_in, kblss3, kld9, kbadd3, klen26, hlen26, kia26, kfa39_0, kfa39_1, kld2, kbeql9, hc0, hc1, hd]
      exact hK
    · have hd : (m[i].1.toList == q.toList) = false := by
        rw [beq_eq_false_iff_ne]; exact fun e => he (toList_inj e)
      have next : ∀ j (h : j < m.length), j < i + 1 → m[j].1 ≠ q := fun j h hj => by
        by_cases e : j = i
        · subst e; exact he
        · exact hno j h (by omega)
      generalize m[i] = x at *
      simp (maxSteps := 1000000) (disch := omega) only [hid1', hid2', guardK_u, takeG_u, wrap_in64, optK_some', fzK_false', nilK_ptr, brK_true', brK_false', guardK_tt', guardK_ff', guardK_tf', guardK_ft', takeG_tt', takeG_ff', takeG_tf', takeG_ft', pickK_t', pickK_f', pickT_t', pickT_f', notK, extract2_0', extract2_1', extract3_0', extract3_1', extract3_2', here_load, here_fieldAt, here_indexAt, here_extract, here_un, here_conv, here_slice, here_bin, here_nil, and_here, true_and, Nat.zero_add, Nat.add_assoc, Nat.add_zero, Int.toNat_natCast, size_alloc, World.cell?_drew, World.frozen?_drew, Bool.not_true, Bool.not_false, Int.toNat_zero, dec_t, dec_f, int_eq_t, int_eq_f, int_ne_t, int_ne_f, wrap_in, kblss3, kld9, kbadd3, klen26, hlen26, kia26, kfa39_0, kfa39_1, kld2, kbeql9, hc0, hc1, hd]
      exact ⟨⟨rfl, i + 1, by go_num, by omega, next⟩, by simp [rel, intOf]; omega⟩
  · have hf : fnd SI.lt m q = false := no_fnd (fun p hp => by
      obtain ⟨j, hj, rfl⟩ := List.mem_iff_getElem.1 hp
      exact hno j hj (by omega))
    rw [getM_no hf] at hK
    simp (maxSteps := 1000000) (disch := omega) only [hid1', hid2', guardK_u, takeG_u, wrap_in64, optK_some', fzK_false', nilK_ptr, brK_true', brK_false', guardK_tt', guardK_ff', guardK_tf', guardK_ft', takeG_tt', takeG_ff', takeG_tf', takeG_ft', pickK_t', pickK_f', pickT_t', pickT_f', notK, extract2_0', extract2_1', extract3_0', extract3_1', extract3_2', here_load, here_fieldAt, here_indexAt, here_extract, here_un, here_conv, here_slice, here_bin, here_nil, and_here, true_and, Nat.zero_add, Nat.add_assoc, Nat.add_zero, Int.toNat_natCast, size_alloc, World.cell?_drew, World.frozen?_drew, Bool.not_true, Bool.not_false, Int.toNat_zero, dec_t, dec_f, int_eq_t, int_eq_f, int_ne_t, int_ne_f, wrap_in, kblss3, kld9, kbadd3, klen26, hlen26, kia26, kfa39_0, kfa39_1, kld2, kbeql9]
    exact hK
theorem good_len {m : LM} (h : Good m) (i : Nat) : ((m.take i).flatMap rowB).length ≤ 256 * 60 := by
  have := rows_len (m.take i) (fun x hx => h.node x (List.mem_of_mem_take hx)) (fun x hx => h.vals x (List.mem_of_mem_take hx))
  have hf := h.few
  rw [List.length_take] at this
  have h2 : min i m.length * 60 ≤ 256 * 60 := Nat.mul_le_mul_right _ (by omega)
  omega
set_option maxHeartbeats 1000000 in
theorem bytes_any {w : World} {x g : Nat} {m : LM} {F : Option Nat} {K : Value → World → Prop} (h : LivesAt w x g m F) (hg : Good m)
    (hK : ∀ A c w', (bytesM m).length ≤ c → Reads w' A ((bytesM m).map vb) → Qt w w' → K (.slice A (bytesM m).length c) w') : CallK Tryd.prog 11 #[.pointer (some ⟨x, 0, none⟩)] K w := by
  refine F11_calls _ _ _ ?_; unfold F11
  have hc := h.cell
  have hfew := hg.few
  simp (maxSteps := 1000000) (disch := omega) only [hid1', hid2', guardK_u, takeG_u, wrap_in64, optK_some', fzK_false', nilK_ptr, brK_true', brK_false', guardK_tt', guardK_ff', guardK_tf', guardK_ft', takeG_tt', takeG_ff', takeG_tf', takeG_ft', pickK_t', pickK_f', pickT_t', pickT_f', notK, extract2_0', extract2_1', extract3_0', extract3_1', extract3_2', here_load, here_fieldAt, here_indexAt, here_extract, here_un, here_conv, here_slice, here_bin, here_nil, and_here, true_and, Nat.zero_add, Nat.add_assoc, Nat.add_zero, Int.toNat_natCast, size_alloc, World.cell?_drew, World.frozen?_drew, Bool.not_true, Bool.not_false, Int.toNat_zero, dec_t, dec_f, int_eq_t, int_eq_f, int_ne_t, int_ne_f, wrap_in, kblss3, kbadd3, kfa52_0, kld49, kbd60_, kbx60, kbs92_1_0, kbs22_1_0, hc]
  have he := enc_new w
  have q1 : Qt w (w.alloc (.cells #[.slice none 0 0] 60)) := Chg.alloc Qt.refl _
  have hs1 : (w.alloc (.cells #[.slice none 0 0] 60)).heap.size = w.heap.size + 1 := size_alloc _ _
  generalize (w.alloc (.cells #[.slice none 0 0] 60)) = w1 at *
  generalize he0 : w.heap.size = e at *
  have h1 := h.quiet q1
  have hc1 := h1.cell
  simp (maxSteps := 1000000) (disch := omega) only [hid1', hid2', guardK_u, takeG_u, wrap_in64, optK_some', fzK_false', nilK_ptr, brK_true', brK_false', guardK_tt', guardK_ff', guardK_tf', guardK_ft', takeG_tt', takeG_ff', takeG_tf', takeG_ft', pickK_t', pickK_f', pickT_t', pickT_f', notK, extract2_0', extract2_1', extract3_0', extract3_1', extract3_2', here_load, here_fieldAt, here_indexAt, here_extract, here_un, here_conv, here_slice, here_bin, here_nil, and_here, true_and, Nat.zero_add, Nat.add_assoc, Nat.add_zero, Int.toNat_natCast, size_alloc, World.cell?_drew, World.frozen?_drew, Bool.not_true, Bool.not_false, Int.toNat_zero, dec_t, dec_f, int_eq_t, int_eq_f, int_ne_t, int_ne_f, wrap_in, kblss3, kbadd3, kfa52_0, kld49, kbd60_, kbx60, kbs92_1_0, kbs22_1_0, hc1]
  refine ck22 (SI.len_any h1.2.1 ?_)
  simp (maxSteps := 1000000) (disch := omega) only [hid1', hid2', guardK_u, takeG_u, wrap_in64, optK_some', fzK_false', nilK_ptr, brK_true', brK_false', guardK_tt', guardK_ff', guardK_tf', guardK_ft', takeG_tt', takeG_ff', takeG_tf', takeG_ft', pickK_t', pickK_f', pickT_t', pickT_f', notK, extract2_0', extract2_1', extract3_0', extract3_1', extract3_2', here_load, here_fieldAt, here_indexAt, here_extract, here_un, here_conv, here_slice, here_bin, here_nil, and_here, true_and, Nat.zero_add, Nat.add_assoc, Nat.add_zero, Int.toNat_natCast, size_alloc, World.cell?_drew, World.frozen?_drew, Bool.not_true, Bool.not_false, Int.toNat_zero, dec_t, dec_f, int_eq_t, int_eq_f, int_ne_t, int_ne_f, wrap_in, kblss3, kbadd3, kfa52_0, kld49, kbd60_, kbx60, kbs92_1_0, kbs22_1_0]
  refine ck24 (enc_int (by omega) he (by simp) ?_)
  intro F2 w2 he2 c2 f2
  have q2 : Qt w w2 := Qt.then q1 c2 (fun k hk => by
    rcases hk with hk | hk
    · omega
    · cases hk)
  have h2 := h.quiet q2
  have hc2 := h2.cell
  simp (maxSteps := 1000000) (disch := omega) only [hid1', hid2', guardK_u, takeG_u, wrap_in64, optK_some', fzK_false', nilK_ptr, brK_true', brK_false', guardK_tt', guardK_ff', guardK_tf', guardK_ft', takeG_tt', takeG_ff', takeG_tf', takeG_ft', pickK_t', pickK_f', pickT_t', pickT_f', notK, extract2_0', extract2_1', extract3_0', extract3_1', extract3_2', here_load, here_fieldAt, here_indexAt, here_extract, here_un, here_conv, here_slice, here_bin, here_nil, and_here, true_and, Nat.zero_add, Nat.add_assoc, Nat.add_zero, Int.toNat_natCast, size_alloc, World.cell?_drew, World.frozen?_drew, Bool.not_true, Bool.not_false, Int.toNat_zero, dec_t, dec_f, int_eq_t, int_eq_f, int_ne_t, int_ne_f, wrap_in, kblss3, kbadd3, kfa52_0, kld49, kbd60_, kbx60, kbs92_1_0, kbs22_1_0, hc2]
  refine ck22 (SI.len_any h2.2.1 ?_)
  have hF2 : ∀ k, F2 = some k → e < k := fun k hk => by
    rcases f2 k hk with hk | hk
    · cases hk
    · omega
  rw [List.nil_append] at he2
  refine loopK1 (fun v w' => ∃ (i : Nat) (F' : Option Nat), v = .int .i64 i ∧ i ≤ m.length ∧ EncAt w' e (putInt (m.length : Int) ++ (m.take i).flatMap rowB) F' ∧ (∀ k, F' = some k → e < k) ∧ Qt w w') (fun v _ => m.length - (intOf v).toNat) ⟨0, F2, rfl, by omega, by simpa using he2, hF2, q2⟩ ?_
  rintro _ _ w' ⟨i, F', rfl, hi, hen, hF, hq⟩
  have hlen := good_len hg i
  have hpl := putInt_len (m.length : Int) (by omega) (by omega)
  have h' := h.quiet hq
  have hc' := h'.cell
  by_cases hlt : i < m.length
  · have hsn := snocB m i hlt
    have hv := hg.vals m[i] (List.getElem_mem hlt)
    have hnd := (node_size (hg.node m[i] (List.getElem_mem hlt))).2
    have hat : SI.atM m (i : Int) = (m[i].1, m[i].2, true) := by
      unfold SI.atM
      rw [dif_pos ⟨by omega, by simpa using hlt⟩]
      simp
    simp (maxSteps := 1000000) (disch := omega) only [hid1', hid2', guardK_u, takeG_u, wrap_in64, optK_some', fzK_false', nilK_ptr, brK_true', brK_false', guardK_tt', guardK_ff', guardK_tf', guardK_ft', takeG_tt', takeG_ff', takeG_tf', takeG_ft', pickK_t', pickK_f', pickT_t', pickT_f', notK, extract2_0', extract2_1', extract3_0', extract3_1', extract3_2', here_load, here_fieldAt, here_indexAt, here_extract, here_un, here_conv, here_slice, here_bin, here_nil, and_here, true_and, Nat.zero_add, Nat.add_assoc, Nat.add_zero, Int.toNat_natCast, size_alloc, World.cell?_drew, World.frozen?_drew, Bool.not_true, Bool.not_false, Int.toNat_zero, dec_t, dec_f, int_eq_t, int_eq_f, int_ne_t, int_ne_f, wrap_in, kblss3, kbadd3, kfa52_0, kld49, kbd60_, kbx60, kbs92_1_0, kbs22_1_0, hc']
    refine ck25 (SI.at_any h'.2.1 (by omega) ?_)
    intro w3 q3
    rw [hat]
    have hen3 := hen.chg q3 (fun h => h) (fun _ _ h => h)
    have hq3 := hq.trans q3
    have hrl : rowB m[i] = putText m[i].1.data.toList ++ putInt m[i].2 := rfl
    rw [hrl] at hsn
    generalize m[i] = y at *
    obtain ⟨p, n⟩ := y
    simp only at hnd hsn
    have hsl : ((putInt (m.length : Int) ++ (m.take i).flatMap rowB)).length ≤ 20000 := by rw [List.length_append]; omega
    simp (maxSteps := 1000000) (disch := omega) only [hid1', hid2', guardK_u, takeG_u, wrap_in64, optK_some', fzK_false', nilK_ptr, brK_true', brK_false', guardK_tt', guardK_ff', guardK_tf', guardK_ft', takeG_tt', takeG_ff', takeG_tf', takeG_ft', pickK_t', pickK_f', pickT_t', pickT_f', notK, extract2_0', extract2_1', extract3_0', extract3_1', extract3_2', here_load, here_fieldAt, here_indexAt, here_extract, here_un, here_conv, here_slice, here_bin, here_nil, and_here, true_and, Nat.zero_add, Nat.add_assoc, Nat.add_zero, Int.toNat_natCast, size_alloc, World.cell?_drew, World.frozen?_drew, Bool.not_true, Bool.not_false, Int.toNat_zero, dec_t, dec_f, int_eq_t, int_eq_f, int_ne_t, int_ne_f, wrap_in, kblss3, kbadd3, kfa52_0, kld49, kbd60_, kbx60, kbs92_1_0, kbs22_1_0]
    refine ck26 (enc_text hen3 (by omega) ?_)
    intro F4 w4 he4 c4 f4
    have q4 : Qt w w4 := Qt.then hq3 c4 (fun k hk => by
      rcases hk with hk | hk
      · omega
      · have := hF k hk; omega)
    have hF4 : ∀ k, F4 = some k → e < k := fun k hk => by
      rcases f4 k hk with hk | hk
      · exact hF k hk
      · have := hen3.lt.1; omega
    have hpt : (putText p.data.toList).length ≤ 60 := by
      have hl : p.data.toList.length = p.size := rfl
      unfold putText
      have := putInt_len (p.data.toList.length : Int) (by omega) (by omega)
      rw [List.length_append]; omega
    simp (maxSteps := 1000000) (disch := omega) only [hid1', hid2', guardK_u, takeG_u, wrap_in64, optK_some', fzK_false', nilK_ptr, brK_true', brK_false', guardK_tt', guardK_ff', guardK_tf', guardK_ft', takeG_tt', takeG_ff', takeG_tf', takeG_ft', pickK_t', pickK_f', pickT_t', pickT_f', notK, extract2_0', extract2_1', extract3_0', extract3_1', extract3_2', here_load, here_fieldAt, here_indexAt, here_extract, here_un, here_conv, here_slice, here_bin, here_nil, and_here, true_and, Nat.zero_add, Nat.add_assoc, Nat.add_zero, Int.toNat_natCast, size_alloc, World.cell?_drew, World.frozen?_drew, Bool.not_true, Bool.not_false, Int.toNat_zero, dec_t, dec_f, int_eq_t, int_eq_f, int_ne_t, int_ne_f, wrap_in, kblss3, kbadd3, kfa52_0, kld49, kbd60_, kbx60, kbs92_1_0, kbs22_1_0]
    refine ck24 (enc_int ⟨Int.le_trans (by decide) hv.1, Int.le_trans hv.2 (by decide)⟩ he4 (by rw [List.length_append]; omega) ?_)
    intro F5 w5 he5 c5 f5
    have q5 : Qt w w5 := Qt.then q4 c5 (fun k hk => by
      rcases hk with hk | hk
      · omega
      · have := hF4 k hk; omega)
    have hF5 : ∀ k, F5 = some k → e < k := fun k hk => by
      rcases f5 k hk with hk | hk
      · exact hF4 k hk
      · have := he4.lt.1; omega
    simp (maxSteps := 1000000) (disch := omega) only [hid1', hid2', guardK_u, takeG_u, wrap_in64, optK_some', fzK_false', nilK_ptr, brK_true', brK_false', guardK_tt', guardK_ff', guardK_tf', guardK_ft', takeG_tt', takeG_ff', takeG_tf', takeG_ft', pickK_t', pickK_f', pickT_t', pickT_f', notK, extract2_0', extract2_1', extract3_0', extract3_1', extract3_2', here_load, here_fieldAt, here_indexAt, here_extract, here_un, here_conv, here_slice, here_bin, here_nil, and_here, true_and, Nat.zero_add, Nat.add_assoc, Nat.add_zero, Int.toNat_natCast, size_alloc, World.cell?_drew, World.frozen?_drew, Bool.not_true, Bool.not_false, Int.toNat_zero, dec_t, dec_f, int_eq_t, int_eq_f, int_ne_t, int_ne_f, wrap_in, kblss3, kbadd3, kfa52_0, kld49, kbd60_, kbx60, kbs92_1_0, kbs22_1_0]
    exact ⟨⟨i + 1, F5, by go_num, by omega, by rw [hsn]; simpa [List.append_assoc] using he5, hF5, q5⟩, by simp [rel, intOf]; omega⟩
  · obtain rfl : i = m.length := by omega
    rw [List.take_length] at hen hlen
    have hsl : ((putInt (m.length : Int) ++ m.flatMap rowB)).length ≤ 20000 := by rw [List.length_append]; omega
    simp (maxSteps := 1000000) (disch := omega) only [hid1', hid2', guardK_u, takeG_u, wrap_in64, optK_some', fzK_false', nilK_ptr, brK_true', brK_false', guardK_tt', guardK_ff', guardK_tf', guardK_ft', takeG_tt', takeG_ff', takeG_tf', takeG_ft', pickK_t', pickK_f', pickT_t', pickT_f', notK, extract2_0', extract2_1', extract3_0', extract3_1', extract3_2', here_load, here_fieldAt, here_indexAt, here_extract, here_un, here_conv, here_slice, here_bin, here_nil, and_here, true_and, Nat.zero_add, Nat.add_assoc, Nat.add_zero, Int.toNat_natCast, size_alloc, World.cell?_drew, World.frozen?_drew, Bool.not_true, Bool.not_false, Int.toNat_zero, dec_t, dec_f, int_eq_t, int_eq_f, int_ne_t, int_ne_f, wrap_in, kblss3, kbadd3, kfa52_0, kld49, kbd60_, kbx60, kbs92_1_0, kbs22_1_0]
    refine ck28 (enc_bytes hen (by omega) ?_)
    intro A3 c3 w3 r3 q3
    simp (maxSteps := 1000000) (disch := omega) only [hid1', hid2', guardK_u, takeG_u, wrap_in64, optK_some', fzK_false', nilK_ptr, brK_true', brK_false', guardK_tt', guardK_ff', guardK_tf', guardK_ft', takeG_tt', takeG_ff', takeG_tf', takeG_ft', pickK_t', pickK_f', pickT_t', pickT_f', notK, extract2_0', extract2_1', extract3_0', extract3_1', extract3_2', here_load, here_fieldAt, here_indexAt, here_extract, here_un, here_conv, here_slice, here_bin, here_nil, and_here, true_and, Nat.zero_add, Nat.add_assoc, Nat.add_zero, Int.toNat_natCast, size_alloc, World.cell?_drew, World.frozen?_drew, Bool.not_true, Bool.not_false, Int.toNat_zero, dec_t, dec_f, int_eq_t, int_eq_f, int_ne_t, int_ne_f, wrap_in, kblss3, kbadd3, kfa52_0, kld49, kbd60_, kbx60, kbs92_1_0, kbs22_1_0]
    refine ck27 (seal_any r3 (by omega) ?_)
    intro A4 c4 w4 hl4 r4 q4
    simp (maxSteps := 1000000) (disch := omega) only [hid1', hid2', guardK_u, takeG_u, wrap_in64, optK_some', fzK_false', nilK_ptr, brK_true', brK_false', guardK_tt', guardK_ff', guardK_tf', guardK_ft', takeG_tt', takeG_ff', takeG_tf', takeG_ft', pickK_t', pickK_f', pickT_t', pickT_f', notK, extract2_0', extract2_1', extract3_0', extract3_1', extract3_2', here_load, here_fieldAt, here_indexAt, here_extract, here_un, here_conv, here_slice, here_bin, here_nil, and_here, true_and, Nat.zero_add, Nat.add_assoc, Nat.add_zero, Int.toNat_natCast, size_alloc, World.cell?_drew, World.frozen?_drew, Bool.not_true, Bool.not_false, Int.toNat_zero, dec_t, dec_f, int_eq_t, int_eq_f, int_ne_t, int_ne_f, wrap_in, kblss3, kbadd3, kfa52_0, kld49, kbd60_, kbx60, kbs92_1_0, kbs22_1_0]
    exact hK A4 c4 w4 hl4 r4 ((hq.trans q3).trans q4)
set_option maxHeartbeats 1000000 in
theorem bytesR_any {w : World} {A : Option Addr} {c : Nat} {m : LM} {K : Value → World → Prop} (hr : Reads w A (m.flatMap SI.cell2)) (hg : Good m)
    (hK : ∀ A' c' w', Reads w' A' ((bytesM m).map vb) → Qt w w' → K (.slice A' (bytesM m).length c') w') : CallK Tryd.prog 12 #[.slice A m.length c] K w := by
  refine F12_calls _ _ _ ?_; unfold F12
  have hfew := hg.few
  have hpl := putInt_len (m.length : Int) (by omega) (by omega)
  simp (maxSteps := 1000000) (disch := omega) only [hid1', hid2', guardK_u, takeG_u, wrap_in64, optK_some', fzK_false', nilK_ptr, brK_true', brK_false', guardK_tt', guardK_ff', guardK_tf', guardK_ft', takeG_tt', takeG_ff', takeG_tf', takeG_ft', pickK_t', pickK_f', pickT_t', pickT_f', notK, extract2_0', extract2_1', extract3_0', extract3_1', extract3_2', here_load, here_fieldAt, here_indexAt, here_extract, here_un, here_conv, here_slice, here_bin, here_nil, and_here, true_and, Nat.zero_add, Nat.add_assoc, Nat.add_zero, Int.toNat_natCast, size_alloc, World.cell?_drew, World.frozen?_drew, Bool.not_true, Bool.not_false, Int.toNat_zero, dec_t, dec_f, int_eq_t, int_eq_f, int_ne_t, int_ne_f, wrap_in, kblss3, kld9, kbadd3, klen26, hlen26, kia26, kfa39_0, kfa39_1, kld2]
  refine ck29 (putInt_any (by omega) (by omega) ?_)
  intro A1 c1 F1 w1 o1 q1 f1
  refine loopK2 (fun v n w' => ∃ (i : Nat) (F' : Option Nat), n = .int .i64 i ∧ i ≤ m.length ∧ Own w' 5 1 v (putInt (m.length : Int) ++ (m.take i).flatMap rowB).length ((putInt (m.length : Int) ++ (m.take i).flatMap rowB).map vb) F' ∧ (∀ k, F' = some k → w.heap.size ≤ k) ∧ Qt w w') (fun _ n _ => m.length - (intOf n).toNat) ⟨0, F1, rfl, by omega, by simpa using o1, f1, q1⟩ ?_
  rintro v _ _ w' ⟨i, F', rfl, hi, ho, hF, hq⟩
  have hlen := good_len hg i
  have r' := hr.quiet hq
  obtain ⟨Ao, co, rfl, hco1, hco2⟩ := ho.shape
  by_cases hlt : i < m.length
  · obtain ⟨g, o, rfl, hc0, hc1⟩ := SI.cells_at r' hlt
    have T : ∀ w'', Qt w w'' → w''.cell? ⟨g, o + i * 2, none⟩ = some (.string m[i].1) ∧ w''.cell? ⟨g, o + (i * 2 + 1), none⟩ = some (.int .i64 m[i].2) := fun w'' q => by
      obtain ⟨g', o', e, h0, h1⟩ := SI.cells_at (hr.quiet q) hlt
      cases e; exact ⟨h0, h1⟩
    have hsn := snocB m i hlt
    have hv := hg.vals m[i] (List.getElem_mem hlt)
    have hnd := (node_size (hg.node m[i] (List.getElem_mem hlt))).2
    have hrl : rowB m[i] = putText m[i].1.data.toList ++ putInt m[i].2 := rfl
    rw [hrl] at hsn
    generalize m[i] = y at *
    obtain ⟨p, n⟩ := y
    simp only at hnd hsn
    have hsl : ((putInt (m.length : Int) ++ (m.take i).flatMap rowB)).length ≤ 20000 := by rw [List.length_append]; omega
    have hpt : (putText p.data.toList).length ≤ 60 := by
      have hl : p.data.toList.length = p.size := rfl
      unfold putText
      have := putInt_len (p.data.toList.length : Int) (by omega) (by omega)
      rw [List.length_append]; omega
    have hpn := putInt_len n (Int.le_trans (by decide) hv.1) (Int.le_trans hv.2 (by decide))
    generalize hB : putInt (m.length : Int) ++ (m.take i).flatMap rowB = bs at *
    simp (maxSteps := 1000000) (disch := omega) only [hid1', hid2', guardK_u, takeG_u, wrap_in64, optK_some', fzK_false', nilK_ptr, brK_true', brK_false', guardK_tt', guardK_ff', guardK_tf', guardK_ft', takeG_tt', takeG_ff', takeG_tf', takeG_ft', pickK_t', pickK_f', pickT_t', pickT_f', notK, extract2_0', extract2_1', extract3_0', extract3_1', extract3_2', here_load, here_fieldAt, here_indexAt, here_extract, here_un, here_conv, here_slice, here_bin, here_nil, and_here, true_and, Nat.zero_add, Nat.add_assoc, Nat.add_zero, Int.toNat_natCast, size_alloc, World.cell?_drew, World.frozen?_drew, Bool.not_true, Bool.not_false, Int.toNat_zero, dec_t, dec_f, int_eq_t, int_eq_f, int_ne_t, int_ne_f, wrap_in, kblss3, kld9, kbadd3, klen26, hlen26, kia26, kfa39_0, kfa39_1, kld2, hc0, hc1]
    refine ck30 (putText_any (by omega) ?_)
    intro A3 c3 F3 w3 o3 q3 f3
    obtain ⟨A4, c4, F4, w4, p4, o4, k4, f4⟩ := app_run (P := Tryd.prog) tyU8 (ho.chg q3 (fun _ _ h => h)) A3 (putText p.data.toList).length c3 ((putText p.data.toList).map vb) (by simp) (Reads.of_own o3).src (vb_one _) (by omega) (by omega) 32
    simp (maxSteps := 1000000) (disch := omega) only [hid1', hid2', guardK_u, takeG_u, wrap_in64, optK_some', fzK_false', nilK_ptr, brK_true', brK_false', guardK_tt', guardK_ff', guardK_tf', guardK_ft', takeG_tt', takeG_ff', takeG_tf', takeG_ft', pickK_t', pickK_f', pickT_t', pickT_f', notK, extract2_0', extract2_1', extract3_0', extract3_1', extract3_2', here_load, here_fieldAt, here_indexAt, here_extract, here_un, here_conv, here_slice, here_bin, here_nil, and_here, true_and, Nat.zero_add, Nat.add_assoc, Nat.add_zero, Int.toNat_natCast, size_alloc, World.cell?_drew, World.frozen?_drew, Bool.not_true, Bool.not_false, Int.toNat_zero, dec_t, dec_f, int_eq_t, int_eq_f, int_ne_t, int_ne_f, wrap_in, kblss3, kld9, kbadd3, klen26, hlen26, kia26, kfa39_0, kfa39_1, kld2]
    refine appK p4 ?_
    have q4 : Qt w w4 := Qt.then (hq.trans q3) k4 (fun k hk => hF k hk)
    have hF4 : ∀ k, F4 = some k → w.heap.size ≤ k := fun k hk => by
      rcases f4 k hk with h | h
      · exact hF k h
      · have := (hq.trans q3).size; omega
    have hc14 := (T w4 q4).2
    rw [← List.map_append, ← List.length_append] at o4
    rw [← List.length_append]
    have hsl2 : (bs ++ putText p.data.toList).length ≤ 30000 := by rw [List.length_append]; omega
    generalize hB2 : bs ++ putText p.data.toList = bs2 at *
    simp (maxSteps := 1000000) (disch := omega) only [hid1', hid2', guardK_u, takeG_u, wrap_in64, optK_some', fzK_false', nilK_ptr, brK_true', brK_false', guardK_tt', guardK_ff', guardK_tf', guardK_ft', takeG_tt', takeG_ff', takeG_tf', takeG_ft', pickK_t', pickK_f', pickT_t', pickT_f', notK, extract2_0', extract2_1', extract3_0', extract3_1', extract3_2', here_load, here_fieldAt, here_indexAt, here_extract, here_un, here_conv, here_slice, here_bin, here_nil, and_here, true_and, Nat.zero_add, Nat.add_assoc, Nat.add_zero, Int.toNat_natCast, size_alloc, World.cell?_drew, World.frozen?_drew, Bool.not_true, Bool.not_false, Int.toNat_zero, dec_t, dec_f, int_eq_t, int_eq_f, int_ne_t, int_ne_f, wrap_in, kblss3, kld9, kbadd3, klen26, hlen26, kia26, kfa39_0, kfa39_1, kld2, hc14]
    refine ck29 (putInt_any (Int.le_trans (by decide) hv.1) (Int.le_trans hv.2 (by decide)) ?_)
    intro A5 c5 F5 w5 o5 q5 f5
    obtain ⟨A6, c6, F6, w6, p6, o6, k6, f6⟩ := app_run (P := Tryd.prog) tyU8 (o4.chg q5 (fun _ _ h => h)) A5 (putInt n).length c5 ((putInt n).map vb) (by simp) (Reads.of_own o5).src (vb_one _) (by omega) (by omega) 32
    simp (maxSteps := 1000000) (disch := omega) only [hid1', hid2', guardK_u, takeG_u, wrap_in64, optK_some', fzK_false', nilK_ptr, brK_true', brK_false', guardK_tt', guardK_ff', guardK_tf', guardK_ft', takeG_tt', takeG_ff', takeG_tf', takeG_ft', pickK_t', pickK_f', pickT_t', pickT_f', notK, extract2_0', extract2_1', extract3_0', extract3_1', extract3_2', here_load, here_fieldAt, here_indexAt, here_extract, here_un, here_conv, here_slice, here_bin, here_nil, and_here, true_and, Nat.zero_add, Nat.add_assoc, Nat.add_zero, Int.toNat_natCast, size_alloc, World.cell?_drew, World.frozen?_drew, Bool.not_true, Bool.not_false, Int.toNat_zero, dec_t, dec_f, int_eq_t, int_eq_f, int_ne_t, int_ne_f, wrap_in, kblss3, kld9, kbadd3, klen26, hlen26, kia26, kfa39_0, kfa39_1, kld2]
    refine appK p6 ?_
    have q6 : Qt w w6 := Qt.then (q4.trans q5) k6 (fun k hk => hF4 k hk)
    have hF6 : ∀ k, F6 = some k → w.heap.size ≤ k := fun k hk => by
      rcases f6 k hk with h | h
      · exact hF4 k h
      · have := (q4.trans q5).size; omega
    rw [← List.map_append, ← List.length_append] at o6
    rw [← List.length_append]
    have hend : putInt (m.length : Int) ++ (m.take (i + 1)).flatMap rowB = bs2 ++ putInt n := by
      rw [hsn, ← hB2, ← hB]; simp only [List.append_assoc]
    simp (maxSteps := 1000000) (disch := omega) only [hid1', hid2', guardK_u, takeG_u, wrap_in64, optK_some', fzK_false', nilK_ptr, brK_true', brK_false', guardK_tt', guardK_ff', guardK_tf', guardK_ft', takeG_tt', takeG_ff', takeG_tf', takeG_ft', pickK_t', pickK_f', pickT_t', pickT_f', notK, extract2_0', extract2_1', extract3_0', extract3_1', extract3_2', here_load, here_fieldAt, here_indexAt, here_extract, here_un, here_conv, here_slice, here_bin, here_nil, and_here, true_and, Nat.zero_add, Nat.add_assoc, Nat.add_zero, Int.toNat_natCast, size_alloc, World.cell?_drew, World.frozen?_drew, Bool.not_true, Bool.not_false, Int.toNat_zero, dec_t, dec_f, int_eq_t, int_eq_f, int_ne_t, int_ne_f, wrap_in, kblss3, kld9, kbadd3, klen26, hlen26, kia26, kfa39_0, kfa39_1, kld2]
    exact ⟨⟨i + 1, F6, by go_num, by omega, by rw [hend]; exact o6, hF6, q6⟩, by simp [rel, intOf]; omega⟩
  · obtain rfl : i = m.length := by omega
    rw [List.take_length] at ho hlen ⊢
    have hsl : ((putInt (m.length : Int) ++ m.flatMap rowB)).length ≤ 20000 := by rw [List.length_append]; omega
    have r3 := Reads.of_own ho
    simp (maxSteps := 1000000) (disch := omega) only [hid1', hid2', guardK_u, takeG_u, wrap_in64, optK_some', fzK_false', nilK_ptr, brK_true', brK_false', guardK_tt', guardK_ff', guardK_tf', guardK_ft', takeG_tt', takeG_ff', takeG_tf', takeG_ft', pickK_t', pickK_f', pickT_t', pickT_f', notK, extract2_0', extract2_1', extract3_0', extract3_1', extract3_2', here_load, here_fieldAt, here_indexAt, here_extract, here_un, here_conv, here_slice, here_bin, here_nil, and_here, true_and, Nat.zero_add, Nat.add_assoc, Nat.add_zero, Int.toNat_natCast, size_alloc, World.cell?_drew, World.frozen?_drew, Bool.not_true, Bool.not_false, Int.toNat_zero, dec_t, dec_f, int_eq_t, int_eq_f, int_ne_t, int_ne_f, wrap_in, kblss3, kld9, kbadd3, klen26, hlen26, kia26, kfa39_0, kfa39_1, kld2]
    refine ck16 (sealR_any r3 (by omega) ?_)
    intro A4 c4 w4 r4 q4
    simp (maxSteps := 1000000) (disch := omega) only [hid1', hid2', guardK_u, takeG_u, wrap_in64, optK_some', fzK_false', nilK_ptr, brK_true', brK_false', guardK_tt', guardK_ff', guardK_tf', guardK_ft', takeG_tt', takeG_ff', takeG_tf', takeG_ft', pickK_t', pickK_f', pickT_t', pickT_f', notK, extract2_0', extract2_1', extract3_0', extract3_1', extract3_2', here_load, here_fieldAt, here_indexAt, here_extract, here_un, here_conv, here_slice, here_bin, here_nil, and_here, true_and, Nat.zero_add, Nat.add_assoc, Nat.add_zero, Int.toNat_natCast, size_alloc, World.cell?_drew, World.frozen?_drew, Bool.not_true, Bool.not_false, Int.toNat_zero, dec_t, dec_f, int_eq_t, int_eq_f, int_ne_t, int_ne_f, wrap_in, kblss3, kld9, kbadd3, klen26, hlen26, kia26, kfa39_0, kfa39_1, kld2]
    exact hK A4 c4 w4 r4 (hq.trans q4)
end Go.Proofs.YtpdhmbbmhomlnaaDoor

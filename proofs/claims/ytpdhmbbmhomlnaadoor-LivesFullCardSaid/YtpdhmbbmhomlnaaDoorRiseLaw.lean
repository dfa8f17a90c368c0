/- LivesRise's walk. Conditions: the row reads as texts; the path has at most 1048576 bytes. -/
import Derived.Test.YtpdhmbbmhomlnaaDoorPlay
set_option linter.unusedVariables false
set_option linter.unusedSimpArgs false
set_option maxRecDepth 100000
namespace Go.Proofs.YtpdhmbbmhomlnaaDoor
open Go.RowKit Go.Cn Go.Cn.Num
theorem getN_put {m : LM} (hs : Rises SI.lt m) (p : ByteArray) (v : Int) : getN (putM SI.lt m p v) p = v := getN_mem (hs.put SI.O p v) (put_mem m p v)
theorem getN_ne {m : LM} (hs : Rises SI.lt m) {p q : ByteArray} (h : q ≠ p) (v : Int) : getN (putM SI.lt m p v) q = getN m q := by
  cases hf : fnd SI.lt m q with
  | true =>
    obtain ⟨u, hu⟩ := fnd_mem hf
    rw [getN_mem hs hu]
    exact getN_mem (hs.put SI.O p v) (put_old hu h)
  | false =>
    rw [getM_no hf]
    refine getM_no (no_fnd (fun x hx e => ?_))
    rcases mem_put hx with rfl | hx
    · exact h e.symm
    · obtain ⟨n, u⟩ := x
      simp only at e
      subst e
      obtain ⟨_, h2, _⟩ := mem_fnd SI.O hs hx
      rw [hf] at h2; cases h2
theorem begin_near {m : LM} (hg : Good m) (p q : ByteArray) : getN m q ≤ getN (beginM m p).1 q ∧ getN (beginM m p).1 q ≤ getN m q + 1 := by
  unfold beginM
  split
  · exact ⟨Int.le_refl _, by show getN m q ≤ getN m q + 1; omega⟩
  · split
    · exact ⟨Int.le_refl _, by show getN m q ≤ getN m q + 1; omega⟩
    · show getN m q ≤ getN (putM SI.lt m p (getN m p + 1)) q ∧ getN (putM SI.lt m p (getN m p + 1)) q ≤ getN m q + 1
      by_cases e : q = p
      · subst e
        rw [getN_put hg.up]; omega
      · rw [getN_ne hg.up e]; omega
theorem begin_again {m : LM} {p : ByteArray} (hn : nodeB p = true) (h1 : 1 ≤ getN m p) (h2 : getN m p < 1000000000) : beginM m p = (putM SI.lt m p (getN m p + 1), getN m p + 1, 0) := by
  unfold beginM
  rw [hn, if_neg (by decide), if_neg]
  rintro (e | e)
  · rw [getM_no e.1] at h1; omega
  · omega
set_option maxHeartbeats 4000000 in
theorem livesRise_walk (A : Option Addr) (cap : Nat) (l : List ByteArray) (p : ByteArray) (w : World) (hm : MaxAt w) (hsm : p.size ≤ 1048576) (g1 : l.length ≤ cap) (m1 : cap ≤ 9223372036854775807) (r1 : RRow 1 RStr w A l) (hqs : p.size ≤ 9223372036854775807) :
    Calls Tryd.prog 5 #[.slice A l.length cap, .string p] w fun e w' => e = .returned (.bool true) ∧ Below w.heap.size w w' := by
  have hr := Reads.of_row rstr_one r1
  clear r1
  refine callK_ret fun R hR => ?_
  refine F5_calls _ _ _ _ ?_; unfold F5
  refine ck7 (known_any hm ?_)
  intro w1 q1
  have hz := hm.pos
  simp (maxSteps := 1000000) (disch := omega) only [hid1', hid2', guardK_u, takeG_u, wrap_in64, optK_some', fzK_false', nilK_ptr, brK_true', brK_false', guardK_tt', guardK_ff', guardK_tf', guardK_ft', takeG_tt', takeG_ff', takeG_tf', takeG_ft', pickK_t', pickK_f', pickT_t', pickT_f', notK, extract2_0', extract2_1', extract3_0', extract3_1', extract3_2', here_load, here_fieldAt, here_indexAt, here_extract, here_un, here_conv, here_slice, here_bin, here_nil, and_here, true_and, Nat.zero_add, Nat.add_assoc, Nat.add_zero, Int.toNat_natCast, size_alloc, World.cell?_drew, World.frozen?_drew, Bool.not_true, Bool.not_false, Int.toNat_zero, dec_t, dec_f, int_eq_t, int_eq_f, int_ne_t, int_ne_f, wrap_in, klen22, hlen22, kbgtr3, klen9, hlen9, kblss3, kia22, kld9, kbneq3, kbeql24n, kbadd3, kbeql2, kbleq2]
  by_cases h60 : 60 < l.length
  · simp (maxSteps := 1000000) (disch := omega) only [hid1', hid2', guardK_u, takeG_u, wrap_in64, optK_some', fzK_false', nilK_ptr, brK_true', brK_false', guardK_tt', guardK_ff', guardK_tf', guardK_ft', takeG_tt', takeG_ff', takeG_tf', takeG_ft', pickK_t', pickK_f', pickT_t', pickT_f', notK, extract2_0', extract2_1', extract3_0', extract3_1', extract3_2', here_load, here_fieldAt, here_indexAt, here_extract, here_un, here_conv, here_slice, here_bin, here_nil, and_here, true_and, Nat.zero_add, Nat.add_assoc, Nat.add_zero, Int.toNat_natCast, size_alloc, World.cell?_drew, World.frozen?_drew, Bool.not_true, Bool.not_false, Int.toNat_zero, dec_t, dec_f, int_eq_t, int_eq_f, int_ne_t, int_ne_f, wrap_in, klen22, hlen22, kbgtr3, klen9, hlen9, kblss3, kia22, kld9, kbneq3, kbeql24n, kbadd3, kbeql2, kbleq2, guardK_u]
    exact hR _ (Qt.below q1)
  simp (maxSteps := 1000000) (disch := omega) only [hid1', hid2', guardK_u, takeG_u, wrap_in64, optK_some', fzK_false', nilK_ptr, brK_true', brK_false', guardK_tt', guardK_ff', guardK_tf', guardK_ft', takeG_tt', takeG_ff', takeG_tf', takeG_ft', pickK_t', pickK_f', pickT_t', pickT_f', notK, extract2_0', extract2_1', extract3_0', extract3_1', extract3_2', here_load, here_fieldAt, here_indexAt, here_extract, here_un, here_conv, here_slice, here_bin, here_nil, and_here, true_and, Nat.zero_add, Nat.add_assoc, Nat.add_zero, Int.toNat_natCast, size_alloc, World.cell?_drew, World.frozen?_drew, Bool.not_true, Bool.not_false, Int.toNat_zero, dec_t, dec_f, int_eq_t, int_eq_f, int_ne_t, int_ne_f, wrap_in, klen22, hlen22, kbgtr3, klen9, hlen9, kblss3, kia22, kld9, kbneq3, kbeql24n, kbadd3, kbeql2, kbleq2]
  refine ck18 (nodeR_str (by omega) ?_)
  intro w2 q2
  have q02 := q1.trans q2
  by_cases hn : nodeB p = false
  · rw [hn]
    simp (maxSteps := 1000000) (disch := omega) only [hid1', hid2', guardK_u, takeG_u, wrap_in64, optK_some', fzK_false', nilK_ptr, brK_true', brK_false', guardK_tt', guardK_ff', guardK_tf', guardK_ft', takeG_tt', takeG_ff', takeG_tf', takeG_ft', pickK_t', pickK_f', pickT_t', pickT_f', notK, extract2_0', extract2_1', extract3_0', extract3_1', extract3_2', here_load, here_fieldAt, here_indexAt, here_extract, here_un, here_conv, here_slice, here_bin, here_nil, and_here, true_and, Nat.zero_add, Nat.add_assoc, Nat.add_zero, Int.toNat_natCast, size_alloc, World.cell?_drew, World.frozen?_drew, Bool.not_true, Bool.not_false, Int.toNat_zero, dec_t, dec_f, int_eq_t, int_eq_f, int_ne_t, int_ne_f, wrap_in, klen22, hlen22, kbgtr3, klen9, hlen9, kblss3, kia22, kld9, kbneq3, kbeql24n, kbadd3, kbeql2, kbleq2]
    exact hR _ (Qt.below q02)
  have hn' : nodeB p = true := by simpa using hn
  rw [hn']
  have hps := (node_size hn').2
  simp (maxSteps := 1000000) (disch := omega) only [hid1', hid2', guardK_u, takeG_u, wrap_in64, optK_some', fzK_false', nilK_ptr, brK_true', brK_false', guardK_tt', guardK_ff', guardK_tf', guardK_ft', takeG_tt', takeG_ff', takeG_tf', takeG_ft', pickK_t', pickK_f', pickT_t', pickT_f', notK, extract2_0', extract2_1', extract3_0', extract3_1', extract3_2', here_load, here_fieldAt, here_indexAt, here_extract, here_un, here_conv, here_slice, here_bin, here_nil, and_here, true_and, Nat.zero_add, Nat.add_assoc, Nat.add_zero, Int.toNat_natCast, size_alloc, World.cell?_drew, World.frozen?_drew, Bool.not_true, Bool.not_false, Int.toNat_zero, dec_t, dec_f, int_eq_t, int_eq_f, int_ne_t, int_ne_f, wrap_in, klen22, hlen22, kbgtr3, klen9, hlen9, kblss3, kia22, kld9, kbneq3, kbeql24n, kbadd3, kbeql2, kbleq2]
  refine ck8 (new_lives ?_)
  intro x0 g0 w3 h3 q3 hx0 hg0
  have hs2 := q02.size
  have q03 := q02.trans q3
  simp (maxSteps := 1000000) (disch := omega) only [hid1', hid2', guardK_u, takeG_u, wrap_in64, optK_some', fzK_false', nilK_ptr, brK_true', brK_false', guardK_tt', guardK_ff', guardK_tf', guardK_ft', takeG_tt', takeG_ff', takeG_tf', takeG_ft', pickK_t', pickK_f', pickT_t', pickT_f', notK, extract2_0', extract2_1', extract3_0', extract3_1', extract3_2', here_load, here_fieldAt, here_indexAt, here_extract, here_un, here_conv, here_slice, here_bin, here_nil, and_here, true_and, Nat.zero_add, Nat.add_assoc, Nat.add_zero, Int.toNat_natCast, size_alloc, World.cell?_drew, World.frozen?_drew, Bool.not_true, Bool.not_false, Int.toNat_zero, dec_t, dec_f, int_eq_t, int_eq_f, int_ne_t, int_ne_f, wrap_in, klen22, hlen22, kbgtr3, klen9, hlen9, kblss3, kia22, kld9, kbneq3, kbeql24n, kbadd3, kbeql2, kbleq2]
  refine ck10 (begin_lv (p := p) hm ⟨h3, by omega, by omega, fun _ h => (by cases h)⟩ q03 Good.nil (by omega) ?_)
  rw [begin_new hn']
  intro F4 w4 v4 q04 _ _
  simp only at v4
  have G1 : Good [(p, (1 : Int))] := by have := beginM_good Good.nil p; rw [begin_new hn'] at this; exact this
  have o1 : getN [(p, (1 : Int))] p = 1 := getN_mem (rises_one _ _) (by simp)
  simp (maxSteps := 1000000) (disch := omega) only [hid1', hid2', guardK_u, takeG_u, wrap_in64, optK_some', fzK_false', nilK_ptr, brK_true', brK_false', guardK_tt', guardK_ff', guardK_tf', guardK_ft', takeG_tt', takeG_ff', takeG_tf', takeG_ft', pickK_t', pickK_f', pickT_t', pickT_f', notK, extract2_0', extract2_1', extract3_0', extract3_1', extract3_2', here_load, here_fieldAt, here_indexAt, here_extract, here_un, here_conv, here_slice, here_bin, here_nil, and_here, true_and, Nat.zero_add, Nat.add_assoc, Nat.add_zero, Int.toNat_natCast, size_alloc, World.cell?_drew, World.frozen?_drew, Bool.not_true, Bool.not_false, Int.toNat_zero, dec_t, dec_f, int_eq_t, int_eq_f, int_ne_t, int_ne_f, wrap_in, klen22, hlen22, kbgtr3, klen9, hlen9, kblss3, kia22, kld9, kbneq3, kbeql24n, kbadd3, kbeql2, kbleq2]
  refine loopK3 (fun v1 v2 v3 w' => ∃ (i : Nat) (x g : Nat) (m : LM) (F : Option Nat) (n : Int), v1 = .pointer (some ⟨x, 0, none⟩) ∧ v2 = .int .i64 n ∧ v3 = .int .i64 i ∧ i ≤ l.length ∧ LV w.heap.size w' x g m F ∧ Good m ∧ getN m p = n ∧ 1 ≤ n ∧ n ≤ 2 * i + 1 ∧ Qt w w') (fun _ _ v _ => l.length - (intOf v).toNat) ⟨0, x0, g0, _, F4, 1, rfl, rfl, rfl, by omega, v4, G1, o1, by omega, by omega, q04⟩ ?_
  rintro _ _ _ _ w5 ⟨i, x, g, m, F, n, rfl, rfl, rfl, hi, v5, hg, hon, hn1, hn2, q5⟩
  have hfew := hg.few
  by_cases hlt : i < l.length
  · have T : ∀ w', Qt w w' → ∃ b o, A = some ⟨b, o, none⟩ ∧ w'.cell? ⟨b, o + i, none⟩ = some (.string (l.getD i default)) := fun w' q => (hr.quiet q).get hlt
    obtain ⟨b, o, rfl, hc5⟩ := T w5 q5
    clear T
    generalize l.getD i default = s at *
    by_cases h100 : 100 < s.size
    · simp (maxSteps := 1000000) (disch := omega) only [hid1', hid2', guardK_u, takeG_u, wrap_in64, optK_some', fzK_false', nilK_ptr, brK_true', brK_false', guardK_tt', guardK_ff', guardK_tf', guardK_ft', takeG_tt', takeG_ff', takeG_tf', takeG_ft', pickK_t', pickK_f', pickT_t', pickT_f', notK, extract2_0', extract2_1', extract3_0', extract3_1', extract3_2', here_load, here_fieldAt, here_indexAt, here_extract, here_un, here_conv, here_slice, here_bin, here_nil, and_here, true_and, Nat.zero_add, Nat.add_assoc, Nat.add_zero, Int.toNat_natCast, size_alloc, World.cell?_drew, World.frozen?_drew, Bool.not_true, Bool.not_false, Int.toNat_zero, dec_t, dec_f, int_eq_t, int_eq_f, int_ne_t, int_ne_f, wrap_in, klen22, hlen22, kbgtr3, klen9, hlen9, kblss3, kia22, kld9, kbneq3, kbeql24n, kbadd3, kbeql2, kbleq2, hc5]
      exact hR _ (Qt.below q5)
    simp (maxSteps := 1000000) (disch := omega) only [hid1', hid2', guardK_u, takeG_u, wrap_in64, optK_some', fzK_false', nilK_ptr, brK_true', brK_false', guardK_tt', guardK_ff', guardK_tf', guardK_ft', takeG_tt', takeG_ff', takeG_tf', takeG_ft', pickK_t', pickK_f', pickT_t', pickT_f', notK, extract2_0', extract2_1', extract3_0', extract3_1', extract3_2', here_load, here_fieldAt, here_indexAt, here_extract, here_un, here_conv, here_slice, here_bin, here_nil, and_here, true_and, Nat.zero_add, Nat.add_assoc, Nat.add_zero, Int.toNat_natCast, size_alloc, World.cell?_drew, World.frozen?_drew, Bool.not_true, Bool.not_false, Int.toNat_zero, dec_t, dec_f, int_eq_t, int_eq_f, int_ne_t, int_ne_f, wrap_in, klen22, hlen22, kbgtr3, klen9, hlen9, kblss3, kia22, kld9, kbneq3, kbeql24n, kbadd3, kbeql2, kbleq2, hc5]
    refine ck10 (begin_lv hm v5 q5 hg (by omega) ?_)
    intro F6 w6 v6 q6 _ _
    have hg6 := beginM_good hg s
    have hnear := begin_near hg s p
    rw [hon] at hnear
    generalize beginM m s = z at *
    obtain ⟨mz, kz, ez⟩ := z
    simp only at v6 hg6 hnear ⊢
    simp (maxSteps := 1000000) (disch := omega) only [hid1', hid2', guardK_u, takeG_u, wrap_in64, optK_some', fzK_false', nilK_ptr, brK_true', brK_false', guardK_tt', guardK_ff', guardK_tf', guardK_ft', takeG_tt', takeG_ff', takeG_tf', takeG_ft', pickK_t', pickK_f', pickT_t', pickT_f', notK, extract2_0', extract2_1', extract3_0', extract3_1', extract3_2', here_load, here_fieldAt, here_indexAt, here_extract, here_un, here_conv, here_slice, here_bin, here_nil, and_here, true_and, Nat.zero_add, Nat.add_assoc, Nat.add_zero, Int.toNat_natCast, size_alloc, World.cell?_drew, World.frozen?_drew, Bool.not_true, Bool.not_false, Int.toNat_zero, dec_t, dec_f, int_eq_t, int_eq_f, int_ne_t, int_ne_f, wrap_in, klen22, hlen22, kbgtr3, klen9, hlen9, kblss3, kia22, kld9, kbneq3, kbeql24n, kbadd3, kbeql2, kbleq2]
    refine ck11 (bytes_any v6.at_ hg6 ?_)
    intro A7 c7 w7 hc7 r7 k7
    have q7 := q6.trans k7
    simp (maxSteps := 1000000) (disch := omega) only [hid1', hid2', guardK_u, takeG_u, wrap_in64, optK_some', fzK_false', nilK_ptr, brK_true', brK_false', guardK_tt', guardK_ff', guardK_tf', guardK_ft', takeG_tt', takeG_ff', takeG_tf', takeG_ft', pickK_t', pickK_f', pickT_t', pickT_f', notK, extract2_0', extract2_1', extract3_0', extract3_1', extract3_2', here_load, here_fieldAt, here_indexAt, here_extract, here_un, here_conv, here_slice, here_bin, here_nil, and_here, true_and, Nat.zero_add, Nat.add_assoc, Nat.add_zero, Int.toNat_natCast, size_alloc, World.cell?_drew, World.frozen?_drew, Bool.not_true, Bool.not_false, Int.toNat_zero, dec_t, dec_f, int_eq_t, int_eq_f, int_ne_t, int_ne_f, wrap_in, klen22, hlen22, kbgtr3, klen9, hlen9, kblss3, kia22, kld9, kbneq3, kbeql24n, kbadd3, kbeql2, kbleq2]
    refine ck13 (load_any r7 (bytesM_len hg6) hc7 (hm.quiet q7) (fun h => absurd (by rw [load_bytes hg6]) h) ?_)
    intro _ x8 g8 F8 w8 h8 k8 hx8 hg8 hF8
    rw [load_bytes hg6] at h8
    simp only at h8
    have q8 := q7.trans k8
    have hs7 := q7.size
    have hag := begin_again (m := mz) hn' (by omega) (by omega)
    have hg9 := beginM_good hg6 p
    have og9 := getN_put hg6.up p (getN mz p + 1)
    simp (maxSteps := 1000000) (disch := omega) only [hid1', hid2', guardK_u, takeG_u, wrap_in64, optK_some', fzK_false', nilK_ptr, brK_true', brK_false', guardK_tt', guardK_ff', guardK_tf', guardK_ft', takeG_tt', takeG_ff', takeG_tf', takeG_ft', pickK_t', pickK_f', pickT_t', pickT_f', notK, extract2_0', extract2_1', extract3_0', extract3_1', extract3_2', here_load, here_fieldAt, here_indexAt, here_extract, here_un, here_conv, here_slice, here_bin, here_nil, and_here, true_and, Nat.zero_add, Nat.add_assoc, Nat.add_zero, Int.toNat_natCast, size_alloc, World.cell?_drew, World.frozen?_drew, Bool.not_true, Bool.not_false, Int.toNat_zero, dec_t, dec_f, int_eq_t, int_eq_f, int_ne_t, int_ne_f, wrap_in, klen22, hlen22, kbgtr3, klen9, hlen9, kblss3, kia22, kld9, kbneq3, kbeql24n, kbadd3, kbeql2, kbleq2]
    refine ck10 (begin_lv (p := p) hm ⟨h8, by omega, by omega, fun k hk => by have := hF8 k hk; omega⟩ q8 hg6 (by omega) ?_)
    rw [hag] at hg9 ⊢
    intro F9 w9 v9 q9 _ _
    simp only at v9 hg9
    generalize putM SI.lt mz p (getN mz p + 1) = m9 at *
    generalize getN mz p = n9 at *
    simp (maxSteps := 1000000) (disch := omega) only [hid1', hid2', guardK_u, takeG_u, wrap_in64, optK_some', fzK_false', nilK_ptr, brK_true', brK_false', guardK_tt', guardK_ff', guardK_tf', guardK_ft', takeG_tt', takeG_ff', takeG_tf', takeG_ft', pickK_t', pickK_f', pickT_t', pickT_f', notK, extract2_0', extract2_1', extract3_0', extract3_1', extract3_2', here_load, here_fieldAt, here_indexAt, here_extract, here_un, here_conv, here_slice, here_bin, here_nil, and_here, true_and, Nat.zero_add, Nat.add_assoc, Nat.add_zero, Int.toNat_natCast, size_alloc, World.cell?_drew, World.frozen?_drew, Bool.not_true, Bool.not_false, Int.toNat_zero, dec_t, dec_f, int_eq_t, int_eq_f, int_ne_t, int_ne_f, wrap_in, klen22, hlen22, kbgtr3, klen9, hlen9, kblss3, kia22, kld9, kbneq3, kbeql24n, kbadd3, kbeql2, kbleq2, guardK_u]
    exact ⟨⟨i + 1, x8, g8, m9, F9, n9 + 1, rfl, rfl, by go_num, by omega, v9, hg9, og9, by omega, by omega, q9⟩, by simp [rel, intOf]; omega⟩
  · simp (maxSteps := 1000000) (disch := omega) only [hid1', hid2', guardK_u, takeG_u, wrap_in64, optK_some', fzK_false', nilK_ptr, brK_true', brK_false', guardK_tt', guardK_ff', guardK_tf', guardK_ft', takeG_tt', takeG_ff', takeG_tf', takeG_ft', pickK_t', pickK_f', pickT_t', pickT_f', notK, extract2_0', extract2_1', extract3_0', extract3_1', extract3_2', here_load, here_fieldAt, here_indexAt, here_extract, here_un, here_conv, here_slice, here_bin, here_nil, and_here, true_and, Nat.zero_add, Nat.add_assoc, Nat.add_zero, Int.toNat_natCast, size_alloc, World.cell?_drew, World.frozen?_drew, Bool.not_true, Bool.not_false, Int.toNat_zero, dec_t, dec_f, int_eq_t, int_eq_f, int_ne_t, int_ne_f, wrap_in, klen22, hlen22, kbgtr3, klen9, hlen9, kblss3, kia22, kld9, kbneq3, kbeql24n, kbadd3, kbeql2, kbleq2]
    refine ck14 (of_lives v5.at_ ?_)
    intro w6 q6
    rw [hon]
    have e1 : (n == n) = true := beq_self_eq_true n
    simp (maxSteps := 1000000) (disch := omega) only [hid1', hid2', guardK_u, takeG_u, wrap_in64, optK_some', fzK_false', nilK_ptr, brK_true', brK_false', guardK_tt', guardK_ff', guardK_tf', guardK_ft', takeG_tt', takeG_ff', takeG_tf', takeG_ft', pickK_t', pickK_f', pickT_t', pickT_f', notK, extract2_0', extract2_1', extract3_0', extract3_1', extract3_2', here_load, here_fieldAt, here_indexAt, here_extract, here_un, here_conv, here_slice, here_bin, here_nil, and_here, true_and, Nat.zero_add, Nat.add_assoc, Nat.add_zero, Int.toNat_natCast, size_alloc, World.cell?_drew, World.frozen?_drew, Bool.not_true, Bool.not_false, Int.toNat_zero, dec_t, dec_f, int_eq_t, int_eq_f, int_ne_t, int_ne_f, wrap_in, klen22, hlen22, kbgtr3, klen9, hlen9, kblss3, kia22, kld9, kbneq3, kbeql24n, kbadd3, kbeql2, kbleq2, e1]
    exact hR _ (Qt.below (q5.trans q6))
end Go.Proofs.YtpdhmbbmhomlnaaDoor

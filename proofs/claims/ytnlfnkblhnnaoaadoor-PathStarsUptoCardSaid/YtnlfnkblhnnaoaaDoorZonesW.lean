/- Join, Zones of both packages. Conditions: at most 1000 bytes. -/
import Derived.Test.YtnlfnkblhnnaoaaDoorTwoR
set_option linter.unusedVariables false
set_option linter.unusedSimpArgs false
set_option maxRecDepth 100000
namespace Go.Proofs.YtnlfnkblhnnaoaaDoor
open Go.RowKit Go.Cn
theorem own_nil_or {w : World} {e : TypeId} {n c : Nat} {A : Option Addr} {xs : List Value} {F : Option Nat} (o : Own w e 1 (.slice A n c) n xs F) : n ≤ c ∧ (n = 0 ∧ A = none ∧ c = 0 ∨ ∃ g, A = some ⟨g, 0, none⟩) := by
  have hsh := o.shape
  rcases hsh with ⟨_, c', e1, h1, h2⟩
  injection e1 with _ _ e1
  refine ⟨by omega, ?_⟩
  rcases o with ⟨e1, e2, _, _⟩ | ⟨g, cap, e1, _, _⟩
  · injection e1 with a1 _ a2; exact .inl ⟨e2, a1, a2⟩
  · injection e1 with a1 _ _; exact .inr ⟨g, a1⟩
theorem slice_own {w : World} {n c : Nat} {A : Option Addr} {xs : List Value} {F : Option Nat} (o : Own w 9 1 (.slice A n c) n xs F) (hn : n ≤ 1000) (i : Nat) (hi : i ≤ n) (K : Value → World → Prop) (w1 : World) : SliceK Tryd.prog 23 (.slice A n c) none (some (.int .i64 i)) none K w1 = K (.slice A i c) w1 := by
  obtain ⟨hc, h | ⟨g, rfl⟩⟩ := own_nil_or o
  · obtain ⟨h0, rfl, rfl⟩ := h
    subst h0
    obtain rfl : i = 0 := by omega
    show SliceK Tryd.prog 23 (.slice none 0 0) none (some (.int .i64 0)) none K w1 = _
    simp (maxSteps := 1000000) (disch := omega) only [hid1', hid2', guardK_u, takeG_u, wrap_in64, optK_some', fzK_false', nilK_ptr, brK_true', brK_false', guardK_tt', guardK_ff', guardK_tf', guardK_ft', takeG_tt', takeG_ff', takeG_tf', takeG_ft', pickK_t', pickK_f', pickT_t', pickT_f', notK, extract2_0', extract2_1', extract3_0', extract3_1', extract3_2', here_load, here_fieldAt, here_indexAt, here_extract, here_un, here_conv, here_slice, here_bin, here_nil, and_here, true_and, Nat.zero_add, Nat.add_assoc, Nat.add_zero, Int.toNat_natCast, size_alloc, World.cell?_drew, World.frozen?_drew, Bool.not_true, Bool.not_false, Int.toNat_zero, dec_t, dec_f, int_eq_t, int_eq_f, int_ne_t, int_ne_f, wrap_in, klen9, hlen9, kbgtr3, kbneq3, kbneq9, kbeql9, kbeql4, klen23, hlen23, kblss3, kia23, kld9, kbsub3, kbadd3, kbeql3, kbs23_1_0, kbneq4, kbs23_0, kcv5_3, kbrem3, kst9, kbneq24, kbgeq3, ksl23_010z, ksl23_010, kbeql24, kblss5, kbgtr5, kbneq5, kbeql5, ksl23_011, ksl23_011z, kbquo3, kbmul3, kal58, ksl23_100z, ksl23_100, kmin3_ff, kfa58_1, kld56, kst56]
  · simp (maxSteps := 1000000) (disch := omega) only [hid1', hid2', guardK_u, takeG_u, wrap_in64, optK_some', fzK_false', nilK_ptr, brK_true', brK_false', guardK_tt', guardK_ff', guardK_tf', guardK_ft', takeG_tt', takeG_ff', takeG_tf', takeG_ft', pickK_t', pickK_f', pickT_t', pickT_f', notK, extract2_0', extract2_1', extract3_0', extract3_1', extract3_2', here_load, here_fieldAt, here_indexAt, here_extract, here_un, here_conv, here_slice, here_bin, here_nil, and_here, true_and, Nat.zero_add, Nat.add_assoc, Nat.add_zero, Int.toNat_natCast, size_alloc, World.cell?_drew, World.frozen?_drew, Bool.not_true, Bool.not_false, Int.toNat_zero, dec_t, dec_f, int_eq_t, int_eq_f, int_ne_t, int_ne_f, wrap_in, klen9, hlen9, kbgtr3, kbneq3, kbneq9, kbeql9, kbeql4, klen23, hlen23, kblss3, kia23, kld9, kbsub3, kbadd3, kbeql3, kbs23_1_0, kbneq4, kbs23_0, kcv5_3, kbrem3, kst9, kbneq24, kbgeq3, ksl23_010z, ksl23_010, kbeql24, kblss5, kbgtr5, kbneq5, kbeql5, ksl23_011, ksl23_011z, kbquo3, kbmul3, kal58, ksl23_100z, ksl23_100, kmin3_ff, kfa58_1, kld56, kst56]
theorem clip_any {w : World} {n c : Nat} {A : Option Addr} {xs : List Value} {F : Option Nat} {K : Value → World → Prop} (o : Own w 9 1 (.slice A n c) n xs F) (hn : n ≤ 1000) (hK : K (.slice A n n) w) : CallK Tryd.prog 37 #[.slice A n c] K w := by
  refine F37_calls _ _ _ ?_; unfold F37
  obtain ⟨hc, h | ⟨g, rfl⟩⟩ := own_nil_or o
  · obtain ⟨h0, rfl, rfl⟩ := h
    subst h0
    have e0 : ((0 : Nat) : Int) = 0 := rfl
    simp (maxSteps := 1000000) (disch := omega) only [hid1', hid2', guardK_u, takeG_u, wrap_in64, optK_some', fzK_false', nilK_ptr, brK_true', brK_false', guardK_tt', guardK_ff', guardK_tf', guardK_ft', takeG_tt', takeG_ff', takeG_tf', takeG_ft', pickK_t', pickK_f', pickT_t', pickT_f', notK, extract2_0', extract2_1', extract3_0', extract3_1', extract3_2', here_load, here_fieldAt, here_indexAt, here_extract, here_un, here_conv, here_slice, here_bin, here_nil, and_here, true_and, Nat.zero_add, Nat.add_assoc, Nat.add_zero, Int.toNat_natCast, size_alloc, World.cell?_drew, World.frozen?_drew, Bool.not_true, Bool.not_false, Int.toNat_zero, dec_t, dec_f, int_eq_t, int_eq_f, int_ne_t, int_ne_f, wrap_in, klen9, hlen9, kbgtr3, kbneq3, kbneq9, kbeql9, kbeql4, klen23, hlen23, kblss3, kia23, kld9, kbsub3, kbadd3, kbeql3, kbs23_1_0, kbneq4, kbs23_0, kcv5_3, kbrem3, kst9, kbneq24, kbgeq3, ksl23_010z, ksl23_010, kbeql24, kblss5, kbgtr5, kbneq5, kbeql5, ksl23_011, ksl23_011z, kbquo3, kbmul3, kal58, ksl23_100z, ksl23_100, kmin3_ff, kfa58_1, kld56, kst56, e0]
    exact hK
  · simp (maxSteps := 1000000) (disch := omega) only [hid1', hid2', guardK_u, takeG_u, wrap_in64, optK_some', fzK_false', nilK_ptr, brK_true', brK_false', guardK_tt', guardK_ff', guardK_tf', guardK_ft', takeG_tt', takeG_ff', takeG_tf', takeG_ft', pickK_t', pickK_f', pickT_t', pickT_f', notK, extract2_0', extract2_1', extract3_0', extract3_1', extract3_2', here_load, here_fieldAt, here_indexAt, here_extract, here_un, here_conv, here_slice, here_bin, here_nil, and_here, true_and, Nat.zero_add, Nat.add_assoc, Nat.add_zero, Int.toNat_natCast, size_alloc, World.cell?_drew, World.frozen?_drew, Bool.not_true, Bool.not_false, Int.toNat_zero, dec_t, dec_f, int_eq_t, int_eq_f, int_ne_t, int_ne_f, wrap_in, klen9, hlen9, kbgtr3, kbneq3, kbneq9, kbeql9, kbeql4, klen23, hlen23, kblss3, kia23, kld9, kbsub3, kbadd3, kbeql3, kbs23_1_0, kbneq4, kbs23_0, kcv5_3, kbrem3, kst9, kbneq24, kbgeq3, ksl23_010z, ksl23_010, kbeql24, kblss5, kbgtr5, kbneq5, kbeql5, ksl23_011, ksl23_011z, kbquo3, kbmul3, kal58, ksl23_100z, ksl23_100, kmin3_ff, kfa58_1, kld56, kst56]
    exact hK
theorem text_n {n : Nat} {ps : List (List UInt8)} {A : Option Addr} {c : Nat} {w : World} {K : Value → World → Prop} (e : ps.length = n) (hr : Reads w A (strs ps)) (hcp : ps.length ≤ c) (hn : ps.length ≤ 200) (hp : ∀ p ∈ ps, p.length ≤ 1000)
    (hK : ∀ w', Qt w w' → K (.string (txt (pathL ps))) w') : CallK Tryd.prog 22 #[.slice A n c] K w := by subst e; exact text_any hr hcp hn hp hK
theorem pathText_n {n : Nat} {ps : List (List UInt8)} {A : Option Addr} {c : Nat} {w : World} {K : Value → World → Prop} (e : ps.length = n) (hr : Reads w A (strs ps)) (hn : ps.length ≤ 200) (hp : ∀ p ∈ ps, p.length ≤ 1000)
    (hK : K (.string (txt (pathL ps))) w) : CallK Tryd.prog 30 #[.slice A n c] K w := by subst e; exact pathText_any hr hn hp hK
theorem zs_succ (a : List (List UInt8)) (i : Nat) : strs ((List.range (i + 1)).map fun j => pathL (a.take j)) = strs ((List.range i).map fun j => pathL (a.take j)) ++ [.string (txt (pathL (a.take i)))] := by
  rw [List.range_succ]; simp [strs]
theorem zs_len (a : List (List UInt8)) (i : Nat) : ((List.range i).map fun j => pathL (a.take j)).length = i := by simp

theorem zones_any {l : List UInt8} {w : World} {K : Value → World → Prop} (hl : l.length ≤ 1000) (hm : MaxAt w)
    (hK : ∀ A c F w', Own w' 9 1 (.slice A (parseL l).2.length c) (parseL l).2.length (strs (zonesL l)) F → Qt w w' → (∀ k, F = some k → w.heap.size ≤ k) → K (.slice A (parseL l).2.length (parseL l).2.length) w') : CallK Tryd.prog 20 #[.string (txt l)] K w := by
  refine F20_calls _ _ _ ?_; unfold F20
  refine ck9 (parse_any (by omega) hm ?_)
  intro A c F w1 o1 q1 f1
  have hs1 := len_small l
  have hcap := (own_nil_or o1).1
  have hp : ∀ p ∈ (parseL l).2, p.length ≤ 8 := by
    by_cases h0 : (parseL l).1 = 0
    · exact (parts_small h0).2
    · rw [(parseL_bad h0).1]; simp
  unfold zonesL at hK

  have hsl := slice_own o1 (by omega)
  have r1 := Reads.of_own o1
  clear o1
  generalize (parseL l).2 = a at *
  simp (maxSteps := 1000000) (disch := omega) only [hid1', hid2', guardK_u, takeG_u, wrap_in64, optK_some', fzK_false', nilK_ptr, brK_true', brK_false', guardK_tt', guardK_ff', guardK_tf', guardK_ft', takeG_tt', takeG_ff', takeG_tf', takeG_ft', pickK_t', pickK_f', pickT_t', pickT_f', notK, extract2_0', extract2_1', extract3_0', extract3_1', extract3_2', here_load, here_fieldAt, here_indexAt, here_extract, here_un, here_conv, here_slice, here_bin, here_nil, and_here, true_and, Nat.zero_add, Nat.add_assoc, Nat.add_zero, Int.toNat_natCast, size_alloc, World.cell?_drew, World.frozen?_drew, Bool.not_true, Bool.not_false, Int.toNat_zero, dec_t, dec_f, int_eq_t, int_eq_f, int_ne_t, int_ne_f, wrap_in, klen9, hlen9, kbgtr3, kbneq3, kbneq9, kbeql9, kbeql4, klen23, hlen23, kblss3, kia23, kld9, kbsub3, kbadd3, kbeql3, kbs23_1_0, kbneq4, kbs23_0, kcv5_3, kbrem3, kst9, kbneq24, kbgeq3, ksl23_010z, ksl23_010, kbeql24, kblss5, kbgtr5, kbneq5, kbeql5, ksl23_011, ksl23_011z, kbquo3, kbmul3, kal58, ksl23_100z, ksl23_100, kmin3_ff, kfa58_1, kld56, kst56]
  refine loopK2 (fun x v w' => Qt w1 w' ∧ ∃ (i c' : Nat) (B : Option Addr) (G : Option Nat), v = .int .i64 i ∧ i ≤ a.length ∧ x = .slice B i c' ∧ Own w' 9 1 (.slice B i c') i (strs ((List.range i).map fun j => pathL (a.take j))) G ∧ (∀ k, G = some k → w1.heap.size ≤ k)) (fun _ v _ => a.length - (intOf v).toNat) ⟨Qt.refl, 0, 0, none, none, rfl, by omega, rfl, Own.nil _ _ _, fun _ h => by cases h⟩ ?_
  rintro _ _ _ w' ⟨q, i, c', B, G, rfl, hi, rfl, oo, fo⟩
  by_cases hlt : i < a.length
  · have hsl' := hsl i hi
    have hr := reads_take (r1.quiet q) i
    rw [strs_take] at hr
    have hlen : (a.take i).length = i := by rw [List.length_take]; omega
    simp (maxSteps := 1000000) (disch := omega) only [hid1', hid2', guardK_u, takeG_u, wrap_in64, optK_some', fzK_false', nilK_ptr, brK_true', brK_false', guardK_tt', guardK_ff', guardK_tf', guardK_ft', takeG_tt', takeG_ff', takeG_tf', takeG_ft', pickK_t', pickK_f', pickT_t', pickT_f', notK, extract2_0', extract2_1', extract3_0', extract3_1', extract3_2', here_load, here_fieldAt, here_indexAt, here_extract, here_un, here_conv, here_slice, here_bin, here_nil, and_here, true_and, Nat.zero_add, Nat.add_assoc, Nat.add_zero, Int.toNat_natCast, size_alloc, World.cell?_drew, World.frozen?_drew, Bool.not_true, Bool.not_false, Int.toNat_zero, dec_t, dec_f, int_eq_t, int_eq_f, int_ne_t, int_ne_f, wrap_in, klen9, hlen9, kbgtr3, kbneq3, kbneq9, kbeql9, kbeql4, klen23, hlen23, kblss3, kia23, kld9, kbsub3, kbadd3, kbeql3, kbs23_1_0, kbneq4, kbs23_0, kcv5_3, kbrem3, kst9, kbneq24, kbgeq3, ksl23_010z, ksl23_010, kbeql24, kblss5, kbgtr5, kbneq5, kbeql5, ksl23_011, ksl23_011z, kbquo3, kbmul3, kal58, ksl23_100z, ksl23_100, kmin3_ff, kfa58_1, kld56, kst56, hsl']
    refine ck22 (text_n hlen hr (by omega) (by omega) (fun p h => by have := hp p (List.mem_of_mem_take h); omega) ?_)
    intro w2 q2
    obtain ⟨A3, c3, F3, w3, p3, o3, k3, f3⟩ := push_run (P := Tryd.prog) tyS (oo.chg q2 (fun _ _ h => h)) (.string (txt (pathL (a.take i)))) rfl (by omega) (by omega) 23
    simp (maxSteps := 1000000) (disch := omega) only [hid1', hid2', guardK_u, takeG_u, wrap_in64, optK_some', fzK_false', nilK_ptr, brK_true', brK_false', guardK_tt', guardK_ff', guardK_tf', guardK_ft', takeG_tt', takeG_ff', takeG_tf', takeG_ft', pickK_t', pickK_f', pickT_t', pickT_f', notK, extract2_0', extract2_1', extract3_0', extract3_1', extract3_2', here_load, here_fieldAt, here_indexAt, here_extract, here_un, here_conv, here_slice, here_bin, here_nil, and_here, true_and, Nat.zero_add, Nat.add_assoc, Nat.add_zero, Int.toNat_natCast, size_alloc, World.cell?_drew, World.frozen?_drew, Bool.not_true, Bool.not_false, Int.toNat_zero, dec_t, dec_f, int_eq_t, int_eq_f, int_ne_t, int_ne_f, wrap_in, klen9, hlen9, kbgtr3, kbneq3, kbneq9, kbeql9, kbeql4, klen23, hlen23, kblss3, kia23, kld9, kbsub3, kbadd3, kbeql3, kbs23_1_0, kbneq4, kbs23_0, kcv5_3, kbrem3, kst9, kbneq24, kbgeq3, ksl23_010z, ksl23_010, kbeql24, kblss5, kbgtr5, kbneq5, kbeql5, ksl23_011, ksl23_011z, kbquo3, kbmul3, kal58, ksl23_100z, ksl23_100, kmin3_ff, kfa58_1, kld56, kst56]
    refine appK p3 ?_
    have o4 := o3
    rw [← zs_succ] at o4
    have qq := q.trans q2
    have q3 := Qt.then qq k3 (fun k hk => fo k hk)
    simp (maxSteps := 1000000) (disch := omega) only [hid1', hid2', guardK_u, takeG_u, wrap_in64, optK_some', fzK_false', nilK_ptr, brK_true', brK_false', guardK_tt', guardK_ff', guardK_tf', guardK_ft', takeG_tt', takeG_ff', takeG_tf', takeG_ft', pickK_t', pickK_f', pickT_t', pickT_f', notK, extract2_0', extract2_1', extract3_0', extract3_1', extract3_2', here_load, here_fieldAt, here_indexAt, here_extract, here_un, here_conv, here_slice, here_bin, here_nil, and_here, true_and, Nat.zero_add, Nat.add_assoc, Nat.add_zero, Int.toNat_natCast, size_alloc, World.cell?_drew, World.frozen?_drew, Bool.not_true, Bool.not_false, Int.toNat_zero, dec_t, dec_f, int_eq_t, int_eq_f, int_ne_t, int_ne_f, wrap_in, klen9, hlen9, kbgtr3, kbneq3, kbneq9, kbeql9, kbeql4, klen23, hlen23, kblss3, kia23, kld9, kbsub3, kbadd3, kbeql3, kbs23_1_0, kbneq4, kbs23_0, kcv5_3, kbrem3, kst9, kbneq24, kbgeq3, ksl23_010z, ksl23_010, kbeql24, kblss5, kbgtr5, kbneq5, kbeql5, ksl23_011, ksl23_011z, kbquo3, kbmul3, kal58, ksl23_100z, ksl23_100, kmin3_ff, kfa58_1, kld56, kst56]
    refine ⟨⟨q3, i + 1, c3, A3, F3, by go_num, by omega, rfl, o4, fun k hk => ?_⟩, by simp [rel, intOf]; omega⟩
    rcases f3 k hk with h | h
    · exact fo k h
    · have := qq.size; omega
  · obtain rfl : i = a.length := by omega
    have fin := hK B c' G w' oo (q1.trans q) (fun k hk => by have := fo k hk; have := q1.size; omega)
    simp (maxSteps := 1000000) (disch := omega) only [hid1', hid2', guardK_u, takeG_u, wrap_in64, optK_some', fzK_false', nilK_ptr, brK_true', brK_false', guardK_tt', guardK_ff', guardK_tf', guardK_ft', takeG_tt', takeG_ff', takeG_tf', takeG_ft', pickK_t', pickK_f', pickT_t', pickT_f', notK, extract2_0', extract2_1', extract3_0', extract3_1', extract3_2', here_load, here_fieldAt, here_indexAt, here_extract, here_un, here_conv, here_slice, here_bin, here_nil, and_here, true_and, Nat.zero_add, Nat.add_assoc, Nat.add_zero, Int.toNat_natCast, size_alloc, World.cell?_drew, World.frozen?_drew, Bool.not_true, Bool.not_false, Int.toNat_zero, dec_t, dec_f, int_eq_t, int_eq_f, int_ne_t, int_ne_f, wrap_in, klen9, hlen9, kbgtr3, kbneq3, kbneq9, kbeql9, kbeql4, klen23, hlen23, kblss3, kia23, kld9, kbsub3, kbadd3, kbeql3, kbs23_1_0, kbneq4, kbs23_0, kcv5_3, kbrem3, kst9, kbneq24, kbgeq3, ksl23_010z, ksl23_010, kbeql24, kblss5, kbgtr5, kbneq5, kbeql5, ksl23_011, ksl23_011z, kbquo3, kbmul3, kal58, ksl23_100z, ksl23_100, kmin3_ff, kfa58_1, kld56, kst56]
    refine ck37 (clip_any oo (by omega) ?_)
    simp (maxSteps := 1000000) (disch := omega) only [hid1', hid2', guardK_u, takeG_u, wrap_in64, optK_some', fzK_false', nilK_ptr, brK_true', brK_false', guardK_tt', guardK_ff', guardK_tf', guardK_ft', takeG_tt', takeG_ff', takeG_tf', takeG_ft', pickK_t', pickK_f', pickT_t', pickT_f', notK, extract2_0', extract2_1', extract3_0', extract3_1', extract3_2', here_load, here_fieldAt, here_indexAt, here_extract, here_un, here_conv, here_slice, here_bin, here_nil, and_here, true_and, Nat.zero_add, Nat.add_assoc, Nat.add_zero, Int.toNat_natCast, size_alloc, World.cell?_drew, World.frozen?_drew, Bool.not_true, Bool.not_false, Int.toNat_zero, dec_t, dec_f, int_eq_t, int_eq_f, int_ne_t, int_ne_f, wrap_in, klen9, hlen9, kbgtr3, kbneq3, kbneq9, kbeql9, kbeql4, klen23, hlen23, kblss3, kia23, kld9, kbsub3, kbadd3, kbeql3, kbs23_1_0, kbneq4, kbs23_0, kcv5_3, kbrem3, kst9, kbneq24, kbgeq3, ksl23_010z, ksl23_010, kbeql24, kblss5, kbgtr5, kbneq5, kbeql5, ksl23_011, ksl23_011z, kbquo3, kbmul3, kal58, ksl23_100z, ksl23_100, kmin3_ff, kfa58_1, kld56, kst56]
    exact fin
theorem pjoin_any {l p : List UInt8} {w : World} {K : Value → World → Prop} (hl : l.length ≤ 1000) (hm : MaxAt w)
    (hK : ∀ w', Qt w w' → K (.tuple #[.string (txt (joinP l p).2), .int .i64 (joinP l p).1]) w') : CallK Tryd.prog 11 #[.string (txt l), .string (txt p)] K w := by
  refine F11_calls _ _ _ _ ?_; unfold F11
  refine ck9 (parse_any (by omega) hm ?_)
  intro A c F w1 o1 q1 f1
  have hs1 := len_small l
  have r1 := Reads.of_own o1
  unfold joinP at hK
  by_cases h0 : (parseL l).1 = 0
  · rw [if_neg (by omega)] at hK
    have hp := (parts_small h0).2
    simp (maxSteps := 1000000) (disch := omega) only [hid1', hid2', guardK_u, takeG_u, wrap_in64, optK_some', fzK_false', nilK_ptr, brK_true', brK_false', guardK_tt', guardK_ff', guardK_tf', guardK_ft', takeG_tt', takeG_ff', takeG_tf', takeG_ft', pickK_t', pickK_f', pickT_t', pickT_f', notK, extract2_0', extract2_1', extract3_0', extract3_1', extract3_2', here_load, here_fieldAt, here_indexAt, here_extract, here_un, here_conv, here_slice, here_bin, here_nil, and_here, true_and, Nat.zero_add, Nat.add_assoc, Nat.add_zero, Int.toNat_natCast, size_alloc, World.cell?_drew, World.frozen?_drew, Bool.not_true, Bool.not_false, Int.toNat_zero, dec_t, dec_f, int_eq_t, int_eq_f, int_ne_t, int_ne_f, wrap_in, klen9, hlen9, kbgtr3, kbneq3, kbneq9, kbeql9, kbeql4, klen23, hlen23, kblss3, kia23, kld9, kbsub3, kbadd3, kbeql3, kbs23_1_0, kbneq4, kbs23_0, kcv5_3, kbrem3, kst9, kbneq24, kbgeq3, ksl23_010z, ksl23_010, kbeql24, kblss5, kbgtr5, kbneq5, kbeql5, ksl23_011, ksl23_011z, kbquo3, kbmul3, kal58, ksl23_100z, ksl23_100, kmin3_ff, kfa58_1, kld56, kst56, h0]
    refine ck34 (name_any ?_)
    cases hn : nameL p with
    | false =>
      rw [if_pos hn] at hK
      simp (maxSteps := 1000000) (disch := omega) only [hid1', hid2', guardK_u, takeG_u, wrap_in64, optK_some', fzK_false', nilK_ptr, brK_true', brK_false', guardK_tt', guardK_ff', guardK_tf', guardK_ft', takeG_tt', takeG_ff', takeG_tf', takeG_ft', pickK_t', pickK_f', pickT_t', pickT_f', notK, extract2_0', extract2_1', extract3_0', extract3_1', extract3_2', here_load, here_fieldAt, here_indexAt, here_extract, here_un, here_conv, here_slice, here_bin, here_nil, and_here, true_and, Nat.zero_add, Nat.add_assoc, Nat.add_zero, Int.toNat_natCast, size_alloc, World.cell?_drew, World.frozen?_drew, Bool.not_true, Bool.not_false, Int.toNat_zero, dec_t, dec_f, int_eq_t, int_eq_f, int_ne_t, int_ne_f, wrap_in, klen9, hlen9, kbgtr3, kbneq3, kbneq9, kbeql9, kbeql4, klen23, hlen23, kblss3, kia23, kld9, kbsub3, kbadd3, kbeql3, kbs23_1_0, kbneq4, kbs23_0, kcv5_3, kbrem3, kst9, kbneq24, kbgeq3, ksl23_010z, ksl23_010, kbeql24, kblss5, kbgtr5, kbneq5, kbeql5, ksl23_011, ksl23_011z, kbquo3, kbmul3, kal58, ksl23_100z, ksl23_100, kmin3_ff, kfa58_1, kld56, kst56, c0]
      exact hK w1 q1
    | true =>
      rw [if_neg (by rw [hn]; decide)] at hK
      have hpl := (nameL_iff p).1 hn
      have hc0 := (own_nil_or o1).1
      by_cases h4 : 4 ≤ (parseL l).2.length
      · rw [if_pos h4] at hK
        simp (maxSteps := 1000000) (disch := omega) only [hid1', hid2', guardK_u, takeG_u, wrap_in64, optK_some', fzK_false', nilK_ptr, brK_true', brK_false', guardK_tt', guardK_ff', guardK_tf', guardK_ft', takeG_tt', takeG_ff', takeG_tf', takeG_ft', pickK_t', pickK_f', pickT_t', pickT_f', notK, extract2_0', extract2_1', extract3_0', extract3_1', extract3_2', here_load, here_fieldAt, here_indexAt, here_extract, here_un, here_conv, here_slice, here_bin, here_nil, and_here, true_and, Nat.zero_add, Nat.add_assoc, Nat.add_zero, Int.toNat_natCast, size_alloc, World.cell?_drew, World.frozen?_drew, Bool.not_true, Bool.not_false, Int.toNat_zero, dec_t, dec_f, int_eq_t, int_eq_f, int_ne_t, int_ne_f, wrap_in, klen9, hlen9, kbgtr3, kbneq3, kbneq9, kbeql9, kbeql4, klen23, hlen23, kblss3, kia23, kld9, kbsub3, kbadd3, kbeql3, kbs23_1_0, kbneq4, kbs23_0, kcv5_3, kbrem3, kst9, kbneq24, kbgeq3, ksl23_010z, ksl23_010, kbeql24, kblss5, kbgtr5, kbneq5, kbeql5, ksl23_011, ksl23_011z, kbquo3, kbmul3, kal58, ksl23_100z, ksl23_100, kmin3_ff, kfa58_1, kld56, kst56, c0]
        exact hK w1 q1
      · rw [if_neg h4] at hK
        generalize (parseL l).2 = a at *
        have hsn : strs (a ++ [p]) = strs a ++ [.string (txt p)] := by simp [strs]
        have hln : (a ++ [p]).length = a.length + 1 := by simp
        obtain ⟨A3, c3, F3, w3, p3, o3, k3, f3⟩ := push_run (P := Tryd.prog) tyS o1 (.string (txt p)) rfl (by omega) (by omega) 23
        rw [← hsn] at o3
        have hc3 := (own_nil_or o3).1
        have q3 := Qt.then q1 k3 (fun k hk => f1 k hk)
        simp (maxSteps := 1000000) (disch := omega) only [hid1', hid2', guardK_u, takeG_u, wrap_in64, optK_some', fzK_false', nilK_ptr, brK_true', brK_false', guardK_tt', guardK_ff', guardK_tf', guardK_ft', takeG_tt', takeG_ff', takeG_tf', takeG_ft', pickK_t', pickK_f', pickT_t', pickT_f', notK, extract2_0', extract2_1', extract3_0', extract3_1', extract3_2', here_load, here_fieldAt, here_indexAt, here_extract, here_un, here_conv, here_slice, here_bin, here_nil, and_here, true_and, Nat.zero_add, Nat.add_assoc, Nat.add_zero, Int.toNat_natCast, size_alloc, World.cell?_drew, World.frozen?_drew, Bool.not_true, Bool.not_false, Int.toNat_zero, dec_t, dec_f, int_eq_t, int_eq_f, int_ne_t, int_ne_f, wrap_in, klen9, hlen9, kbgtr3, kbneq3, kbneq9, kbeql9, kbeql4, klen23, hlen23, kblss3, kia23, kld9, kbsub3, kbadd3, kbeql3, kbs23_1_0, kbneq4, kbs23_0, kcv5_3, kbrem3, kst9, kbneq24, kbgeq3, ksl23_010z, ksl23_010, kbeql24, kblss5, kbgtr5, kbneq5, kbeql5, ksl23_011, ksl23_011z, kbquo3, kbmul3, kal58, ksl23_100z, ksl23_100, kmin3_ff, kfa58_1, kld56, kst56]
        refine appK p3 ?_
        simp (maxSteps := 1000000) (disch := omega) only [hid1', hid2', guardK_u, takeG_u, wrap_in64, optK_some', fzK_false', nilK_ptr, brK_true', brK_false', guardK_tt', guardK_ff', guardK_tf', guardK_ft', takeG_tt', takeG_ff', takeG_tf', takeG_ft', pickK_t', pickK_f', pickT_t', pickT_f', notK, extract2_0', extract2_1', extract3_0', extract3_1', extract3_2', here_load, here_fieldAt, here_indexAt, here_extract, here_un, here_conv, here_slice, here_bin, here_nil, and_here, true_and, Nat.zero_add, Nat.add_assoc, Nat.add_zero, Int.toNat_natCast, size_alloc, World.cell?_drew, World.frozen?_drew, Bool.not_true, Bool.not_false, Int.toNat_zero, dec_t, dec_f, int_eq_t, int_eq_f, int_ne_t, int_ne_f, wrap_in, klen9, hlen9, kbgtr3, kbneq3, kbneq9, kbeql9, kbeql4, klen23, hlen23, kblss3, kia23, kld9, kbsub3, kbadd3, kbeql3, kbs23_1_0, kbneq4, kbs23_0, kcv5_3, kbrem3, kst9, kbneq24, kbgeq3, ksl23_010z, ksl23_010, kbeql24, kblss5, kbgtr5, kbneq5, kbeql5, ksl23_011, ksl23_011z, kbquo3, kbmul3, kal58, ksl23_100z, ksl23_100, kmin3_ff, kfa58_1, kld56, kst56]
        refine ck22 (text_n hln (Reads.of_own o3) (by omega) (by omega) (fun x h => by
          rcases List.mem_append.1 h with h | h
          · have := hp x h; omega
          · simp at h; subst h; omega) ?_)
        intro w4 q4
        simp (maxSteps := 1000000) (disch := omega) only [hid1', hid2', guardK_u, takeG_u, wrap_in64, optK_some', fzK_false', nilK_ptr, brK_true', brK_false', guardK_tt', guardK_ff', guardK_tf', guardK_ft', takeG_tt', takeG_ff', takeG_tf', takeG_ft', pickK_t', pickK_f', pickT_t', pickT_f', notK, extract2_0', extract2_1', extract3_0', extract3_1', extract3_2', here_load, here_fieldAt, here_indexAt, here_extract, here_un, here_conv, here_slice, here_bin, here_nil, and_here, true_and, Nat.zero_add, Nat.add_assoc, Nat.add_zero, Int.toNat_natCast, size_alloc, World.cell?_drew, World.frozen?_drew, Bool.not_true, Bool.not_false, Int.toNat_zero, dec_t, dec_f, int_eq_t, int_eq_f, int_ne_t, int_ne_f, wrap_in, klen9, hlen9, kbgtr3, kbneq3, kbneq9, kbeql9, kbeql4, klen23, hlen23, kblss3, kia23, kld9, kbsub3, kbadd3, kbeql3, kbs23_1_0, kbneq4, kbs23_0, kcv5_3, kbrem3, kst9, kbneq24, kbgeq3, ksl23_010z, ksl23_010, kbeql24, kblss5, kbgtr5, kbneq5, kbeql5, ksl23_011, ksl23_011z, kbquo3, kbmul3, kal58, ksl23_100z, ksl23_100, kmin3_ff, kfa58_1, kld56, kst56]
        exact hK w4 (q3.trans q4)
  · rw [if_pos h0] at hK
    simp (maxSteps := 1000000) (disch := omega) only [hid1', hid2', guardK_u, takeG_u, wrap_in64, optK_some', fzK_false', nilK_ptr, brK_true', brK_false', guardK_tt', guardK_ff', guardK_tf', guardK_ft', takeG_tt', takeG_ff', takeG_tf', takeG_ft', pickK_t', pickK_f', pickT_t', pickT_f', notK, extract2_0', extract2_1', extract3_0', extract3_1', extract3_2', here_load, here_fieldAt, here_indexAt, here_extract, here_un, here_conv, here_slice, here_bin, here_nil, and_here, true_and, Nat.zero_add, Nat.add_assoc, Nat.add_zero, Int.toNat_natCast, size_alloc, World.cell?_drew, World.frozen?_drew, Bool.not_true, Bool.not_false, Int.toNat_zero, dec_t, dec_f, int_eq_t, int_eq_f, int_ne_t, int_ne_f, wrap_in, klen9, hlen9, kbgtr3, kbneq3, kbneq9, kbeql9, kbeql4, klen23, hlen23, kblss3, kia23, kld9, kbsub3, kbadd3, kbeql3, kbs23_1_0, kbneq4, kbs23_0, kcv5_3, kbrem3, kst9, kbneq24, kbgeq3, ksl23_010z, ksl23_010, kbeql24, kblss5, kbgtr5, kbneq5, kbeql5, ksl23_011, ksl23_011z, kbquo3, kbmul3, kal58, ksl23_100z, ksl23_100, kmin3_ff, kfa58_1, kld56, kst56, h0, c0]
    exact hK w1 q1

theorem zonesR_any {l : List UInt8} {w : World} {K : Value → World → Prop} (hl : l.length ≤ 1000)
    (hK : ∀ A c F w', Own w' 9 1 (.slice A (parseL l).2.length c) (parseL l).2.length (strs (zonesL l)) F → Qt w w' → (∀ k, F = some k → w.heap.size ≤ k) → K (.slice A (parseL l).2.length c) w') : CallK Tryd.prog 21 #[.string (txt l)] K w := by
  refine F21_calls _ _ _ ?_; unfold F21
  refine ck10 (parseR_any (by omega) ?_)
  intro A c F w1 o1 q1 f1
  have hs1 := len_small l
  have hcap := (own_nil_or o1).1
  have hp : ∀ p ∈ (parseL l).2, p.length ≤ 8 := by
    by_cases h0 : (parseL l).1 = 0
    · exact (parts_small h0).2
    · rw [(parseL_bad h0).1]; simp
  unfold zonesL at hK
  by_cases h0n : ¬ (parseL l).1 = 0
  · have h0 := h0n
    have hb := (parseL_bad h0).1
    rw [hb] at hK
    simp (maxSteps := 1000000) (disch := omega) only [hid1', hid2', guardK_u, takeG_u, wrap_in64, optK_some', fzK_false', nilK_ptr, brK_true', brK_false', guardK_tt', guardK_ff', guardK_tf', guardK_ft', takeG_tt', takeG_ff', takeG_tf', takeG_ft', pickK_t', pickK_f', pickT_t', pickT_f', notK, extract2_0', extract2_1', extract3_0', extract3_1', extract3_2', here_load, here_fieldAt, here_indexAt, here_extract, here_un, here_conv, here_slice, here_bin, here_nil, and_here, true_and, Nat.zero_add, Nat.add_assoc, Nat.add_zero, Int.toNat_natCast, size_alloc, World.cell?_drew, World.frozen?_drew, Bool.not_true, Bool.not_false, Int.toNat_zero, dec_t, dec_f, int_eq_t, int_eq_f, int_ne_t, int_ne_f, wrap_in, klen9, hlen9, kbgtr3, kbneq3, kbneq9, kbeql9, kbeql4, klen23, hlen23, kblss3, kia23, kld9, kbsub3, kbadd3, kbeql3, kbs23_1_0, kbneq4, kbs23_0, kcv5_3, kbrem3, kst9, kbneq24, kbgeq3, ksl23_010z, ksl23_010, kbeql24, kblss5, kbgtr5, kbneq5, kbeql5, ksl23_011, ksl23_011z, kbquo3, kbmul3, kal58, ksl23_100z, ksl23_100, kmin3_ff, kfa58_1, kld56, kst56, h0]
    exact hK none 0 none w1 (Own.nil _ _ _) q1 (fun _ h => by cases h)
  have h0 := Decidable.not_not.1 h0n
  have hsl := slice_own o1 (by omega)
  have r1 := Reads.of_own o1
  clear o1
  generalize (parseL l).2 = a at *
  simp (maxSteps := 1000000) (disch := omega) only [hid1', hid2', guardK_u, takeG_u, wrap_in64, optK_some', fzK_false', nilK_ptr, brK_true', brK_false', guardK_tt', guardK_ff', guardK_tf', guardK_ft', takeG_tt', takeG_ff', takeG_tf', takeG_ft', pickK_t', pickK_f', pickT_t', pickT_f', notK, extract2_0', extract2_1', extract3_0', extract3_1', extract3_2', here_load, here_fieldAt, here_indexAt, here_extract, here_un, here_conv, here_slice, here_bin, here_nil, and_here, true_and, Nat.zero_add, Nat.add_assoc, Nat.add_zero, Int.toNat_natCast, size_alloc, World.cell?_drew, World.frozen?_drew, Bool.not_true, Bool.not_false, Int.toNat_zero, dec_t, dec_f, int_eq_t, int_eq_f, int_ne_t, int_ne_f, wrap_in, klen9, hlen9, kbgtr3, kbneq3, kbneq9, kbeql9, kbeql4, klen23, hlen23, kblss3, kia23, kld9, kbsub3, kbadd3, kbeql3, kbs23_1_0, kbneq4, kbs23_0, kcv5_3, kbrem3, kst9, kbneq24, kbgeq3, ksl23_010z, ksl23_010, kbeql24, kblss5, kbgtr5, kbneq5, kbeql5, ksl23_011, ksl23_011z, kbquo3, kbmul3, kal58, ksl23_100z, ksl23_100, kmin3_ff, kfa58_1, kld56, kst56, h0]
  refine loopK2 (fun x v w' => Qt w1 w' ∧ ∃ (i c' : Nat) (B : Option Addr) (G : Option Nat), v = .int .i64 i ∧ i ≤ a.length ∧ x = .slice B i c' ∧ Own w' 9 1 (.slice B i c') i (strs ((List.range i).map fun j => pathL (a.take j))) G ∧ (∀ k, G = some k → w1.heap.size ≤ k)) (fun _ v _ => a.length - (intOf v).toNat) ⟨Qt.refl, 0, 0, none, none, rfl, by omega, rfl, Own.nil _ _ _, fun _ h => by cases h⟩ ?_
  rintro _ _ _ w' ⟨q, i, c', B, G, rfl, hi, rfl, oo, fo⟩
  by_cases hlt : i < a.length
  · have hsl' := hsl i hi
    have hr := reads_take (r1.quiet q) i
    rw [strs_take] at hr
    have hlen : (a.take i).length = i := by rw [List.length_take]; omega
    simp (maxSteps := 1000000) (disch := omega) only [hid1', hid2', guardK_u, takeG_u, wrap_in64, optK_some', fzK_false', nilK_ptr, brK_true', brK_false', guardK_tt', guardK_ff', guardK_tf', guardK_ft', takeG_tt', takeG_ff', takeG_tf', takeG_ft', pickK_t', pickK_f', pickT_t', pickT_f', notK, extract2_0', extract2_1', extract3_0', extract3_1', extract3_2', here_load, here_fieldAt, here_indexAt, here_extract, here_un, here_conv, here_slice, here_bin, here_nil, and_here, true_and, Nat.zero_add, Nat.add_assoc, Nat.add_zero, Int.toNat_natCast, size_alloc, World.cell?_drew, World.frozen?_drew, Bool.not_true, Bool.not_false, Int.toNat_zero, dec_t, dec_f, int_eq_t, int_eq_f, int_ne_t, int_ne_f, wrap_in, klen9, hlen9, kbgtr3, kbneq3, kbneq9, kbeql9, kbeql4, klen23, hlen23, kblss3, kia23, kld9, kbsub3, kbadd3, kbeql3, kbs23_1_0, kbneq4, kbs23_0, kcv5_3, kbrem3, kst9, kbneq24, kbgeq3, ksl23_010z, ksl23_010, kbeql24, kblss5, kbgtr5, kbneq5, kbeql5, ksl23_011, ksl23_011z, kbquo3, kbmul3, kal58, ksl23_100z, ksl23_100, kmin3_ff, kfa58_1, kld56, kst56, hsl']
    refine ck30 (pathText_n hlen hr (by omega) (fun p h => by have := hp p (List.mem_of_mem_take h); omega) ?_)
    have q2 : Qt w' w' := Qt.refl
    obtain ⟨A3, c3, F3, w3, p3, o3, k3, f3⟩ := push_run (P := Tryd.prog) tyS (oo.chg q2 (fun _ _ h => h)) (.string (txt (pathL (a.take i)))) rfl (by omega) (by omega) 23
    simp (maxSteps := 1000000) (disch := omega) only [hid1', hid2', guardK_u, takeG_u, wrap_in64, optK_some', fzK_false', nilK_ptr, brK_true', brK_false', guardK_tt', guardK_ff', guardK_tf', guardK_ft', takeG_tt', takeG_ff', takeG_tf', takeG_ft', pickK_t', pickK_f', pickT_t', pickT_f', notK, extract2_0', extract2_1', extract3_0', extract3_1', extract3_2', here_load, here_fieldAt, here_indexAt, here_extract, here_un, here_conv, here_slice, here_bin, here_nil, and_here, true_and, Nat.zero_add, Nat.add_assoc, Nat.add_zero, Int.toNat_natCast, size_alloc, World.cell?_drew, World.frozen?_drew, Bool.not_true, Bool.not_false, Int.toNat_zero, dec_t, dec_f, int_eq_t, int_eq_f, int_ne_t, int_ne_f, wrap_in, klen9, hlen9, kbgtr3, kbneq3, kbneq9, kbeql9, kbeql4, klen23, hlen23, kblss3, kia23, kld9, kbsub3, kbadd3, kbeql3, kbs23_1_0, kbneq4, kbs23_0, kcv5_3, kbrem3, kst9, kbneq24, kbgeq3, ksl23_010z, ksl23_010, kbeql24, kblss5, kbgtr5, kbneq5, kbeql5, ksl23_011, ksl23_011z, kbquo3, kbmul3, kal58, ksl23_100z, ksl23_100, kmin3_ff, kfa58_1, kld56, kst56]
    refine appK p3 ?_
    have o4 := o3
    rw [← zs_succ] at o4
    have qq := q.trans q2
    have q3 := Qt.then qq k3 (fun k hk => fo k hk)
    simp (maxSteps := 1000000) (disch := omega) only [hid1', hid2', guardK_u, takeG_u, wrap_in64, optK_some', fzK_false', nilK_ptr, brK_true', brK_false', guardK_tt', guardK_ff', guardK_tf', guardK_ft', takeG_tt', takeG_ff', takeG_tf', takeG_ft', pickK_t', pickK_f', pickT_t', pickT_f', notK, extract2_0', extract2_1', extract3_0', extract3_1', extract3_2', here_load, here_fieldAt, here_indexAt, here_extract, here_un, here_conv, here_slice, here_bin, here_nil, and_here, true_and, Nat.zero_add, Nat.add_assoc, Nat.add_zero, Int.toNat_natCast, size_alloc, World.cell?_drew, World.frozen?_drew, Bool.not_true, Bool.not_false, Int.toNat_zero, dec_t, dec_f, int_eq_t, int_eq_f, int_ne_t, int_ne_f, wrap_in, klen9, hlen9, kbgtr3, kbneq3, kbneq9, kbeql9, kbeql4, klen23, hlen23, kblss3, kia23, kld9, kbsub3, kbadd3, kbeql3, kbs23_1_0, kbneq4, kbs23_0, kcv5_3, kbrem3, kst9, kbneq24, kbgeq3, ksl23_010z, ksl23_010, kbeql24, kblss5, kbgtr5, kbneq5, kbeql5, ksl23_011, ksl23_011z, kbquo3, kbmul3, kal58, ksl23_100z, ksl23_100, kmin3_ff, kfa58_1, kld56, kst56]
    refine ⟨⟨q3, i + 1, c3, A3, F3, by go_num, by omega, rfl, o4, fun k hk => ?_⟩, by simp [rel, intOf]; omega⟩
    rcases f3 k hk with h | h
    · exact fo k h
    · have := qq.size; omega
  · obtain rfl : i = a.length := by omega
    have fin := hK B c' G w' oo (q1.trans q) (fun k hk => by have := fo k hk; have := q1.size; omega)
    simp (maxSteps := 1000000) (disch := omega) only [hid1', hid2', guardK_u, takeG_u, wrap_in64, optK_some', fzK_false', nilK_ptr, brK_true', brK_false', guardK_tt', guardK_ff', guardK_tf', guardK_ft', takeG_tt', takeG_ff', takeG_tf', takeG_ft', pickK_t', pickK_f', pickT_t', pickT_f', notK, extract2_0', extract2_1', extract3_0', extract3_1', extract3_2', here_load, here_fieldAt, here_indexAt, here_extract, here_un, here_conv, here_slice, here_bin, here_nil, and_here, true_and, Nat.zero_add, Nat.add_assoc, Nat.add_zero, Int.toNat_natCast, size_alloc, World.cell?_drew, World.frozen?_drew, Bool.not_true, Bool.not_false, Int.toNat_zero, dec_t, dec_f, int_eq_t, int_eq_f, int_ne_t, int_ne_f, wrap_in, klen9, hlen9, kbgtr3, kbneq3, kbneq9, kbeql9, kbeql4, klen23, hlen23, kblss3, kia23, kld9, kbsub3, kbadd3, kbeql3, kbs23_1_0, kbneq4, kbs23_0, kcv5_3, kbrem3, kst9, kbneq24, kbgeq3, ksl23_010z, ksl23_010, kbeql24, kblss5, kbgtr5, kbneq5, kbeql5, ksl23_011, ksl23_011z, kbquo3, kbmul3, kal58, ksl23_100z, ksl23_100, kmin3_ff, kfa58_1, kld56, kst56]
    exact fin
theorem pjoinR_any {l p : List UInt8} {w : World} {K : Value → World → Prop} (hl : l.length ≤ 1000)
    (hK : ∀ w', Qt w w' → K (.tuple #[.string (txt (joinP l p).2), .int .i64 (joinP l p).1]) w') : CallK Tryd.prog 12 #[.string (txt l), .string (txt p)] K w := by
  refine F12_calls _ _ _ _ ?_; unfold F12
  refine ck10 (parseR_any (by omega) ?_)
  intro A c F w1 o1 q1 f1
  have hs1 := len_small l
  have r1 := Reads.of_own o1
  unfold joinP at hK
  by_cases h0 : (parseL l).1 = 0
  · rw [if_neg (by omega)] at hK
    have hp := (parts_small h0).2
    simp (maxSteps := 1000000) (disch := omega) only [hid1', hid2', guardK_u, takeG_u, wrap_in64, optK_some', fzK_false', nilK_ptr, brK_true', brK_false', guardK_tt', guardK_ff', guardK_tf', guardK_ft', takeG_tt', takeG_ff', takeG_tf', takeG_ft', pickK_t', pickK_f', pickT_t', pickT_f', notK, extract2_0', extract2_1', extract3_0', extract3_1', extract3_2', here_load, here_fieldAt, here_indexAt, here_extract, here_un, here_conv, here_slice, here_bin, here_nil, and_here, true_and, Nat.zero_add, Nat.add_assoc, Nat.add_zero, Int.toNat_natCast, size_alloc, World.cell?_drew, World.frozen?_drew, Bool.not_true, Bool.not_false, Int.toNat_zero, dec_t, dec_f, int_eq_t, int_eq_f, int_ne_t, int_ne_f, wrap_in, klen9, hlen9, kbgtr3, kbneq3, kbneq9, kbeql9, kbeql4, klen23, hlen23, kblss3, kia23, kld9, kbsub3, kbadd3, kbeql3, kbs23_1_0, kbneq4, kbs23_0, kcv5_3, kbrem3, kst9, kbneq24, kbgeq3, ksl23_010z, ksl23_010, kbeql24, kblss5, kbgtr5, kbneq5, kbeql5, ksl23_011, ksl23_011z, kbquo3, kbmul3, kal58, ksl23_100z, ksl23_100, kmin3_ff, kfa58_1, kld56, kst56, h0]
    refine ck36 (nameR_any ?_)
    cases hn : nameL p with
    | false =>
      rw [if_pos hn] at hK
      simp (maxSteps := 1000000) (disch := omega) only [hid1', hid2', guardK_u, takeG_u, wrap_in64, optK_some', fzK_false', nilK_ptr, brK_true', brK_false', guardK_tt', guardK_ff', guardK_tf', guardK_ft', takeG_tt', takeG_ff', takeG_tf', takeG_ft', pickK_t', pickK_f', pickT_t', pickT_f', notK, extract2_0', extract2_1', extract3_0', extract3_1', extract3_2', here_load, here_fieldAt, here_indexAt, here_extract, here_un, here_conv, here_slice, here_bin, here_nil, and_here, true_and, Nat.zero_add, Nat.add_assoc, Nat.add_zero, Int.toNat_natCast, size_alloc, World.cell?_drew, World.frozen?_drew, Bool.not_true, Bool.not_false, Int.toNat_zero, dec_t, dec_f, int_eq_t, int_eq_f, int_ne_t, int_ne_f, wrap_in, klen9, hlen9, kbgtr3, kbneq3, kbneq9, kbeql9, kbeql4, klen23, hlen23, kblss3, kia23, kld9, kbsub3, kbadd3, kbeql3, kbs23_1_0, kbneq4, kbs23_0, kcv5_3, kbrem3, kst9, kbneq24, kbgeq3, ksl23_010z, ksl23_010, kbeql24, kblss5, kbgtr5, kbneq5, kbeql5, ksl23_011, ksl23_011z, kbquo3, kbmul3, kal58, ksl23_100z, ksl23_100, kmin3_ff, kfa58_1, kld56, kst56, c0]
      exact hK w1 q1
    | true =>
      rw [if_neg (by rw [hn]; decide)] at hK
      have hpl := (nameL_iff p).1 hn
      have hc0 := (own_nil_or o1).1
      by_cases h4 : 4 ≤ (parseL l).2.length
      · rw [if_pos h4] at hK
        simp (maxSteps := 1000000) (disch := omega) only [hid1', hid2', guardK_u, takeG_u, wrap_in64, optK_some', fzK_false', nilK_ptr, brK_true', brK_false', guardK_tt', guardK_ff', guardK_tf', guardK_ft', takeG_tt', takeG_ff', takeG_tf', takeG_ft', pickK_t', pickK_f', pickT_t', pickT_f', notK, extract2_0', extract2_1', extract3_0', extract3_1', extract3_2', here_load, here_fieldAt, here_indexAt, here_extract, here_un, here_conv, here_slice, here_bin, here_nil, and_here, true_and, Nat.zero_add, Nat.add_assoc, Nat.add_zero, Int.toNat_natCast, size_alloc, World.cell?_drew, World.frozen?_drew, Bool.not_true, Bool.not_false, Int.toNat_zero, dec_t, dec_f, int_eq_t, int_eq_f, int_ne_t, int_ne_f, wrap_in, klen9, hlen9, kbgtr3, kbneq3, kbneq9, kbeql9, kbeql4, klen23, hlen23, kblss3, kia23, kld9, kbsub3, kbadd3, kbeql3, kbs23_1_0, kbneq4, kbs23_0, kcv5_3, kbrem3, kst9, kbneq24, kbgeq3, ksl23_010z, ksl23_010, kbeql24, kblss5, kbgtr5, kbneq5, kbeql5, ksl23_011, ksl23_011z, kbquo3, kbmul3, kal58, ksl23_100z, ksl23_100, kmin3_ff, kfa58_1, kld56, kst56, c0]
        exact hK w1 q1
      · rw [if_neg h4] at hK
        generalize (parseL l).2 = a at *
        have hsn : strs (a ++ [p]) = strs a ++ [.string (txt p)] := by simp [strs]
        have hln : (a ++ [p]).length = a.length + 1 := by simp
        obtain ⟨⟨A2, c2, w2, p2, k2, A3, c3, F3, w3, p3, o3, k3, f3⟩, _, _⟩ := apart1_runs (P := Tryd.prog) (w := w1) tyS A a.length c (strs a) (.string (txt p)) (strs_len a) r1.src (strs_one a) rfl (by omega) (by omega) 23
        rw [← hsn] at o3
        simp (maxSteps := 1000000) (disch := omega) only [hid1', hid2', guardK_u, takeG_u, wrap_in64, optK_some', fzK_false', nilK_ptr, brK_true', brK_false', guardK_tt', guardK_ff', guardK_tf', guardK_ft', takeG_tt', takeG_ff', takeG_tf', takeG_ft', pickK_t', pickK_f', pickT_t', pickT_f', notK, extract2_0', extract2_1', extract3_0', extract3_1', extract3_2', here_load, here_fieldAt, here_indexAt, here_extract, here_un, here_conv, here_slice, here_bin, here_nil, and_here, true_and, Nat.zero_add, Nat.add_assoc, Nat.add_zero, Int.toNat_natCast, size_alloc, World.cell?_drew, World.frozen?_drew, Bool.not_true, Bool.not_false, Int.toNat_zero, dec_t, dec_f, int_eq_t, int_eq_f, int_ne_t, int_ne_f, wrap_in, klen9, hlen9, kbgtr3, kbneq3, kbneq9, kbeql9, kbeql4, klen23, hlen23, kblss3, kia23, kld9, kbsub3, kbadd3, kbeql3, kbs23_1_0, kbneq4, kbs23_0, kcv5_3, kbrem3, kst9, kbneq24, kbgeq3, ksl23_010z, ksl23_010, kbeql24, kblss5, kbgtr5, kbneq5, kbeql5, ksl23_011, ksl23_011z, kbquo3, kbmul3, kal58, ksl23_100z, ksl23_100, kmin3_ff, kfa58_1, kld56, kst56]
        refine appK p2 ?_
        simp (maxSteps := 1000000) (disch := omega) only [hid1', hid2', guardK_u, takeG_u, wrap_in64, optK_some', fzK_false', nilK_ptr, brK_true', brK_false', guardK_tt', guardK_ff', guardK_tf', guardK_ft', takeG_tt', takeG_ff', takeG_tf', takeG_ft', pickK_t', pickK_f', pickT_t', pickT_f', notK, extract2_0', extract2_1', extract3_0', extract3_1', extract3_2', here_load, here_fieldAt, here_indexAt, here_extract, here_un, here_conv, here_slice, here_bin, here_nil, and_here, true_and, Nat.zero_add, Nat.add_assoc, Nat.add_zero, Int.toNat_natCast, size_alloc, World.cell?_drew, World.frozen?_drew, Bool.not_true, Bool.not_false, Int.toNat_zero, dec_t, dec_f, int_eq_t, int_eq_f, int_ne_t, int_ne_f, wrap_in, klen9, hlen9, kbgtr3, kbneq3, kbneq9, kbeql9, kbeql4, klen23, hlen23, kblss3, kia23, kld9, kbsub3, kbadd3, kbeql3, kbs23_1_0, kbneq4, kbs23_0, kcv5_3, kbrem3, kst9, kbneq24, kbgeq3, ksl23_010z, ksl23_010, kbeql24, kblss5, kbgtr5, kbneq5, kbeql5, ksl23_011, ksl23_011z, kbquo3, kbmul3, kal58, ksl23_100z, ksl23_100, kmin3_ff, kfa58_1, kld56, kst56]
        refine appK p3 ?_
        simp (maxSteps := 1000000) (disch := omega) only [hid1', hid2', guardK_u, takeG_u, wrap_in64, optK_some', fzK_false', nilK_ptr, brK_true', brK_false', guardK_tt', guardK_ff', guardK_tf', guardK_ft', takeG_tt', takeG_ff', takeG_tf', takeG_ft', pickK_t', pickK_f', pickT_t', pickT_f', notK, extract2_0', extract2_1', extract3_0', extract3_1', extract3_2', here_load, here_fieldAt, here_indexAt, here_extract, here_un, here_conv, here_slice, here_bin, here_nil, and_here, true_and, Nat.zero_add, Nat.add_assoc, Nat.add_zero, Int.toNat_natCast, size_alloc, World.cell?_drew, World.frozen?_drew, Bool.not_true, Bool.not_false, Int.toNat_zero, dec_t, dec_f, int_eq_t, int_eq_f, int_ne_t, int_ne_f, wrap_in, klen9, hlen9, kbgtr3, kbneq3, kbneq9, kbeql9, kbeql4, klen23, hlen23, kblss3, kia23, kld9, kbsub3, kbadd3, kbeql3, kbs23_1_0, kbneq4, kbs23_0, kcv5_3, kbrem3, kst9, kbneq24, kbgeq3, ksl23_010z, ksl23_010, kbeql24, kblss5, kbgtr5, kbneq5, kbeql5, ksl23_011, ksl23_011z, kbquo3, kbmul3, kal58, ksl23_100z, ksl23_100, kmin3_ff, kfa58_1, kld56, kst56]
        refine ck30 (pathText_n hln (Reads.of_own o3) (by omega) (fun x h => by
          rcases List.mem_append.1 h with h | h
          · have := hp x h; omega
          · simp at h; subst h; omega) ?_)
        simp (maxSteps := 1000000) (disch := omega) only [hid1', hid2', guardK_u, takeG_u, wrap_in64, optK_some', fzK_false', nilK_ptr, brK_true', brK_false', guardK_tt', guardK_ff', guardK_tf', guardK_ft', takeG_tt', takeG_ff', takeG_tf', takeG_ft', pickK_t', pickK_f', pickT_t', pickT_f', notK, extract2_0', extract2_1', extract3_0', extract3_1', extract3_2', here_load, here_fieldAt, here_indexAt, here_extract, here_un, here_conv, here_slice, here_bin, here_nil, and_here, true_and, Nat.zero_add, Nat.add_assoc, Nat.add_zero, Int.toNat_natCast, size_alloc, World.cell?_drew, World.frozen?_drew, Bool.not_true, Bool.not_false, Int.toNat_zero, dec_t, dec_f, int_eq_t, int_eq_f, int_ne_t, int_ne_f, wrap_in, klen9, hlen9, kbgtr3, kbneq3, kbneq9, kbeql9, kbeql4, klen23, hlen23, kblss3, kia23, kld9, kbsub3, kbadd3, kbeql3, kbs23_1_0, kbneq4, kbs23_0, kcv5_3, kbrem3, kst9, kbneq24, kbgeq3, ksl23_010z, ksl23_010, kbeql24, kblss5, kbgtr5, kbneq5, kbeql5, ksl23_011, ksl23_011z, kbquo3, kbmul3, kal58, ksl23_100z, ksl23_100, kmin3_ff, kfa58_1, kld56, kst56]
        exact hK w3 (q1.trans k3)
  · rw [if_pos h0] at hK
    simp (maxSteps := 1000000) (disch := omega) only [hid1', hid2', guardK_u, takeG_u, wrap_in64, optK_some', fzK_false', nilK_ptr, brK_true', brK_false', guardK_tt', guardK_ff', guardK_tf', guardK_ft', takeG_tt', takeG_ff', takeG_tf', takeG_ft', pickK_t', pickK_f', pickT_t', pickT_f', notK, extract2_0', extract2_1', extract3_0', extract3_1', extract3_2', here_load, here_fieldAt, here_indexAt, here_extract, here_un, here_conv, here_slice, here_bin, here_nil, and_here, true_and, Nat.zero_add, Nat.add_assoc, Nat.add_zero, Int.toNat_natCast, size_alloc, World.cell?_drew, World.frozen?_drew, Bool.not_true, Bool.not_false, Int.toNat_zero, dec_t, dec_f, int_eq_t, int_eq_f, int_ne_t, int_ne_f, wrap_in, klen9, hlen9, kbgtr3, kbneq3, kbneq9, kbeql9, kbeql4, klen23, hlen23, kblss3, kia23, kld9, kbsub3, kbadd3, kbeql3, kbs23_1_0, kbneq4, kbs23_0, kcv5_3, kbrem3, kst9, kbneq24, kbgeq3, ksl23_010z, ksl23_010, kbeql24, kblss5, kbgtr5, kbneq5, kbeql5, ksl23_011, ksl23_011z, kbquo3, kbmul3, kal58, ksl23_100z, ksl23_100, kmin3_ff, kfa58_1, kld56, kst56, h0, c0]
    exact hK w1 q1

end Go.Proofs.YtnlfnkblhnnaoaaDoor

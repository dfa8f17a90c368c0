/- What stands between two bytes; a text read as a value. Conditions: at most 1000 bytes. -/
import Derived.Test.YtdnlenngbaaeaaaDoorTxt3
set_option linter.unusedVariables false
set_option linter.unusedSimpArgs false
set_option maxRecDepth 100000
namespace Go.Proofs.YtdnlenngbaaeaaaDoor
open Go.RowKit Go.Cn
theorem pre1 (a : UInt8) (s : List UInt8) (h : 2 ≤ s.length) : Lib.hasPrefix s [a] = decide (s.headD 0 = a) := by
  match s, h with
  | c :: r, _ =>
    unfold Lib.hasPrefix
    by_cases e : c = a
    · subst e; simp [List.isPrefixOf]
    · have : ¬ a = c := fun h => e h.symm
      simp [List.isPrefixOf, e, this]
theorem suf1 (b : UInt8) (s : List UInt8) (h : 2 ≤ s.length) : Lib.hasSuffix s [b] = decide (s.getLastD 0 = b) := by
  have hne : s ≠ [] := fun e => by rw [e] at h; simp at h
  obtain ⟨r, c, rfl⟩ : ∃ r c, s = r ++ [c] := ⟨s.dropLast, s.getLast hne, (List.dropLast_concat_getLast hne).symm⟩
  unfold Lib.hasSuffix
  have e1 : (r ++ [c]).getLastD 0 = c := by rw [List.getLastD_eq_getLast?, List.getLast?_append]; rfl
  rw [e1]
  by_cases e : c = b
  · subst e; simp [List.isSuffixOf]
  · have : ¬ b = c := fun h => e h.symm
    simp [List.isSuffixOf, List.isPrefixOf, e, this]
theorem mid_eq (s : List UInt8) : (s.drop 1).take (s.length - 1 - 1) = s.tail.dropLast := by
  rw [List.dropLast_eq_take, List.drop_one, List.length_tail]
set_option maxHeartbeats 1000000 in
theorem within54 {a b : UInt8} {s : List UInt8} {w : World} {K : Value → World → Prop} (hs : s.length ≤ 100000)
    (hK : K (.tuple #[.string (txt ((insideL a b s).getD [])), .bool (insideL a b s).isSome]) w) : CallK Tryd.prog 54 #[.string (txt s), .string (txt [a]), .string (txt [b])] K w := by
  refine F54_calls _ _ _ _ _ ?_; unfold F54
  have hz := txt_size s
  have ha := txt_size [a]
  have hb := txt_size [b]
  have ha1 : [a].length = 1 := rfl
  have hb1 : [b].length = 1 := rfl
  unfold insideL at hK
  by_cases h2 : 2 ≤ s.length
  · simp (maxSteps := 1000000) (disch := omega) only [hid1', hid2', guardK_u, takeG_u, wrap_in64, optK_some', fzK_false', nilK_ptr, brK_true', brK_false', guardK_tt', guardK_ff', guardK_tf', guardK_ft', takeG_tt', takeG_ff', takeG_tf', takeG_ft', pickK_t', pickK_f', pickT_t', pickT_f', notK, extract2_0', extract2_1', extract3_0', extract3_1', extract3_2', here_load, here_fieldAt, here_indexAt, here_extract, here_un, here_conv, here_slice, here_bin, here_nil, and_here, true_and, Nat.zero_add, Nat.add_assoc, Nat.add_zero, Int.toNat_natCast, size_alloc, World.cell?_drew, World.frozen?_drew, Bool.not_true, Bool.not_false, Int.toNat_zero, dec_t, dec_f, int_eq_t, int_eq_f, int_ne_t, int_ne_f, wrap_in, kbsub3, klen9, hlen9, kblss3, kbadd3, hz, ha, hb, ha1, hb1]
    refine has65 ?_
    rw [txt_data, txt_data, pre1 a s h2]
    by_cases e1 : s.headD 0 = a
    · rw [decide_eq_true e1]
      simp (maxSteps := 1000000) (disch := omega) only [hid1', hid2', guardK_u, takeG_u, wrap_in64, optK_some', fzK_false', nilK_ptr, brK_true', brK_false', guardK_tt', guardK_ff', guardK_tf', guardK_ft', takeG_tt', takeG_ff', takeG_tf', takeG_ft', pickK_t', pickK_f', pickT_t', pickT_f', notK, extract2_0', extract2_1', extract3_0', extract3_1', extract3_2', here_load, here_fieldAt, here_indexAt, here_extract, here_un, here_conv, here_slice, here_bin, here_nil, and_here, true_and, Nat.zero_add, Nat.add_assoc, Nat.add_zero, Int.toNat_natCast, size_alloc, World.cell?_drew, World.frozen?_drew, Bool.not_true, Bool.not_false, Int.toNat_zero, dec_t, dec_f, int_eq_t, int_eq_f, int_ne_t, int_ne_f, wrap_in, kbsub3, klen9, hlen9, kblss3, kbadd3]
      refine has66 (by rw [txt_size]; omega) ?_
      rw [txt_data, txt_data, suf1 b s h2]
      by_cases e2 : s.getLastD 0 = b
      · rw [decide_eq_true e2]
        rw [if_pos ⟨h2, e1, e2⟩] at hK
        have hsl : ∀ (K : Value → World → Prop) (w : World), SliceK Tryd.prog 9 (.string (txt s)) (some (.int .i64 1)) (some (.int .i64 ((s.length : Int) - 1))) none K w = K (.string (txt s.tail.dropLast)) w := fun K w => by
          have := slice_txt_lh Tryd.underlying9 s 1 (s.length - 1) ⟨by omega, by omega⟩ K w
          rw [mid_eq] at this
          rw [show (((s.length - 1 : Nat)) : Int) = (s.length : Int) - 1 by omega] at this
          exact this
        have hc1 : ((1 : Nat) : Int) = 1 := rfl
        simp (maxSteps := 1000000) (disch := omega) only [hid1', hid2', guardK_u, takeG_u, wrap_in64, optK_some', fzK_false', nilK_ptr, brK_true', brK_false', guardK_tt', guardK_ff', guardK_tf', guardK_ft', takeG_tt', takeG_ff', takeG_tf', takeG_ft', pickK_t', pickK_f', pickT_t', pickT_f', notK, extract2_0', extract2_1', extract3_0', extract3_1', extract3_2', here_load, here_fieldAt, here_indexAt, here_extract, here_un, here_conv, here_slice, here_bin, here_nil, and_here, true_and, Nat.zero_add, Nat.add_assoc, Nat.add_zero, Int.toNat_natCast, size_alloc, World.cell?_drew, World.frozen?_drew, Bool.not_true, Bool.not_false, Int.toNat_zero, dec_t, dec_f, int_eq_t, int_eq_f, int_ne_t, int_ne_f, wrap_in, kbsub3, klen9, hlen9, kblss3, kbadd3, hz, ha, hb, ha1, hb1, hc1, hsl]
        exact hK
      · rw [decide_eq_false e2]
        rw [if_neg (fun h => e2 h.2.2)] at hK
        simp (maxSteps := 1000000) (disch := omega) only [hid1', hid2', guardK_u, takeG_u, wrap_in64, optK_some', fzK_false', nilK_ptr, brK_true', brK_false', guardK_tt', guardK_ff', guardK_tf', guardK_ft', takeG_tt', takeG_ff', takeG_tf', takeG_ft', pickK_t', pickK_f', pickT_t', pickT_f', notK, extract2_0', extract2_1', extract3_0', extract3_1', extract3_2', here_load, here_fieldAt, here_indexAt, here_extract, here_un, here_conv, here_slice, here_bin, here_nil, and_here, true_and, Nat.zero_add, Nat.add_assoc, Nat.add_zero, Int.toNat_natCast, size_alloc, World.cell?_drew, World.frozen?_drew, Bool.not_true, Bool.not_false, Int.toNat_zero, dec_t, dec_f, int_eq_t, int_eq_f, int_ne_t, int_ne_f, wrap_in, kbsub3, klen9, hlen9, kblss3, kbadd3]
        exact hK
    · rw [decide_eq_false e1]
      rw [if_neg (fun h => e1 h.2.1)] at hK
      simp (maxSteps := 1000000) (disch := omega) only [hid1', hid2', guardK_u, takeG_u, wrap_in64, optK_some', fzK_false', nilK_ptr, brK_true', brK_false', guardK_tt', guardK_ff', guardK_tf', guardK_ft', takeG_tt', takeG_ff', takeG_tf', takeG_ft', pickK_t', pickK_f', pickT_t', pickT_f', notK, extract2_0', extract2_1', extract3_0', extract3_1', extract3_2', here_load, here_fieldAt, here_indexAt, here_extract, here_un, here_conv, here_slice, here_bin, here_nil, and_here, true_and, Nat.zero_add, Nat.add_assoc, Nat.add_zero, Int.toNat_natCast, size_alloc, World.cell?_drew, World.frozen?_drew, Bool.not_true, Bool.not_false, Int.toNat_zero, dec_t, dec_f, int_eq_t, int_eq_f, int_ne_t, int_ne_f, wrap_in, kbsub3, klen9, hlen9, kblss3, kbadd3, guardK_u]
      exact hK
  · rw [if_neg (fun h => h2 h.1)] at hK
    simp (maxSteps := 1000000) (disch := omega) only [hid1', hid2', guardK_u, takeG_u, wrap_in64, optK_some', fzK_false', nilK_ptr, brK_true', brK_false', guardK_tt', guardK_ff', guardK_tf', guardK_ft', takeG_tt', takeG_ff', takeG_tf', takeG_ft', pickK_t', pickK_f', pickT_t', pickT_f', notK, extract2_0', extract2_1', extract3_0', extract3_1', extract3_2', here_load, here_fieldAt, here_indexAt, here_extract, here_un, here_conv, here_slice, here_bin, here_nil, and_here, true_and, Nat.zero_add, Nat.add_assoc, Nat.add_zero, Int.toNat_natCast, size_alloc, World.cell?_drew, World.frozen?_drew, Bool.not_true, Bool.not_false, Int.toNat_zero, dec_t, dec_f, int_eq_t, int_eq_f, int_ne_t, int_ne_f, wrap_in, kbsub3, klen9, hlen9, kblss3, kbadd3, hz, ha, hb, ha1, hb1, guardK_u]
    exact hK
theorem numsL_snoc : ∀ (ws : List (List UInt8)) (q : List UInt8), numsL (ws ++ [q]) = match numsL ws, numR q with | some l, some v => some (l ++ [v]) | _, _ => none
  | [], q => by
    rw [List.nil_append, numsL, numsL, numsL]
    cases numR q <;> rfl
  | p :: r, q => by
    rw [List.cons_append, numsL, numsL, numsL_snoc r q]
    cases numR p <;> cases numsL r <;> cases numR q <;> rfl
theorem numsL_bad : ∀ (ws : List (List UInt8)) (q : List UInt8), q ∈ ws → numR q = none → numsL ws = none
  | p :: r, q, h, hn => by
    rw [numsL]
    rcases List.mem_cons.1 h with rfl | h
    · rw [hn]
    · rw [numsL_bad r q h hn]
      cases numR p <;> rfl
theorem numsL_len : ∀ (ws : List (List UInt8)) (l : List Int), numsL ws = some l → l.length = ws.length := fun ws l h => by
  rw [(nums_back ws l h).1, List.length_map]
theorem infoI : (Tryd.prog.info? 2).map (fun i => (i.zero, i.size, i.bytes)) = some (some (.int .i64 0), 1, 8) := by kernel_rfl
theorem tyI : ElemTy Tryd.prog 22 2 (.int .i64 0) 1 8 := ElemTy.mk' Tryd.underlying22 infoI rfl (by decide)
theorem own_cases {w : World} {e : TypeId} {sz : Nat} {A : Option Addr} {n c : Nat} {xs : List Value} {F : Option Nat} (h : Own w e sz (.slice A n c) n xs F) : (A = none ∧ n = 0 ∧ c = 0 ∧ xs = []) ∨ ∃ g, A = some ⟨g, 0, none⟩ ∧ F = some g ∧ n ≤ c ∧ c ≤ 9223372036854775807 := by
  obtain ⟨_, _, e, h1, h2⟩ := h.shape
  injection e with ea eb ec
  subst ec
  rcases h with ⟨e, h0, h3, h4⟩ | ⟨g, cap, e, hF, hr⟩
  · injection e with e1 e2 e3
    exact .inl ⟨e1, h0, e3, h3⟩
  · injection e with e1 e2 e3
    exact .inr ⟨g, e1, hF, h1, h2⟩
theorem clip57 {w : World} {n c : Nat} {A : Option Addr} {xs : List Value} {F : Option Nat} {K : Value → World → Prop} (o : Own w 2 1 (.slice A n c) n xs F) (hK : K (.slice A n n) w) : CallK Tryd.prog 57 #[.slice A n c] K w := by
  refine F57_calls _ _ _ ?_; unfold F57
  rcases own_cases o with ⟨rfl, rfl, rfl, _⟩ | ⟨g, rfl, _, h1, h2⟩
  · have e0 : ((0 : Nat) : Int) = 0 := rfl
    simp (maxSteps := 1000000) (disch := omega) only [hid1', hid2', guardK_u, takeG_u, wrap_in64, optK_some', fzK_false', nilK_ptr, brK_true', brK_false', guardK_tt', guardK_ff', guardK_tf', guardK_ft', takeG_tt', takeG_ff', takeG_tf', takeG_ft', pickK_t', pickK_f', pickT_t', pickT_f', notK, extract2_0', extract2_1', extract3_0', extract3_1', extract3_2', here_load, here_fieldAt, here_indexAt, here_extract, here_un, here_conv, here_slice, here_bin, here_nil, and_here, true_and, Nat.zero_add, Nat.add_assoc, Nat.add_zero, Int.toNat_natCast, size_alloc, World.cell?_drew, World.frozen?_drew, Bool.not_true, Bool.not_false, Int.toNat_zero, dec_t, dec_f, int_eq_t, int_eq_f, int_ne_t, int_ne_f, wrap_in, klen22, hlen22, ksl22_011, ksl22_011z, e0]
    exact hK
  · simp (maxSteps := 1000000) (disch := omega) only [hid1', hid2', guardK_u, takeG_u, wrap_in64, optK_some', fzK_false', nilK_ptr, brK_true', brK_false', guardK_tt', guardK_ff', guardK_tf', guardK_ft', takeG_tt', takeG_ff', takeG_tf', takeG_ft', pickK_t', pickK_f', pickT_t', pickT_f', notK, extract2_0', extract2_1', extract3_0', extract3_1', extract3_2', here_load, here_fieldAt, here_indexAt, here_extract, here_un, here_conv, here_slice, here_bin, here_nil, and_here, true_and, Nat.zero_add, Nat.add_assoc, Nat.add_zero, Int.toNat_natCast, size_alloc, World.cell?_drew, World.frozen?_drew, Bool.not_true, Bool.not_false, Int.toNat_zero, dec_t, dec_f, int_eq_t, int_eq_f, int_ne_t, int_ne_f, wrap_in, klen22, hlen22, ksl22_011, ksl22_011z]
    exact hK
end Go.Proofs.YtdnlenngbaaeaaaDoor

/- A value in words; by the program and by the document. Conditions: the rows read, at most 100 numbers. -/
import Derived.Test.YtdnlenngbaaeaaaDoorEnv
set_option linter.unusedVariables false
set_option linter.unusedSimpArgs false
set_option maxRecDepth 100000
namespace Go.Proofs.YtdnlenngbaaeaaaDoor
open Go.RowKit Go.Cn
theorem infoS : (Tryd.prog.info? 9).map (fun i => (i.zero, i.size, i.bytes)) = some (some (.string ByteArray.empty), 1, 16) := by kernel_rfl
theorem tyS : ElemTy Tryd.prog 59 9 (.string ByteArray.empty) 1 16 := ElemTy.mk' Tryd.underlying59 infoS rfl (by decide)
theorem push_run {P : Program} {w : World} {t e : TypeId} {z : Value} {bytes : Nat} (T : ElemTy P t e z 1 bytes) {v : Value} {n : Nat} {xs : List Value} {F : Option Nat} (ho : Own w e 1 v n xs F) (x : Value) (hx : x.oneCell' = true) (hb : (n + 1) * bytes ≤ 140737488355328) (hb2 : n + 1 ≤ 9223372036854775807) (ty : TypeId) :
    ∃ A' cap F' w', (Builtin.append_ #[t, t] ty #[v, .slice (some ⟨w.heap.size, 0, none⟩) 1 1]).run P (w.alloc (.cells #[x] e)) = .ok (.slice A' (n + 1) cap) w' ∧ Own w' e 1 (.slice A' (n + 1) cap) (n + 1) (xs ++ [x]) F' ∧ Chg (fun k => F = some k) w w' ∧ (∀ k, F' = some k → F = some k ∨ w.heap.size ≤ k) := by
  have q : Qt w (w.alloc (.cells #[x] e)) := Chg.alloc Qt.refl _
  obtain ⟨A', cap, F', w', p, o, k, f⟩ := app_run T (ho.chg q (fun _ _ h => h)) (some ⟨w.heap.size, 0, none⟩) 1 1 [x] rfl (Src.new w x e) (oneCell_one hx) hb hb2 ty
  refine ⟨A', cap, F', w', p, o, Chg.then (q.mono (fun _ _ h => h.elim)) k (fun i hi => .inl hi), fun j hj => ?_⟩
  rcases f j hj with h | h
  · exact .inl h
  · right; rw [h, size_alloc]; omega
theorem reads_own {w : World} {e : TypeId} {sz : Nat} {A : Option Addr} {n c : Nat} {xs : List Value} {F : Option Nat} (h : Own w e sz (.slice A n c) n xs F) : Reads w A xs := by
  rcases h with ⟨_, _, rfl, _⟩ | ⟨g, cap, hv, _, hr⟩
  · exact .inl rfl
  · cases hv
    refine .inr ⟨g, 0, rfl, fun j hj => ?_⟩
    have := hr.1
    rw [Nat.zero_add]
    exact hr.cell j (by rw [← this]; exact hj)
theorem joinB_eq (ps : List (List UInt8)) : joinB ps = joinS ps := by cases ps <;> rfl
theorem itoa_len {v : Int} (h : in64 v) : (Lib.itoa v).length ≤ 20 := by
  obtain ⟨h1, h2⟩ := h
  unfold Lib.itoa
  split
  · have := dec_len (u := v.natAbs) (k := 18) (by omega)
    simp; omega
  · have := dec_len (u := v.toNat) (k := 18) (by omega)
    omega
set_option maxHeartbeats 1000000 in
theorem nums40 {l : List Int} {A : Option Addr} {c : Nat} {w : World} {K : Value → World → Prop} (hr : Reads w A (ints l)) (hl : l.length ≤ 100) (hi : ∀ x ∈ l, in64 x) (he : Env2 w)
    (hK : ∀ w', Qt w w' → K (.string (txt (joinS (l.map Lib.itoa)))) w') : CallK Tryd.prog 40 #[.slice A l.length c] K w := by
  refine F40_calls _ _ _ ?_; unfold F40
  simp (maxSteps := 1000000) (disch := omega) only [hid1', hid2', guardK_u, takeG_u, wrap_in64, optK_some', fzK_false', nilK_ptr, brK_true', brK_false', guardK_tt', guardK_ff', guardK_tf', guardK_ft', takeG_tt', takeG_ff', takeG_tf', takeG_ft', pickK_t', pickK_f', pickT_t', pickT_f', notK, extract2_0', extract2_1', extract3_0', extract3_1', extract3_2', here_load, here_fieldAt, here_indexAt, here_extract, here_un, here_conv, here_slice, here_bin, here_nil, and_here, true_and, Nat.zero_add, Nat.add_assoc, Nat.add_zero, Int.toNat_natCast, size_alloc, World.cell?_drew, World.frozen?_drew, Bool.not_true, Bool.not_false, Int.toNat_zero, dec_t, dec_f, int_eq_t, int_eq_f, int_ne_t, int_ne_f, wrap_in, kblss3, kbadd3, klen22, hlen22, kia22, kld2, kbs59_1_0]
  refine loopK2 (fun v n w' => ∃ (i : Nat) (F : Option Nat), n = .int .i64 i ∧ i ≤ l.length ∧ Own w' 9 1 v i (strs ((l.take i).map Lib.itoa)) F ∧ (∀ k, F = some k → w.heap.size ≤ k) ∧ Qt w w') (fun _ n _ => l.length - (intOf n).toNat) ⟨0, none, rfl, by omega, Own.nil _ _ _, fun _ h => (by cases h), Qt.refl⟩ ?_
  rintro v _ _ w1 ⟨i, F, rfl, hil, o1, hF, q1⟩
  obtain ⟨A1, c1, rfl, hc1, hc1'⟩ := o1.shape
  by_cases hlt : i < l.length
  · obtain ⟨b, o, rfl, z1⟩ := int_at (hr.quiet q1) hlt
    have hin := hi l[i] (List.getElem_mem hlt)
    have hg : l.getD i 0 = l[i] := by simp [hlt]
    have htk : l.take (i + 1) = l.take i ++ [l[i]] := List.take_succ_eq_append_getElem hlt
    rw [hg] at z1
    generalize l[i] = x at *
    simp (maxSteps := 1000000) (disch := omega) only [hid1', hid2', guardK_u, takeG_u, wrap_in64, optK_some', fzK_false', nilK_ptr, brK_true', brK_false', guardK_tt', guardK_ff', guardK_tf', guardK_ft', takeG_tt', takeG_ff', takeG_tf', takeG_ft', pickK_t', pickK_f', pickT_t', pickT_f', notK, extract2_0', extract2_1', extract3_0', extract3_1', extract3_2', here_load, here_fieldAt, here_indexAt, here_extract, here_un, here_conv, here_slice, here_bin, here_nil, and_here, true_and, Nat.zero_add, Nat.add_assoc, Nat.add_zero, Int.toNat_natCast, size_alloc, World.cell?_drew, World.frozen?_drew, Bool.not_true, Bool.not_false, Int.toNat_zero, dec_t, dec_f, int_eq_t, int_eq_f, int_ne_t, int_ne_f, wrap_in, kblss3, kbadd3, klen22, hlen22, kia22, kld2, kbs59_1_0, z1]
    refine fmt39 hin (he.quiet q1) ?_
    intro w2 q2
    have o2 := o1.chg q2 (fun _ _ h => h)
    have s1 := q1.size
    have s2 := q2.size
    obtain ⟨A3, c3, F3, w3, p3, o3, k3, f3⟩ := push_run (P := Tryd.prog) tyS o2 (.string (txt (Lib.itoa x))) rfl (by omega) (by omega) 59
    simp (maxSteps := 1000000) (disch := omega) only [hid1', hid2', guardK_u, takeG_u, wrap_in64, optK_some', fzK_false', nilK_ptr, brK_true', brK_false', guardK_tt', guardK_ff', guardK_tf', guardK_ft', takeG_tt', takeG_ff', takeG_tf', takeG_ft', pickK_t', pickK_f', pickT_t', pickT_f', notK, extract2_0', extract2_1', extract3_0', extract3_1', extract3_2', here_load, here_fieldAt, here_indexAt, here_extract, here_un, here_conv, here_slice, here_bin, here_nil, and_here, true_and, Nat.zero_add, Nat.add_assoc, Nat.add_zero, Int.toNat_natCast, size_alloc, World.cell?_drew, World.frozen?_drew, Bool.not_true, Bool.not_false, Int.toNat_zero, dec_t, dec_f, int_eq_t, int_eq_f, int_ne_t, int_ne_f, wrap_in, kblss3, kbadd3, klen22, hlen22, kia22, kld2, kbs59_1_0]
    refine appK p3 ?_
    simp (maxSteps := 1000000) (disch := omega) only [hid1', hid2', guardK_u, takeG_u, wrap_in64, optK_some', fzK_false', nilK_ptr, brK_true', brK_false', guardK_tt', guardK_ff', guardK_tf', guardK_ft', takeG_tt', takeG_ff', takeG_tf', takeG_ft', pickK_t', pickK_f', pickT_t', pickT_f', notK, extract2_0', extract2_1', extract3_0', extract3_1', extract3_2', here_load, here_fieldAt, here_indexAt, here_extract, here_un, here_conv, here_slice, here_bin, here_nil, and_here, true_and, Nat.zero_add, Nat.add_assoc, Nat.add_zero, Int.toNat_natCast, size_alloc, World.cell?_drew, World.frozen?_drew, Bool.not_true, Bool.not_false, Int.toNat_zero, dec_t, dec_f, int_eq_t, int_eq_f, int_ne_t, int_ne_f, wrap_in, kblss3, kbadd3, klen22, hlen22, kia22, kld2, kbs59_1_0]
    refine ⟨⟨i + 1, F3, by go_num, by omega, ?_, fun k hk => (f3 k hk).elim (hF k) (fun h => by omega), Qt.then (q1.trans q2) k3 hF⟩, by simp [rel, intOf]; omega⟩
    rw [htk, List.map_append]
    unfold strs at o3 ⊢
    rw [List.map_append]
    exact o3
  · obtain rfl : i = l.length := by omega
    rw [List.take_length] at o1
    have hlen : (l.map Lib.itoa).length = l.length := List.length_map _
    simp (maxSteps := 1000000) (disch := omega) only [hid1', hid2', guardK_u, takeG_u, wrap_in64, optK_some', fzK_false', nilK_ptr, brK_true', brK_false', guardK_tt', guardK_ff', guardK_tf', guardK_ft', takeG_tt', takeG_ff', takeG_tf', takeG_ft', pickK_t', pickK_f', pickT_t', pickT_f', notK, extract2_0', extract2_1', extract3_0', extract3_1', extract3_2', here_load, here_fieldAt, here_indexAt, here_extract, here_un, here_conv, here_slice, here_bin, here_nil, and_here, true_and, Nat.zero_add, Nat.add_assoc, Nat.add_zero, Int.toNat_natCast, size_alloc, World.cell?_drew, World.frozen?_drew, Bool.not_true, Bool.not_false, Int.toNat_zero, dec_t, dec_f, int_eq_t, int_eq_f, int_ne_t, int_ne_f, wrap_in, kblss3, kbadd3, klen22, hlen22, kia22, kld2, kbs59_1_0]
    rw [← hlen]
    refine ck53 (join_any (reads_own o1) (by omega) (by omega) (fun p hp => ?_) ?_)
    · obtain ⟨x, hx, rfl⟩ := List.mem_map.1 hp
      have := itoa_len (hi x hx)
      omega
    · intro w2 q2
      rw [joinB_eq]
      simp (maxSteps := 1000000) (disch := omega) only [hid1', hid2', guardK_u, takeG_u, wrap_in64, optK_some', fzK_false', nilK_ptr, brK_true', brK_false', guardK_tt', guardK_ff', guardK_tf', guardK_ft', takeG_tt', takeG_ff', takeG_tf', takeG_ft', pickK_t', pickK_f', pickT_t', pickT_f', notK, extract2_0', extract2_1', extract3_0', extract3_1', extract3_2', here_load, here_fieldAt, here_indexAt, here_extract, here_un, here_conv, here_slice, here_bin, here_nil, and_here, true_and, Nat.zero_add, Nat.add_assoc, Nat.add_zero, Int.toNat_natCast, size_alloc, World.cell?_drew, World.frozen?_drew, Bool.not_true, Bool.not_false, Int.toNat_zero, dec_t, dec_f, int_eq_t, int_eq_f, int_ne_t, int_ne_f, wrap_in, kblss3, kbadd3, klen22, hlen22, kia22, kld2, kbs59_1_0]
      exact hK w2 (q1.trans q2)
theorem c34 : (ByteArray.mk #[34]) = txt [34] := rfl
theorem c91 : (ByteArray.mk #[91]) = txt [91] := rfl
theorem c93 : (ByteArray.mk #[93]) = txt [93] := rfl
theorem c45 : (ByteArray.mk #[45]) = txt [45] := rfl
theorem c32 : (ByteArray.mk #[32]) = txt [32] := rfl
theorem add9 (a b : List UInt8) (h : a.length + b.length ≤ 9223372036854775807) (K : Value → World → Prop) (w : World) : BinK Tryd.prog .add 9 (.string (txt a)) (.string (txt b)) K w = K (.string (txt (a ++ b))) w := add_txt a b h K w
theorem joins_len : ∀ (l : List Int), (∀ x ∈ l, in64 x) → (joinS (l.map Lib.itoa)).length ≤ l.length * 21
  | [], _ => by simp [joinS]
  | [x], h => by
    have := itoa_len (h x (by simp))
    simp [joinS]; omega
  | x :: y :: r, h => by
    have h1 := itoa_len (h x (by simp))
    have ih := joins_len (y :: r) (fun z hz => h z (by simp [hz]))
    have e : joinS ((x :: y :: r).map Lib.itoa) = Lib.itoa x ++ 32 :: joinS ((y :: r).map Lib.itoa) := by
      simp [joinS]
    rw [e, List.length_append, List.length_cons]
    simp only [List.length_cons] at ih ⊢
    omega
theorem text16 {a : Val} {A : Option Addr} {c : Nat} {w : World} {K : Value → World → Prop} (ha : Reads w A (ints a.2.2.2)) (la : a.2.2.2.length ≤ 100) (ls : a.2.2.1.size ≤ 100000) (hi : in64 a.2.1) (hl : ∀ x ∈ a.2.2.2, in64 x) (he : Env2 w)
    (hK : ∀ w', Qt w w' → K (.string (txt (textV a))) w') : CallK Tryd.prog 16 #[vv a A c] K w := by
  refine F16_calls _ _ _ ?_; unfold F16
  obtain ⟨q1, h1⟩ := box4 w a A c 24
  simp (maxSteps := 1000000) (disch := omega) only [hid1', hid2', guardK_u, takeG_u, wrap_in64, optK_some', fzK_false', nilK_ptr, brK_true', brK_false', guardK_tt', guardK_ff', guardK_tf', guardK_ft', takeG_tt', takeG_ff', takeG_tf', takeG_ft', pickK_t', pickK_f', pickT_t', pickT_f', notK, extract2_0', extract2_1', extract3_0', extract3_1', extract3_2', here_load, here_fieldAt, here_indexAt, here_extract, here_un, here_conv, here_slice, here_bin, here_nil, and_here, true_and, Nat.zero_add, Nat.add_assoc, Nat.add_zero, Int.toNat_natCast, size_alloc, World.cell?_drew, World.frozen?_drew, Bool.not_true, Bool.not_false, Int.toNat_zero, dec_t, dec_f, int_eq_t, int_eq_f, int_ne_t, int_ne_f, wrap_in, kbx24, kbeql3, kfa24_0, kld3, kfa24_3, kld22, kfa24_2, kld9, kld2, kfa24_1]
  generalize (w.alloc (.cells #[.int .i64 a.1, .int .i64 a.2.1, .string a.2.2.1, .slice A a.2.2.2.length c] 24)) = w1 at *
  generalize w.heap.size = b1 at *
  obtain ⟨x0, x1, x2, x3⟩ := cell4 h1
  have ha1 := ha.quiet q1
  have hf := fun w' (q : Qt w1 w') => hK w' (q1.trans q)
  unfold textV at hf
  by_cases k1 : a.1 = 1
  · rw [if_pos k1] at hf
    have e2 : (a.1 == 1) = true := by rw [k1]; rfl
    simp (maxSteps := 1000000) (disch := omega) only [hid1', hid2', guardK_u, takeG_u, wrap_in64, optK_some', fzK_false', nilK_ptr, brK_true', brK_false', guardK_tt', guardK_ff', guardK_tf', guardK_ft', takeG_tt', takeG_ff', takeG_tf', takeG_ft', pickK_t', pickK_f', pickT_t', pickT_f', notK, extract2_0', extract2_1', extract3_0', extract3_1', extract3_2', here_load, here_fieldAt, here_indexAt, here_extract, here_un, here_conv, here_slice, here_bin, here_nil, and_here, true_and, Nat.zero_add, Nat.add_assoc, Nat.add_zero, Int.toNat_natCast, size_alloc, World.cell?_drew, World.frozen?_drew, Bool.not_true, Bool.not_false, Int.toNat_zero, dec_t, dec_f, int_eq_t, int_eq_f, int_ne_t, int_ne_f, wrap_in, kbx24, kbeql3, kfa24_0, kld3, kfa24_3, kld22, kfa24_2, kld9, kld2, kfa24_1, x0, e2, x1]
    refine fmt39 hi (he.quiet q1) ?_
    intro w2 q2
    simp (maxSteps := 1000000) (disch := omega) only [hid1', hid2', guardK_u, takeG_u, wrap_in64, optK_some', fzK_false', nilK_ptr, brK_true', brK_false', guardK_tt', guardK_ff', guardK_tf', guardK_ft', takeG_tt', takeG_ff', takeG_tf', takeG_ft', pickK_t', pickK_f', pickT_t', pickT_f', notK, extract2_0', extract2_1', extract3_0', extract3_1', extract3_2', here_load, here_fieldAt, here_indexAt, here_extract, here_un, here_conv, here_slice, here_bin, here_nil, and_here, true_and, Nat.zero_add, Nat.add_assoc, Nat.add_zero, Int.toNat_natCast, size_alloc, World.cell?_drew, World.frozen?_drew, Bool.not_true, Bool.not_false, Int.toNat_zero, dec_t, dec_f, int_eq_t, int_eq_f, int_ne_t, int_ne_f, wrap_in, kbx24, kbeql3, kfa24_0, kld3, kfa24_3, kld22, kfa24_2, kld9, kld2, kfa24_1]
    exact hf w2 q2
  · have n1 : (a.1 == 1) = false := beq_eq_false_iff_ne.2 k1
    rw [if_neg k1] at hf
    by_cases k2 : a.1 = 2
    · rw [if_pos k2] at hf
      have e2 : (a.1 == 2) = true := by rw [k2]; rfl
      obtain ⟨l, hs⟩ : ∃ l, a.2.2.1 = txt l := ⟨a.2.2.1.data.toList, (txt_list _).symm⟩
      rw [hs, txt_data] at hf
      rw [hs, txt_size] at ls
      rw [hs] at x2
      have g1 : [(34 : UInt8)].length + l.length ≤ 9223372036854775807 := by simp; omega
      have g2 : ([(34 : UInt8)] ++ l).length + [(34 : UInt8)].length ≤ 9223372036854775807 := by simp; omega
      simp (maxSteps := 1000000) (disch := omega) only [hid1', hid2', guardK_u, takeG_u, wrap_in64, optK_some', fzK_false', nilK_ptr, brK_true', brK_false', guardK_tt', guardK_ff', guardK_tf', guardK_ft', takeG_tt', takeG_ff', takeG_tf', takeG_ft', pickK_t', pickK_f', pickT_t', pickT_f', notK, extract2_0', extract2_1', extract3_0', extract3_1', extract3_2', here_load, here_fieldAt, here_indexAt, here_extract, here_un, here_conv, here_slice, here_bin, here_nil, and_here, true_and, Nat.zero_add, Nat.add_assoc, Nat.add_zero, Int.toNat_natCast, size_alloc, World.cell?_drew, World.frozen?_drew, Bool.not_true, Bool.not_false, Int.toNat_zero, dec_t, dec_f, int_eq_t, int_eq_f, int_ne_t, int_ne_f, wrap_in, kbx24, kbeql3, kfa24_0, kld3, kfa24_3, kld22, kfa24_2, kld9, kld2, kfa24_1, x0, n1, e2, x2, c34, add9 _ _ g1, add9 _ _ g2]
      exact hf w1 Qt.refl
    · have n2 : (a.1 == 2) = false := beq_eq_false_iff_ne.2 k2
      rw [if_neg k2] at hf
      by_cases k3 : a.1 = 3
      · rw [if_pos k3] at hf
        have e2 : (a.1 == 3) = true := by rw [k3]; rfl
        have hjl := joins_len a.2.2.2 hl
        simp (maxSteps := 1000000) (disch := omega) only [hid1', hid2', guardK_u, takeG_u, wrap_in64, optK_some', fzK_false', nilK_ptr, brK_true', brK_false', guardK_tt', guardK_ff', guardK_tf', guardK_ft', takeG_tt', takeG_ff', takeG_tf', takeG_ft', pickK_t', pickK_f', pickT_t', pickT_f', notK, extract2_0', extract2_1', extract3_0', extract3_1', extract3_2', here_load, here_fieldAt, here_indexAt, here_extract, here_un, here_conv, here_slice, here_bin, here_nil, and_here, true_and, Nat.zero_add, Nat.add_assoc, Nat.add_zero, Int.toNat_natCast, size_alloc, World.cell?_drew, World.frozen?_drew, Bool.not_true, Bool.not_false, Int.toNat_zero, dec_t, dec_f, int_eq_t, int_eq_f, int_ne_t, int_ne_f, wrap_in, kbx24, kbeql3, kfa24_0, kld3, kfa24_3, kld22, kfa24_2, kld9, kld2, kfa24_1, x0, n1, n2, e2, x3]
        refine ck40 (nums40 ha1 la hl (he.quiet q1) ?_)
        intro w2 q2
        have g1 : [(91 : UInt8)].length + (joinS (a.2.2.2.map Lib.itoa)).length ≤ 9223372036854775807 := by simp; omega
        have g2 : ([(91 : UInt8)] ++ joinS (a.2.2.2.map Lib.itoa)).length + [(93 : UInt8)].length ≤ 9223372036854775807 := by simp; omega
        simp (maxSteps := 1000000) (disch := omega) only [hid1', hid2', guardK_u, takeG_u, wrap_in64, optK_some', fzK_false', nilK_ptr, brK_true', brK_false', guardK_tt', guardK_ff', guardK_tf', guardK_ft', takeG_tt', takeG_ff', takeG_tf', takeG_ft', pickK_t', pickK_f', pickT_t', pickT_f', notK, extract2_0', extract2_1', extract3_0', extract3_1', extract3_2', here_load, here_fieldAt, here_indexAt, here_extract, here_un, here_conv, here_slice, here_bin, here_nil, and_here, true_and, Nat.zero_add, Nat.add_assoc, Nat.add_zero, Int.toNat_natCast, size_alloc, World.cell?_drew, World.frozen?_drew, Bool.not_true, Bool.not_false, Int.toNat_zero, dec_t, dec_f, int_eq_t, int_eq_f, int_ne_t, int_ne_f, wrap_in, kbx24, kbeql3, kfa24_0, kld3, kfa24_3, kld22, kfa24_2, kld9, kld2, kfa24_1, c91, c93, add9 _ _ g1, add9 _ _ g2]
        exact hf w2 q2
      · have n3 : (a.1 == 3) = false := beq_eq_false_iff_ne.2 k3
        rw [if_neg k3] at hf
        simp (maxSteps := 1000000) (disch := omega) only [hid1', hid2', guardK_u, takeG_u, wrap_in64, optK_some', fzK_false', nilK_ptr, brK_true', brK_false', guardK_tt', guardK_ff', guardK_tf', guardK_ft', takeG_tt', takeG_ff', takeG_tf', takeG_ft', pickK_t', pickK_f', pickT_t', pickT_f', notK, extract2_0', extract2_1', extract3_0', extract3_1', extract3_2', here_load, here_fieldAt, here_indexAt, here_extract, here_un, here_conv, here_slice, here_bin, here_nil, and_here, true_and, Nat.zero_add, Nat.add_assoc, Nat.add_zero, Int.toNat_natCast, size_alloc, World.cell?_drew, World.frozen?_drew, Bool.not_true, Bool.not_false, Int.toNat_zero, dec_t, dec_f, int_eq_t, int_eq_f, int_ne_t, int_ne_f, wrap_in, kbx24, kbeql3, kfa24_0, kld3, kfa24_3, kld22, kfa24_2, kld9, kld2, kfa24_1, x0, n1, n2, n3]
        exact hf w1 Qt.refl
end Go.Proofs.YtdnlenngbaaeaaaDoor

/- value's read and Parse. Conditions: at most 1000 bytes. -/
import Derived.Test.YtdnlenngbaaeaaaDoorRd
set_option linter.unusedVariables false
set_option linter.unusedSimpArgs false
set_option maxRecDepth 100000
namespace Go.Proofs.YtdnlenngbaaeaaaDoor
open Go.RowKit Go.Cn
theorem zer4 (w : World) (t : TypeId) : Qt w (w.alloc (.cells #[.int .i64 0, .int .i64 0, .string ByteArray.empty, .slice none 0 0] t)) ∧ (w.alloc (.cells #[.int .i64 0, .int .i64 0, .string ByteArray.empty, .slice none 0 0] t)).heap[w.heap.size]? = some (.cells #[.int .i64 0, .int .i64 0, .string ByteArray.empty, .slice none 0 0] t (0, 0)) := ⟨Chg.alloc Qt.refl _, blk_new _ _⟩
theorem qt_sets {w w1 : World} {b : Nat} {vs : List Value} (q : Qt w w1) (hb : w.heap.size ≤ b) : Qt w (w1.setCells b 0 vs) := Qt.then q (Chg.sets (g := b) (off := 0) (cs := vs)) (fun k hk => by omega)
theorem strs_at {w : World} {A : Option Addr} {ps : List (List UInt8)} (h : Reads w A (strs ps)) {i : Nat} (hi : i < ps.length) : ∃ b o, A = some ⟨b, o, none⟩ ∧ w.cell? ⟨b, o + i, none⟩ = some (.string (txt ps[i])) := by
  obtain ⟨g, o, hA, hc⟩ := Reads.get (enc := fun p => Value.string (txt p)) h hi
  refine ⟨g, o, hA, ?_⟩
  rw [hc, List.getD_eq_getElem?_getD, List.getElem?_eq_getElem hi]; rfl
theorem partS_len : ∀ (l : List UInt8), ∀ p ∈ splitS l, p.length ≤ l.length
  | [], p, h => by simp [splitS] at h; subst h; simp
  | c :: l, p, h => by
    have ih := partS_len l
    rw [splitS] at h
    cases hs : splitS l with
    | nil => exact absurd hs (splitS_ne l)
    | cons a r =>
      rw [hs] at h ih
      split at h
      · rcases List.mem_cons.1 h with rfl | h
        · simp
        · have := ih p h; simp; omega
      · rcases List.mem_cons.1 h with rfl | h
        · have := ih a (by simp); simp; omega
        · have := ih p (List.mem_cons_of_mem _ h); simp; omega
theorem own_block {w : World} {e : TypeId} {sz : Nat} {A : Option Addr} {n c B : Nat} {xs : List Value} {F : Option Nat} (h : Own w e sz (.slice A n c) n xs F) (hF : ∀ k, F = some k → B ≤ k) : ∀ ad, A = some ad → B ≤ ad.block := by
  intro ad ha
  rcases own_cases h with ⟨e, _⟩ | ⟨g, e, hf, _⟩
  · rw [e] at ha; cases ha
  · rw [e] at ha; cases ha; exact hF g hf
/-- What read tells of a text. -/
def RdOk (s : List UInt8) (v : Val) (ok : Bool) : Prop := match readV s with
  | some x => v = x ∧ ok = true
  | none => ok = false ∧ v.2.2.2 = [] ∧ v.2.2.1.size ≤ 100000
set_option maxHeartbeats 4000000 in
theorem read42 {s : List UInt8} {w : World} {K : Value → World → Prop} (hs : s.length ≤ 1000) (he : Env2 w)
    (hK : ∀ v ok A w', Qt w w' → Reads w' A (ints v.2.2.2) → (∀ ad, A = some ad → w.heap.size ≤ ad.block) → RdOk s v ok → K (.tuple #[vv v A v.2.2.2.length, .bool ok]) w') : CallK Tryd.prog 42 #[.string (txt s)] K w := by
  refine F42_calls _ _ _ ?_; unfold F42
  obtain ⟨q1, h1⟩ := zer4 w 24
  have s1 := q1.size
  have l1 := blk_lt h1
  simp (maxSteps := 1000000) (disch := omega) only [hid1', hid2', guardK_u, takeG_u, wrap_in64, optK_some', fzK_false', nilK_ptr, brK_true', brK_false', guardK_tt', guardK_ff', guardK_tf', guardK_ft', takeG_tt', takeG_ff', takeG_tf', takeG_ft', pickK_t', pickK_f', pickT_t', pickT_f', notK, extract2_0', extract2_1', extract3_0', extract3_1', extract3_2', here_load, here_fieldAt, here_indexAt, here_extract, here_un, here_conv, here_slice, here_bin, here_nil, and_here, true_and, Nat.zero_add, Nat.add_assoc, Nat.add_zero, Int.toNat_natCast, size_alloc, World.cell?_drew, World.frozen?_drew, Bool.not_true, Bool.not_false, Int.toNat_zero, dec_t, dec_f, int_eq_t, int_eq_f, int_ne_t, int_ne_f, wrap_in, kld24, kal24, kst24f, kbeql9, kblss3, kbadd3, kfa24_3, kld22, kld9, kbd24_0_1, klen59, hlen59, kia59, kbs22_1_0, kst22, kbd24_0_2, kbd24_0]
  generalize (w.alloc (.cells #[.int .i64 0, .int .i64 0, .string ByteArray.empty, .slice none 0 0] 24)) = w1 at *
  generalize hb1 : w.heap.size = b1 at *
  rw [c34]
  refine ck54 (within54 (by omega) ?_)
  unfold RdOk readV at hK
  cases h34 : insideL 34 34 s with
  | some m =>
    rw [h34] at hK
    simp only at hK
    simp only [Option.getD_some, Option.isSome_some]
    obtain ⟨h2, k2⟩ := store4 (.int .i64 2) (.int .i64 0) (.string (txt m)) (.slice none 0 0) h1
    have q2 := qt_sets (w1 := w1) (b := b1) (vs := [.int .i64 2, .int .i64 0, .string (txt m), .slice none 0 0]) q1 (by omega)
    simp (maxSteps := 1000000) (disch := omega) only [hid1', hid2', guardK_u, takeG_u, wrap_in64, optK_some', fzK_false', nilK_ptr, brK_true', brK_false', guardK_tt', guardK_ff', guardK_tf', guardK_ft', takeG_tt', takeG_ff', takeG_tf', takeG_ft', pickK_t', pickK_f', pickT_t', pickT_f', notK, extract2_0', extract2_1', extract3_0', extract3_1', extract3_2', here_load, here_fieldAt, here_indexAt, here_extract, here_un, here_conv, here_slice, here_bin, here_nil, and_here, true_and, Nat.zero_add, Nat.add_assoc, Nat.add_zero, Int.toNat_natCast, size_alloc, World.cell?_drew, World.frozen?_drew, Bool.not_true, Bool.not_false, Int.toNat_zero, dec_t, dec_f, int_eq_t, int_eq_f, int_ne_t, int_ne_f, wrap_in, kld24, kal24, kst24f, kbeql9, kblss3, kbadd3, kfa24_3, kld22, kld9, kbd24_0_1, klen59, hlen59, kia59, kbs22_1_0, kst22, kbd24_0_2, kbd24_0]
    refine aggStoreK (there4 h1) (by kernel_rfl) (all4 rfl rfl rfl rfl) ?_
    obtain ⟨y0, y1, y2, y3⟩ := cell4 h2
    simp (maxSteps := 1000000) (disch := omega) only [hid1', hid2', guardK_u, takeG_u, wrap_in64, optK_some', fzK_false', nilK_ptr, brK_true', brK_false', guardK_tt', guardK_ff', guardK_tf', guardK_ft', takeG_tt', takeG_ff', takeG_tf', takeG_ft', pickK_t', pickK_f', pickT_t', pickT_f', notK, extract2_0', extract2_1', extract3_0', extract3_1', extract3_2', here_load, here_fieldAt, here_indexAt, here_extract, here_un, here_conv, here_slice, here_bin, here_nil, and_here, true_and, Nat.zero_add, Nat.add_assoc, Nat.add_zero, Int.toNat_natCast, size_alloc, World.cell?_drew, World.frozen?_drew, Bool.not_true, Bool.not_false, Int.toNat_zero, dec_t, dec_f, int_eq_t, int_eq_f, int_ne_t, int_ne_f, wrap_in, kld24, kal24, kst24f, kbeql9, kblss3, kbadd3, kfa24_3, kld22, kld9, kbd24_0_1, klen59, hlen59, kia59, kbs22_1_0, kst22, kbd24_0_2, kbd24_0, y0, y1, y2, y3]
    exact hK (2, 0, txt m, []) true none _ q2 (.inl rfl) (fun _ h => by cases h) ⟨rfl, rfl⟩
  | none =>
    rw [h34] at hK
    simp only at hK
    simp only [Option.getD_none, Option.isSome_none]
    simp (maxSteps := 1000000) (disch := omega) only [hid1', hid2', guardK_u, takeG_u, wrap_in64, optK_some', fzK_false', nilK_ptr, brK_true', brK_false', guardK_tt', guardK_ff', guardK_tf', guardK_ft', takeG_tt', takeG_ff', takeG_tf', takeG_ft', pickK_t', pickK_f', pickT_t', pickT_f', notK, extract2_0', extract2_1', extract3_0', extract3_1', extract3_2', here_load, here_fieldAt, here_indexAt, here_extract, here_un, here_conv, here_slice, here_bin, here_nil, and_here, true_and, Nat.zero_add, Nat.add_assoc, Nat.add_zero, Int.toNat_natCast, size_alloc, World.cell?_drew, World.frozen?_drew, Bool.not_true, Bool.not_false, Int.toNat_zero, dec_t, dec_f, int_eq_t, int_eq_f, int_ne_t, int_ne_f, wrap_in, kld24, kal24, kst24f, kbeql9, kblss3, kbadd3, kfa24_3, kld22, kld9, kbd24_0_1, klen59, hlen59, kia59, kbs22_1_0, kst22, kbd24_0_2, kbd24_0]
    rw [c91, c93]
    refine ck54 (within54 (by omega) ?_)
    cases h91 : insideL 91 93 s with
    | none =>
      rw [h91] at hK
      simp only at hK
      simp only [Option.getD_none, Option.isSome_none]
      simp (maxSteps := 1000000) (disch := omega) only [hid1', hid2', guardK_u, takeG_u, wrap_in64, optK_some', fzK_false', nilK_ptr, brK_true', brK_false', guardK_tt', guardK_ff', guardK_tf', guardK_ft', takeG_tt', takeG_ff', takeG_tf', takeG_ft', pickK_t', pickK_f', pickT_t', pickT_f', notK, extract2_0', extract2_1', extract3_0', extract3_1', extract3_2', here_load, here_fieldAt, here_indexAt, here_extract, here_un, here_conv, here_slice, here_bin, here_nil, and_here, true_and, Nat.zero_add, Nat.add_assoc, Nat.add_zero, Int.toNat_natCast, size_alloc, World.cell?_drew, World.frozen?_drew, Bool.not_true, Bool.not_false, Int.toNat_zero, dec_t, dec_f, int_eq_t, int_eq_f, int_ne_t, int_ne_f, wrap_in, kld24, kal24, kst24f, kbeql9, kblss3, kbadd3, kfa24_3, kld22, kld9, kbd24_0_1, klen59, hlen59, kia59, kbs22_1_0, kst22, kbd24_0_2, kbd24_0]
      refine ck56 (num56 (by omega) (he.quiet q1) ?_)
      intro x ok w2 q2 hx hm
      have h12 := q2.heap h1 (fun h => h)
      obtain ⟨h3, k3⟩ := store4 (.int .i64 1) (.int .i64 x) (.string ByteArray.empty) (.slice none 0 0) h12
      have q3 := qt_sets (w1 := w2) (b := b1) (vs := [.int .i64 1, .int .i64 x, .string ByteArray.empty, .slice none 0 0]) (q1.trans q2) (by omega)
      simp (maxSteps := 1000000) (disch := omega) only [hid1', hid2', guardK_u, takeG_u, wrap_in64, optK_some', fzK_false', nilK_ptr, brK_true', brK_false', guardK_tt', guardK_ff', guardK_tf', guardK_ft', takeG_tt', takeG_ff', takeG_tf', takeG_ft', pickK_t', pickK_f', pickT_t', pickT_f', notK, extract2_0', extract2_1', extract3_0', extract3_1', extract3_2', here_load, here_fieldAt, here_indexAt, here_extract, here_un, here_conv, here_slice, here_bin, here_nil, and_here, true_and, Nat.zero_add, Nat.add_assoc, Nat.add_zero, Int.toNat_natCast, size_alloc, World.cell?_drew, World.frozen?_drew, Bool.not_true, Bool.not_false, Int.toNat_zero, dec_t, dec_f, int_eq_t, int_eq_f, int_ne_t, int_ne_f, wrap_in, kld24, kal24, kst24f, kbeql9, kblss3, kbadd3, kfa24_3, kld22, kld9, kbd24_0_1, klen59, hlen59, kia59, kbs22_1_0, kst22, kbd24_0_2, kbd24_0]
      refine aggStoreK (there4 h12) (by kernel_rfl) (all4 rfl rfl rfl rfl) ?_
      obtain ⟨y0, y1, y2, y3⟩ := cell4 h3
      simp (maxSteps := 1000000) (disch := omega) only [hid1', hid2', guardK_u, takeG_u, wrap_in64, optK_some', fzK_false', nilK_ptr, brK_true', brK_false', guardK_tt', guardK_ff', guardK_tf', guardK_ft', takeG_tt', takeG_ff', takeG_tf', takeG_ft', pickK_t', pickK_f', pickT_t', pickT_f', notK, extract2_0', extract2_1', extract3_0', extract3_1', extract3_2', here_load, here_fieldAt, here_indexAt, here_extract, here_un, here_conv, here_slice, here_bin, here_nil, and_here, true_and, Nat.zero_add, Nat.add_assoc, Nat.add_zero, Int.toNat_natCast, size_alloc, World.cell?_drew, World.frozen?_drew, Bool.not_true, Bool.not_false, Int.toNat_zero, dec_t, dec_f, int_eq_t, int_eq_f, int_ne_t, int_ne_f, wrap_in, kld24, kal24, kst24f, kbeql9, kblss3, kbadd3, kfa24_3, kld22, kld9, kbd24_0_1, klen59, hlen59, kia59, kbs22_1_0, kst22, kbd24_0_2, kbd24_0, y0, y1, y2, y3]
      refine hK (1, x, ByteArray.empty, []) ok none _ q3 (.inl rfl) (fun _ h => by cases h) ?_
      cases hn : numR s with
      | some v =>
        rw [hn] at hm
        obtain ⟨rfl, rfl⟩ := hm
        exact ⟨rfl, rfl⟩
      | none =>
        rw [hn] at hm
        exact ⟨hm, rfl, by show 0 ≤ 100000; omega⟩
    | some m =>
      rw [h91] at hK
      simp only at hK
      simp only [Option.getD_some, Option.isSome_some]
      have hml : m.length + 2 = s.length := by
        have := inside_some h91
        rw [this]; simp
      simp (maxSteps := 1000000) (disch := omega) only [hid1', hid2', guardK_u, takeG_u, wrap_in64, optK_some', fzK_false', nilK_ptr, brK_true', brK_false', guardK_tt', guardK_ff', guardK_tf', guardK_ft', takeG_tt', takeG_ff', takeG_tf', takeG_ft', pickK_t', pickK_f', pickT_t', pickT_f', notK, extract2_0', extract2_1', extract3_0', extract3_1', extract3_2', here_load, here_fieldAt, here_indexAt, here_extract, here_un, here_conv, here_slice, here_bin, here_nil, and_here, true_and, Nat.zero_add, Nat.add_assoc, Nat.add_zero, Int.toNat_natCast, size_alloc, World.cell?_drew, World.frozen?_drew, Bool.not_true, Bool.not_false, Int.toNat_zero, dec_t, dec_f, int_eq_t, int_eq_f, int_ne_t, int_ne_f, wrap_in, kld24, kal24, kst24f, kbeql9, kblss3, kbadd3, kfa24_3, kld22, kld9, kbd24_0_1, klen59, hlen59, kia59, kbs22_1_0, kst22, kbd24_0_2, kbd24_0]
      have q8 : Qt w1 (w1.alloc (.cells #[.int .i64 3, .int .i64 0, .string ByteArray.empty, .slice none 0 0] 24)) := Chg.alloc Qt.refl _
      have h8 : (w1.alloc (.cells #[.int .i64 3, .int .i64 0, .string ByteArray.empty, .slice none 0 0] 24)).heap[w1.heap.size]? = some (.cells #[.int .i64 3, .int .i64 0, .string ByteArray.empty, .slice none 0 0] 24 (0, 0)) := blk_new _ _
      have h18 := q8.heap h1 (fun h => h)
      have q18 := q1.trans q8
      generalize (w1.alloc (.cells #[.int .i64 3, .int .i64 0, .string ByteArray.empty, .slice none 0 0] 24)) = w2 at *
      generalize hb8 : w1.heap.size = b8 at *
      rw [c32]
      refine split55 (l := m) (by omega) (he.quiet q18) ?_
      intro A3 w3 r3 q3 fr3
      have q03 := q18.trans q3
      have h13 := q3.heap h18 (fun h => h)
      have h83 := q3.heap h8 (fun h => h)
      have hwl := splitS_len m
      have s3 := q3.size
      have l8 := blk_lt h8
      simp (maxSteps := 1000000) (disch := omega) only [hid1', hid2', guardK_u, takeG_u, wrap_in64, optK_some', fzK_false', nilK_ptr, brK_true', brK_false', guardK_tt', guardK_ff', guardK_tf', guardK_ft', takeG_tt', takeG_ff', takeG_tf', takeG_ft', pickK_t', pickK_f', pickT_t', pickT_f', notK, extract2_0', extract2_1', extract3_0', extract3_1', extract3_2', here_load, here_fieldAt, here_indexAt, here_extract, here_un, here_conv, here_slice, here_bin, here_nil, and_here, true_and, Nat.zero_add, Nat.add_assoc, Nat.add_zero, Int.toNat_natCast, size_alloc, World.cell?_drew, World.frozen?_drew, Bool.not_true, Bool.not_false, Int.toNat_zero, dec_t, dec_f, int_eq_t, int_eq_f, int_ne_t, int_ne_f, wrap_in, kld24, kal24, kst24f, kbeql9, kblss3, kbadd3, kfa24_3, kld22, kld9, kbd24_0_1, klen59, hlen59, kia59, kbs22_1_0, kst22, kbd24_0_2, kbd24_0]
      refine loopK1 (fun v w' => ∃ (i : Nat) (ns : List Int) (F : Option Nat) (A : Option Addr) (c : Nat), v = .int .i64 i ∧ i ≤ (splitS m).length ∧ numsL ((splitS m).take i) = some ns ∧ Own w' 2 1 (.slice A ns.length c) ns.length (ints ns) F ∧ (∀ k, F = some k → w3.heap.size ≤ k) ∧ w'.heap[b1]? = some (.cells #[.int .i64 0, .int .i64 0, .string ByteArray.empty, .slice none 0 0] 24 (0, 0)) ∧ w'.heap[b8]? = some (.cells #[.int .i64 3, .int .i64 0, .string ByteArray.empty, .slice A ns.length c] 24 (0, 0)) ∧ Chg (fun q => q = b8) w3 w') (fun v _ => (splitS m).length - (intOf v).toNat) ⟨0, [], none, none, 0, rfl, by omega, rfl, Own.nil _ _ _, fun _ h => (by cases h), h13, h83, Chg.refl _ _⟩ ?_
      rintro _ _ w4 ⟨i, ns, F, A, c, rfl, hi, hns, o4, hF, h14, h84, k4⟩
      have s4 := k4.size
      have hnl := numsL_len _ _ hns
      rw [List.length_take] at hnl
      have q04 : Qt w w4 := Qt.then q03 k4 (fun k hk => by omega)
      have r4 : Reads w4 A3 (strs (splitS m)) := r3.chg k4 (fun ad h e => by
        have := fr3 ad h
        omega)
      by_cases hlt : i < (splitS m).length
      · obtain ⟨b, o, rfl, z1⟩ := strs_at r4 hlt
        have htk : (splitS m).take (i + 1) = (splitS m).take i ++ [(splitS m)[i]] := List.take_succ_eq_append_getElem hlt
        have hwm : (splitS m)[i] ∈ splitS m := List.getElem_mem hlt
        have hsn := numsL_snoc ((splitS m).take i) (splitS m)[i]
        rw [← htk, hns] at hsn
        have hpl : (splitS m)[i].length ≤ 1000 := by have := partS_len m _ hwm; omega
        generalize (splitS m)[i] = p at *
        simp (maxSteps := 1000000) (disch := omega) only [hid1', hid2', guardK_u, takeG_u, wrap_in64, optK_some', fzK_false', nilK_ptr, brK_true', brK_false', guardK_tt', guardK_ff', guardK_tf', guardK_ft', takeG_tt', takeG_ff', takeG_tf', takeG_ft', pickK_t', pickK_f', pickT_t', pickT_f', notK, extract2_0', extract2_1', extract3_0', extract3_1', extract3_2', here_load, here_fieldAt, here_indexAt, here_extract, here_un, here_conv, here_slice, here_bin, here_nil, and_here, true_and, Nat.zero_add, Nat.add_assoc, Nat.add_zero, Int.toNat_natCast, size_alloc, World.cell?_drew, World.frozen?_drew, Bool.not_true, Bool.not_false, Int.toNat_zero, dec_t, dec_f, int_eq_t, int_eq_f, int_ne_t, int_ne_f, wrap_in, kld24, kal24, kst24f, kbeql9, kblss3, kbadd3, kfa24_3, kld22, kld9, kbd24_0_1, klen59, hlen59, kia59, kbs22_1_0, kst22, kbd24_0_2, kbd24_0, z1]
        refine ck56 (num56 (by omega) (he.quiet q04) ?_)
        intro x ok w5 q5 hx hm
        cases hn : numR p with
        | some v =>
          rw [hn] at hm hsn
          obtain ⟨rfl, rfl⟩ := hm
          have h15 := q5.heap h14 (fun h => h)
          have h85 := q5.heap h84 (fun h => h)
          have o5 := o4.chg q5 (fun _ _ h => h)
          obtain ⟨x0, x1, x2, x3⟩ := cell4 h85
          have s5 := q5.size
          have hF8 : F ≠ some b8 := fun e => by have := hF _ e; omega
          have hF1 : F ≠ some b1 := fun e => by have := hF _ e; omega
          obtain ⟨A6, c6, F6, w6, p6, o6, k6, f6⟩ := push_run (P := Tryd.prog) tyI o5 (.int .i64 x) rfl (by omega) (by omega) 22
          have hF6 : ∀ k, F6 = some k → w3.heap.size ≤ k := fun k hk => (f6 k hk).elim (hF k) (fun h => by omega)
          have h86 := k6.heap h85 hF8
          have h16 := k6.heap h15 hF1
          have s6 := k6.size
          obtain ⟨y0, y1, y2, y3⟩ := cell4 h86
          have z6 := blk_frozen h86 3
          simp (maxSteps := 1000000) (disch := omega) only [hid1', hid2', guardK_u, takeG_u, wrap_in64, optK_some', fzK_false', nilK_ptr, brK_true', brK_false', guardK_tt', guardK_ff', guardK_tf', guardK_ft', takeG_tt', takeG_ff', takeG_tf', takeG_ft', pickK_t', pickK_f', pickT_t', pickT_f', notK, extract2_0', extract2_1', extract3_0', extract3_1', extract3_2', here_load, here_fieldAt, here_indexAt, here_extract, here_un, here_conv, here_slice, here_bin, here_nil, and_here, true_and, Nat.zero_add, Nat.add_assoc, Nat.add_zero, Int.toNat_natCast, size_alloc, World.cell?_drew, World.frozen?_drew, Bool.not_true, Bool.not_false, Int.toNat_zero, dec_t, dec_f, int_eq_t, int_eq_f, int_ne_t, int_ne_f, wrap_in, kld24, kal24, kst24f, kbeql9, kblss3, kbadd3, kfa24_3, kld22, kld9, kbd24_0_1, klen59, hlen59, kia59, kbs22_1_0, kst22, kbd24_0_2, kbd24_0, x3]
          refine appK p6 ?_
          simp (maxSteps := 1000000) (disch := omega) only [hid1', hid2', guardK_u, takeG_u, wrap_in64, optK_some', fzK_false', nilK_ptr, brK_true', brK_false', guardK_tt', guardK_ff', guardK_tf', guardK_ft', takeG_tt', takeG_ff', takeG_tf', takeG_ft', pickK_t', pickK_f', pickT_t', pickT_f', notK, extract2_0', extract2_1', extract3_0', extract3_1', extract3_2', here_load, here_fieldAt, here_indexAt, here_extract, here_un, here_conv, here_slice, here_bin, here_nil, and_here, true_and, Nat.zero_add, Nat.add_assoc, Nat.add_zero, Int.toNat_natCast, size_alloc, World.cell?_drew, World.frozen?_drew, Bool.not_true, Bool.not_false, Int.toNat_zero, dec_t, dec_f, int_eq_t, int_eq_f, int_ne_t, int_ne_f, wrap_in, kld24, kal24, kst24f, kbeql9, kblss3, kbadd3, kfa24_3, kld22, kld9, kbd24_0_1, klen59, hlen59, kia59, kbs22_1_0, kst22, kbd24_0_2, kbd24_0, y3, z6]
          have k7 : Chg (fun k => k = b8) w6 (w6.setCell ⟨b8, 3, none⟩ (.slice A6 (ns.length + 1) c6)) := (Chg.refl (fun k => k = b8) w6).setCell (p := ⟨b8, _, none⟩) (.inl rfl) _
          have hl1 : (ns ++ [x]).length = ns.length + 1 := by simp
          have ho : ints (ns ++ [x]) = ints ns ++ [.int .i64 x] := by unfold ints; rw [List.map_append]; rfl
          refine ⟨⟨i + 1, ns ++ [x], F6, A6, c6, by go_num, by omega, hsn, ?_, hF6, k7.heap h16 (by omega), ?_, ?_⟩, by simp [rel, intOf]; omega⟩
          · rw [hl1, ho]
            exact o6.chg k7 (fun k hk e => by have := hF6 k hk; omega)
          · rw [hl1, blk_set h86]; rfl
          · exact Chg.trans (Chg.then (Chg.then k4 q5 (fun _ h => h.elim)) k6 (fun k hk => .inr (hF k hk))) k7
        | none =>
          rw [hn] at hm
          have hm : ok = false := hm
          subst hm
          have h15 := q5.heap h14 (fun h => h)
          obtain ⟨h16, k6⟩ := store4 (.int .i64 3) (.int .i64 0) (.string ByteArray.empty) (.slice none 0 0) h15
          have q6 := qt_sets (w1 := w5) (b := b1) (vs := [.int .i64 3, .int .i64 0, .string ByteArray.empty, .slice none 0 0]) (q04.trans q5) (by omega)
          obtain ⟨y0, y1, y2, y3⟩ := cell4 h16
          have e : ((txt m).toList == (ByteArray.mk #[]).toList) = decide (m = []) := by
            rw [ByteArray.toList_eq, ByteArray.toList_eq, txt_data]
            cases m <;> rfl
          simp (maxSteps := 1000000) (disch := omega) only [hid1', hid2', guardK_u, takeG_u, wrap_in64, optK_some', fzK_false', nilK_ptr, brK_true', brK_false', guardK_tt', guardK_ff', guardK_tf', guardK_ft', takeG_tt', takeG_ff', takeG_tf', takeG_ft', pickK_t', pickK_f', pickT_t', pickT_f', notK, extract2_0', extract2_1', extract3_0', extract3_1', extract3_2', here_load, here_fieldAt, here_indexAt, here_extract, here_un, here_conv, here_slice, here_bin, here_nil, and_here, true_and, Nat.zero_add, Nat.add_assoc, Nat.add_zero, Int.toNat_natCast, size_alloc, World.cell?_drew, World.frozen?_drew, Bool.not_true, Bool.not_false, Int.toNat_zero, dec_t, dec_f, int_eq_t, int_eq_f, int_ne_t, int_ne_f, wrap_in, kld24, kal24, kst24f, kbeql9, kblss3, kbadd3, kfa24_3, kld22, kld9, kbd24_0_1, klen59, hlen59, kia59, kbs22_1_0, kst22, kbd24_0_2, kbd24_0, e]
          refine aggStoreK (there4 h15) (by kernel_rfl) (all4 rfl rfl rfl rfl) ?_
          simp (maxSteps := 1000000) (disch := omega) only [hid1', hid2', guardK_u, takeG_u, wrap_in64, optK_some', fzK_false', nilK_ptr, brK_true', brK_false', guardK_tt', guardK_ff', guardK_tf', guardK_ft', takeG_tt', takeG_ff', takeG_tf', takeG_ft', pickK_t', pickK_f', pickT_t', pickT_f', notK, extract2_0', extract2_1', extract3_0', extract3_1', extract3_2', here_load, here_fieldAt, here_indexAt, here_extract, here_un, here_conv, here_slice, here_bin, here_nil, and_here, true_and, Nat.zero_add, Nat.add_assoc, Nat.add_zero, Int.toNat_natCast, size_alloc, World.cell?_drew, World.frozen?_drew, Bool.not_true, Bool.not_false, Int.toNat_zero, dec_t, dec_f, int_eq_t, int_eq_f, int_ne_t, int_ne_f, wrap_in, kld24, kal24, kst24f, kbeql9, kblss3, kbadd3, kfa24_3, kld22, kld9, kbd24_0_1, klen59, hlen59, kia59, kbs22_1_0, kst22, kbd24_0_2, kbd24_0, y0, y1, y2, y3]
          refine hK (3, 0, ByteArray.empty, []) (decide (m = [])) none _ q6 (.inl rfl) (fun _ h => by cases h) ?_
          by_cases hm0 : m = []
          · rw [if_pos hm0, decide_eq_true hm0]
            exact ⟨rfl, rfl⟩
          · rw [if_neg hm0, decide_eq_false hm0, numsL_bad _ _ hwm hn]
            exact ⟨rfl, rfl, by show 0 ≤ 100000; omega⟩
      · obtain rfl : i = (splitS m).length := by omega
        rw [List.take_length] at hns
        have hm0 : m ≠ [] := fun e => by rw [e] at hns; cases hns
        obtain ⟨x0, x1, x2, x3⟩ := cell4 h84
        simp (maxSteps := 1000000) (disch := omega) only [hid1', hid2', guardK_u, takeG_u, wrap_in64, optK_some', fzK_false', nilK_ptr, brK_true', brK_false', guardK_tt', guardK_ff', guardK_tf', guardK_ft', takeG_tt', takeG_ff', takeG_tf', takeG_ft', pickK_t', pickK_f', pickT_t', pickT_f', notK, extract2_0', extract2_1', extract3_0', extract3_1', extract3_2', here_load, here_fieldAt, here_indexAt, here_extract, here_un, here_conv, here_slice, here_bin, here_nil, and_here, true_and, Nat.zero_add, Nat.add_assoc, Nat.add_zero, Int.toNat_natCast, size_alloc, World.cell?_drew, World.frozen?_drew, Bool.not_true, Bool.not_false, Int.toNat_zero, dec_t, dec_f, int_eq_t, int_eq_f, int_ne_t, int_ne_f, wrap_in, kld24, kal24, kst24f, kbeql9, kblss3, kbadd3, kfa24_3, kld22, kld9, kbd24_0_1, klen59, hlen59, kia59, kbs22_1_0, kst22, kbd24_0_2, kbd24_0, x3]
        refine ck57 (clip57 o4 ?_)
        have z4 := blk_frozen h84 3
        simp (maxSteps := 1000000) (disch := omega) only [hid1', hid2', guardK_u, takeG_u, wrap_in64, optK_some', fzK_false', nilK_ptr, brK_true', brK_false', guardK_tt', guardK_ff', guardK_tf', guardK_ft', takeG_tt', takeG_ff', takeG_tf', takeG_ft', pickK_t', pickK_f', pickT_t', pickT_f', notK, extract2_0', extract2_1', extract3_0', extract3_1', extract3_2', here_load, here_fieldAt, here_indexAt, here_extract, here_un, here_conv, here_slice, here_bin, here_nil, and_here, true_and, Nat.zero_add, Nat.add_assoc, Nat.add_zero, Int.toNat_natCast, size_alloc, World.cell?_drew, World.frozen?_drew, Bool.not_true, Bool.not_false, Int.toNat_zero, dec_t, dec_f, int_eq_t, int_eq_f, int_ne_t, int_ne_f, wrap_in, kld24, kal24, kst24f, kbeql9, kblss3, kbadd3, kfa24_3, kld22, kld9, kbd24_0_1, klen59, hlen59, kia59, kbs22_1_0, kst22, kbd24_0_2, kbd24_0, x3, z4]
        have k5 : Chg (fun k => k = b8) w4 (w4.setCell ⟨b8, 3, none⟩ (.slice A ns.length ns.length)) := (Chg.refl (fun k => k = b8) w4).setCell (p := ⟨b8, _, none⟩) (.inl rfl) _
        have h85 : (w4.setCell ⟨b8, 3, none⟩ (.slice A ns.length ns.length)).heap[b8]? = some (.cells #[.int .i64 3, .int .i64 0, .string ByteArray.empty, .slice A ns.length ns.length] 24 (0, 0)) := by rw [blk_set h84]; rfl
        have h15 := k5.heap h14 (by omega)
        have q5 : Qt w (w4.setCell ⟨b8, 3, none⟩ (.slice A ns.length ns.length)) := Qt.then q04 k5 (fun k hk => by omega)
        have o5 := o4.chg k5 (fun k hk e => by have := hF k hk; omega)
        generalize (w4.setCell ⟨b8, 3, none⟩ (.slice A ns.length ns.length)) = w5 at *
        obtain ⟨y0, y1, y2, y3⟩ := cell4 h85
        simp (maxSteps := 1000000) (disch := omega) only [hid1', hid2', guardK_u, takeG_u, wrap_in64, optK_some', fzK_false', nilK_ptr, brK_true', brK_false', guardK_tt', guardK_ff', guardK_tf', guardK_ft', takeG_tt', takeG_ff', takeG_tf', takeG_ft', pickK_t', pickK_f', pickT_t', pickT_f', notK, extract2_0', extract2_1', extract3_0', extract3_1', extract3_2', here_load, here_fieldAt, here_indexAt, here_extract, here_un, here_conv, here_slice, here_bin, here_nil, and_here, true_and, Nat.zero_add, Nat.add_assoc, Nat.add_zero, Int.toNat_natCast, size_alloc, World.cell?_drew, World.frozen?_drew, Bool.not_true, Bool.not_false, Int.toNat_zero, dec_t, dec_f, int_eq_t, int_eq_f, int_ne_t, int_ne_f, wrap_in, kld24, kal24, kst24f, kbeql9, kblss3, kbadd3, kfa24_3, kld22, kld9, kbd24_0_1, klen59, hlen59, kia59, kbs22_1_0, kst22, kbd24_0_2, kbd24_0, y0, y1, y2, y3]
        obtain ⟨h16, k6⟩ := store4 (.int .i64 3) (.int .i64 0) (.string ByteArray.empty) (.slice A ns.length ns.length) h15
        have q6 := qt_sets (w1 := w5) (b := b1) (vs := [.int .i64 3, .int .i64 0, .string ByteArray.empty, .slice A ns.length ns.length]) q5 (by omega)
        obtain ⟨y0, y1, y2, y3⟩ := cell4 h16
        refine aggStoreK (there4 h15) (by kernel_rfl) (all4 rfl rfl rfl rfl) ?_
        have o6 := o5.chg k6 (fun k hk e => by have := hF k hk; omega)
        simp (maxSteps := 1000000) (disch := omega) only [hid1', hid2', guardK_u, takeG_u, wrap_in64, optK_some', fzK_false', nilK_ptr, brK_true', brK_false', guardK_tt', guardK_ff', guardK_tf', guardK_ft', takeG_tt', takeG_ff', takeG_tf', takeG_ft', pickK_t', pickK_f', pickT_t', pickT_f', notK, extract2_0', extract2_1', extract3_0', extract3_1', extract3_2', here_load, here_fieldAt, here_indexAt, here_extract, here_un, here_conv, here_slice, here_bin, here_nil, and_here, true_and, Nat.zero_add, Nat.add_assoc, Nat.add_zero, Int.toNat_natCast, size_alloc, World.cell?_drew, World.frozen?_drew, Bool.not_true, Bool.not_false, Int.toNat_zero, dec_t, dec_f, int_eq_t, int_eq_f, int_ne_t, int_ne_f, wrap_in, kld24, kal24, kst24f, kbeql9, kblss3, kbadd3, kfa24_3, kld22, kld9, kbd24_0_1, klen59, hlen59, kia59, kbs22_1_0, kst22, kbd24_0_2, kbd24_0, y0, y1, y2, y3]
        refine hK (3, 0, ByteArray.empty, ns) true A _ q6 (reads_own o6) (fun ad h => by have := own_block o6 hF ad h; have := q03.size; omega) ?_
        rw [if_neg hm0, hns]
        exact ⟨rfl, rfl⟩
theorem read_in {s : List UInt8} {v : Val} (h : readV s = some v) : v.2.2.2.length ≤ s.length + 1 ∧ v.2.2.1.size ≤ s.length := by
  unfold readV at h
  split at h
  · rename_i m hm
    cases h
    have := inside_some hm
    rw [this]
    refine ⟨by simp, ?_⟩
    show (txt m).size ≤ _
    rw [txt_size]; simp; omega
  · split at h
    · rename_i m hm
      have hs := inside_some hm
      split at h
      · cases h
        exact ⟨by simp, by show 0 ≤ _; omega⟩
      · split at h
        · rename_i l hl
          cases h
          have h1 := numsL_len _ _ hl
          have h2 := splitS_len m
          refine ⟨?_, by show 0 ≤ _; omega⟩
          rw [hs]; simp only [List.length_append, List.length_cons]; omega
        · cases h
    · split at h
      · cases h
        exact ⟨by simp, by show 0 ≤ _; omega⟩
      · cases h
set_option maxHeartbeats 4000000 in
theorem parse18 {s : List UInt8} {w : World} {K : Value → World → Prop} (hs : s.length ≤ 1000) (he : Env2 w)
    (hK : ∀ A c w', Qt w w' → Reads w' A (ints (parseV s).1.2.2.2) → (∀ ad, A = some ad → w.heap.size ≤ ad.block) → K (.tuple #[vv (parseV s).1 A c, .int .i64 (parseV s).2]) w') : CallK Tryd.prog 18 #[.string (txt s)] K w := by
  refine F18_calls _ _ _ ?_; unfold F18
  obtain ⟨q1, h1⟩ := zer4 w 24
  have s1 := q1.size
  have l1 := blk_lt h1
  simp (maxSteps := 1000000) (disch := omega) only [hid1', hid2', guardK_u, takeG_u, wrap_in64, optK_some', fzK_false', nilK_ptr, brK_true', brK_false', guardK_tt', guardK_ff', guardK_tf', guardK_ft', takeG_tt', takeG_ff', takeG_tf', takeG_ft', pickK_t', pickK_f', pickT_t', pickT_f', notK, extract2_0', extract2_1', extract3_0', extract3_1', extract3_2', here_load, here_fieldAt, here_indexAt, here_extract, here_un, here_conv, here_slice, here_bin, here_nil, and_here, true_and, Nat.zero_add, Nat.add_assoc, Nat.add_zero, Int.toNat_natCast, size_alloc, World.cell?_drew, World.frozen?_drew, Bool.not_true, Bool.not_false, Int.toNat_zero, dec_t, dec_f, int_eq_t, int_eq_f, int_ne_t, int_ne_f, wrap_in, kld24, kal24, kst24f, kbd24_, kbneq30]
  generalize (w.alloc (.cells #[.int .i64 0, .int .i64 0, .string ByteArray.empty, .slice none 0 0] 24)) = w1 at *
  generalize hb1 : w.heap.size = b1 at *
  refine ck42 (read42 hs (he.quiet q1) ?_)
  intro v ok A w2 q2 r2 fr2 hrd
  have h12 := q2.heap h1 (fun h => h)
  have s2 := q2.size
  obtain ⟨q3, h3⟩ := box4 w2 v A v.2.2.2.length 24
  simp (maxSteps := 1000000) (disch := omega) only [hid1', hid2', guardK_u, takeG_u, wrap_in64, optK_some', fzK_false', nilK_ptr, brK_true', brK_false', guardK_tt', guardK_ff', guardK_tf', guardK_ft', takeG_tt', takeG_ff', takeG_tf', takeG_ft', pickK_t', pickK_f', pickT_t', pickT_f', notK, extract2_0', extract2_1', extract3_0', extract3_1', extract3_2', here_load, here_fieldAt, here_indexAt, here_extract, here_un, here_conv, here_slice, here_bin, here_nil, and_here, true_and, Nat.zero_add, Nat.add_assoc, Nat.add_zero, Int.toNat_natCast, size_alloc, World.cell?_drew, World.frozen?_drew, Bool.not_true, Bool.not_false, Int.toNat_zero, dec_t, dec_f, int_eq_t, int_eq_f, int_ne_t, int_ne_f, wrap_in, kld24, kal24, kst24f, kbd24_, kbneq30]
  have h13 := q3.heap h12 (fun h => h)
  have r3 := r2.quiet q3
  have q03 := (q1.trans q2).trans q3
  generalize (w2.alloc (.cells #[.int .i64 v.1, .int .i64 v.2.1, .string v.2.2.1, .slice A v.2.2.2.length v.2.2.2.length] 24)) = w3 at *
  generalize hb4 : w2.heap.size = b4 at *
  unfold RdOk at hrd
  unfold parseV at hK
  cases hr : readV s with
  | none =>
    rw [hr] at hrd hK
    simp only at hrd hK
    obtain ⟨rfl, hv, _⟩ := hrd
    obtain ⟨h14, k4⟩ := store4 (.int .i64 0) (.int .i64 0) (.string ByteArray.empty) (.slice none 0 0) h13
    have q4 := qt_sets (w1 := w3) (b := b1) (vs := [.int .i64 0, .int .i64 0, .string ByteArray.empty, .slice none 0 0]) q03 (by omega)
    obtain ⟨y0, y1, y2, y3⟩ := cell4 h14
    simp (maxSteps := 1000000) (disch := omega) only [hid1', hid2', guardK_u, takeG_u, wrap_in64, optK_some', fzK_false', nilK_ptr, brK_true', brK_false', guardK_tt', guardK_ff', guardK_tf', guardK_ft', takeG_tt', takeG_ff', takeG_tf', takeG_ft', pickK_t', pickK_f', pickT_t', pickT_f', notK, extract2_0', extract2_1', extract3_0', extract3_1', extract3_2', here_load, here_fieldAt, here_indexAt, here_extract, here_un, here_conv, here_slice, here_bin, here_nil, and_here, true_and, Nat.zero_add, Nat.add_assoc, Nat.add_zero, Int.toNat_natCast, size_alloc, World.cell?_drew, World.frozen?_drew, Bool.not_true, Bool.not_false, Int.toNat_zero, dec_t, dec_f, int_eq_t, int_eq_f, int_ne_t, int_ne_f, wrap_in, kld24, kal24, kst24f, kbd24_, kbneq30]
    refine aggStoreK (there4 h13) (by kernel_rfl) (all4 rfl rfl rfl rfl) ?_
    simp (maxSteps := 1000000) (disch := omega) only [hid1', hid2', guardK_u, takeG_u, wrap_in64, optK_some', fzK_false', nilK_ptr, brK_true', brK_false', guardK_tt', guardK_ff', guardK_tf', guardK_ft', takeG_tt', takeG_ff', takeG_tf', takeG_ft', pickK_t', pickK_f', pickT_t', pickT_f', notK, extract2_0', extract2_1', extract3_0', extract3_1', extract3_2', here_load, here_fieldAt, here_indexAt, here_extract, here_un, here_conv, here_slice, here_bin, here_nil, and_here, true_and, Nat.zero_add, Nat.add_assoc, Nat.add_zero, Int.toNat_natCast, size_alloc, World.cell?_drew, World.frozen?_drew, Bool.not_true, Bool.not_false, Int.toNat_zero, dec_t, dec_f, int_eq_t, int_eq_f, int_ne_t, int_ne_f, wrap_in, kld24, kal24, kst24f, kbd24_, kbneq30, y0, y1, y2, y3]
    exact hK none 0 _ q4 (.inl rfl) (fun _ h => by cases h)
  | some x =>
    have hin := read_in hr
    rw [hr] at hrd hK
    simp only at hrd hK
    obtain ⟨rfl, rfl⟩ := hrd
    obtain ⟨x0, x1, x2, x3⟩ := cell4 h3
    simp (maxSteps := 1000000) (disch := omega) only [hid1', hid2', guardK_u, takeG_u, wrap_in64, optK_some', fzK_false', nilK_ptr, brK_true', brK_false', guardK_tt', guardK_ff', guardK_tf', guardK_ft', takeG_tt', takeG_ff', takeG_tf', takeG_ft', pickK_t', pickK_f', pickT_t', pickT_f', notK, extract2_0', extract2_1', extract3_0', extract3_1', extract3_2', here_load, here_fieldAt, here_indexAt, here_extract, here_un, here_conv, here_slice, here_bin, here_nil, and_here, true_and, Nat.zero_add, Nat.add_assoc, Nat.add_zero, Int.toNat_natCast, size_alloc, World.cell?_drew, World.frozen?_drew, Bool.not_true, Bool.not_false, Int.toNat_zero, dec_t, dec_f, int_eq_t, int_eq_f, int_ne_t, int_ne_f, wrap_in, kld24, kal24, kst24f, kbd24_, kbneq30, x0, x1, x2, x3]
    refine ck13 (check13 r3 (by omega) (by omega) ?_)
    intro w4 q4
    have h14 := q4.heap h13 (fun h => h)
    by_cases hc : checkV v = 0
    · rw [if_neg (fun h => h hc)] at hK
      have ec : (checkV v != 0) = false := by rw [hc]; rfl
      obtain ⟨x0, x1, x2, x3⟩ := cell4 (q4.heap h3 (fun h => h))
      obtain ⟨h15, k5⟩ := store4 (.int .i64 v.1) (.int .i64 v.2.1) (.string v.2.2.1) (.slice A v.2.2.2.length v.2.2.2.length) h14
      have q5 := qt_sets (w1 := w4) (b := b1) (vs := [.int .i64 v.1, .int .i64 v.2.1, .string v.2.2.1, .slice A v.2.2.2.length v.2.2.2.length]) (q03.trans q4) (by omega)
      obtain ⟨y0, y1, y2, y3⟩ := cell4 h15
      simp (maxSteps := 1000000) (disch := omega) only [hid1', hid2', guardK_u, takeG_u, wrap_in64, optK_some', fzK_false', nilK_ptr, brK_true', brK_false', guardK_tt', guardK_ff', guardK_tf', guardK_ft', takeG_tt', takeG_ff', takeG_tf', takeG_ft', pickK_t', pickK_f', pickT_t', pickT_f', notK, extract2_0', extract2_1', extract3_0', extract3_1', extract3_2', here_load, here_fieldAt, here_indexAt, here_extract, here_un, here_conv, here_slice, here_bin, here_nil, and_here, true_and, Nat.zero_add, Nat.add_assoc, Nat.add_zero, Int.toNat_natCast, size_alloc, World.cell?_drew, World.frozen?_drew, Bool.not_true, Bool.not_false, Int.toNat_zero, dec_t, dec_f, int_eq_t, int_eq_f, int_ne_t, int_ne_f, wrap_in, kld24, kal24, kst24f, kbd24_, kbneq30, ec, x0, x1, x2, x3]
      refine aggStoreK (there4 h14) (by kernel_rfl) (all4 rfl rfl rfl rfl) ?_
      simp (maxSteps := 1000000) (disch := omega) only [hid1', hid2', guardK_u, takeG_u, wrap_in64, optK_some', fzK_false', nilK_ptr, brK_true', brK_false', guardK_tt', guardK_ff', guardK_tf', guardK_ft', takeG_tt', takeG_ff', takeG_tf', takeG_ft', pickK_t', pickK_f', pickT_t', pickT_f', notK, extract2_0', extract2_1', extract3_0', extract3_1', extract3_2', here_load, here_fieldAt, here_indexAt, here_extract, here_un, here_conv, here_slice, here_bin, here_nil, and_here, true_and, Nat.zero_add, Nat.add_assoc, Nat.add_zero, Int.toNat_natCast, size_alloc, World.cell?_drew, World.frozen?_drew, Bool.not_true, Bool.not_false, Int.toNat_zero, dec_t, dec_f, int_eq_t, int_eq_f, int_ne_t, int_ne_f, wrap_in, kld24, kal24, kst24f, kbd24_, kbneq30, y0, y1, y2, y3]
      exact hK A _ _ q5 ((r3.quiet q4).chg k5 (fun ad h e => by have := fr2 ad h; omega)) (fun ad h => by have := fr2 ad h; omega)
    · rw [if_pos hc] at hK
      have ec : (checkV v != 0) = true := by rw [bne_iff_ne]; exact hc
      obtain ⟨h15, k5⟩ := store4 (.int .i64 0) (.int .i64 0) (.string ByteArray.empty) (.slice none 0 0) h14
      have q5 := qt_sets (w1 := w4) (b := b1) (vs := [.int .i64 0, .int .i64 0, .string ByteArray.empty, .slice none 0 0]) (q03.trans q4) (by omega)
      obtain ⟨y0, y1, y2, y3⟩ := cell4 h15
      simp (maxSteps := 1000000) (disch := omega) only [hid1', hid2', guardK_u, takeG_u, wrap_in64, optK_some', fzK_false', nilK_ptr, brK_true', brK_false', guardK_tt', guardK_ff', guardK_tf', guardK_ft', takeG_tt', takeG_ff', takeG_tf', takeG_ft', pickK_t', pickK_f', pickT_t', pickT_f', notK, extract2_0', extract2_1', extract3_0', extract3_1', extract3_2', here_load, here_fieldAt, here_indexAt, here_extract, here_un, here_conv, here_slice, here_bin, here_nil, and_here, true_and, Nat.zero_add, Nat.add_assoc, Nat.add_zero, Int.toNat_natCast, size_alloc, World.cell?_drew, World.frozen?_drew, Bool.not_true, Bool.not_false, Int.toNat_zero, dec_t, dec_f, int_eq_t, int_eq_f, int_ne_t, int_ne_f, wrap_in, kld24, kal24, kst24f, kbd24_, kbneq30, ec]
      refine aggStoreK (there4 h14) (by kernel_rfl) (all4 rfl rfl rfl rfl) ?_
      simp (maxSteps := 1000000) (disch := omega) only [hid1', hid2', guardK_u, takeG_u, wrap_in64, optK_some', fzK_false', nilK_ptr, brK_true', brK_false', guardK_tt', guardK_ff', guardK_tf', guardK_ft', takeG_tt', takeG_ff', takeG_tf', takeG_ft', pickK_t', pickK_f', pickT_t', pickT_f', notK, extract2_0', extract2_1', extract3_0', extract3_1', extract3_2', here_load, here_fieldAt, here_indexAt, here_extract, here_un, here_conv, here_slice, here_bin, here_nil, and_here, true_and, Nat.zero_add, Nat.add_assoc, Nat.add_zero, Int.toNat_natCast, size_alloc, World.cell?_drew, World.frozen?_drew, Bool.not_true, Bool.not_false, Int.toNat_zero, dec_t, dec_f, int_eq_t, int_eq_f, int_ne_t, int_ne_f, wrap_in, kld24, kal24, kst24f, kbd24_, kbneq30, y0, y1, y2, y3]
      exact hK none 0 _ q5 (.inl rfl) (fun _ h => by cases h)
end Go.Proofs.YtdnlenngbaaeaaaDoor

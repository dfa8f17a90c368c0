/- The encoder's texts and bytes; cantonref7.PutInt, PutText. Conditions: at most 100000 bytes. -/
import Derived.Test.YtpdhmbbmhomlnaaDoorV4
import Derived.Test.YtpdhmbbmhomlnaaDoorV3
import Derived.Test.YtpdhmbbmhomlnaaDoorEnc
set_option maxRecDepth 100000
set_option linter.unusedVariables false
set_option linter.unusedSimpArgs false
namespace Go.Proofs.YtpdhmbbmhomlnaaDoor
open Go.RowKit Go.Cn Go.Cn.Num
theorem reads_new (w : World) (xs : List Value) (e : TypeId) : Reads (w.alloc (.cells xs.toArray e)) (some ⟨w.heap.size, 0, none⟩) xs := by
  refine .inr ⟨_, _, rfl, fun j hj => ?_⟩
  rw [blk_cell (blk_new _ _)]
  simp
theorem Reads.cell {α : Type} [Inhabited α] {enc : α → Value} {w : World} {g o : Nat} {l : List α} (h : Reads w (some ⟨g, o, none⟩) (l.map enc)) (j : Nat) (hj : j < l.length) : w.cell? ⟨g, o + j, none⟩ = some (enc (l.getD j default)) := by
  obtain ⟨g', o', e, hc⟩ := h.get hj
  cases e
  exact hc
/-- One number behind. -/
theorem enc_int {n : Int} {g : Nat} {bs : List UInt8} {F : Option Nat} {w : World} {K : Value → World → Prop} (hn : -9223372036854775808 ≤ n ∧ n ≤ 9223372036854775807) (he : EncAt w g bs F) (hsz : bs.length + 10 ≤ 100000)
    (hK : ∀ F' w', EncAt w' g (bs ++ putInt n) F' → Chg (fun k => k = g ∨ F = some k) w w' → (∀ k, F' = some k → F = some k ∨ w.heap.size ≤ k) → K (.tuple #[]) w') : CallK Tryd.prog 24 #[.pointer (some ⟨g, 0, none⟩), .slice (some ⟨w.heap.size, 0, none⟩) 1 1] K (w.alloc (.cells #[.int .i64 n] 2)) := by
  have hlt := he.lt
  have hc0 := (Chg.refl (fun _ => False) w).alloc (.cells #[.int .i64 n] 2)
  have hr := reads_new w (List.map (Value.int .i64) [n]) 2
  refine enc_ints (ns := [n]) (by simpa using hn) hr (fun ad e => ?_) (he.chg hc0 (fun h => h) (fun _ _ h => h)) (by simpa using hsz) ?_
  · cases e
    refine ⟨?_, ?_, by simp⟩
    · have := hlt.1
      show w.heap.size ≠ g
      omega
    · intro e
      have := hlt.2 _ e
      exact absurd this (Nat.lt_irrefl _)
  · intro F' w' h1 h2 h3
    refine hK F' w' (by simpa using h1) ((hc0.mono (fun _ _ h => h.elim)).trans h2) (fun k hk => ?_)
    rcases h3 k hk with h | h
    · exact .inl h
    · simp at h; omega
theorem EncAt.puts {w : World} {g : Nat} {bs : List UInt8} {F : Option Nat} (h : EncAt w g bs F) (s : ByteArray) (hsz : bs.length + s.size ≤ 1000000) :
    ∃ v A' cap F' w', w.cell? ⟨g, 0, none⟩ = some v ∧ (Builtin.append_ #[32, 9] 32 #[v, .string s]).run Tryd.prog w = .ok (.slice A' (bs.length + s.size) cap) w' ∧
      w'.cell? ⟨g, 0, none⟩ = some v ∧ w'.frozen? ⟨g, 0, none⟩ = false ∧ EncAt (w'.setCell ⟨g, 0, none⟩ (.slice A' (bs.length + s.size) cap)) g (bs ++ s.data.toList) F' ∧ Chg (fun k => k = g ∨ F = some k) w (w'.setCell ⟨g, 0, none⟩ (.slice A' (bs.length + s.size) cap)) ∧ (∀ k, F' = some k → F = some k ∨ w.heap.size ≤ k) := by
  have hlt := h.lt
  obtain ⟨v, h1, h2, h3⟩ := h
  obtain ⟨A', cap, F', w', ha, ho, hc, hf⟩ := appendS_run (P := Tryd.prog) (w := w) tyU8 Tryd.underlying9 h2 s (by omega) 32
  have hb' : w'.heap[g]? = some (.cells #[v] 60 (0, 0)) := hc.heap h1 h3
  have hFg : F' ≠ some g := fun e => by
    rcases hf g e with h | h
    · exact h3 h
    · have := hlt.1; omega
  refine ⟨v, A', cap, F', w', by rw [blk_cell h1]; rfl, ha, by rw [blk_cell hb']; rfl, blk_frozen hb' 0, ⟨_, enc_set hb', ?_, hFg⟩, ?_, hf⟩
  · rw [List.length_append, List.map_append]
    exact ho.chg ((Chg.refl (fun k => k = g) w').setCell (p := ⟨g, 0, none⟩) (.inl rfl) _) (fun k hk e => hFg (by rw [hk, e]))
  · exact (hc.mono (fun _ _ h => .inr h)).setCell (p := ⟨g, 0, none⟩) (.inl (.inl rfl)) _
/-- One text behind. -/
theorem enc_text {s : ByteArray} {g : Nat} {bs : List UInt8} {F : Option Nat} {w : World} {K : Value → World → Prop} (he : EncAt w g bs F) (hsz : bs.length + 10 + s.size ≤ 100000)
    (hK : ∀ F' w', EncAt w' g (bs ++ putText s.data.toList) F' → Chg (fun k => k = g ∨ F = some k) w w' → (∀ k, F' = some k → F = some k ∨ w.heap.size ≤ k) → K (.tuple #[]) w') : CallK Tryd.prog 26 #[.pointer (some ⟨g, 0, none⟩), .slice (some ⟨w.heap.size, 0, none⟩) 1 1] K (w.alloc (.cells #[.string s] 9)) := by
  refine F26_calls _ _ _ _ ?_; unfold F26
  have hlt := he.lt
  have hc0 := (Chg.refl (fun _ => False) w).alloc (.cells #[.string s] 9)
  have hr := reads_new w (List.map Value.string [s]) 9
  have hcell := Reads.cell hr 0 (by simp)
  simp only [Nat.add_zero, List.getD_cons_zero] at hcell
  have hsz0 : (w.alloc (.cells #[.string s] 9)).heap.size = w.heap.size + 1 := by simp
  replace he := he.chg hc0 (fun h => h) (fun _ _ h => h)
  have e1' : ((1 : Nat) : Int) = 1 := rfl
  simp only [List.map_cons, List.map_nil] at hcell
  generalize (w.alloc (.cells #[.string s] 9)) = w1 at *
  simp (maxSteps := 1000000) (disch := omega) only [hid1', hid2', guardK_u, takeG_u, wrap_in64, optK_some', fzK_false', nilK_ptr, brK_true', brK_false', guardK_tt', guardK_ff', guardK_tf', guardK_ft', takeG_tt', takeG_ff', takeG_tf', takeG_ft', pickK_t', pickK_f', pickT_t', pickT_f', notK, extract2_0', extract2_1', extract3_0', extract3_1', extract3_2', here_load, here_fieldAt, here_indexAt, here_extract, here_un, here_conv, here_slice, here_bin, here_nil, and_here, true_and, Nat.zero_add, Nat.add_assoc, Nat.add_zero, Int.toNat_natCast, size_alloc, World.cell?_drew, World.frozen?_drew, Bool.not_true, Bool.not_false, Int.toNat_zero, dec_t, dec_f, int_eq_t, int_eq_f, int_ne_t, int_ne_f, wrap_in, klen22, hlen22, kblss3, kia22, kld9, klen9, hlen9, kbs92_1_0, kfa60_0, kld32, kst32, kbadd3]
  refine loopK1 (fun v w' => (v = .int .i64 0 ∧ w' = w1) ∨ (v = .int .i64 1 ∧ ∃ F', EncAt w' g (bs ++ putText s.data.toList) F' ∧ Chg (fun k => k = g ∨ F = some k) w w' ∧ (∀ k, F' = some k → F = some k ∨ w.heap.size ≤ k))) (fun v _ => 1 - (intOf v).toNat) (.inl ⟨rfl, rfl⟩) ?_
  rintro _ _ w' (⟨rfl, hw⟩ | ⟨rfl, F', h1, h2, h3⟩)
  · obtain rfl : w' = w1 := hw
    have hb : (s.size : Int) ≤ 9223372036854775807 := by omega
    simp (maxSteps := 1000000) (disch := omega) only [hid1', hid2', guardK_u, takeG_u, wrap_in64, optK_some', fzK_false', nilK_ptr, brK_true', brK_false', guardK_tt', guardK_ff', guardK_tf', guardK_ft', takeG_tt', takeG_ff', takeG_tf', takeG_ft', pickK_t', pickK_f', pickT_t', pickT_f', notK, extract2_0', extract2_1', extract3_0', extract3_1', extract3_2', here_load, here_fieldAt, here_indexAt, here_extract, here_un, here_conv, here_slice, here_bin, here_nil, and_here, true_and, Nat.zero_add, Nat.add_assoc, Nat.add_zero, Int.toNat_natCast, size_alloc, World.cell?_drew, World.frozen?_drew, Bool.not_true, Bool.not_false, Int.toNat_zero, dec_t, dec_f, int_eq_t, int_eq_f, int_ne_t, int_ne_f, wrap_in, klen22, hlen22, kblss3, kia22, kld9, klen9, hlen9, kbs92_1_0, kfa60_0, kld32, kst32, kbadd3, e1', hcell, Int.toNat_zero]
    refine ck24 (enc_int ⟨by omega, hb⟩ he (by omega) ?_)
    intro F2 w2 he2 hc2 hf2
    have hpl := putInt_len (s.size : Int) (by omega) hb
    obtain ⟨v, A3, cap3, F3, w3, q1, q2, q3, q4, q5, q6, q7⟩ := he2.puts s (by rw [List.length_append]; omega)
    simp (maxSteps := 1000000) (disch := omega) only [hid1', hid2', guardK_u, takeG_u, wrap_in64, optK_some', fzK_false', nilK_ptr, brK_true', brK_false', guardK_tt', guardK_ff', guardK_tf', guardK_ft', takeG_tt', takeG_ff', takeG_tf', takeG_ft', pickK_t', pickK_f', pickT_t', pickT_f', notK, extract2_0', extract2_1', extract3_0', extract3_1', extract3_2', here_load, here_fieldAt, here_indexAt, here_extract, here_un, here_conv, here_slice, here_bin, here_nil, and_here, true_and, Nat.zero_add, Nat.add_assoc, Nat.add_zero, Int.toNat_natCast, size_alloc, World.cell?_drew, World.frozen?_drew, Bool.not_true, Bool.not_false, Int.toNat_zero, dec_t, dec_f, int_eq_t, int_eq_f, int_ne_t, int_ne_f, wrap_in, klen22, hlen22, kblss3, kia22, kld9, klen9, hlen9, kbs92_1_0, kfa60_0, kld32, kst32, kbadd3, q1]
    refine appK q2 ?_
    simp (maxSteps := 1000000) (disch := omega) only [hid1', hid2', guardK_u, takeG_u, wrap_in64, optK_some', fzK_false', nilK_ptr, brK_true', brK_false', guardK_tt', guardK_ff', guardK_tf', guardK_ft', takeG_tt', takeG_ff', takeG_tf', takeG_ft', pickK_t', pickK_f', pickT_t', pickT_f', notK, extract2_0', extract2_1', extract3_0', extract3_1', extract3_2', here_load, here_fieldAt, here_indexAt, here_extract, here_un, here_conv, here_slice, here_bin, here_nil, and_here, true_and, Nat.zero_add, Nat.add_assoc, Nat.add_zero, Int.toNat_natCast, size_alloc, World.cell?_drew, World.frozen?_drew, Bool.not_true, Bool.not_false, Int.toNat_zero, dec_t, dec_f, int_eq_t, int_eq_f, int_ne_t, int_ne_f, wrap_in, klen22, hlen22, kblss3, kia22, kld9, klen9, hlen9, kbs92_1_0, kfa60_0, kld32, kst32, kbadd3, q3, q4]
    refine ⟨.inr ⟨rfl, F3, ?_, ((hc0.mono (fun _ _ h => h.elim)).trans hc2).then q6 (fun k hk => ?_), fun k hk => ?_⟩, by simp [rel, intOf]⟩
    · have e : putText s.data.toList = putInt s.size ++ s.data.toList := rfl
      rw [e, ← List.append_assoc]; exact q5
    · rcases hk with h | h
      · exact .inl (.inl h)
      · rcases hf2 k h with h | h
        · exact .inl (.inr h)
        · exact .inr (by omega)
    · rcases q7 k hk with h | h
      · rcases hf2 k h with h | h
        · exact .inl h
        · exact .inr (by omega)
      · have := hc2.size; exact .inr (by omega)
  · simp (maxSteps := 1000000) (disch := omega) only [hid1', hid2', guardK_u, takeG_u, wrap_in64, optK_some', fzK_false', nilK_ptr, brK_true', brK_false', guardK_tt', guardK_ff', guardK_tf', guardK_ft', takeG_tt', takeG_ff', takeG_tf', takeG_ft', pickK_t', pickK_f', pickT_t', pickT_f', notK, extract2_0', extract2_1', extract3_0', extract3_1', extract3_2', here_load, here_fieldAt, here_indexAt, here_extract, here_un, here_conv, here_slice, here_bin, here_nil, and_here, true_and, Nat.zero_add, Nat.add_assoc, Nat.add_zero, Int.toNat_natCast, size_alloc, World.cell?_drew, World.frozen?_drew, Bool.not_true, Bool.not_false, Int.toNat_zero, dec_t, dec_f, int_eq_t, int_eq_f, int_ne_t, int_ne_f, wrap_in, klen22, hlen22, kblss3, kia22, kld9, klen9, hlen9, kbs92_1_0, kfa60_0, kld32, kst32, kbadd3, e1']
    exact hK F' w' h1 h2 h3
theorem enc_bytes {g : Nat} {bs : List UInt8} {F : Option Nat} {w : World} {K : Value → World → Prop} (he : EncAt w g bs F) (hsz : bs.length ≤ 100000)
    (hK : ∀ A' c' w', Reads w' A' (bs.map vb) → Qt w w' → K (.slice A' bs.length c') w') : CallK Tryd.prog 28 #[.pointer (some ⟨g, 0, none⟩)] K w := by
  refine F28_calls _ _ _ ?_; unfold F28
  obtain ⟨v, h1, h2, h3⟩ := he
  have hc : w.cell? ⟨g, 0, none⟩ = some v := by rw [blk_cell h1]; rfl
  obtain ⟨A, c, rfl, _⟩ := h2.shape
  simp (maxSteps := 1000000) (disch := omega) only [hid1', hid2', guardK_u, takeG_u, wrap_in64, optK_some', fzK_false', nilK_ptr, brK_true', brK_false', guardK_tt', guardK_ff', guardK_tf', guardK_ft', takeG_tt', takeG_ff', takeG_tf', takeG_ft', pickK_t', pickK_f', pickT_t', pickT_f', notK, extract2_0', extract2_1', extract3_0', extract3_1', extract3_2', here_load, here_fieldAt, here_indexAt, here_extract, here_un, here_conv, here_slice, here_bin, here_nil, and_here, true_and, Nat.zero_add, Nat.add_assoc, Nat.add_zero, Int.toNat_natCast, size_alloc, World.cell?_drew, World.frozen?_drew, Bool.not_true, Bool.not_false, Int.toNat_zero, dec_t, dec_f, int_eq_t, int_eq_f, int_ne_t, int_ne_f, wrap_in, kfa60_0, kld32, hc]
  refine ck43 (clone_any (Reads.of_own h2) hsz ?_)
  intro A2 c2 F2 w2 o2 q2 f2
  simp (maxSteps := 1000000) (disch := omega) only [hid1', hid2', guardK_u, takeG_u, wrap_in64, optK_some', fzK_false', nilK_ptr, brK_true', brK_false', guardK_tt', guardK_ff', guardK_tf', guardK_ft', takeG_tt', takeG_ff', takeG_tf', takeG_ft', pickK_t', pickK_f', pickT_t', pickT_f', notK, extract2_0', extract2_1', extract3_0', extract3_1', extract3_2', here_load, here_fieldAt, here_indexAt, here_extract, here_un, here_conv, here_slice, here_bin, here_nil, and_here, true_and, Nat.zero_add, Nat.add_assoc, Nat.add_zero, Int.toNat_natCast, size_alloc, World.cell?_drew, World.frozen?_drew, Bool.not_true, Bool.not_false, Int.toNat_zero, dec_t, dec_f, int_eq_t, int_eq_f, int_ne_t, int_ne_f, wrap_in, kfa60_0, kld32]
  refine ck45 (clip_any o2 ?_)
  simp (maxSteps := 1000000) (disch := omega) only [hid1', hid2', guardK_u, takeG_u, wrap_in64, optK_some', fzK_false', nilK_ptr, brK_true', brK_false', guardK_tt', guardK_ff', guardK_tf', guardK_ft', takeG_tt', takeG_ff', takeG_tf', takeG_ft', pickK_t', pickK_f', pickT_t', pickT_f', notK, extract2_0', extract2_1', extract3_0', extract3_1', extract3_2', here_load, here_fieldAt, here_indexAt, here_extract, here_un, here_conv, here_slice, here_bin, here_nil, and_here, true_and, Nat.zero_add, Nat.add_assoc, Nat.add_zero, Int.toNat_natCast, size_alloc, World.cell?_drew, World.frozen?_drew, Bool.not_true, Bool.not_false, Int.toNat_zero, dec_t, dec_f, int_eq_t, int_eq_f, int_ne_t, int_ne_f, wrap_in, kfa60_0, kld32]
  exact hK A2 _ w2 (Reads.of_own o2) q2
theorem enc_new (w : World) : EncAt (w.alloc (.cells #[.slice none 0 0] 60)) w.heap.size [] none := ⟨_, blk_new _ _, Own.nil _ _ _, fun h => by cases h⟩
/-- cantonref7.PutInt. -/
theorem zz_ref_neg (n : Int) (h0 : -9223372036854775808 ≤ n) (h1 : n < 0) : bits .or .u64 (IntKind.u64.wrap (IntKind.u64.wrap (0 - (n + 1)) * (2 : Int) ^ min (Int.toNat 1) 64)) 1 = (zz n : Int) := by
  rw [show min (Int.toNat 1) 64 = 1 from rfl]
  obtain ⟨m, hm⟩ : ∃ m : Nat, (m : Int) = -n - 1 := ⟨(-n - 1).toNat, by omega⟩
  have w1 : IntKind.u64.wrap (IntKind.u64.wrap (0 - (n + 1)) * (2 : Int) ^ 1) = ((2 * m : Nat) : Int) := by
    simp [IntKind.wrap, IntKind.bits, IntKind.signed]; omega
  have h := bits_or_u64_nat (2 * m) 1 (by omega) (by omega)
  rw [show ((1 : Nat) : Int) = 1 from rfl] at h
  rw [w1, h]
  have e : 2 * m ||| 1 = 2 * m + 1 := by
    have := Nat.two_pow_add_eq_or_of_lt (i := 1) (b := 1) (by omega) m
    simpa [Nat.mul_comm] using this.symm
  rw [e]
  unfold zz; rw [if_neg (by omega)]; omega
theorem zz_ref_pos (n : Int) (h0 : 0 ≤ n) (h1 : n ≤ 9223372036854775807) : IntKind.u64.wrap (IntKind.u64.wrap n * (2 : Int) ^ min (Int.toNat 1) 64) = (zz n : Int) := by
  rw [show min (Int.toNat 1) 64 = 1 from rfl]
  unfold zz; rw [if_pos h0]
  simp [IntKind.wrap, IntKind.bits, IntKind.signed]; omega
theorem or_ref (u : Nat) : IntKind.u8.wrap (bits .or .u64 (bits .and .u64 (u : Int) 127) 128) = ((UInt8.ofNat (u % 128 + 128)).toNat : Int) ∨ ¬ u < 2 ^ 64 := by
  by_cases hu : u < 2 ^ 64
  · left
    have h := bits_and_u64_nat u 127 (by omega) (by omega)
    rw [show ((127 : Nat) : Int) = 127 from rfl] at h
    have e : u &&& 127 = u % 128 := Nat.and_two_pow_sub_one_eq_mod u 7
    have h2 := bits_or_u64_nat (u % 128) 128 (by omega) (by omega)
    rw [show ((128 : Nat) : Int) = 128 from rfl] at h2
    have e2 : u % 128 ||| 128 = u % 128 + 128 := by
      have := Nat.two_pow_add_eq_or_of_lt (i := 7) (b := u % 128) (by omega) 1
      rw [Nat.or_comm]; simpa [Nat.add_comm] using this.symm
    rw [h, e, h2, e2]
    simp [IntKind.wrap, IntKind.bits, IntKind.signed]
  · exact .inr hu
theorem putInt_any {n : Int} {w : World} {K : Value → World → Prop} (h0 : -9223372036854775808 ≤ n) (h1 : n ≤ 9223372036854775807)
    (hK : ∀ A' c' F w', Own w' 5 1 (.slice A' (putInt n).length c') (putInt n).length ((putInt n).map vb) F → Qt w w' → (∀ k, F = some k → w.heap.size ≤ k) → K (.slice A' (putInt n).length c') w') : CallK Tryd.prog 29 #[.int .i64 n] K w := by
  refine F29_calls _ _ _ ?_; unfold F29
  simp (maxSteps := 1000000) (disch := omega) only [hid1', hid2', guardK_u, takeG_u, wrap_in64, optK_some', fzK_false', nilK_ptr, brK_true', brK_false', guardK_tt', guardK_ff', guardK_tf', guardK_ft', takeG_tt', takeG_ff', takeG_tf', takeG_ft', pickK_t', pickK_f', pickT_t', pickT_f', notK, extract2_0', extract2_1', extract3_0', extract3_1', extract3_2', here_load, here_fieldAt, here_indexAt, here_extract, here_un, here_conv, here_slice, here_bin, here_nil, and_here, true_and, Nat.zero_add, Nat.add_assoc, Nat.add_zero, Int.toNat_natCast, size_alloc, World.cell?_drew, World.frozen?_drew, Bool.not_true, Bool.not_false, Int.toNat_zero, dec_t, dec_f, int_eq_t, int_eq_f, int_ne_t, int_ne_f, wrap_in, kcv2_93, kbshl93_i32, kbshl93_i64, kbshl93_u32, kbshl93_u64, kbshl93_u8, kblss2, kbadd2, kbsub2, kbor93, kbgeq93, kband93, kcv93_5, kbs32_1_0, kbshr93_i32, kbshr93_i64, kbshr93_u32, kbshr93_u64, kbshr93_u8]
  refine cutK1 (fun v w' => v = .int .u64 (zz n) ∧ w' = w) ?_ ?_
  · by_cases h : n < 0
    · simp (maxSteps := 1000000) (disch := omega) only [hid1', hid2', guardK_u, takeG_u, wrap_in64, optK_some', fzK_false', nilK_ptr, brK_true', brK_false', guardK_tt', guardK_ff', guardK_tf', guardK_ft', takeG_tt', takeG_ff', takeG_tf', takeG_ft', pickK_t', pickK_f', pickT_t', pickT_f', notK, extract2_0', extract2_1', extract3_0', extract3_1', extract3_2', here_load, here_fieldAt, here_indexAt, here_extract, here_un, here_conv, here_slice, here_bin, here_nil, and_here, true_and, Nat.zero_add, Nat.add_assoc, Nat.add_zero, Int.toNat_natCast, size_alloc, World.cell?_drew, World.frozen?_drew, Bool.not_true, Bool.not_false, Int.toNat_zero, dec_t, dec_f, int_eq_t, int_eq_f, int_ne_t, int_ne_f, wrap_in, kcv2_93, kbshl93_i32, kbshl93_i64, kbshl93_u32, kbshl93_u64, kbshl93_u8, kblss2, kbadd2, kbsub2, kbor93, kbgeq93, kband93, kcv93_5, kbs32_1_0, kbshr93_i32, kbshr93_i64, kbshr93_u32, kbshr93_u64, kbshr93_u8, zz_ref_neg n h0 h]
      exact ⟨by have := zz_ref_neg n h0 h; rw [wrap_in64 (n := 0 - (n + 1)) (by omega)] at this; rw [this], rfl⟩
    · simp (maxSteps := 1000000) (disch := omega) only [hid1', hid2', guardK_u, takeG_u, wrap_in64, optK_some', fzK_false', nilK_ptr, brK_true', brK_false', guardK_tt', guardK_ff', guardK_tf', guardK_ft', takeG_tt', takeG_ff', takeG_tf', takeG_ft', pickK_t', pickK_f', pickT_t', pickT_f', notK, extract2_0', extract2_1', extract3_0', extract3_1', extract3_2', here_load, here_fieldAt, here_indexAt, here_extract, here_un, here_conv, here_slice, here_bin, here_nil, and_here, true_and, Nat.zero_add, Nat.add_assoc, Nat.add_zero, Int.toNat_natCast, size_alloc, World.cell?_drew, World.frozen?_drew, Bool.not_true, Bool.not_false, Int.toNat_zero, dec_t, dec_f, int_eq_t, int_eq_f, int_ne_t, int_ne_f, wrap_in, kcv2_93, kbshl93_i32, kbshl93_i64, kbshl93_u32, kbshl93_u64, kbshl93_u8, kblss2, kbadd2, kbsub2, kbor93, kbgeq93, kband93, kcv93_5, kbs32_1_0, kbshr93_i32, kbshr93_i64, kbshr93_u32, kbshr93_u64, kbshr93_u8, zz_ref_pos n (show 0 ≤ n by omega) h1]
      exact ⟨by have := zz_ref_pos n (show 0 ≤ n by omega) h1; rw [wrap_in64 (n := n) (by omega)] at this; rw [this], rfl⟩
  rintro _ _ w' ⟨rfl, hw⟩
  obtain rfl : w' = w := hw
  have hpl := putInt_len n h0 h1
  refine loopK2 (fun v o w2 => ∃ (u : Nat) (b : List UInt8) (F : Option Nat), v = .int .u64 u ∧ u < 2 ^ 64 ∧ b ++ vbytes u = putInt n ∧ Own w2 5 1 o b.length (b.map vb) F ∧ Qt w' w2 ∧ (∀ k, F = some k → w'.heap.size ≤ k)) (fun v _ _ => (match v with | .int _ u => u.toNat | _ => 0)) ⟨zz n, [], none, rfl, zz_lt n h0 h1, rfl, Own.nil _ _ _, Qt.refl, fun _ h => (by cases h)⟩ ?_
  rintro _ o _ w2 ⟨u, b, F, rfl, hu, hb, ho, hq, hF⟩
  have hl1 : b.length + (vbytes u).length = (putInt n).length := by rw [← hb, List.length_append]
  by_cases h128 : u < 128
  · rw [vbytes_small h128] at hb hl1
    simp (maxSteps := 1000000) (disch := omega) only [hid1', hid2', guardK_u, takeG_u, wrap_in64, optK_some', fzK_false', nilK_ptr, brK_true', brK_false', guardK_tt', guardK_ff', guardK_tf', guardK_ft', takeG_tt', takeG_ff', takeG_tf', takeG_ft', pickK_t', pickK_f', pickT_t', pickT_f', notK, extract2_0', extract2_1', extract3_0', extract3_1', extract3_2', here_load, here_fieldAt, here_indexAt, here_extract, here_un, here_conv, here_slice, here_bin, here_nil, and_here, true_and, Nat.zero_add, Nat.add_assoc, Nat.add_zero, Int.toNat_natCast, size_alloc, World.cell?_drew, World.frozen?_drew, Bool.not_true, Bool.not_false, Int.toNat_zero, dec_t, dec_f, int_eq_t, int_eq_f, int_ne_t, int_ne_f, wrap_in, kcv2_93, kbshl93_i32, kbshl93_i64, kbshl93_u32, kbshl93_u64, kbshl93_u8, kblss2, kbadd2, kbsub2, kbor93, kbgeq93, kband93, kcv93_5, kbs32_1_0, kbshr93_i32, kbshr93_i64, kbshr93_u32, kbshr93_u64, kbshr93_u8, byte_of u h128]
    obtain ⟨A3, c3, F3, w3, ha, ho3, hc3, hf3⟩ := append1_run (P := Tryd.prog) tyU8 ho (.int .u8 (UInt8.ofNat u).toNat) rfl (by simp at hl1; omega) (by simp at hl1; omega) 32
    refine appK ha ?_
    simp (maxSteps := 1000000) (disch := omega) only [hid1', hid2', guardK_u, takeG_u, wrap_in64, optK_some', fzK_false', nilK_ptr, brK_true', brK_false', guardK_tt', guardK_ff', guardK_tf', guardK_ft', takeG_tt', takeG_ff', takeG_tf', takeG_ft', pickK_t', pickK_f', pickT_t', pickT_f', notK, extract2_0', extract2_1', extract3_0', extract3_1', extract3_2', here_load, here_fieldAt, here_indexAt, here_extract, here_un, here_conv, here_slice, here_bin, here_nil, and_here, true_and, Nat.zero_add, Nat.add_assoc, Nat.add_zero, Int.toNat_natCast, size_alloc, World.cell?_drew, World.frozen?_drew, Bool.not_true, Bool.not_false, Int.toNat_zero, dec_t, dec_f, int_eq_t, int_eq_f, int_ne_t, int_ne_f, wrap_in, kcv2_93, kbshl93_i32, kbshl93_i64, kbshl93_u32, kbshl93_u64, kbshl93_u8, kblss2, kbadd2, kbsub2, kbor93, kbgeq93, kband93, kcv93_5, kbs32_1_0, kbshr93_i32, kbshr93_i64, kbshr93_u32, kbshr93_u64, kbshr93_u8]
    have e : (putInt n).length = b.length + 1 := by rw [← hb]; simp
    rw [← e] at ho3 ⊢
    refine hK A3 c3 F3 w3 ?_ (hq.then hc3 hF) (fun k hk => ?_)
    · rw [← hb, List.map_append, hb]; exact ho3
    · rcases hf3 k hk with h | h
      · exact hF k h
      · have := hq.size; omega
  · rw [vbytes_big h128] at hb
    have hor : IntKind.u8.wrap (bits .or .u64 (bits .and .u64 (u : Int) 127) 128) = ((UInt8.ofNat (u % 128 + 128)).toNat : Int) := by
      rcases or_ref u with h | h
      · exact h
      · exact absurd hu h
    simp (maxSteps := 1000000) (disch := omega) only [hid1', hid2', guardK_u, takeG_u, wrap_in64, optK_some', fzK_false', nilK_ptr, brK_true', brK_false', guardK_tt', guardK_ff', guardK_tf', guardK_ft', takeG_tt', takeG_ff', takeG_tf', takeG_ft', pickK_t', pickK_f', pickT_t', pickT_f', notK, extract2_0', extract2_1', extract3_0', extract3_1', extract3_2', here_load, here_fieldAt, here_indexAt, here_extract, here_un, here_conv, here_slice, here_bin, here_nil, and_here, true_and, Nat.zero_add, Nat.add_assoc, Nat.add_zero, Int.toNat_natCast, size_alloc, World.cell?_drew, World.frozen?_drew, Bool.not_true, Bool.not_false, Int.toNat_zero, dec_t, dec_f, int_eq_t, int_eq_f, int_ne_t, int_ne_f, wrap_in, kcv2_93, kbshl93_i32, kbshl93_i64, kbshl93_u32, kbshl93_u64, kbshl93_u8, kblss2, kbadd2, kbsub2, kbor93, kbgeq93, kband93, kcv93_5, kbs32_1_0, kbshr93_i32, kbshr93_i64, kbshr93_u32, kbshr93_u64, kbshr93_u8, hor, shr7 u]
    obtain ⟨A3, c3, F3, w3, ha, ho3, hc3, hf3⟩ := append1_run (P := Tryd.prog) tyU8 ho (.int .u8 (UInt8.ofNat (u % 128 + 128)).toNat) rfl (by omega) (by omega) 32
    refine appK ha ?_
    simp (maxSteps := 1000000) (disch := omega) only [hid1', hid2', guardK_u, takeG_u, wrap_in64, optK_some', fzK_false', nilK_ptr, brK_true', brK_false', guardK_tt', guardK_ff', guardK_tf', guardK_ft', takeG_tt', takeG_ff', takeG_tf', takeG_ft', pickK_t', pickK_f', pickT_t', pickT_f', notK, extract2_0', extract2_1', extract3_0', extract3_1', extract3_2', here_load, here_fieldAt, here_indexAt, here_extract, here_un, here_conv, here_slice, here_bin, here_nil, and_here, true_and, Nat.zero_add, Nat.add_assoc, Nat.add_zero, Int.toNat_natCast, size_alloc, World.cell?_drew, World.frozen?_drew, Bool.not_true, Bool.not_false, Int.toNat_zero, dec_t, dec_f, int_eq_t, int_eq_f, int_ne_t, int_ne_f, wrap_in, kcv2_93, kbshl93_i32, kbshl93_i64, kbshl93_u32, kbshl93_u64, kbshl93_u8, kblss2, kbadd2, kbsub2, kbor93, kbgeq93, kband93, kcv93_5, kbs32_1_0, kbshr93_i32, kbshr93_i64, kbshr93_u32, kbshr93_u64, kbshr93_u8, shr7 u]
    refine ⟨⟨u / 128, b ++ [UInt8.ofNat (u % 128 + 128)], F3, rfl, by omega, by rw [List.append_assoc]; exact hb, by rw [List.length_append, List.map_append]; exact ho3, hq.then hc3 hF, fun k hk => ?_⟩, by simp only [rel]; omega⟩
    rcases hf3 k hk with h | h
    · exact hF k h
    · have := hq.size; omega
theorem putText_any {s : ByteArray} {w : World} {K : Value → World → Prop} (hs : s.size ≤ 100000)
    (hK : ∀ A' c' F w', Own w' 5 1 (.slice A' (putText s.data.toList).length c') (putText s.data.toList).length ((putText s.data.toList).map vb) F → Qt w w' → (∀ k, F = some k → w.heap.size ≤ k) → K (.slice A' (putText s.data.toList).length c') w') : CallK Tryd.prog 30 #[.string s] K w := by
  refine F30_calls _ _ _ ?_; unfold F30
  simp (maxSteps := 1000000) (disch := omega) only [hid1', hid2', guardK_u, takeG_u, wrap_in64, optK_some', fzK_false', nilK_ptr, brK_true', brK_false', guardK_tt', guardK_ff', guardK_tf', guardK_ft', takeG_tt', takeG_ff', takeG_tf', takeG_ft', pickK_t', pickK_f', pickT_t', pickT_f', notK, extract2_0', extract2_1', extract3_0', extract3_1', extract3_2', here_load, here_fieldAt, here_indexAt, here_extract, here_un, here_conv, here_slice, here_bin, here_nil, and_here, true_and, Nat.zero_add, Nat.add_assoc, Nat.add_zero, Int.toNat_natCast, size_alloc, World.cell?_drew, World.frozen?_drew, Bool.not_true, Bool.not_false, Int.toNat_zero, dec_t, dec_f, int_eq_t, int_eq_f, int_ne_t, int_ne_f, wrap_in, klen9, hlen9]
  have hpl := putInt_len (s.size : Int) (by omega) (by omega)
  refine ck29 (putInt_any (by omega) (by omega) ?_)
  intro A1 c1 F1 w1 o1 q1 f1
  simp (maxSteps := 1000000) (disch := omega) only [hid1', hid2', guardK_u, takeG_u, wrap_in64, optK_some', fzK_false', nilK_ptr, brK_true', brK_false', guardK_tt', guardK_ff', guardK_tf', guardK_ft', takeG_tt', takeG_ff', takeG_tf', takeG_ft', pickK_t', pickK_f', pickT_t', pickT_f', notK, extract2_0', extract2_1', extract3_0', extract3_1', extract3_2', here_load, here_fieldAt, here_indexAt, here_extract, here_un, here_conv, here_slice, here_bin, here_nil, and_here, true_and, Nat.zero_add, Nat.add_assoc, Nat.add_zero, Int.toNat_natCast, size_alloc, World.cell?_drew, World.frozen?_drew, Bool.not_true, Bool.not_false, Int.toNat_zero, dec_t, dec_f, int_eq_t, int_eq_f, int_ne_t, int_ne_f, wrap_in, klen9, hlen9]
  obtain ⟨A2, c2, F2, w2, ha, ho, hc, hf⟩ := appendS_run (P := Tryd.prog) tyU8 Tryd.underlying9 o1 s (by omega) 32
  refine appK ha ?_
  simp (maxSteps := 1000000) (disch := omega) only [hid1', hid2', guardK_u, takeG_u, wrap_in64, optK_some', fzK_false', nilK_ptr, brK_true', brK_false', guardK_tt', guardK_ff', guardK_tf', guardK_ft', takeG_tt', takeG_ff', takeG_tf', takeG_ft', pickK_t', pickK_f', pickT_t', pickT_f', notK, extract2_0', extract2_1', extract3_0', extract3_1', extract3_2', here_load, here_fieldAt, here_indexAt, here_extract, here_un, here_conv, here_slice, here_bin, here_nil, and_here, true_and, Nat.zero_add, Nat.add_assoc, Nat.add_zero, Int.toNat_natCast, size_alloc, World.cell?_drew, World.frozen?_drew, Bool.not_true, Bool.not_false, Int.toNat_zero, dec_t, dec_f, int_eq_t, int_eq_f, int_ne_t, int_ne_f, wrap_in, klen9, hlen9]
  have e : (putText s.data.toList).length = (putInt s.size).length + s.size := by
    have : putText s.data.toList = putInt s.size ++ s.data.toList := rfl
    rw [this, List.length_append]; rfl
  have e2 : (putText s.data.toList).map vb = (putInt s.size).map vb ++ s.data.toList.map vb := by
    have : putText s.data.toList = putInt s.size ++ s.data.toList := rfl
    rw [this, List.map_append]
  rw [← e] at ho ⊢
  refine hK A2 c2 F2 w2 (by rw [e2]; exact ho) (q1.then hc f1) (fun k hk => ?_)
  rcases hf k hk with h | h
  · exact f1 k h
  · have := q1.size; omega
end Go.Proofs.YtpdhmbbmhomlnaaDoor

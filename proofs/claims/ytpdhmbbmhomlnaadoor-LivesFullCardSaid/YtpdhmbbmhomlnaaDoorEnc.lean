/- The encoder: numbers and texts put behind what it holds. Conditions: it holds at most 100000 bytes. -/
import Derived.Test.YtpdhmbbmhomlnaaDoorV4
import Derived.Test.YtpdhmbbmhomlnaaDoorOpen
import Derived.Test.YtpdhmbbmhomlnaaDoorNum
set_option maxRecDepth 100000
set_option linter.unusedVariables false
set_option linter.unusedSimpArgs false
namespace Go.Proofs.YtpdhmbbmhomlnaaDoor
open Go.RowKit Go.Cn Go.Cn.Num
/-- The encoder at g holds bs; F: the block of its bytes. -/
def EncAt (w : World) (g : Nat) (bs : List UInt8) (F : Option Nat) : Prop := ∃ v, w.heap[g]? = some (.cells #[v] 60 (0, 0)) ∧ Own w 5 1 v bs.length (bs.map vb) F ∧ F ≠ some g
theorem EncAt.chg {w w' : World} {g : Nat} {bs : List UInt8} {F : Option Nat} {S : Nat → Prop} (h : EncAt w g bs F) (c : Chg S w w') (hg : ¬ S g) (hF : ∀ k, F = some k → ¬ S k) : EncAt w' g bs F := by
  obtain ⟨v, h1, h2, h3⟩ := h; exact ⟨v, c.heap h1 hg, h2.chg c hF, h3⟩
theorem EncAt.lt {w : World} {g : Nat} {bs : List UInt8} {F : Option Nat} (h : EncAt w g bs F) : g < w.heap.size ∧ ∀ k, F = some k → k < w.heap.size := by
  obtain ⟨v, h1, h2, h3⟩ := h; exact ⟨blk_lt h1, fun k hk => h2.lt hk⟩
theorem enc_set {w : World} {g : Nat} {v x : Value} (h : w.heap[g]? = some (.cells #[v] 60 (0, 0))) : (w.setCell ⟨g, 0, none⟩ x).heap[g]? = some (.cells #[x] 60 (0, 0)) := by
  rw [blk_set h]; rfl
/-- One byte behind: what the three steps see and leave. -/
theorem EncAt.put {w : World} {g : Nat} {bs : List UInt8} {F : Option Nat} (h : EncAt w g bs F) (hsz : bs.length ≤ 1000000) (b : UInt8) :
    ∃ v A' cap F' w', w.cell? ⟨g, 0, none⟩ = some v ∧ (Builtin.append_ #[32, 32] 32 #[v, .slice (some ⟨w.heap.size, 0, none⟩) 1 1]).run Tryd.prog (w.alloc (.cells #[.int .u8 (b.toNat : Int)] 5)) = .ok (.slice A' (bs.length + 1) cap) w' ∧
      w'.cell? ⟨g, 0, none⟩ = some v ∧ w'.frozen? ⟨g, 0, none⟩ = false ∧ EncAt (w'.setCell ⟨g, 0, none⟩ (.slice A' (bs.length + 1) cap)) g (bs ++ [b]) F' ∧ Chg (fun k => k = g ∨ F = some k) w (w'.setCell ⟨g, 0, none⟩ (.slice A' (bs.length + 1) cap)) ∧ (∀ k, F' = some k → F = some k ∨ w.heap.size ≤ k) := by
  have hlt := h.lt
  obtain ⟨v, h1, h2, h3⟩ := h
  obtain ⟨A', cap, F', w', ha, ho, hc, hf⟩ := append1_run (P := Tryd.prog) (w := w) tyU8 h2 (.int .u8 b.toNat) rfl (by omega) (by omega) 32
  have hb' : w'.heap[g]? = some (.cells #[v] 60 (0, 0)) := hc.heap h1 h3
  have hFg : F' ≠ some g := fun e => by
    rcases hf g e with h | h
    · exact h3 h
    · have := hlt.1; omega
  refine ⟨v, A', cap, F', w', by rw [blk_cell h1]; rfl, ha, by rw [blk_cell hb']; rfl, blk_frozen hb' 0, ⟨_, enc_set hb', ?_, hFg⟩, ?_, hf⟩
  · rw [List.length_append, List.map_append]
    exact ho.chg ((Chg.refl (fun k => k = g) w').setCell (p := ⟨g, 0, none⟩) (.inl rfl) _) (fun k hk e => hFg (by rw [hk, e]))
  · exact (hc.mono (fun _ _ h => .inr h)).setCell (p := ⟨g, 0, none⟩) (.inl (.inl rfl)) _
set_option maxRecDepth 100000 in
theorem or_more (v : Nat) : bits .or .u8 (IntKind.u8.wrap (v : Int)) 128 = ((UInt8.ofNat (v % 128 + 128)).toNat : Int) := by
  have e : IntKind.u8.wrap (v : Int) = ((BitVec.ofNat 8 v).toNat : Int) := by
    simp [IntKind.wrap, IntKind.bits, IntKind.signed]
  have h := or_u8 (BitVec.ofNat 8 v) 128#8
  rw [show (((128#8).toNat : Nat) : Int) = 128 from rfl] at h
  rw [e, h]
  have key : ∀ x : Fin 256, ((BitVec.ofNat 8 x.val) ||| 128#8).toNat = x.val % 128 + 128 := by decide
  have k2 := key ⟨v % 256, by omega⟩
  have e2 : BitVec.ofNat 8 (v % 256) = BitVec.ofNat 8 v := by apply BitVec.eq_of_toNat_eq; simp
  simp only [e2] at k2
  rw [k2]
  simp
  omega
theorem byte_of (v : Nat) (h : v < 128) : IntKind.u8.wrap (v : Int) = ((UInt8.ofNat v).toNat : Int) := by
  simp [IntKind.wrap, IntKind.bits, IntKind.signed]
theorem shr7 (v : Nat) : (v : Int) / (2 : Int) ^ min (Int.toNat 7) 64 = ((v / 128 : Nat) : Int) := by
  rw [show min (Int.toNat 7) 64 = 7 from rfl]; omega
theorem zz_code (n : Int) (h0 : -9223372036854775808 ≤ n) (h1 : n ≤ 9223372036854775807) :
    bits .xor .u64 (IntKind.u64.wrap (IntKind.u64.wrap n * (2 : Int) ^ min (Int.toNat 1) 64)) (IntKind.u64.wrap (n / (2 : Int) ^ min (Int.toNat 63) 64)) = (zz n : Int) := by
  rw [show min (Int.toNat 1) 64 = 1 from rfl, show min (Int.toNat 63) 64 = 63 from rfl]
  have w1 : IntKind.u64.wrap (IntKind.u64.wrap n * (2 : Int) ^ 1) = ((2 * n) % 18446744073709551616) := by
    simp [IntKind.wrap, IntKind.bits, IntKind.signed]; omega
  by_cases h : 0 ≤ n
  · have d : n / (2 : Int) ^ 63 = 0 := by omega
    obtain ⟨m, rfl⟩ := Int.eq_ofNat_of_zero_le h
    have e1 : (2 * (m : Int)) % 18446744073709551616 = ((2 * m : Nat) : Int) := by omega
    have e2 : IntKind.u64.wrap 0 = ((0 : Nat) : Int) := by decide
    rw [w1, d, e1, e2, bits_xor_u64_nat _ _ (by omega) (by omega)]
    unfold zz; rw [if_pos h]; simp; omega
  · have d : n / (2 : Int) ^ 63 = -1 := by omega
    have e2 : IntKind.u64.wrap (-1) = ((18446744073709551615 : Nat) : Int) := by decide
    obtain ⟨m, hm⟩ : ∃ m : Nat, (m : Int) = -2 * n - 1 := ⟨(-2 * n - 1).toNat, by omega⟩
    have e1 : (2 * n) % 18446744073709551616 = ((18446744073709551615 - m : Nat) : Int) := by omega
    rw [w1, d, e1, e2, bits_xor_u64_nat _ _ (by omega) (by omega)]
    have e3 : (18446744073709551615 - m) ^^^ 18446744073709551615 = m := by
      have hm2 : m < 2 ^ 64 := by omega
      have : 18446744073709551615 - m = 2 ^ 64 - (m + 1) := by omega
      apply Nat.eq_of_testBit_eq; intro i
      rw [Nat.testBit_xor, this, Nat.testBit_two_pow_sub_succ hm2, show 18446744073709551615 = 2 ^ 64 - 1 from rfl, Nat.testBit_two_pow_sub_one]
      by_cases hi : i < 64
      · simp [hi]
      · have : m < 2 ^ i := Nat.lt_of_lt_of_le hm2 (Nat.pow_le_pow_right (by omega) (by omega))
        simp [hi, Nat.testBit_lt_two_pow this]
    rw [e3]
    unfold zz; rw [if_neg h]; omega
theorem flat_take (ns : List Int) (i : Nat) (hi : i < ns.length) : (ns.take (i + 1)).flatMap putInt = (ns.take i).flatMap putInt ++ putInt (ns.getD i default) := by
  rw [List.take_succ_eq_append_getElem hi, List.flatMap_append]
  simp [hi]
theorem enc_ints {ns : List Int} {B : Option Addr} {c : Nat} {g : Nat} {bs : List UInt8} {F : Option Nat} {w : World} {K : Value → World → Prop} (hn : ∀ x ∈ ns, -9223372036854775808 ≤ x ∧ x ≤ 9223372036854775807) (hr : Reads w B (ns.map (Value.int .i64)))
    (hB : ∀ ad, B = some ad → ad.block ≠ g ∧ F ≠ some ad.block ∧ ad.block < w.heap.size) (he : EncAt w g bs F) (hsz : bs.length + 10 * ns.length ≤ 100000)
    (hK : ∀ F' w', EncAt w' g (bs ++ ns.flatMap putInt) F' → Chg (fun k => k = g ∨ F = some k) w w' → (∀ k, F' = some k → F = some k ∨ w.heap.size ≤ k) → K (.tuple #[]) w') : CallK Tryd.prog 24 #[.pointer (some ⟨g, 0, none⟩), .slice B ns.length c] K w := by
  refine F24_calls _ _ _ _ ?_; unfold F24
  simp (maxSteps := 1000000) (disch := omega) only [hid1', hid2', guardK_u, takeG_u, wrap_in64, optK_some', fzK_false', nilK_ptr, brK_true', brK_false', guardK_tt', guardK_ff', guardK_tf', guardK_ft', takeG_tt', takeG_ff', takeG_tf', takeG_ft', pickK_t', pickK_f', pickT_t', pickT_f', notK, extract2_0', extract2_1', extract3_0', extract3_1', extract3_2', here_load, here_fieldAt, here_indexAt, here_extract, here_un, here_conv, here_slice, here_bin, here_nil, and_here, true_and, Nat.zero_add, Nat.add_assoc, Nat.add_zero, Int.toNat_natCast, size_alloc, World.cell?_drew, World.frozen?_drew, Bool.not_true, Bool.not_false, Int.toNat_zero, dec_t, dec_f, int_eq_t, int_eq_f, int_ne_t, int_ne_f, wrap_in, klen92, hlen92, kblss3, kia92, kld2, kcv2_93, kbshl93_i32, kbshl93_i64, kbshl93_u32, kbshl93_u64, kbshl93_u8, kbshr2_i32, kbshr2_i64, kbshr2_u32, kbshr2_u64, kbshr2_u8, kbxor93, kbgeq93, kfa60_0, kld32, kcv93_5, kbor5, kbs32_1_0, kst32, kbshr93_i32, kbshr93_i64, kbshr93_u32, kbshr93_u64, kbshr93_u8, kbadd3]
  refine loopK1 (fun v w' => ∃ (i : Nat) (F' : Option Nat), v = .int .i64 i ∧ i ≤ ns.length ∧ EncAt w' g (bs ++ (ns.take i).flatMap putInt) F' ∧ Chg (fun k => k = g ∨ F = some k) w w' ∧ (∀ k, F' = some k → F = some k ∨ w.heap.size ≤ k) ∧ (bs ++ (ns.take i).flatMap putInt).length ≤ bs.length + 10 * i) (fun v _ => ns.length - (intOf v).toNat) ⟨0, F, rfl, by omega, by simpa using he, Chg.refl _ _, fun _ h => .inl h, by simp⟩ ?_
  rintro _ _ w' ⟨i, F', rfl, hi, he', hc, hF', hlen⟩
  by_cases hlt : i < ns.length
  · have hr' : Reads w' B (ns.map (Value.int .i64)) := hr.chg hc (fun ad e h => by
      obtain ⟨h1, h2, h3⟩ := hB ad e
      rcases h with h | h
      · exact h1 h
      · exact h2 h)
    obtain ⟨b, o, rfl, hcell⟩ := hr'.get hlt
    have hft := flat_take ns i hlt
    have hx := hn (ns.getD i default) (by rw [List.getD_eq_getElem?_getD, List.getElem?_eq_getElem hlt]; exact List.getElem_mem hlt)
    generalize ns.getD i default = x at *
    have hpl := putInt_len x hx.1 hx.2
    have hzl := zz_lt x hx.1 hx.2
    generalize hb0 : bs ++ (ns.take i).flatMap putInt = b0 at *
    simp (maxSteps := 1000000) (disch := omega) only [hid1', hid2', guardK_u, takeG_u, wrap_in64, optK_some', fzK_false', nilK_ptr, brK_true', brK_false', guardK_tt', guardK_ff', guardK_tf', guardK_ft', takeG_tt', takeG_ff', takeG_tf', takeG_ft', pickK_t', pickK_f', pickT_t', pickT_f', notK, extract2_0', extract2_1', extract3_0', extract3_1', extract3_2', here_load, here_fieldAt, here_indexAt, here_extract, here_un, here_conv, here_slice, here_bin, here_nil, and_here, true_and, Nat.zero_add, Nat.add_assoc, Nat.add_zero, Int.toNat_natCast, size_alloc, World.cell?_drew, World.frozen?_drew, Bool.not_true, Bool.not_false, Int.toNat_zero, dec_t, dec_f, int_eq_t, int_eq_f, int_ne_t, int_ne_f, wrap_in, klen92, hlen92, kblss3, kia92, kld2, kcv2_93, kbshl93_i32, kbshl93_i64, kbshl93_u32, kbshl93_u64, kbshl93_u8, kbshr2_i32, kbshr2_i64, kbshr2_u32, kbshr2_u64, kbshr2_u8, kbxor93, kbgeq93, kfa60_0, kld32, kcv93_5, kbor5, kbs32_1_0, kst32, kbshr93_i32, kbshr93_i64, kbshr93_u32, kbshr93_u64, kbshr93_u8, kbadd3, hcell, zz_code x hx.1 hx.2]
    refine loopK1 (fun v w2 => ∃ (u : Nat) (b1 : List UInt8) (F2 : Option Nat), v = .int .u64 u ∧ u < 2 ^ 64 ∧ b1 ++ vbytes u = b0 ++ putInt x ∧ EncAt w2 g b1 F2 ∧ Chg (fun k => k = g ∨ F = some k) w w2 ∧ (∀ k, F2 = some k → F = some k ∨ w.heap.size ≤ k)) (fun v _ => (match v with | .int _ u => u.toNat | _ => 0)) ⟨zz x, b0, F', rfl, hzl, rfl, he', hc, hF'⟩ ?_
    rintro _ _ w2 ⟨u, b1, F2, rfl, hu, hbu, he2, hc2, hF2⟩
    have hl1 : b1.length + (vbytes u).length = b0.length + (putInt x).length := by rw [← List.length_append, hbu, List.length_append]
    by_cases h128 : u < 128
    · obtain ⟨v, A3, cap3, F3, w3, e1, e2, e3, e4, e5, e6, e7⟩ := he2.put (by omega) (UInt8.ofNat u)
      rw [vbytes_small h128] at hbu
      rw [vbytes_small h128, List.length_singleton] at hl1
      simp (maxSteps := 1000000) (disch := omega) only [hid1', hid2', guardK_u, takeG_u, wrap_in64, optK_some', fzK_false', nilK_ptr, brK_true', brK_false', guardK_tt', guardK_ff', guardK_tf', guardK_ft', takeG_tt', takeG_ff', takeG_tf', takeG_ft', pickK_t', pickK_f', pickT_t', pickT_f', notK, extract2_0', extract2_1', extract3_0', extract3_1', extract3_2', here_load, here_fieldAt, here_indexAt, here_extract, here_un, here_conv, here_slice, here_bin, here_nil, and_here, true_and, Nat.zero_add, Nat.add_assoc, Nat.add_zero, Int.toNat_natCast, size_alloc, World.cell?_drew, World.frozen?_drew, Bool.not_true, Bool.not_false, Int.toNat_zero, dec_t, dec_f, int_eq_t, int_eq_f, int_ne_t, int_ne_f, wrap_in, klen92, hlen92, kblss3, kia92, kld2, kcv2_93, kbshl93_i32, kbshl93_i64, kbshl93_u32, kbshl93_u64, kbshl93_u8, kbshr2_i32, kbshr2_i64, kbshr2_u32, kbshr2_u64, kbshr2_u8, kbxor93, kbgeq93, kfa60_0, kld32, kcv93_5, kbor5, kbs32_1_0, kst32, kbshr93_i32, kbshr93_i64, kbshr93_u32, kbshr93_u64, kbshr93_u8, kbadd3, e1, byte_of u h128]
      refine appK e2 ?_
      simp (maxSteps := 1000000) (disch := omega) only [hid1', hid2', guardK_u, takeG_u, wrap_in64, optK_some', fzK_false', nilK_ptr, brK_true', brK_false', guardK_tt', guardK_ff', guardK_tf', guardK_ft', takeG_tt', takeG_ff', takeG_tf', takeG_ft', pickK_t', pickK_f', pickT_t', pickT_f', notK, extract2_0', extract2_1', extract3_0', extract3_1', extract3_2', here_load, here_fieldAt, here_indexAt, here_extract, here_un, here_conv, here_slice, here_bin, here_nil, and_here, true_and, Nat.zero_add, Nat.add_assoc, Nat.add_zero, Int.toNat_natCast, size_alloc, World.cell?_drew, World.frozen?_drew, Bool.not_true, Bool.not_false, Int.toNat_zero, dec_t, dec_f, int_eq_t, int_eq_f, int_ne_t, int_ne_f, wrap_in, klen92, hlen92, kblss3, kia92, kld2, kcv2_93, kbshl93_i32, kbshl93_i64, kbshl93_u32, kbshl93_u64, kbshl93_u8, kbshr2_i32, kbshr2_i64, kbshr2_u32, kbshr2_u64, kbshr2_u8, kbxor93, kbgeq93, kfa60_0, kld32, kcv93_5, kbor5, kbs32_1_0, kst32, kbshr93_i32, kbshr93_i64, kbshr93_u32, kbshr93_u64, kbshr93_u8, kbadd3, e3, e4]
      refine ⟨⟨i + 1, F3, by go_num, by omega, ?_, hc2.then e6 (fun k hk => ?_), fun k hk => ?_, ?_⟩, by simp [rel, intOf]; omega⟩
      · rw [hft, ← List.append_assoc, hb0, ← hbu]; exact e5
      · rcases hk with h | h
        · exact .inl (.inl h)
        · rcases hF2 k h with h | h
          · exact .inl (.inr h)
          · exact .inr h
      · rcases e7 k hk with h | h
        · exact hF2 k h
        · have := hc2.size; omega
      · rw [hft, ← List.append_assoc, hb0, List.length_append]; omega
    · obtain ⟨v, A3, cap3, F3, w3, e1, e2, e3, e4, e5, e6, e7⟩ := he2.put (by omega) (UInt8.ofNat (u % 128 + 128))
      rw [vbytes_big h128] at hbu
      simp (maxSteps := 1000000) (disch := omega) only [hid1', hid2', guardK_u, takeG_u, wrap_in64, optK_some', fzK_false', nilK_ptr, brK_true', brK_false', guardK_tt', guardK_ff', guardK_tf', guardK_ft', takeG_tt', takeG_ff', takeG_tf', takeG_ft', pickK_t', pickK_f', pickT_t', pickT_f', notK, extract2_0', extract2_1', extract3_0', extract3_1', extract3_2', here_load, here_fieldAt, here_indexAt, here_extract, here_un, here_conv, here_slice, here_bin, here_nil, and_here, true_and, Nat.zero_add, Nat.add_assoc, Nat.add_zero, Int.toNat_natCast, size_alloc, World.cell?_drew, World.frozen?_drew, Bool.not_true, Bool.not_false, Int.toNat_zero, dec_t, dec_f, int_eq_t, int_eq_f, int_ne_t, int_ne_f, wrap_in, klen92, hlen92, kblss3, kia92, kld2, kcv2_93, kbshl93_i32, kbshl93_i64, kbshl93_u32, kbshl93_u64, kbshl93_u8, kbshr2_i32, kbshr2_i64, kbshr2_u32, kbshr2_u64, kbshr2_u8, kbxor93, kbgeq93, kfa60_0, kld32, kcv93_5, kbor5, kbs32_1_0, kst32, kbshr93_i32, kbshr93_i64, kbshr93_u32, kbshr93_u64, kbshr93_u8, kbadd3, e1, or_more u]
      refine appK e2 ?_
      simp (maxSteps := 1000000) (disch := omega) only [hid1', hid2', guardK_u, takeG_u, wrap_in64, optK_some', fzK_false', nilK_ptr, brK_true', brK_false', guardK_tt', guardK_ff', guardK_tf', guardK_ft', takeG_tt', takeG_ff', takeG_tf', takeG_ft', pickK_t', pickK_f', pickT_t', pickT_f', notK, extract2_0', extract2_1', extract3_0', extract3_1', extract3_2', here_load, here_fieldAt, here_indexAt, here_extract, here_un, here_conv, here_slice, here_bin, here_nil, and_here, true_and, Nat.zero_add, Nat.add_assoc, Nat.add_zero, Int.toNat_natCast, size_alloc, World.cell?_drew, World.frozen?_drew, Bool.not_true, Bool.not_false, Int.toNat_zero, dec_t, dec_f, int_eq_t, int_eq_f, int_ne_t, int_ne_f, wrap_in, klen92, hlen92, kblss3, kia92, kld2, kcv2_93, kbshl93_i32, kbshl93_i64, kbshl93_u32, kbshl93_u64, kbshl93_u8, kbshr2_i32, kbshr2_i64, kbshr2_u32, kbshr2_u64, kbshr2_u8, kbxor93, kbgeq93, kfa60_0, kld32, kcv93_5, kbor5, kbs32_1_0, kst32, kbshr93_i32, kbshr93_i64, kbshr93_u32, kbshr93_u64, kbshr93_u8, kbadd3, e3, e4, shr7 u]
      refine ⟨⟨u / 128, b1 ++ [UInt8.ofNat (u % 128 + 128)], F3, rfl, by omega, ?_, e5, hc2.then e6 (fun k hk => ?_), fun k hk => ?_⟩, by simp only [rel]; omega⟩
      · rw [List.append_assoc]; exact hbu
      · rcases hk with h | h
        · exact .inl (.inl h)
        · rcases hF2 k h with h | h
          · exact .inl (.inr h)
          · exact .inr h
      · rcases e7 k hk with h | h
        · exact hF2 k h
        · have := hc2.size; omega
  · simp (maxSteps := 1000000) (disch := omega) only [hid1', hid2', guardK_u, takeG_u, wrap_in64, optK_some', fzK_false', nilK_ptr, brK_true', brK_false', guardK_tt', guardK_ff', guardK_tf', guardK_ft', takeG_tt', takeG_ff', takeG_tf', takeG_ft', pickK_t', pickK_f', pickT_t', pickT_f', notK, extract2_0', extract2_1', extract3_0', extract3_1', extract3_2', here_load, here_fieldAt, here_indexAt, here_extract, here_un, here_conv, here_slice, here_bin, here_nil, and_here, true_and, Nat.zero_add, Nat.add_assoc, Nat.add_zero, Int.toNat_natCast, size_alloc, World.cell?_drew, World.frozen?_drew, Bool.not_true, Bool.not_false, Int.toNat_zero, dec_t, dec_f, int_eq_t, int_eq_f, int_ne_t, int_ne_f, wrap_in, klen92, hlen92, kblss3, kia92, kld2, kcv2_93, kbshl93_i32, kbshl93_i64, kbshl93_u32, kbshl93_u64, kbshl93_u8, kbshr2_i32, kbshr2_i64, kbshr2_u32, kbshr2_u64, kbshr2_u8, kbxor93, kbgeq93, kfa60_0, kld32, kcv93_5, kbor5, kbs32_1_0, kst32, kbshr93_i32, kbshr93_i64, kbshr93_u32, kbshr93_u64, kbshr93_u8, kbadd3]
    rw [List.take_of_length_le (by omega)] at he'
    exact hK F' w' he' hc hF'
end Go.Proofs.YtpdhmbbmhomlnaaDoor

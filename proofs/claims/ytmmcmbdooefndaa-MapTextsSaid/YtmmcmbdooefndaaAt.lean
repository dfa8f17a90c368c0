/- at: a key's place in a row of keys. Conditions: the row is a map's keys. And rows with one more, one less. -/
import Derived.Test.YtmmcmbdooefndaaKnown
import Derived.Test.YtmmcmbdooefndaaSM2
set_option linter.unusedVariables false
set_option linter.unusedSimpArgs false
set_option maxRecDepth 100000
namespace Go.Proofs.Ytmmcmbdooefndaa
open Go.RowKit Go.Cn
theorem take_of1 {P : Program} {S : World → Prop} {s : Sem Value} {K : Value → Prop} (v : Value) (h : ∀ w, S w → s.run P w = .ok v w) (hk : K v) : TakeS P S s (@hid _ ⟨K⟩) := ⟨v, h, hk⟩
theorem take_txt1 {P : Program} {S : World → Prop} {t : TypeId} {x y : ByteArray} {K : Value → Prop} (op : BinOp) (v : Value) (h : ∀ w, S w → BinK P op t (.string x) (.string y) (@hid _ ⟨fun v' w' => v' = v ∧ w' = w⟩) w) (hk : K v) : BinT P S op t (.string x) (.string y) (@hid _ ⟨K⟩) := ⟨v, fun w hw => ⟨(h w hw).1, resK_is (h w hw).2⟩, hk⟩
def kS (p : SI.κ × SI.ν) : Value := .string p.1
def vS (p : SI.κ × SI.ν) : Value := .int .i64 p.2
theorem kS_one (M : List (SI.κ × SI.ν)) : ∀ u ∈ M.map kS, u.oneCell' = true := by
  intro u hu; obtain ⟨p, _, rfl⟩ := List.mem_map.1 hu; rfl
theorem vS_one (M : List (SI.κ × SI.ν)) : ∀ u ∈ M.map vS, u.oneCell' = true := by
  intro u hu; obtain ⟨p, _, rfl⟩ := List.mem_map.1 hu; rfl
theorem at_any {M : List (SI.κ × SI.ν)} {k : ByteArray} {A : Option Addr} {c : Nat} {w : World} {K : Value → World → Prop} (hr : Reads w A (M.map kS)) (hl : M.length ≤ 100000)
    (hK : ∀ w', Qt w w' → K (.tuple #[.int .i64 (pos SI.lt M k), .bool (fnd SI.lt M k)]) w') : CallK Try.prog 9 #[.slice A M.length c, .string k] K w := by
  refine F9_calls _ _ _ _ ?_; unfold F9
  refine loopK1 (fun v w' => Qt w w' ∧ ∃ i : Nat, v = .int .i64 i ∧ i ≤ M.length ∧ ∀ q (h : q < M.length), q < i → SI.lt M[q].1 k = true) (fun v _ => M.length - (intOf v).toNat) ⟨Qt.refl, 0, rfl, by omega, fun q h hq => by omega⟩ ?_
  rintro _ _ w' ⟨hq, i, rfl, hi, hlo⟩
  have hr' := hr.quiet hq
  by_cases hlt : i < M.length
  · obtain ⟨g, o, rfl, hc⟩ := hr'.get (α := SI.κ × SI.ν) hlt
    have hgd : M.getD i default = M[i] := by simp [hlt]
    rw [hgd] at hc
    have hc' : w'.cell? ⟨g, o + i, none⟩ = some (.string M[i].1) := hc
    cases hb : SI.lt M[i].1 k with
    | true =>
      have hb' : Op.bytesLess M[i].1.toList k.toList = true := hb
      simp (maxSteps := 1000000) (disch := omega) only [hid1', hid2', guardK_u, takeG_u, wrap_in64, optK_some', fzK_false', nilK_ptr, brK_true', brK_false', guardK_tt', guardK_ff', guardK_tf', guardK_ft', takeG_tt', takeG_ff', takeG_tf', takeG_ft', pickK_t', pickK_f', pickT_t', pickT_f', notK, extract2_0', extract2_1', extract3_0', extract3_1', extract3_2', here_load, here_fieldAt, here_indexAt, here_extract, here_un, here_conv, here_slice, here_bin, here_nil, and_here, true_and, Nat.zero_add, Nat.add_assoc, Nat.add_zero, Int.toNat_natCast, size_alloc, World.cell?_drew, World.frozen?_drew, Bool.not_true, Bool.not_false, Int.toNat_zero, dec_t, dec_f, int_eq_t, int_eq_f, int_ne_t, int_ne_f, wrap_in, klen22, hlen22, kbgtr3, kblss3, kia22, kld29, kal29, kst29f, kfa29_1, kld9, klen9, hlen9, kfa29_0, kld3, kbeql3, kfa29_2, kbneq4, kbs27_0, kia27, kst3, kbs26_0, ksl26_010z, ksl26_010, kbs26_1_0, ksl26_100z, ksl26_100, ksl27_010z, ksl27_010, kbs27_1_0, ksl27_100z, ksl27_100, kbadd3, kbeql24n, klen26, hlen26, kbneq3, kia26, kbneq9, kbgeq3, kbsub3, kbeql4, klen42, hlen42, kia42, kld2, kcv5_3, kbrem3, kbneq2, kbgeq2, kbeql9, kbneq24n, kbd59_, kbx59, kblss9, kfa59_0, kld57, kia57, kfa61_1, kbd61_0_1, kbs57_1_0, kst57, kbd59_0, klen57, hlen57, kld61, kal61, kst61f, kfa61_0, kbd68_, kbx68, kfa68_0, kld66, kia66, kfa71_1, kst9, kbd71_0_1, kbs66_1_0, kst66, kband2, kbadd2, kcv2_5, kbs73_1_0, klen66, hlen66, kld71, kal71, kst71f, kfa71_0, kbs42_1_0, kbd76_, kbx76, kfa76_0, kld74, kia74, kfa78_1, kst4, kbd78_0_1, kbs74_1_0, kst74, klen74, hlen74, kld78, kal78, kst78f, kfa78_0, kld4, ksl57_100z, ksl57_100, kcap57, ksl57_010z, ksl57_010, ksl57_111, ksl57_110, kbeql57n, kbeql57z, kbs57_0, ksl66_100z, ksl66_100, kcap66, ksl66_010z, ksl66_010, ksl74_100z, ksl74_100, kcap74, ksl74_010z, ksl74_010, kcv3_94, kbshr94_i32, kbshr94_i64, kbshr94_u32, kbshr94_u64, kbshr94_u8, kcv94_3, kbx61, kbx71, kblss2, kbgtr2, kbx78, hc', hb']
      refine ⟨⟨hq, i + 1, by go_num, by omega, fun q h hqi => ?_⟩, by simp [rel, intOf]; omega⟩
      by_cases e : q = i
      · subst e; exact hb
      · exact hlo q h (by omega)
    | false =>
      have hb' : Op.bytesLess M[i].1.toList k.toList = false := hb
      have hp : pos SI.lt M k = i := pos_eq M k i hi hlo (fun h => hb)
      have hf : fnd SI.lt M k = (M[i].1.toList == k.toList) := by
        unfold fnd
        rw [hp, List.getElem?_eq_getElem hlt]
        by_cases e : M[i].1 = k
        · simp [e]
        · have : (M[i].1.toList == k.toList) = false := beq_eq_false_iff_ne.2 (fun h => e (toList_inj h))
          rw [this]; simp [e]
      simp (maxSteps := 1000000) (disch := omega) only [hid1', hid2', guardK_u, takeG_u, wrap_in64, optK_some', fzK_false', nilK_ptr, brK_true', brK_false', guardK_tt', guardK_ff', guardK_tf', guardK_ft', takeG_tt', takeG_ff', takeG_tf', takeG_ft', pickK_t', pickK_f', pickT_t', pickT_f', notK, extract2_0', extract2_1', extract3_0', extract3_1', extract3_2', here_load, here_fieldAt, here_indexAt, here_extract, here_un, here_conv, here_slice, here_bin, here_nil, and_here, true_and, Nat.zero_add, Nat.add_assoc, Nat.add_zero, Int.toNat_natCast, size_alloc, World.cell?_drew, World.frozen?_drew, Bool.not_true, Bool.not_false, Int.toNat_zero, dec_t, dec_f, int_eq_t, int_eq_f, int_ne_t, int_ne_f, wrap_in, klen22, hlen22, kbgtr3, kblss3, kia22, kld29, kal29, kst29f, kfa29_1, kld9, klen9, hlen9, kfa29_0, kld3, kbeql3, kfa29_2, kbneq4, kbs27_0, kia27, kst3, kbs26_0, ksl26_010z, ksl26_010, kbs26_1_0, ksl26_100z, ksl26_100, ksl27_010z, ksl27_010, kbs27_1_0, ksl27_100z, ksl27_100, kbadd3, kbeql24n, klen26, hlen26, kbneq3, kia26, kbneq9, kbgeq3, kbsub3, kbeql4, klen42, hlen42, kia42, kld2, kcv5_3, kbrem3, kbneq2, kbgeq2, kbeql9, kbneq24n, kbd59_, kbx59, kblss9, kfa59_0, kld57, kia57, kfa61_1, kbd61_0_1, kbs57_1_0, kst57, kbd59_0, klen57, hlen57, kld61, kal61, kst61f, kfa61_0, kbd68_, kbx68, kfa68_0, kld66, kia66, kfa71_1, kst9, kbd71_0_1, kbs66_1_0, kst66, kband2, kbadd2, kcv2_5, kbs73_1_0, klen66, hlen66, kld71, kal71, kst71f, kfa71_0, kbs42_1_0, kbd76_, kbx76, kfa76_0, kld74, kia74, kfa78_1, kst4, kbd78_0_1, kbs74_1_0, kst74, klen74, hlen74, kld78, kal78, kst78f, kfa78_0, kld4, ksl57_100z, ksl57_100, kcap57, ksl57_010z, ksl57_010, ksl57_111, ksl57_110, kbeql57n, kbeql57z, kbs57_0, ksl66_100z, ksl66_100, kcap66, ksl66_010z, ksl66_010, ksl74_100z, ksl74_100, kcap74, ksl74_010z, ksl74_010, kcv3_94, kbshr94_i32, kbshr94_i64, kbshr94_u32, kbshr94_u64, kbshr94_u8, kcv94_3, kbx61, kbx71, kblss2, kbgtr2, kbx78, hc', hb']
      refine drawK_here ?_
      simp (maxSteps := 1000000) (disch := omega) only [hid1', hid2', guardK_u, takeG_u, wrap_in64, optK_some', fzK_false', nilK_ptr, brK_true', brK_false', guardK_tt', guardK_ff', guardK_tf', guardK_ft', takeG_tt', takeG_ff', takeG_tf', takeG_ft', pickK_t', pickK_f', pickT_t', pickT_f', notK, extract2_0', extract2_1', extract3_0', extract3_1', extract3_2', here_load, here_fieldAt, here_indexAt, here_extract, here_un, here_conv, here_slice, here_bin, here_nil, and_here, true_and, Nat.zero_add, Nat.add_assoc, Nat.add_zero, Int.toNat_natCast, size_alloc, World.cell?_drew, World.frozen?_drew, Bool.not_true, Bool.not_false, Int.toNat_zero, dec_t, dec_f, int_eq_t, int_eq_f, int_ne_t, int_ne_f, wrap_in, klen22, hlen22, kbgtr3, kblss3, kia22, kld29, kal29, kst29f, kfa29_1, kld9, klen9, hlen9, kfa29_0, kld3, kbeql3, kfa29_2, kbneq4, kbs27_0, kia27, kst3, kbs26_0, ksl26_010z, ksl26_010, kbs26_1_0, ksl26_100z, ksl26_100, ksl27_010z, ksl27_010, kbs27_1_0, ksl27_100z, ksl27_100, kbadd3, kbeql24n, klen26, hlen26, kbneq3, kia26, kbneq9, kbgeq3, kbsub3, kbeql4, klen42, hlen42, kia42, kld2, kcv5_3, kbrem3, kbneq2, kbgeq2, kbeql9, kbneq24n, kbd59_, kbx59, kblss9, kfa59_0, kld57, kia57, kfa61_1, kbd61_0_1, kbs57_1_0, kst57, kbd59_0, klen57, hlen57, kld61, kal61, kst61f, kfa61_0, kbd68_, kbx68, kfa68_0, kld66, kia66, kfa71_1, kst9, kbd71_0_1, kbs66_1_0, kst66, kband2, kbadd2, kcv2_5, kbs73_1_0, klen66, hlen66, kld71, kal71, kst71f, kfa71_0, kbs42_1_0, kbd76_, kbx76, kfa76_0, kld74, kia74, kfa78_1, kst4, kbd78_0_1, kbs74_1_0, kst74, klen74, hlen74, kld78, kal78, kst78f, kfa78_0, kld4, ksl57_100z, ksl57_100, kcap57, ksl57_010z, ksl57_010, ksl57_111, ksl57_110, kbeql57n, kbeql57z, kbs57_0, ksl66_100z, ksl66_100, kcap66, ksl66_010z, ksl66_010, ksl74_100z, ksl74_100, kcap74, ksl74_010z, ksl74_010, kcv3_94, kbshr94_i32, kbshr94_i64, kbshr94_u32, kbshr94_u64, kbshr94_u8, kcv94_3, kbx61, kbx71, kblss2, kbgtr2, kbx78, hc']
      have := hK w'.drew hq.drew
      rw [hp, hf] at this
      exact this
  · have hie : i = M.length := by omega
    have hp : pos SI.lt M k = i := pos_eq M k i hi hlo (fun h => absurd h hlt)
    have hf : fnd SI.lt M k = false := by
      unfold fnd
      rw [hp, List.getElem?_eq_none (by omega)]
    simp (maxSteps := 1000000) (disch := omega) only [hid1', hid2', guardK_u, takeG_u, wrap_in64, optK_some', fzK_false', nilK_ptr, brK_true', brK_false', guardK_tt', guardK_ff', guardK_tf', guardK_ft', takeG_tt', takeG_ff', takeG_tf', takeG_ft', pickK_t', pickK_f', pickT_t', pickT_f', notK, extract2_0', extract2_1', extract3_0', extract3_1', extract3_2', here_load, here_fieldAt, here_indexAt, here_extract, here_un, here_conv, here_slice, here_bin, here_nil, and_here, true_and, Nat.zero_add, Nat.add_assoc, Nat.add_zero, Int.toNat_natCast, size_alloc, World.cell?_drew, World.frozen?_drew, Bool.not_true, Bool.not_false, Int.toNat_zero, dec_t, dec_f, int_eq_t, int_eq_f, int_ne_t, int_ne_f, wrap_in, klen22, hlen22, kbgtr3, kblss3, kia22, kld29, kal29, kst29f, kfa29_1, kld9, klen9, hlen9, kfa29_0, kld3, kbeql3, kfa29_2, kbneq4, kbs27_0, kia27, kst3, kbs26_0, ksl26_010z, ksl26_010, kbs26_1_0, ksl26_100z, ksl26_100, ksl27_010z, ksl27_010, kbs27_1_0, ksl27_100z, ksl27_100, kbadd3, kbeql24n, klen26, hlen26, kbneq3, kia26, kbneq9, kbgeq3, kbsub3, kbeql4, klen42, hlen42, kia42, kld2, kcv5_3, kbrem3, kbneq2, kbgeq2, kbeql9, kbneq24n, kbd59_, kbx59, kblss9, kfa59_0, kld57, kia57, kfa61_1, kbd61_0_1, kbs57_1_0, kst57, kbd59_0, klen57, hlen57, kld61, kal61, kst61f, kfa61_0, kbd68_, kbx68, kfa68_0, kld66, kia66, kfa71_1, kst9, kbd71_0_1, kbs66_1_0, kst66, kband2, kbadd2, kcv2_5, kbs73_1_0, klen66, hlen66, kld71, kal71, kst71f, kfa71_0, kbs42_1_0, kbd76_, kbx76, kfa76_0, kld74, kia74, kfa78_1, kst4, kbd78_0_1, kbs74_1_0, kst74, klen74, hlen74, kld78, kal78, kst78f, kfa78_0, kld4, ksl57_100z, ksl57_100, kcap57, ksl57_010z, ksl57_010, ksl57_111, ksl57_110, kbeql57n, kbeql57z, kbs57_0, ksl66_100z, ksl66_100, kcap66, ksl66_010z, ksl66_010, ksl74_100z, ksl74_100, kcap74, ksl74_010z, ksl74_010, kcv3_94, kbshr94_i32, kbshr94_i64, kbshr94_u32, kbshr94_u64, kbshr94_u8, kcv94_3, kbx61, kbx71, kblss2, kbgtr2, kbx78]
    refine drawK_here ?_
    simp (maxSteps := 1000000) (disch := omega) only [hid1', hid2', guardK_u, takeG_u, wrap_in64, optK_some', fzK_false', nilK_ptr, brK_true', brK_false', guardK_tt', guardK_ff', guardK_tf', guardK_ft', takeG_tt', takeG_ff', takeG_tf', takeG_ft', pickK_t', pickK_f', pickT_t', pickT_f', notK, extract2_0', extract2_1', extract3_0', extract3_1', extract3_2', here_load, here_fieldAt, here_indexAt, here_extract, here_un, here_conv, here_slice, here_bin, here_nil, and_here, true_and, Nat.zero_add, Nat.add_assoc, Nat.add_zero, Int.toNat_natCast, size_alloc, World.cell?_drew, World.frozen?_drew, Bool.not_true, Bool.not_false, Int.toNat_zero, dec_t, dec_f, int_eq_t, int_eq_f, int_ne_t, int_ne_f, wrap_in, klen22, hlen22, kbgtr3, kblss3, kia22, kld29, kal29, kst29f, kfa29_1, kld9, klen9, hlen9, kfa29_0, kld3, kbeql3, kfa29_2, kbneq4, kbs27_0, kia27, kst3, kbs26_0, ksl26_010z, ksl26_010, kbs26_1_0, ksl26_100z, ksl26_100, ksl27_010z, ksl27_010, kbs27_1_0, ksl27_100z, ksl27_100, kbadd3, kbeql24n, klen26, hlen26, kbneq3, kia26, kbneq9, kbgeq3, kbsub3, kbeql4, klen42, hlen42, kia42, kld2, kcv5_3, kbrem3, kbneq2, kbgeq2, kbeql9, kbneq24n, kbd59_, kbx59, kblss9, kfa59_0, kld57, kia57, kfa61_1, kbd61_0_1, kbs57_1_0, kst57, kbd59_0, klen57, hlen57, kld61, kal61, kst61f, kfa61_0, kbd68_, kbx68, kfa68_0, kld66, kia66, kfa71_1, kst9, kbd71_0_1, kbs66_1_0, kst66, kband2, kbadd2, kcv2_5, kbs73_1_0, klen66, hlen66, kld71, kal71, kst71f, kfa71_0, kbs42_1_0, kbd76_, kbx76, kfa76_0, kld74, kia74, kfa78_1, kst4, kbd78_0_1, kbs74_1_0, kst74, klen74, hlen74, kld78, kal78, kst78f, kfa78_0, kld4, ksl57_100z, ksl57_100, kcap57, ksl57_010z, ksl57_010, ksl57_111, ksl57_110, kbeql57n, kbeql57z, kbs57_0, ksl66_100z, ksl66_100, kcap66, ksl66_010z, ksl66_010, ksl74_100z, ksl74_100, kcap74, ksl74_010z, ksl74_010, kcv3_94, kbshr94_i32, kbshr94_i64, kbshr94_u32, kbshr94_u64, kbshr94_u8, kcv94_3, kbx61, kbx71, kblss2, kbgtr2, kbx78]
    have := hK w'.drew hq.drew
    rw [hp, hf] at this
    exact this
/-- A row with one more: behind the copying, the rest. -/
theorem rest_run {w : World} {t e : TypeId} {z : Value} {bytes : Nat} (T : ElemTy Try.prog t e z 1 bytes) {n p c : Nat} {A : Option Addr} {xs : List Value} {x : Value} {F0 F : Option Nat} {w0 : World} {A2 : Option Addr} {c2 : Nat} (ho0 : Own w0 e 1 (.slice A n c) n xs F0) (hq : Qt w0 w) (h1 : ∀ u ∈ xs, u.oneCell' = true) (hp : p ≤ n)
    (ho : Own w e 1 (.slice A2 (p + 1) c2) (p + 1) (xs.take p ++ [x]) F) (hb : (n + 1) * bytes ≤ 140737488355328) (hn : n ≤ 1000000) (hF : ∀ k, F = some k → w0.heap.size ≤ k) (B : Option Addr) (hB : ∀ g, A = some ⟨g, 0, none⟩ → B = if c = p then some ⟨g, 0, none⟩ else some ⟨g, p, none⟩) :
    ∃ A3 c3 F3 w3, (Builtin.append_ #[t, t] t #[.slice A2 (p + 1) c2, .slice B (n - p) (c - p)]).run Try.prog w = .ok (.slice A3 (n + 1) c3) w3 ∧ Own w3 e 1 (.slice A3 (n + 1) c3) (n + 1) (xs.take p ++ [x] ++ xs.drop p) F3 ∧ Qt w0 w3 ∧ (∀ k, F3 = some k → w0.heap.size ≤ k) := by
  have hlen : xs.length = n := by have := ho0.row.1.1; omega
  have hsrc : Cn.Src w B (xs.drop p) := by
    by_cases hpn : p = n
    · rw [List.drop_eq_nil_of_le (by omega)]; exact Src.nil _ _
    rcases ho0 with ⟨_, h0, _, _⟩ | ⟨g, cap, hv, _, hrow⟩
    · omega
    · injection hv with a1 a2 a3
      subst a1 a3
      have hcap := hrow.cap_le
      have hcp : ¬ c = p := by omega
      have hB' := hB g rfl
      rw [if_neg hcp] at hB'
      subst hB'
      intro j u hj
      have hj' := (List.getElem?_eq_some_iff.1 hj).1
      rw [List.length_drop] at hj'
      refine ⟨⟨g, p, none⟩, rfl, ?_⟩
      rw [Addr.add_lit]
      have := hrow.cell (p + j) (by omega)
      rw [List.getElem?_drop] at hj
      rw [hj] at this
      have h2 := hq.cell this (fun h => h)
      simpa using h2
  obtain ⟨A3, c3, F3, w3, pr, o3, k3, f3⟩ := app_run (P := Try.prog) T ho B (n - p) (c - p) (xs.drop p) (by simp; omega) hsrc (fun u hu => h1 u (List.mem_of_mem_drop hu)) (by rw [show p + 1 + (n - p) = n + 1 by omega]; exact hb) (by omega) t
  have e : p + 1 + (n - p) = n + 1 := by omega
  rw [e] at pr o3
  refine ⟨A3, c3, F3, w3, pr, o3, Qt.then hq k3 hF, fun k hk => ?_⟩
  rcases f3 k hk with h | h
  · exact hF k h
  · have := hq.size; omega
end Go.Proofs.Ytmmcmbdooefndaa

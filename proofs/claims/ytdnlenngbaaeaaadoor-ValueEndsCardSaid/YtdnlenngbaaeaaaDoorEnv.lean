/- What the listed variables hold, and the library's functions on numbers and texts, with a continuation. -/
import Derived.Test.YtdnlenngbaaeaaaDoorChk2
import Derived.Test.YtdnlenngbaaeaaaDoorShelf
set_option linter.unusedVariables false
set_option linter.unusedSimpArgs false
set_option maxRecDepth 100000
namespace Go.Proofs.YtdnlenngbaaeaaaDoor
open Go.RowKit Go.Cn
def ErrAt (w : World) (g : Nat) : Prop := ∃ ev, w.cell? ⟨g, 0, none⟩ = some ev ∧ (ev = .nilIface ∨ ∃ te pe, ev = .iface te pe)
structure Env2 (w : World) : Prop where
  max : ∃ m, w.cell? ⟨3, 0, none⟩ = some (.int .i64 m)
  tab : Lib.TabIs Tryd.prog w "internal/strconv.uint64pow10" .u64 Lib.pow10Tab
  syn : ErrAt w 4
  ran : ErrAt w 5
theorem g0 : Tryd.prog.globalNamed "internal/strconv.uint64pow10" = some 0 := by kernel_rfl
theorem tab_quiet {w w' : World} (h : Lib.TabIs Tryd.prog w "internal/strconv.uint64pow10" .u64 Lib.pow10Tab) (q : Qt w w') : Lib.TabIs Tryd.prog w' "internal/strconv.uint64pow10" .u64 Lib.pow10Tab := by
  unfold Lib.TabIs World.var? at *
  rw [g0] at *
  simp only [Option.bind_some] at *
  cases hb : w.heap[0]? with
  | none => rw [hb] at h; cases h
  | some o => rw [q.heap hb (fun h => h)]; rw [hb] at h; exact h
theorem err_quiet {w w' : World} {g : Nat} (h : ErrAt w g) (q : Qt w w') : ErrAt w' g := by
  obtain ⟨ev, h1, h2⟩ := h
  exact ⟨ev, q.cell h1 (fun h => h), h2⟩
theorem Env2.quiet {w w' : World} (h : Env2 w) (q : Qt w w') : Env2 w' :=
  ⟨by obtain ⟨m, hm⟩ := h.max; exact ⟨m, q.cell hm (fun h => h)⟩, tab_quiet h.tab q, err_quiet h.syn q, err_quiet h.ran q⟩
theorem qt_grow (w : World) (k : Nat) (os : Array Obj) : Qt w (Go.Sort.grow (w.drewN k) os) := by
  refine ⟨rfl, rfl, rfl, ?_, fun j hj _ => ?_⟩
  · show w.heap.size ≤ (w.heap ++ os).size
    rw [Array.size_append]; omega
  · show (w.heap ++ os)[j]? = w.heap[j]?
    rw [Array.getElem?_append_left hj]
theorem fmt39 {n : Int} {w : World} {K : Value → World → Prop} (hn : in64 n) (he : Env2 w) (hK : ∀ w', Qt w w' → K (.string (txt (Lib.itoa n))) w') : CallV Tryd.prog (.func (.func 39) #[] #[]) #[.int .i64 n, .int .i64 10] K w := by
  refine callV_func Tryd.func39 (by kernel_rfl) (by kernel_rfl) ((Tryd.strconv_FormatInt_10 n hn.1 hn.2 w he.tab).mono ?_)
  rintro e w' ⟨rfl, k, os, rfl⟩
  exact hK _ (qt_grow w k os)
theorem qt_bytes (w : World) (e : TypeId) (s : ByteArray) : Qt w (Lib.bytesWorld w e s) := Chg.none_of_below (Lib.bytesWorld_below w e s) _
theorem has65 {s p : ByteArray} {w : World} {K : Value → World → Prop} (hK : K (.bool (Lib.hasPrefix s.data.toList p.data.toList)) w) : CallV Tryd.prog (.func (.func 65) #[] #[]) #[.string s, .string p] K w := by
  refine callV_func Tryd.func65 (by kernel_rfl) (by kernel_rfl) ((Tryd.strings_HasPrefix s p w).mono ?_)
  rintro e w' ⟨rfl, rfl⟩
  exact hK
theorem has66 {s p : ByteArray} {w : World} {K : Value → World → Prop} (hs : s.size ≤ 9223372036854775807) (hK : K (.bool (Lib.hasSuffix s.data.toList p.data.toList)) w) : CallV Tryd.prog (.func (.func 66) #[] #[]) #[.string s, .string p] K w := by
  refine callV_func Tryd.func66 (by kernel_rfl) (by kernel_rfl) ((Tryd.strings_HasSuffix s p w hs).mono ?_)
  rintro e w' ⟨rfl, rfl⟩
  exact hK
theorem mul46 {x y : Nat} {w : World} {K : Value → World → Prop} (hx : x < 18446744073709551616) (hy : y < 18446744073709551616) (hK : K (.tuple #[.int .u64 ((x * y / 18446744073709551616 : Nat) : Int), .int .u64 ((x * y % 18446744073709551616 : Nat) : Int)]) w) : CallV Tryd.prog (.func (.func 46) #[] #[]) #[.int .u64 x, .int .u64 y] K w := by
  refine callV_func Tryd.func46 (by kernel_rfl) (by kernel_rfl) ((Tryd.bits_Mul64 x y hx hy w).mono ?_)
  rintro e w' ⟨rfl, rfl⟩
  exact hK
theorem split55 {l : List UInt8} {w : World} {K : Value → World → Prop} (hl : l.length ≤ 100000) (he : Env2 w)
    (hK : ∀ A w', Reads w' A (strs (splitS l)) → Qt w w' → (∀ ad, A = some ad → w.heap.size ≤ ad.block) → K (.slice A (splitS l).length (splitS l).length) w') : CallV Tryd.prog (.func (.func 55) #[] #[]) #[.string (txt l), .string (txt [32])] K w := by
  obtain ⟨m, hm⟩ := he.max
  refine callV_func Tryd.func55 (by kernel_rfl) (by kernel_rfl) ((Tryd.strings_Split (txt l) (txt [32]) m w (by rw [txt_size]; omega) hm (by rw [txt_size]; simp)).mono ?_)
  rintro e w' ⟨rfl, rfl⟩
  rw [split_txtS, split_countS]
  refine hK _ _ (.inr ⟨w.heap.size, 0, rfl, fun j hj => ?_⟩) (Chg.alloc Qt.refl _) (fun ad h => by cases h; exact Nat.le_refl _)
  rw [blk_cell (blk_new _ _), Nat.zero_add]
  simp [strs]; rfl
theorem pars68 {l : List UInt8} {w : World} {K : Value → World → Prop} (hl : l.length ≤ 100000) (he : Env2 w)
    (hK : ∀ x ev w', Qt w w' → in64 x → (match Lib.parseIntB 64 l with | .ok v => x = v ∧ ev = .nilIface | _ => ∃ N, ev = .iface 116 (.pointer (some ⟨N, 0, none⟩))) → K (.tuple #[.int .i64 x, ev]) w') : CallV Tryd.prog (.func (.func 68) #[] #[]) #[.string (txt l), .int .i64 10, .int .i64 64] K w := by
  rcases hp : Lib.parseIntB 64 l with v | _ | _
  · rw [hp] at hK
    refine callV_func Tryd.func68 (by kernel_rfl) (by kernel_rfl) ((Tryd.strconv_ParseInt_10_at64_ok (txt l) (by rw [txt_size]; omega) v (by rw [txt_data]; exact hp) w).mono ?_)
    rintro e w' ⟨rfl, hw⟩
    refine hK _ _ _ ?_ (parse_in64 hp) ⟨rfl, rfl⟩
    rcases hw with rfl | ⟨t, rfl⟩
    · exact Qt.refl
    · exact qt_bytes w 5 t
  · rw [hp] at hK
    obtain ⟨ev, h1, h2⟩ := he.syn
    refine callV_func Tryd.func68 (by kernel_rfl) (by kernel_rfl) ((Tryd.strconv_ParseInt_10_at64_syntax (txt l) (by rw [txt_size]; omega) (by rw [txt_data]; exact hp) ev w h1 h2).mono ?_)
    rintro e w' ⟨N, rfl, hN, hh, hb⟩
    exact hK _ _ _ (Chg.none_of_below hb _) ⟨by decide, by decide⟩ ⟨N, rfl⟩
  · rw [hp] at hK
    obtain ⟨ev, h1, h2⟩ := he.ran
    refine callV_func Tryd.func68 (by kernel_rfl) (by kernel_rfl) ((Tryd.strconv_ParseInt_10_at64_range (txt l) (by rw [txt_size]; omega) (by rw [txt_data]; exact hp) ev w h1 h2).mono ?_)
    rintro e w' ⟨N, rfl, hN, hh, hb⟩
    refine hK _ _ _ (Chg.none_of_below hb _) ?_ ⟨N, rfl⟩
    unfold Lib.intSat in64
    split <;> simp
theorem num56 {l : List UInt8} {w : World} {K : Value → World → Prop} (hl : l.length ≤ 100000) (he : Env2 w)
    (hK : ∀ x b w', Qt w w' → in64 x → (match numR l with | some v => x = v ∧ b = true | none => b = false) → K (.tuple #[.int .i64 x, .bool b]) w') : CallK Tryd.prog 56 #[.string (txt l)] K w := by
  refine F56_calls _ _ _ ?_; unfold F56
  refine pars68 hl he ?_
  intro x ev w1 q1 hx hm
  rw [← numP_eq] at hK
  unfold numP at hK
  rcases hp : Lib.parseIntB 64 l with v | _ | _
  · rw [hp] at hm hK
    obtain ⟨rfl, rfl⟩ := hm
    simp (maxSteps := 1000000) (disch := omega) only [hid1', hid2', guardK_u, takeG_u, wrap_in64, optK_some', fzK_false', nilK_ptr, brK_true', brK_false', guardK_tt', guardK_ff', guardK_tf', guardK_ft', takeG_tt', takeG_ff', takeG_tf', takeG_ft', pickK_t', pickK_f', pickT_t', pickT_f', notK, extract2_0', extract2_1', extract3_0', extract3_1', extract3_2', here_load, here_fieldAt, here_indexAt, here_extract, here_un, here_conv, here_slice, here_bin, here_nil, and_here, true_and, Nat.zero_add, Nat.add_assoc, Nat.add_zero, Int.toNat_natCast, size_alloc, World.cell?_drew, World.frozen?_drew, Bool.not_true, Bool.not_false, Int.toNat_zero, dec_t, dec_f, int_eq_t, int_eq_f, int_ne_t, int_ne_f, wrap_in, kbeql9, kbeql88n, kbeql88i]
    refine fmt39 hx (he.quiet q1) ?_
    intro w2 q2
    have e : ((txt (Lib.itoa x)).toList == (txt l).toList) = decide (Lib.itoa x = l) := by
      rw [ByteArray.toList_eq, ByteArray.toList_eq, txt_data, txt_data]
      by_cases h : Lib.itoa x = l
      · rw [h, beq_self_eq_true, decide_eq_true rfl]
      · rw [decide_eq_false h, beq_eq_false_iff_ne]; exact h
    by_cases h : Lib.itoa x = l
    · simp only [if_pos h] at hK
      simp (maxSteps := 1000000) (disch := omega) only [hid1', hid2', guardK_u, takeG_u, wrap_in64, optK_some', fzK_false', nilK_ptr, brK_true', brK_false', guardK_tt', guardK_ff', guardK_tf', guardK_ft', takeG_tt', takeG_ff', takeG_tf', takeG_ft', pickK_t', pickK_f', pickT_t', pickT_f', notK, extract2_0', extract2_1', extract3_0', extract3_1', extract3_2', here_load, here_fieldAt, here_indexAt, here_extract, here_un, here_conv, here_slice, here_bin, here_nil, and_here, true_and, Nat.zero_add, Nat.add_assoc, Nat.add_zero, Int.toNat_natCast, size_alloc, World.cell?_drew, World.frozen?_drew, Bool.not_true, Bool.not_false, Int.toNat_zero, dec_t, dec_f, int_eq_t, int_eq_f, int_ne_t, int_ne_f, wrap_in, kbeql9, kbeql88n, kbeql88i, e, decide_eq_true h]
      exact hK x true w2 (q1.trans q2) hx ⟨rfl, rfl⟩
    · simp only [if_neg h] at hK
      simp (maxSteps := 1000000) (disch := omega) only [hid1', hid2', guardK_u, takeG_u, wrap_in64, optK_some', fzK_false', nilK_ptr, brK_true', brK_false', guardK_tt', guardK_ff', guardK_tf', guardK_ft', takeG_tt', takeG_ff', takeG_tf', takeG_ft', pickK_t', pickK_f', pickT_t', pickT_f', notK, extract2_0', extract2_1', extract3_0', extract3_1', extract3_2', here_load, here_fieldAt, here_indexAt, here_extract, here_un, here_conv, here_slice, here_bin, here_nil, and_here, true_and, Nat.zero_add, Nat.add_assoc, Nat.add_zero, Int.toNat_natCast, size_alloc, World.cell?_drew, World.frozen?_drew, Bool.not_true, Bool.not_false, Int.toNat_zero, dec_t, dec_f, int_eq_t, int_eq_f, int_ne_t, int_ne_f, wrap_in, kbeql9, kbeql88n, kbeql88i, e, decide_eq_false h]
      exact hK x false w2 (q1.trans q2) hx rfl
  · rw [hp] at hm hK
    obtain ⟨N, rfl⟩ := hm
    simp (maxSteps := 1000000) (disch := omega) only [hid1', hid2', guardK_u, takeG_u, wrap_in64, optK_some', fzK_false', nilK_ptr, brK_true', brK_false', guardK_tt', guardK_ff', guardK_tf', guardK_ft', takeG_tt', takeG_ff', takeG_tf', takeG_ft', pickK_t', pickK_f', pickT_t', pickT_f', notK, extract2_0', extract2_1', extract3_0', extract3_1', extract3_2', here_load, here_fieldAt, here_indexAt, here_extract, here_un, here_conv, here_slice, here_bin, here_nil, and_here, true_and, Nat.zero_add, Nat.add_assoc, Nat.add_zero, Int.toNat_natCast, size_alloc, World.cell?_drew, World.frozen?_drew, Bool.not_true, Bool.not_false, Int.toNat_zero, dec_t, dec_f, int_eq_t, int_eq_f, int_ne_t, int_ne_f, wrap_in, kbeql9, kbeql88n, kbeql88i]
    exact hK x false w1 q1 hx rfl
  · rw [hp] at hm hK
    obtain ⟨N, rfl⟩ := hm
    simp (maxSteps := 1000000) (disch := omega) only [hid1', hid2', guardK_u, takeG_u, wrap_in64, optK_some', fzK_false', nilK_ptr, brK_true', brK_false', guardK_tt', guardK_ff', guardK_tf', guardK_ft', takeG_tt', takeG_ff', takeG_tf', takeG_ft', pickK_t', pickK_f', pickT_t', pickT_f', notK, extract2_0', extract2_1', extract3_0', extract3_1', extract3_2', here_load, here_fieldAt, here_indexAt, here_extract, here_un, here_conv, here_slice, here_bin, here_nil, and_here, true_and, Nat.zero_add, Nat.add_assoc, Nat.add_zero, Int.toNat_natCast, size_alloc, World.cell?_drew, World.frozen?_drew, Bool.not_true, Bool.not_false, Int.toNat_zero, dec_t, dec_f, int_eq_t, int_eq_f, int_ne_t, int_ne_f, wrap_in, kbeql9, kbeql88n, kbeql88i]
    exact hK x false w1 q1 hx rfl
end Go.Proofs.YtdnlenngbaaeaaaDoor

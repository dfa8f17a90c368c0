/- Parse of both packages, a path's text. Conditions: at most 1000 bytes. -/
import Derived.Test.YtbkficgmjgbbeaaDoorName
set_option linter.unusedVariables false
set_option linter.unusedSimpArgs false
set_option maxRecDepth 100000
namespace Go.Proofs.YtbkficgmjgbbeaaDoor
open Go.RowKit Go.Cn
def MaxAt (w : World) : Prop := ∃ m, w.cell? ⟨0, 0, none⟩ = some (.int .i64 m)
theorem MaxAt.quiet {w w' : World} (h : MaxAt w) (q : Qt w w') : MaxAt w' := by
  obtain ⟨m, hm⟩ := h; exact ⟨m, q.cell hm (fun h => h)⟩
theorem infoS : (Tryd.prog.info? 9).map (fun i => (i.zero, i.size, i.bytes)) = some (some (.string ByteArray.empty), 1, 16) := by kernel_rfl
theorem tyS : ElemTy Tryd.prog 41 9 (.string ByteArray.empty) 1 16 := ElemTy.mk' Tryd.underlying41 infoS rfl (by decide)
theorem strs_one (ps : List (List UInt8)) : ∀ u ∈ strs ps, u.oneCell' = true := by
  intro u hu; obtain ⟨p, _, rfl⟩ := List.mem_map.1 hu; rfl
theorem strs_at {w : World} {A : Option Addr} {ps : List (List UInt8)} (h : Reads w A (strs ps)) {i : Nat} (hi : i < ps.length) : ∃ g o, A = some ⟨g, o, none⟩ ∧ w.cell? ⟨g, o + i, none⟩ = some (.string (txt ps[i])) := by
  obtain ⟨g, o, hA, hc⟩ := Reads.get (enc := fun p => Value.string (txt p)) h hi
  refine ⟨g, o, hA, ?_⟩
  rw [hc, List.getD_eq_getElem?_getD, List.getElem?_eq_getElem hi]; rfl
theorem contains_any {ps : List (List UInt8)} {A : Option Addr} {c : Nat} {w : World} {f : FuncId} {pred : List UInt8 → Bool} {K : Value → World → Prop} (hr : Reads w A (strs ps)) (hn : ps.length ≤ 100000)
    (hf : ∀ (p : List UInt8) (K : Value → World → Prop) (w : World), K (.bool (pred p)) w → CallV Tryd.prog (.func (.func f) #[] #[]) #[.string (txt p)] K w)
    (hK : K (.bool (ps.any pred)) w) : CallK Tryd.prog 63 #[.slice A ps.length c, .func (.func f) #[] #[]] K w := by
  refine F63_calls _ _ _ _ ?_; unfold F63
  refine ck72 ?_
  refine F72_calls _ _ _ _ ?_; unfold F72
  simp (maxSteps := 1000000) (disch := omega) only [hid1', hid2', guardK_u, takeG_u, wrap_in64, optK_some', fzK_false', nilK_ptr, brK_true', brK_false', guardK_tt', guardK_ff', guardK_tf', guardK_ft', takeG_tt', takeG_ff', takeG_tf', takeG_ft', pickK_t', pickK_f', pickT_t', pickT_f', notK, extract2_0', extract2_1', extract3_0', extract3_1', extract3_2', here_load, here_fieldAt, here_indexAt, here_extract, here_un, here_conv, here_slice, here_bin, here_nil, and_here, true_and, Nat.zero_add, Nat.add_assoc, Nat.add_zero, Int.toNat_natCast, size_alloc, World.cell?_drew, World.frozen?_drew, Bool.not_true, Bool.not_false, Int.toNat_zero, dec_t, dec_f, int_eq_t, int_eq_f, int_ne_t, int_ne_f, wrap_in, kblss3, kld9, kbadd3, kbgeq3, klen41, hlen41, kia41]
  refine loopK1 (fun v w' => w' = w ∧ ∃ i : Nat, v = .int .i64 i ∧ i ≤ ps.length ∧ (ps.take i).any pred = false) (fun v _ => ps.length - (intOf v).toNat) ⟨rfl, 0, rfl, by omega, by simp⟩ ?_
  rintro _ _ w' ⟨hw, i, rfl, hi, hlo⟩
  obtain rfl : w' = w := hw
  by_cases hlt : i < ps.length
  · obtain ⟨g, o, rfl, hc⟩ := strs_at hr hlt
    have htk : ps.take (i + 1) = ps.take i ++ [ps[i]] := List.take_succ_eq_append_getElem hlt
    have hmem := List.getElem_mem hlt
    generalize ps[i] = p at *
    simp (maxSteps := 1000000) (disch := omega) only [hid1', hid2', guardK_u, takeG_u, wrap_in64, optK_some', fzK_false', nilK_ptr, brK_true', brK_false', guardK_tt', guardK_ff', guardK_tf', guardK_ft', takeG_tt', takeG_ff', takeG_tf', takeG_ft', pickK_t', pickK_f', pickT_t', pickT_f', notK, extract2_0', extract2_1', extract3_0', extract3_1', extract3_2', here_load, here_fieldAt, here_indexAt, here_extract, here_un, here_conv, here_slice, here_bin, here_nil, and_here, true_and, Nat.zero_add, Nat.add_assoc, Nat.add_zero, Int.toNat_natCast, size_alloc, World.cell?_drew, World.frozen?_drew, Bool.not_true, Bool.not_false, Int.toNat_zero, dec_t, dec_f, int_eq_t, int_eq_f, int_ne_t, int_ne_f, wrap_in, kblss3, kld9, kbadd3, kbgeq3, klen41, hlen41, kia41, hc]
    refine hf p _ w' ?_
    cases hp : pred p with
    | true =>
      have hany : ps.any pred = true := List.any_eq_true.2 ⟨p, hmem, hp⟩
      rw [hany] at hK
      simp (maxSteps := 1000000) (disch := omega) only [hid1', hid2', guardK_u, takeG_u, wrap_in64, optK_some', fzK_false', nilK_ptr, brK_true', brK_false', guardK_tt', guardK_ff', guardK_tf', guardK_ft', takeG_tt', takeG_ff', takeG_tf', takeG_ft', pickK_t', pickK_f', pickT_t', pickT_f', notK, extract2_0', extract2_1', extract3_0', extract3_1', extract3_2', here_load, here_fieldAt, here_indexAt, here_extract, here_un, here_conv, here_slice, here_bin, here_nil, and_here, true_and, Nat.zero_add, Nat.add_assoc, Nat.add_zero, Int.toNat_natCast, size_alloc, World.cell?_drew, World.frozen?_drew, Bool.not_true, Bool.not_false, Int.toNat_zero, dec_t, dec_f, int_eq_t, int_eq_f, int_ne_t, int_ne_f, wrap_in, kblss3, kld9, kbadd3, kbgeq3, klen41, hlen41, kia41]
      exact hK
    | false =>
      simp (maxSteps := 1000000) (disch := omega) only [hid1', hid2', guardK_u, takeG_u, wrap_in64, optK_some', fzK_false', nilK_ptr, brK_true', brK_false', guardK_tt', guardK_ff', guardK_tf', guardK_ft', takeG_tt', takeG_ff', takeG_tf', takeG_ft', pickK_t', pickK_f', pickT_t', pickT_f', notK, extract2_0', extract2_1', extract3_0', extract3_1', extract3_2', here_load, here_fieldAt, here_indexAt, here_extract, here_un, here_conv, here_slice, here_bin, here_nil, and_here, true_and, Nat.zero_add, Nat.add_assoc, Nat.add_zero, Int.toNat_natCast, size_alloc, World.cell?_drew, World.frozen?_drew, Bool.not_true, Bool.not_false, Int.toNat_zero, dec_t, dec_f, int_eq_t, int_eq_f, int_ne_t, int_ne_f, wrap_in, kblss3, kld9, kbadd3, kbgeq3, klen41, hlen41, kia41]
      refine ⟨⟨rfl, i + 1, by go_num, by omega, ?_⟩, by simp [rel, intOf]; omega⟩
      rw [htk, List.any_append, hlo]; simp [hp]
  · rw [List.take_of_length_le (by omega)] at hlo
    rw [hlo] at hK
    simp (maxSteps := 1000000) (disch := omega) only [hid1', hid2', guardK_u, takeG_u, wrap_in64, optK_some', fzK_false', nilK_ptr, brK_true', brK_false', guardK_tt', guardK_ff', guardK_tf', guardK_ft', takeG_tt', takeG_ff', takeG_tf', takeG_ft', pickK_t', pickK_f', pickT_t', pickT_f', notK, extract2_0', extract2_1', extract3_0', extract3_1', extract3_2', here_load, here_fieldAt, here_indexAt, here_extract, here_un, here_conv, here_slice, here_bin, here_nil, and_here, true_and, Nat.zero_add, Nat.add_assoc, Nat.add_zero, Int.toNat_natCast, size_alloc, World.cell?_drew, World.frozen?_drew, Bool.not_true, Bool.not_false, Int.toNat_zero, dec_t, dec_f, int_eq_t, int_eq_f, int_ne_t, int_ne_f, wrap_in, kblss3, kld9, kbadd3, kbgeq3, klen41, hlen41, kia41]
    exact hK
theorem notname_any (p : List UInt8) (K : Value → World → Prop) (w : World) (hK : K (.bool (!nameL p)) w) : CallV Tryd.prog (.func (.func 64) #[] #[]) #[.string (txt p)] K w := by
  refine ck64 ?_
  refine F64_calls _ _ _ ?_; unfold F64
  refine ck65 (name_any ?_)
  simp (maxSteps := 1000000) (disch := omega) only [hid1', hid2', guardK_u, takeG_u, wrap_in64, optK_some', fzK_false', nilK_ptr, brK_true', brK_false', guardK_tt', guardK_ff', guardK_tf', guardK_ft', takeG_tt', takeG_ff', takeG_tf', takeG_ft', pickK_t', pickK_f', pickT_t', pickT_f', notK, extract2_0', extract2_1', extract3_0', extract3_1', extract3_2', here_load, here_fieldAt, here_indexAt, here_extract, here_un, here_conv, here_slice, here_bin, here_nil, and_here, true_and, Nat.zero_add, Nat.add_assoc, Nat.add_zero, Int.toNat_natCast, size_alloc, World.cell?_drew, World.frozen?_drew, Bool.not_true, Bool.not_false, Int.toNat_zero, dec_t, dec_f, int_eq_t, int_eq_f, int_ne_t, int_ne_f, wrap_in]
  exact hK
theorem any_not (ps : List (List UInt8)) : ps.any (fun p => !nameL p) = !(ps.all nameL) := by
  rw [List.all_eq_not_any_not, Bool.not_not]
theorem cut_any {l : List UInt8} {w : World} {K : Value → World → Prop} (hl : l.length ≤ 50000) (hm : MaxAt w)
    (hK : ∀ A c F w', Own w' 9 1 (.slice A ((cutL l).getD []).length c) ((cutL l).getD []).length (strs ((cutL l).getD [])) F → Qt w w' → (∀ k, F = some k → w.heap.size ≤ k) → K (.tuple #[.slice A ((cutL l).getD []).length c, .bool (cutL l).isSome]) w') : CallK Tryd.prog 62 #[.string (txt l)] K w := by
  refine F62_calls _ _ _ ?_; unfold F62
  simp (maxSteps := 1000000) (disch := omega) only [hid1', hid2', guardK_u, takeG_u, wrap_in64, optK_some', fzK_false', nilK_ptr, brK_true', brK_false', guardK_tt', guardK_ff', guardK_tf', guardK_ft', takeG_tt', takeG_ff', takeG_tf', takeG_ft', pickK_t', pickK_f', pickT_t', pickT_f', notK, extract2_0', extract2_1', extract3_0', extract3_1', extract3_2', here_load, here_fieldAt, here_indexAt, here_extract, here_un, here_conv, here_slice, here_bin, here_nil, and_here, true_and, Nat.zero_add, Nat.add_assoc, Nat.add_zero, Int.toNat_natCast, size_alloc, World.cell?_drew, World.frozen?_drew, Bool.not_true, Bool.not_false, Int.toNat_zero, dec_t, dec_f, int_eq_t, int_eq_f, int_ne_t, int_ne_f, wrap_in, kbeql9, c47]
  refine ck70 (cutPrefix_any ?_)
  cases l with
  | nil =>
    have e : decide ((([] : List UInt8).headD 0) = 47) = false := rfl
    rw [e]
    simp (maxSteps := 1000000) (disch := omega) only [hid1', hid2', guardK_u, takeG_u, wrap_in64, optK_some', fzK_false', nilK_ptr, brK_true', brK_false', guardK_tt', guardK_ff', guardK_tf', guardK_ft', takeG_tt', takeG_ff', takeG_tf', takeG_ft', pickK_t', pickK_f', pickT_t', pickT_f', notK, extract2_0', extract2_1', extract3_0', extract3_1', extract3_2', here_load, here_fieldAt, here_indexAt, here_extract, here_un, here_conv, here_slice, here_bin, here_nil, and_here, true_and, Nat.zero_add, Nat.add_assoc, Nat.add_zero, Int.toNat_natCast, size_alloc, World.cell?_drew, World.frozen?_drew, Bool.not_true, Bool.not_false, Int.toNat_zero, dec_t, dec_f, int_eq_t, int_eq_f, int_ne_t, int_ne_f, wrap_in, kbeql9]
    exact hK none 0 none w (Own.nil _ _ _) Qt.refl (fun _ h => by cases h)
  | cons c r =>
    by_cases hc : c = 47
    · have e : decide ((c :: r).headD 0 = 47) = true := decide_eq_true hc
      have e2 : (if (c :: r).headD 0 = 47 then (c :: r).tail else c :: r) = r := if_pos hc
      rw [e, e2]
      by_cases hr : r = []
      · have e3 : cutL (c :: r) = some [] := by unfold cutL; simp [hc, hr]
        rw [e3] at hK
        have hb : decide (r = []) = true := decide_eq_true hr
        simp (maxSteps := 1000000) (disch := omega) only [hid1', hid2', guardK_u, takeG_u, wrap_in64, optK_some', fzK_false', nilK_ptr, brK_true', brK_false', guardK_tt', guardK_ff', guardK_tf', guardK_ft', takeG_tt', takeG_ff', takeG_tf', takeG_ft', pickK_t', pickK_f', pickT_t', pickT_f', notK, extract2_0', extract2_1', extract3_0', extract3_1', extract3_2', here_load, here_fieldAt, here_indexAt, here_extract, here_un, here_conv, here_slice, here_bin, here_nil, and_here, true_and, Nat.zero_add, Nat.add_assoc, Nat.add_zero, Int.toNat_natCast, size_alloc, World.cell?_drew, World.frozen?_drew, Bool.not_true, Bool.not_false, Int.toNat_zero, dec_t, dec_f, int_eq_t, int_eq_f, int_ne_t, int_ne_f, wrap_in, kbeql9, c0, eq_txt, hb]
        exact hK none 0 none w (Own.nil _ _ _) Qt.refl (fun _ h => by cases h)
      · have e3 : cutL (c :: r) = some (splitL r) := by unfold cutL; simp [hc, hr]
        rw [e3] at hK
        have hb : decide (r = []) = false := decide_eq_false hr
        simp (maxSteps := 1000000) (disch := omega) only [hid1', hid2', guardK_u, takeG_u, wrap_in64, optK_some', fzK_false', nilK_ptr, brK_true', brK_false', guardK_tt', guardK_ff', guardK_tf', guardK_ft', takeG_tt', takeG_ff', takeG_tf', takeG_ft', pickK_t', pickK_f', pickT_t', pickT_f', notK, extract2_0', extract2_1', extract3_0', extract3_1', extract3_2', here_load, here_fieldAt, here_indexAt, here_extract, here_un, here_conv, here_slice, here_bin, here_nil, and_here, true_and, Nat.zero_add, Nat.add_assoc, Nat.add_zero, Int.toNat_natCast, size_alloc, World.cell?_drew, World.frozen?_drew, Bool.not_true, Bool.not_false, Int.toNat_zero, dec_t, dec_f, int_eq_t, int_eq_f, int_ne_t, int_ne_f, wrap_in, kbeql9, c0, eq_txt, hb, c47]
        obtain ⟨m, hm⟩ := hm
        refine split_any (by simp at hl; omega) hm ?_
        intro g w' o q hg
        simp (maxSteps := 1000000) (disch := omega) only [hid1', hid2', guardK_u, takeG_u, wrap_in64, optK_some', fzK_false', nilK_ptr, brK_true', brK_false', guardK_tt', guardK_ff', guardK_tf', guardK_ft', takeG_tt', takeG_ff', takeG_tf', takeG_ft', pickK_t', pickK_f', pickT_t', pickT_f', notK, extract2_0', extract2_1', extract3_0', extract3_1', extract3_2', here_load, here_fieldAt, here_indexAt, here_extract, here_un, here_conv, here_slice, here_bin, here_nil, and_here, true_and, Nat.zero_add, Nat.add_assoc, Nat.add_zero, Int.toNat_natCast, size_alloc, World.cell?_drew, World.frozen?_drew, Bool.not_true, Bool.not_false, Int.toNat_zero, dec_t, dec_f, int_eq_t, int_eq_f, int_ne_t, int_ne_f, wrap_in, kbeql9]
        exact hK _ _ _ w' o q (fun k hk => by cases hk; exact hg)
    · have e : decide ((c :: r).headD 0 = 47) = false := decide_eq_false hc
      have e3 : cutL (c :: r) = none := by unfold cutL; simp [hc]
      rw [e3] at hK
      rw [e]
      simp (maxSteps := 1000000) (disch := omega) only [hid1', hid2', guardK_u, takeG_u, wrap_in64, optK_some', fzK_false', nilK_ptr, brK_true', brK_false', guardK_tt', guardK_ff', guardK_tf', guardK_ft', takeG_tt', takeG_ff', takeG_tf', takeG_ft', pickK_t', pickK_f', pickT_t', pickT_f', notK, extract2_0', extract2_1', extract3_0', extract3_1', extract3_2', here_load, here_fieldAt, here_indexAt, here_extract, here_un, here_conv, here_slice, here_bin, here_nil, and_here, true_and, Nat.zero_add, Nat.add_assoc, Nat.add_zero, Int.toNat_natCast, size_alloc, World.cell?_drew, World.frozen?_drew, Bool.not_true, Bool.not_false, Int.toNat_zero, dec_t, dec_f, int_eq_t, int_eq_f, int_ne_t, int_ne_f, wrap_in, kbeql9]
      exact hK none 0 none w (Own.nil _ _ _) Qt.refl (fun _ h => by cases h)
theorem parse_any {l : List UInt8} {w : World} {K : Value → World → Prop} (hl : l.length ≤ 50000) (hm : MaxAt w)
    (hK : ∀ A c F w', Own w' 9 1 (.slice A (parseL l).2.length c) (parseL l).2.length (strs (parseL l).2) F → Qt w w' → (∀ k, F = some k → w.heap.size ≤ k) → K (.tuple #[.slice A (parseL l).2.length c, .int .i64 (parseL l).1]) w') : CallK Tryd.prog 52 #[.string (txt l)] K w := by
  refine F52_calls _ _ _ ?_; unfold F52
  refine ck62 (cut_any hl hm ?_)
  unfold parseL at hK
  cases hcut : cutL l with
  | none =>
    intro A c F w' o q f
    rw [hcut] at hK
    simp (maxSteps := 1000000) (disch := omega) only [hid1', hid2', guardK_u, takeG_u, wrap_in64, optK_some', fzK_false', nilK_ptr, brK_true', brK_false', guardK_tt', guardK_ff', guardK_tf', guardK_ft', takeG_tt', takeG_ff', takeG_tf', takeG_ft', pickK_t', pickK_f', pickT_t', pickT_f', notK, extract2_0', extract2_1', extract3_0', extract3_1', extract3_2', here_load, here_fieldAt, here_indexAt, here_extract, here_un, here_conv, here_slice, here_bin, here_nil, and_here, true_and, Nat.zero_add, Nat.add_assoc, Nat.add_zero, Int.toNat_natCast, size_alloc, World.cell?_drew, World.frozen?_drew, Bool.not_true, Bool.not_false, Int.toNat_zero, dec_t, dec_f, int_eq_t, int_eq_f, int_ne_t, int_ne_f, wrap_in, kbgtr3, klen41, hlen41, Option.isSome_none]
    exact hK none 0 none w' (Own.nil _ _ _) q (fun _ h => by cases h)
  | some ps =>
    rw [hcut] at hK
    intro A c F w' o q f
    simp only [Option.getD_some, Option.isSome_some] at o ⊢
    have hb := o.shape
    have hpl : ps.length ≤ 100000 := by
      have h1 : ps.length ≤ l.length + 1 := by
        cases l with
        | nil => cases hcut
        | cons a r =>
          unfold cutL at hcut
          simp only at hcut
          split at hcut
          · injection hcut with hcut
            subst hcut
            split
            · simp
            · have := splitL_len r; simp; omega
          · cases hcut
      omega
    simp (maxSteps := 1000000) (disch := omega) only [hid1', hid2', guardK_u, takeG_u, wrap_in64, optK_some', fzK_false', nilK_ptr, brK_true', brK_false', guardK_tt', guardK_ff', guardK_tf', guardK_ft', takeG_tt', takeG_ff', takeG_tf', takeG_ft', pickK_t', pickK_f', pickT_t', pickT_f', notK, extract2_0', extract2_1', extract3_0', extract3_1', extract3_2', here_load, here_fieldAt, here_indexAt, here_extract, here_un, here_conv, here_slice, here_bin, here_nil, and_here, true_and, Nat.zero_add, Nat.add_assoc, Nat.add_zero, Int.toNat_natCast, size_alloc, World.cell?_drew, World.frozen?_drew, Bool.not_true, Bool.not_false, Int.toNat_zero, dec_t, dec_f, int_eq_t, int_eq_f, int_ne_t, int_ne_f, wrap_in, kbgtr3, klen41, hlen41]
    refine ck63 (contains_any (Reads.of_own o) hpl notname_any ?_)
    rw [any_not]
    simp only at hK
    by_cases h1 : ps.all nameL = false
    · rw [if_pos h1] at hK
      simp (maxSteps := 1000000) (disch := omega) only [hid1', hid2', guardK_u, takeG_u, wrap_in64, optK_some', fzK_false', nilK_ptr, brK_true', brK_false', guardK_tt', guardK_ff', guardK_tf', guardK_ft', takeG_tt', takeG_ff', takeG_tf', takeG_ft', pickK_t', pickK_f', pickT_t', pickT_f', notK, extract2_0', extract2_1', extract3_0', extract3_1', extract3_2', here_load, here_fieldAt, here_indexAt, here_extract, here_un, here_conv, here_slice, here_bin, here_nil, and_here, true_and, Nat.zero_add, Nat.add_assoc, Nat.add_zero, Int.toNat_natCast, size_alloc, World.cell?_drew, World.frozen?_drew, Bool.not_true, Bool.not_false, Int.toNat_zero, dec_t, dec_f, int_eq_t, int_eq_f, int_ne_t, int_ne_f, wrap_in, kbgtr3, klen41, hlen41, h1]
      exact hK none 0 none w' (Own.nil _ _ _) q (fun _ h => by cases h)
    · have h1' : ps.all nameL = true := by simpa using h1
      rw [if_neg h1] at hK
      by_cases h2 : 4 < ps.length
      · rw [if_pos h2] at hK
        simp (maxSteps := 1000000) (disch := omega) only [hid1', hid2', guardK_u, takeG_u, wrap_in64, optK_some', fzK_false', nilK_ptr, brK_true', brK_false', guardK_tt', guardK_ff', guardK_tf', guardK_ft', takeG_tt', takeG_ff', takeG_tf', takeG_ft', pickK_t', pickK_f', pickT_t', pickT_f', notK, extract2_0', extract2_1', extract3_0', extract3_1', extract3_2', here_load, here_fieldAt, here_indexAt, here_extract, here_un, here_conv, here_slice, here_bin, here_nil, and_here, true_and, Nat.zero_add, Nat.add_assoc, Nat.add_zero, Int.toNat_natCast, size_alloc, World.cell?_drew, World.frozen?_drew, Bool.not_true, Bool.not_false, Int.toNat_zero, dec_t, dec_f, int_eq_t, int_eq_f, int_ne_t, int_ne_f, wrap_in, kbgtr3, klen41, hlen41, h1']
        exact hK none 0 none w' (Own.nil _ _ _) q (fun _ h => by cases h)
      · rw [if_neg h2] at hK
        simp (maxSteps := 1000000) (disch := omega) only [hid1', hid2', guardK_u, takeG_u, wrap_in64, optK_some', fzK_false', nilK_ptr, brK_true', brK_false', guardK_tt', guardK_ff', guardK_tf', guardK_ft', takeG_tt', takeG_ff', takeG_tf', takeG_ft', pickK_t', pickK_f', pickT_t', pickT_f', notK, extract2_0', extract2_1', extract3_0', extract3_1', extract3_2', here_load, here_fieldAt, here_indexAt, here_extract, here_un, here_conv, here_slice, here_bin, here_nil, and_here, true_and, Nat.zero_add, Nat.add_assoc, Nat.add_zero, Int.toNat_natCast, size_alloc, World.cell?_drew, World.frozen?_drew, Bool.not_true, Bool.not_false, Int.toNat_zero, dec_t, dec_f, int_eq_t, int_eq_f, int_ne_t, int_ne_f, wrap_in, kbgtr3, klen41, hlen41, h1']
        exact hK A c F w' o q f
end Go.Proofs.YtbkficgmjgbbeaaDoor

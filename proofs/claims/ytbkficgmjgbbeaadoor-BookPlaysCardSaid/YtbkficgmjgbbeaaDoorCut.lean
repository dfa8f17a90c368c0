/- The document's cutting at strokes, and its Parse. Conditions: at most 1000 bytes. -/
import Derived.Test.YtbkficgmjgbbeaaDoorParse
import Derived.Test.YtbkficgmjgbbeaaDoorL4
set_option linter.unusedVariables false
set_option linter.unusedSimpArgs false
set_option maxRecDepth 100000
namespace Go.Proofs.YtbkficgmjgbbeaaDoor
open Go.RowKit Go.Cn
theorem take_o {P : Program} {S : World → Prop} {s : Sem Next} {K : Value → Prop} (v : Value) (hr : ∀ w, s.run P w = .ok (.value v) w) (hk : K v) : TakeO P S s (@Cn.hid _ ⟨K⟩) := ⟨v, fun w _ => hr w, hk⟩
theorem push_run {P : Program} {w : World} {t e : TypeId} {z : Value} {bytes : Nat} (T : ElemTy P t e z 1 bytes) {v : Value} {n : Nat} {xs : List Value} {F : Option Nat} (ho : Own w e 1 v n xs F) (x : Value) (hx : x.oneCell' = true) (hb : (n + 1) * bytes ≤ 140737488355328) (hb2 : n + 1 ≤ 9223372036854775807) (ty : TypeId) :
    ∃ A' cap F' w', (Builtin.append_ #[t, t] ty #[v, .slice (some ⟨w.heap.size, 0, none⟩) 1 1]).run P (w.alloc (.cells #[x] e)) = .ok (.slice A' (n + 1) cap) w' ∧ Own w' e 1 (.slice A' (n + 1) cap) (n + 1) (xs ++ [x]) F' ∧ Chg (fun k => F = some k) w w' ∧ (∀ k, F' = some k → F = some k ∨ w.heap.size ≤ k) := by
  have q : Qt w (w.alloc (.cells #[x] e)) := Chg.alloc Qt.refl _
  obtain ⟨A', cap, F', w', p, o, k, f⟩ := app_run T (ho.chg q (fun _ _ h => h)) (some ⟨w.heap.size, 0, none⟩) 1 1 [x] rfl (Src.new w x e) (oneCell_one hx) hb hb2 ty
  refine ⟨A', cap, F', w', p, o, Chg.then (q.mono (fun _ _ h => h.elim)) k (fun i hi => .inl hi), fun j hj => ?_⟩
  rcases f j hj with h | h
  · exact .inl h
  · right; rw [h, size_alloc]; omega
/-- One more byte. -/
def snocL (l : List (List UInt8)) (c : UInt8) : List (List UInt8) := if c = 47 then l ++ [[]] else l.set (l.length - 1) (l.getD (l.length - 1) [] ++ [c])
theorem snocL_cons (a : List UInt8) (l : List (List UInt8)) (h : l ≠ []) (c : UInt8) : snocL (a :: l) c = a :: snocL l c := by
  unfold snocL
  cases l with
  | nil => exact absurd rfl h
  | cons b r =>
    by_cases hc : c = 47
    · simp [hc]
    · simp [hc]
theorem splitL_snoc : ∀ (l : List UInt8) (c : UInt8), splitL (l ++ [c]) = snocL (splitL l) c
  | [], c => by
    by_cases hc : c = 47
    · simp [splitL, snocL, hc]
    · simp [splitL, snocL, hc]
  | x :: l, c => by
    have ih := splitL_snoc l c
    rw [List.cons_append, splitL, ih]
    by_cases hx : x = 47
    · rw [if_pos hx, splitL, if_pos hx, snocL_cons _ _ (splitL_ne l)]
    · rw [if_neg hx, splitL, if_neg hx]
      cases hs : splitL l with
      | nil => exact absurd hs (splitL_ne l)
      | cons p r =>
        cases r with
        | nil =>
          unfold snocL
          by_cases hc : c = 47
          · simp [hc]
          · simp [hc]
        | cons b r =>
          rw [snocL_cons p (b :: r) (by simp)]
          simp only [List.headD_cons, List.tail_cons]
          rw [snocL_cons (x :: p) (b :: r) (by simp)]
theorem strs_len (ps : List (List UInt8)) : (strs ps).length = ps.length := by simp [strs]
theorem part_len : ∀ (l : List UInt8), ∀ p ∈ splitL l, p.length ≤ l.length
  | [], p, h => by simp [splitL] at h; subst h; simp
  | c :: l, p, h => by
    have ih := part_len l
    rw [splitL] at h
    cases hs : splitL l with
    | nil => exact absurd hs (splitL_ne l)
    | cons a r =>
      rw [hs] at h ih
      by_cases hc : c = 47
      · rw [if_pos hc] at h
        rcases List.mem_cons.1 h with h | h
        · subst h; simp
        · have := ih p h; simp; omega
      · rw [if_neg hc] at h
        rcases List.mem_cons.1 h with h | h
        · subst h; have := ih a (by simp); simp; omega
        · have := ih p (List.mem_cons_of_mem _ h); simp; omega
theorem cutL_len {l : List UInt8} {ps : List (List UInt8)} (hcut : cutL l = some ps) : ps.length ≤ l.length + 1 := by
  cases l with
  | nil => cases hcut
  | cons a r =>
    unfold cutL at hcut
    simp only at hcut
    split at hcut
    · injection hcut with hcut
      subst hcut
      split
      · simp
      · have := splitL_len r; simp; omega
    · cases hcut
theorem cutR_any {l : List UInt8} {w : World} {K : Value → World → Prop} (hl : l.length ≤ 2000000)
    (hK : ∀ A c F w', Own w' 9 1 (.slice A ((cutL l).getD []).length c) ((cutL l).getD []).length (strs ((cutL l).getD [])) F → Qt w w' → (∀ k, F = some k → w.heap.size ≤ k) → K (.tuple #[.slice A ((cutL l).getD []).length c, .bool (cutL l).isSome]) w') : CallK Tryd.prog 66 #[.string (txt l)] K w := by
  refine F66_calls _ _ _ ?_; unfold F66
  have hsz := txt_size l
  cases l with
  | nil =>
    have hb : decide (([] : List UInt8) = []) = true := rfl
    simp (maxSteps := 1000000) (disch := omega) only [hid1', hid2', guardK_u, takeG_u, wrap_in64, optK_some', fzK_false', nilK_ptr, brK_true', brK_false', guardK_tt', guardK_ff', guardK_tf', guardK_ft', takeG_tt', takeG_ff', takeG_tf', takeG_ft', pickK_t', pickK_f', pickT_t', pickT_f', notK, extract2_0', extract2_1', extract3_0', extract3_1', extract3_2', here_load, here_fieldAt, here_indexAt, here_extract, here_un, here_conv, here_slice, here_bin, here_nil, and_here, true_and, Nat.zero_add, Nat.add_assoc, Nat.add_zero, Int.toNat_natCast, size_alloc, World.cell?_drew, World.frozen?_drew, Bool.not_true, Bool.not_false, Int.toNat_zero, dec_t, dec_f, int_eq_t, int_eq_f, int_ne_t, int_ne_f, wrap_in, klen9, hlen9, kblss3, kld9, kbadd3, klen41, hlen41, kst9, kia41, kbeql9, kbs41_1_0, kbsub3, kbneq5, kbeql5, c0, eq_txt, hb]
    exact hK none 0 none w (Own.nil _ _ _) Qt.refl (fun _ h => by cases h)
  | cons c r =>
    have hb : decide (c :: r = []) = false := by simp
    have hlen : (((c :: r).length : Nat) : Int) = (r.length : Int) + 1 := by simp
    have hg0 : (c :: r).getD 0 0 = c := rfl
    by_cases hc : c = 47
    · by_cases hr : r = []
      · have e3 : cutL (c :: r) = some [] := by unfold cutL; simp [hc, hr]
        rw [e3] at hK
        have h47 : ¬ ((c.toNat : Int) ≠ 47) := by subst hc; decide
        have h48 : (c.toNat : Int) = 47 := by subst hc; rfl
        have hb2 : decide (c :: r = [47]) = true := by subst hc hr; rfl
        simp (maxSteps := 1000000) (disch := omega) only [hid1', hid2', guardK_u, takeG_u, wrap_in64, optK_some', fzK_false', nilK_ptr, brK_true', brK_false', guardK_tt', guardK_ff', guardK_tf', guardK_ft', takeG_tt', takeG_ff', takeG_tf', takeG_ft', pickK_t', pickK_f', pickT_t', pickT_f', notK, extract2_0', extract2_1', extract3_0', extract3_1', extract3_2', here_load, here_fieldAt, here_indexAt, here_extract, here_un, here_conv, here_slice, here_bin, here_nil, and_here, true_and, Nat.zero_add, Nat.add_assoc, Nat.add_zero, Int.toNat_natCast, size_alloc, World.cell?_drew, World.frozen?_drew, Bool.not_true, Bool.not_false, Int.toNat_zero, dec_t, dec_f, int_eq_t, int_eq_f, int_ne_t, int_ne_f, wrap_in, klen9, hlen9, kblss3, kld9, kbadd3, klen41, hlen41, kst9, kia41, kbeql9, kbs41_1_0, kbsub3, kbneq5, kbeql5, c0, eq_txt, hb, ix9, hlen, hg0, h48, c47, hb2]
        exact hK none 0 none w (Own.nil _ _ _) Qt.refl (fun _ h => by cases h)
      have e3 : cutL (c :: r) = some (splitL r) := by unfold cutL; simp [hc, hr]
      rw [e3] at hK
      have h48 : (c.toNat : Int) = 47 := by subst hc; rfl
      have hb2 : decide (c :: r = [47]) = false := by simp [hr]
      simp (maxSteps := 1000000) (disch := omega) only [hid1', hid2', guardK_u, takeG_u, wrap_in64, optK_some', fzK_false', nilK_ptr, brK_true', brK_false', guardK_tt', guardK_ff', guardK_tf', guardK_ft', takeG_tt', takeG_ff', takeG_tf', takeG_ft', pickK_t', pickK_f', pickT_t', pickT_f', notK, extract2_0', extract2_1', extract3_0', extract3_1', extract3_2', here_load, here_fieldAt, here_indexAt, here_extract, here_un, here_conv, here_slice, here_bin, here_nil, and_here, true_and, Nat.zero_add, Nat.add_assoc, Nat.add_zero, Int.toNat_natCast, size_alloc, World.cell?_drew, World.frozen?_drew, Bool.not_true, Bool.not_false, Int.toNat_zero, dec_t, dec_f, int_eq_t, int_eq_f, int_ne_t, int_ne_f, wrap_in, klen9, hlen9, kblss3, kld9, kbadd3, klen41, hlen41, kst9, kia41, kbeql9, kbs41_1_0, kbsub3, kbneq5, kbeql5, c0, eq_txt, hb, ix9, hlen, hg0, h48, c47, hb2]
      have hrow0 : RowAt (w.alloc (.cells #[.string (txt [])] 9)) 9 1 w.heap.size 1 1 (strs (splitL (r.take 0))) := by
        exact ⟨rfl, _, blk_new _ _, Nat.le_refl _, by decide, by decide, rfl⟩
      refine loopK2 (fun x v w' => Qt w w' ∧ ∃ (i : Nat) (g cap : Nat), v = .int .i64 (i + 1 : Nat) ∧ i ≤ r.length ∧ w.heap.size ≤ g ∧ x = .slice (some ⟨g, 0, none⟩) (splitL (r.take i)).length cap ∧ RowAt w' 9 1 g (splitL (r.take i)).length cap (strs (splitL (r.take i)))) (fun _ v _ => r.length + 1 - (intOf v).toNat) ⟨Chg.alloc Qt.refl _, 0, w.heap.size, 1, rfl, by omega, Nat.le_refl _, rfl, hrow0⟩ ?_
      rintro _ _ _ w' ⟨q, i, g, cap, rfl, hi, hg, rfl, hrow⟩
      by_cases hlt : i < r.length
      · have htk : r.take (i + 1) = r.take i ++ [r[i]] := List.take_succ_eq_append_getElem hlt
        have hgi : (c :: r).getD (i + 1) 0 = r[i] := by simp [hlt]
        have hdr : ((c :: r).drop (i + 1)).take (i + 2 - (i + 1)) = [r[i]] := by
          rw [List.drop_succ_cons, show i + 2 - (i + 1) = 1 by omega, List.drop_eq_getElem_cons hlt]; rfl
        have hsn := splitL_snoc (r.take i) r[i]
        rw [← htk] at hsn
        have hpos := splitL_pos (r.take i)
        have hle := splitL_len (r.take i)
        have hpl := part_len (r.take i)
        have htl : (r.take i).length = i := by rw [List.length_take]; omega
        rw [htl] at hle hpl
        have hl' : r.length + 1 ≤ 2000000 := by simpa using hl
        have hsl : ∀ (K : Value → World → Prop) (w : World), SliceK Tryd.prog 9 (.string (txt (c :: r))) (some (.int .i64 (i + 1 : Nat))) (some (.int .i64 (((i + 1 : Nat) : Int) + 1))) none K w = K (.string (txt [r[i]])) w := fun K w => by
          rw [show (((i + 1 : Nat) : Int) + 1) = ((i + 2 : Nat) : Int) by omega, slice_txt_lh Tryd.underlying9 (c :: r) (i + 1) (i + 2) ⟨by omega, by simp; omega⟩, hdr]
        generalize r[i] = d at *
        generalize splitL (r.take i) = ps at *
        by_cases hd : d = 47
        · have hd' : (d.toNat : Int) = 47 := by subst hd; rfl
          simp (maxSteps := 1000000) (disch := omega) only [hid1', hid2', guardK_u, takeG_u, wrap_in64, optK_some', fzK_false', nilK_ptr, brK_true', brK_false', guardK_tt', guardK_ff', guardK_tf', guardK_ft', takeG_tt', takeG_ff', takeG_tf', takeG_ft', pickK_t', pickK_f', pickT_t', pickT_f', notK, extract2_0', extract2_1', extract3_0', extract3_1', extract3_2', here_load, here_fieldAt, here_indexAt, here_extract, here_un, here_conv, here_slice, here_bin, here_nil, and_here, true_and, Nat.zero_add, Nat.add_assoc, Nat.add_zero, Int.toNat_natCast, size_alloc, World.cell?_drew, World.frozen?_drew, Bool.not_true, Bool.not_false, Int.toNat_zero, dec_t, dec_f, int_eq_t, int_eq_f, int_ne_t, int_ne_f, wrap_in, klen9, hlen9, kblss3, kld9, kbadd3, klen41, hlen41, kst9, kia41, kbeql9, kbs41_1_0, kbsub3, kbneq5, kbeql5, hsz, hlen, ix9, hgi, hd']
          obtain ⟨A2, c2, F2, w2, p2, o2, k2, f2⟩ := push_run (P := Tryd.prog) tyS hrow.own (.string (txt [])) rfl (by omega) (by omega) 41
          refine appK p2 ?_
          obtain ⟨g2, c2', e2, rfl, hr2⟩ := o2.pos (by omega)
          injection e2 with e21 e22 e23
          subst e21 e23
          have hq2 := Qt.then q k2 (fun k hk => by cases hk; exact hg)
          have hg2 : w.heap.size ≤ g2 := by
            rcases f2 g2 rfl with h | h
            · cases h; exact hg
            · have := q.size; omega
          have e47 : snocL ps d = ps ++ [[]] := by unfold snocL; rw [if_pos hd]
          simp (maxSteps := 1000000) (disch := omega) only [hid1', hid2', guardK_u, takeG_u, wrap_in64, optK_some', fzK_false', nilK_ptr, brK_true', brK_false', guardK_tt', guardK_ff', guardK_tf', guardK_ft', takeG_tt', takeG_ff', takeG_tf', takeG_ft', pickK_t', pickK_f', pickT_t', pickT_f', notK, extract2_0', extract2_1', extract3_0', extract3_1', extract3_2', here_load, here_fieldAt, here_indexAt, here_extract, here_un, here_conv, here_slice, here_bin, here_nil, and_here, true_and, Nat.zero_add, Nat.add_assoc, Nat.add_zero, Int.toNat_natCast, size_alloc, World.cell?_drew, World.frozen?_drew, Bool.not_true, Bool.not_false, Int.toNat_zero, dec_t, dec_f, int_eq_t, int_eq_f, int_ne_t, int_ne_f, wrap_in, klen9, hlen9, kblss3, kld9, kbadd3, klen41, hlen41, kst9, kia41, kbeql9, kbs41_1_0, kbsub3, kbneq5, kbeql5]
          refine ⟨⟨hq2, i + 1, g2, c2, by go_num, by omega, hg2, ?_, ?_⟩, by simp [rel, intOf]; omega⟩
          · rw [hsn, e47, List.length_append]; rfl
          · rw [hsn, e47, List.length_append, strs, List.map_append]; exact hr2
        · have hd' : ¬ (d.toNat : Int) = 47 := fun h => hd (UInt8.toNat_inj.1 (show d.toNat = 47 by omega))
          simp (maxSteps := 1000000) (disch := omega) only [hid1', hid2', guardK_u, takeG_u, wrap_in64, optK_some', fzK_false', nilK_ptr, brK_true', brK_false', guardK_tt', guardK_ff', guardK_tf', guardK_ft', takeG_tt', takeG_ff', takeG_tf', takeG_ft', pickK_t', pickK_f', pickT_t', pickT_f', notK, extract2_0', extract2_1', extract3_0', extract3_1', extract3_2', here_load, here_fieldAt, here_indexAt, here_extract, here_un, here_conv, here_slice, here_bin, here_nil, and_here, true_and, Nat.zero_add, Nat.add_assoc, Nat.add_zero, Int.toNat_natCast, size_alloc, World.cell?_drew, World.frozen?_drew, Bool.not_true, Bool.not_false, Int.toNat_zero, dec_t, dec_f, int_eq_t, int_eq_f, int_ne_t, int_ne_f, wrap_in, klen9, hlen9, kblss3, kld9, kbadd3, klen41, hlen41, kst9, kia41, kbeql9, kbs41_1_0, kbsub3, kbneq5, kbeql5, hsz, hlen, ix9, hgi, hd']
          refine drawK_by (fun _ => True) trivial ?_
          have hn1 : ((ps.length : Int) - 1).toNat = ps.length - 1 := by omega
          refine take_o (.int .i64 ps.length) (fun w => by first | (go_simp; rfl) | (go_simp; done)) ?_
          refine take_bin (.int .i64 ((ps.length : Int) - 1)) (fun w' _ => by (simp (maxSteps := 1000000) (disch := omega) only [hid1', hid2', guardK_u, takeG_u, wrap_in64, optK_some', fzK_false', nilK_ptr, brK_true', brK_false', guardK_tt', guardK_ff', guardK_tf', guardK_ft', takeG_tt', takeG_ff', takeG_tf', takeG_ft', pickK_t', pickK_f', pickT_t', pickT_f', notK, extract2_0', extract2_1', extract3_0', extract3_1', extract3_2', here_load, here_fieldAt, here_indexAt, here_extract, here_un, here_conv, here_slice, here_bin, here_nil, and_here, true_and, Nat.zero_add, Nat.add_assoc, Nat.add_zero, Int.toNat_natCast, size_alloc, World.cell?_drew, World.frozen?_drew, Bool.not_true, Bool.not_false, Int.toNat_zero, dec_t, dec_f, int_eq_t, int_eq_f, int_ne_t, int_ne_f, wrap_in, klen9, hlen9, kblss3, kld9, kbadd3, klen41, hlen41, kst9, kia41, kbeql9, kbs41_1_0, kbsub3, kbneq5, kbeql5]; try (exact ⟨trivial, trivial⟩))) ?_
          refine take_o (.int .i64 ps.length) (fun w => by first | (go_simp; rfl) | (go_simp; done)) ?_
          refine take_bin (.int .i64 ((ps.length : Int) - 1)) (fun w' _ => by (simp (maxSteps := 1000000) (disch := omega) only [hid1', hid2', guardK_u, takeG_u, wrap_in64, optK_some', fzK_false', nilK_ptr, brK_true', brK_false', guardK_tt', guardK_ff', guardK_tf', guardK_ft', takeG_tt', takeG_ff', takeG_tf', takeG_ft', pickK_t', pickK_f', pickT_t', pickT_f', notK, extract2_0', extract2_1', extract3_0', extract3_1', extract3_2', here_load, here_fieldAt, here_indexAt, here_extract, here_un, here_conv, here_slice, here_bin, here_nil, and_here, true_and, Nat.zero_add, Nat.add_assoc, Nat.add_zero, Int.toNat_natCast, size_alloc, World.cell?_drew, World.frozen?_drew, Bool.not_true, Bool.not_false, Int.toNat_zero, dec_t, dec_f, int_eq_t, int_eq_f, int_ne_t, int_ne_f, wrap_in, klen9, hlen9, kblss3, kld9, kbadd3, klen41, hlen41, kst9, kia41, kbeql9, kbs41_1_0, kbsub3, kbneq5, kbeql5]; try (exact ⟨trivial, trivial⟩))) ?_
          refine take_index (.pointer (some ⟨g, ps.length - 1, none⟩)) (fun w' _ => by (simp (maxSteps := 1000000) (disch := omega) only [hid1', hid2', guardK_u, takeG_u, wrap_in64, optK_some', fzK_false', nilK_ptr, brK_true', brK_false', guardK_tt', guardK_ff', guardK_tf', guardK_ft', takeG_tt', takeG_ff', takeG_tf', takeG_ft', pickK_t', pickK_f', pickT_t', pickT_f', notK, extract2_0', extract2_1', extract3_0', extract3_1', extract3_2', here_load, here_fieldAt, here_indexAt, here_extract, here_un, here_conv, here_slice, here_bin, here_nil, and_here, true_and, Nat.zero_add, Nat.add_assoc, Nat.add_zero, Int.toNat_natCast, size_alloc, World.cell?_drew, World.frozen?_drew, Bool.not_true, Bool.not_false, Int.toNat_zero, dec_t, dec_f, int_eq_t, int_eq_f, int_ne_t, int_ne_f, wrap_in, klen9, hlen9, kblss3, kld9, kbadd3, klen41, hlen41, kst9, kia41, kbeql9, kbs41_1_0, kbsub3, kbneq5, kbeql5, hn1]; try (exact ⟨trivial, trivial⟩))) ?_
          refine take_bin (.int .i64 (((i + 1 : Nat) : Int) + 1)) (fun w' _ => by (simp (maxSteps := 1000000) (disch := omega) only [hid1', hid2', guardK_u, takeG_u, wrap_in64, optK_some', fzK_false', nilK_ptr, brK_true', brK_false', guardK_tt', guardK_ff', guardK_tf', guardK_ft', takeG_tt', takeG_ff', takeG_tf', takeG_ft', pickK_t', pickK_f', pickT_t', pickT_f', notK, extract2_0', extract2_1', extract3_0', extract3_1', extract3_2', here_load, here_fieldAt, here_indexAt, here_extract, here_un, here_conv, here_slice, here_bin, here_nil, and_here, true_and, Nat.zero_add, Nat.add_assoc, Nat.add_zero, Int.toNat_natCast, size_alloc, World.cell?_drew, World.frozen?_drew, Bool.not_true, Bool.not_false, Int.toNat_zero, dec_t, dec_f, int_eq_t, int_eq_f, int_ne_t, int_ne_f, wrap_in, klen9, hlen9, kblss3, kld9, kbadd3, klen41, hlen41, kst9, kia41, kbeql9, kbs41_1_0, kbsub3, kbneq5, kbeql5]; try (exact ⟨trivial, trivial⟩))) ?_
          refine take_slice (.string (txt [d])) (fun w' _ => by (simp (maxSteps := 1000000) (disch := omega) only [hid1', hid2', guardK_u, takeG_u, wrap_in64, optK_some', fzK_false', nilK_ptr, brK_true', brK_false', guardK_tt', guardK_ff', guardK_tf', guardK_ft', takeG_tt', takeG_ff', takeG_tf', takeG_ft', pickK_t', pickK_f', pickT_t', pickT_f', notK, extract2_0', extract2_1', extract3_0', extract3_1', extract3_2', here_load, here_fieldAt, here_indexAt, here_extract, here_un, here_conv, here_slice, here_bin, here_nil, and_here, true_and, Nat.zero_add, Nat.add_assoc, Nat.add_zero, Int.toNat_natCast, size_alloc, World.cell?_drew, World.frozen?_drew, Bool.not_true, Bool.not_false, Int.toNat_zero, dec_t, dec_f, int_eq_t, int_eq_f, int_ne_t, int_ne_f, wrap_in, klen9, hlen9, kblss3, kld9, kbadd3, klen41, hlen41, kst9, kia41, kbeql9, kbs41_1_0, kbsub3, kbneq5, kbeql5, hsl]; try (exact ⟨trivial, trivial⟩))) ?_
          have hlast : ps.length - 1 < ps.length := by omega
          have hcl : w'.drew.cell? ⟨g, ps.length - 1, none⟩ = some (.string (txt (ps.getD (ps.length - 1) []))) := by
            have := (hrow.chg (S := fun _ => False) (Qt.drew Qt.refl) (fun h => h)).cell (ps.length - 1) (by omega)
            rw [this, strs, List.getElem?_map, List.getElem?_eq_getElem hlast, List.getD_eq_getElem?_getD, List.getElem?_eq_getElem hlast]; rfl
          have hll : (ps.getD (ps.length - 1) []).length ≤ 2000000 := by
            rw [List.getD_eq_getElem?_getD, List.getElem?_eq_getElem hlast]
            have := hpl _ (List.getElem_mem hlast)
            simp only [Option.getD_some]; omega
          have e47 : snocL ps d = ps.set (ps.length - 1) (ps.getD (ps.length - 1) [] ++ [d]) := by unfold snocL; rw [if_neg hd]
          generalize ps.getD (ps.length - 1) [] = lp at *
          have hrow2 := (hrow.chg (S := fun _ => False) (Qt.drew Qt.refl) (fun h => h)).store (ps.length - 1) (.string (txt (lp ++ [d])))
          have hfz := (hrow.chg (S := fun _ => False) (Qt.drew Qt.refl) (fun h => h)).frozen (ps.length - 1)
          have hq2 : Qt w (w'.drew.setCell ⟨g, ps.length - 1, none⟩ (.string (txt (lp ++ [d])))) := Qt.then q ((Chg.refl (fun k => k = g) w').drew.setCell (p := ⟨g, ps.length - 1, none⟩) (.inl rfl) _) (fun k hk => by rw [hk]; exact hg)
          simp (maxSteps := 1000000) (disch := omega) only [hid1', hid2', guardK_u, takeG_u, wrap_in64, optK_some', fzK_false', nilK_ptr, brK_true', brK_false', guardK_tt', guardK_ff', guardK_tf', guardK_ft', takeG_tt', takeG_ff', takeG_tf', takeG_ft', pickK_t', pickK_f', pickT_t', pickT_f', notK, extract2_0', extract2_1', extract3_0', extract3_1', extract3_2', here_load, here_fieldAt, here_indexAt, here_extract, here_un, here_conv, here_slice, here_bin, here_nil, and_here, true_and, Nat.zero_add, Nat.add_assoc, Nat.add_zero, Int.toNat_natCast, size_alloc, World.cell?_drew, World.frozen?_drew, Bool.not_true, Bool.not_false, Int.toNat_zero, dec_t, dec_f, int_eq_t, int_eq_f, int_ne_t, int_ne_f, wrap_in, klen9, hlen9, kblss3, kld9, kbadd3, klen41, hlen41, kst9, kia41, kbeql9, kbs41_1_0, kbsub3, kbneq5, kbeql5, hcl]
          refine ⟨?_, trivial⟩
          refine take_bin (.string (txt (lp ++ [d]))) (fun w' _ => by rw [add_txt _ _ (by simp; omega)]; exact ⟨rfl, rfl⟩) ?_
          refine take_index (.pointer (some ⟨g, ps.length - 1, none⟩)) (fun w' _ => by (simp (maxSteps := 1000000) (disch := omega) only [hid1', hid2', guardK_u, takeG_u, wrap_in64, optK_some', fzK_false', nilK_ptr, brK_true', brK_false', guardK_tt', guardK_ff', guardK_tf', guardK_ft', takeG_tt', takeG_ff', takeG_tf', takeG_ft', pickK_t', pickK_f', pickT_t', pickT_f', notK, extract2_0', extract2_1', extract3_0', extract3_1', extract3_2', here_load, here_fieldAt, here_indexAt, here_extract, here_un, here_conv, here_slice, here_bin, here_nil, and_here, true_and, Nat.zero_add, Nat.add_assoc, Nat.add_zero, Int.toNat_natCast, size_alloc, World.cell?_drew, World.frozen?_drew, Bool.not_true, Bool.not_false, Int.toNat_zero, dec_t, dec_f, int_eq_t, int_eq_f, int_ne_t, int_ne_f, wrap_in, klen9, hlen9, kblss3, kld9, kbadd3, klen41, hlen41, kst9, kia41, kbeql9, kbs41_1_0, kbsub3, kbneq5, kbeql5, hn1]; try (exact ⟨trivial, trivial⟩))) ?_
          simp (maxSteps := 1000000) (disch := omega) only [hid1', hid2', guardK_u, takeG_u, wrap_in64, optK_some', fzK_false', nilK_ptr, brK_true', brK_false', guardK_tt', guardK_ff', guardK_tf', guardK_ft', takeG_tt', takeG_ff', takeG_tf', takeG_ft', pickK_t', pickK_f', pickT_t', pickT_f', notK, extract2_0', extract2_1', extract3_0', extract3_1', extract3_2', here_load, here_fieldAt, here_indexAt, here_extract, here_un, here_conv, here_slice, here_bin, here_nil, and_here, true_and, Nat.zero_add, Nat.add_assoc, Nat.add_zero, Int.toNat_natCast, size_alloc, World.cell?_drew, World.frozen?_drew, Bool.not_true, Bool.not_false, Int.toNat_zero, dec_t, dec_f, int_eq_t, int_eq_f, int_ne_t, int_ne_f, wrap_in, klen9, hlen9, kblss3, kld9, kbadd3, klen41, hlen41, kst9, kia41, kbeql9, kbs41_1_0, kbsub3, kbneq5, kbeql5, hcl, hfz]
          refine ⟨⟨⟨hq2, i + 1, g, cap, by go_num, by omega, hg, ?_, ?_⟩, by simp [rel, intOf]; omega⟩, trivial⟩
          · rw [hsn, e47, List.length_set]
          · rw [hsn, e47, List.length_set, strs, List.map_set]; exact hrow2
      · obtain rfl : i = r.length := by omega
        rw [List.take_length] at hrow ⊢
        simp (maxSteps := 1000000) (disch := omega) only [hid1', hid2', guardK_u, takeG_u, wrap_in64, optK_some', fzK_false', nilK_ptr, brK_true', brK_false', guardK_tt', guardK_ff', guardK_tf', guardK_ft', takeG_tt', takeG_ff', takeG_tf', takeG_ft', pickK_t', pickK_f', pickT_t', pickT_f', notK, extract2_0', extract2_1', extract3_0', extract3_1', extract3_2', here_load, here_fieldAt, here_indexAt, here_extract, here_un, here_conv, here_slice, here_bin, here_nil, and_here, true_and, Nat.zero_add, Nat.add_assoc, Nat.add_zero, Int.toNat_natCast, size_alloc, World.cell?_drew, World.frozen?_drew, Bool.not_true, Bool.not_false, Int.toNat_zero, dec_t, dec_f, int_eq_t, int_eq_f, int_ne_t, int_ne_f, wrap_in, klen9, hlen9, kblss3, kld9, kbadd3, klen41, hlen41, kst9, kia41, kbeql9, kbs41_1_0, kbsub3, kbneq5, kbeql5, hsz, hlen]
        exact hK _ _ _ w' hrow.own q (fun k hk => by cases hk; exact hg)
    · have e3 : cutL (c :: r) = none := by unfold cutL; simp [hc]
      rw [e3] at hK
      have h48 : ¬ (c.toNat : Int) = 47 := fun h => hc (UInt8.toNat_inj.1 (show c.toNat = 47 by omega))
      simp (maxSteps := 1000000) (disch := omega) only [hid1', hid2', guardK_u, takeG_u, wrap_in64, optK_some', fzK_false', nilK_ptr, brK_true', brK_false', guardK_tt', guardK_ff', guardK_tf', guardK_ft', takeG_tt', takeG_ff', takeG_tf', takeG_ft', pickK_t', pickK_f', pickT_t', pickT_f', notK, extract2_0', extract2_1', extract3_0', extract3_1', extract3_2', here_load, here_fieldAt, here_indexAt, here_extract, here_un, here_conv, here_slice, here_bin, here_nil, and_here, true_and, Nat.zero_add, Nat.add_assoc, Nat.add_zero, Int.toNat_natCast, size_alloc, World.cell?_drew, World.frozen?_drew, Bool.not_true, Bool.not_false, Int.toNat_zero, dec_t, dec_f, int_eq_t, int_eq_f, int_ne_t, int_ne_f, wrap_in, klen9, hlen9, kblss3, kld9, kbadd3, klen41, hlen41, kst9, kia41, kbeql9, kbs41_1_0, kbsub3, kbneq5, kbeql5, c0, eq_txt, hb, ix9, hlen, hg0, h48]
      exact hK none 0 none w (Own.nil _ _ _) Qt.refl (fun _ h => by cases h)
theorem parseR_any {l : List UInt8} {w : World} {K : Value → World → Prop} (hl : l.length ≤ 2000000)
    (hK : ∀ A c F w', Own w' 9 1 (.slice A (parseL l).2.length c) (parseL l).2.length (strs (parseL l).2) F → Qt w w' → (∀ k, F = some k → w.heap.size ≤ k) → K (.tuple #[.slice A (parseL l).2.length c, .int .i64 (parseL l).1]) w') : CallK Tryd.prog 54 #[.string (txt l)] K w := by
  refine F54_calls _ _ _ ?_; unfold F54
  refine ck66 (cutR_any (by omega) ?_)
  unfold parseL at hK
  cases hcut : cutL l with
  | none =>
    intro A c F w' o q f
    rw [hcut] at hK
    simp (maxSteps := 1000000) (disch := omega) only [hid1', hid2', guardK_u, takeG_u, wrap_in64, optK_some', fzK_false', nilK_ptr, brK_true', brK_false', guardK_tt', guardK_ff', guardK_tf', guardK_ft', takeG_tt', takeG_ff', takeG_tf', takeG_ft', pickK_t', pickK_f', pickT_t', pickT_f', notK, extract2_0', extract2_1', extract3_0', extract3_1', extract3_2', here_load, here_fieldAt, here_indexAt, here_extract, here_un, here_conv, here_slice, here_bin, here_nil, and_here, true_and, Nat.zero_add, Nat.add_assoc, Nat.add_zero, Int.toNat_natCast, size_alloc, World.cell?_drew, World.frozen?_drew, Bool.not_true, Bool.not_false, Int.toNat_zero, dec_t, dec_f, int_eq_t, int_eq_f, int_ne_t, int_ne_f, wrap_in, kbgtr3, kblss3, kld9, kbadd3, klen41, hlen41, kia41, Option.isSome_none]
    exact hK none 0 none w' (Own.nil _ _ _) q (fun _ h => by cases h)
  | some ps =>
    rw [hcut] at hK
    intro A c F w' o q f
    simp only [Option.getD_some, Option.isSome_some] at o ⊢
    have hb := o.shape
    have hr := Reads.of_own o
    have hpl : ps.length ≤ 3000000 := by
      have h1 : ps.length ≤ l.length + 1 := cutL_len hcut
      omega
    simp only at hK
    simp (maxSteps := 1000000) (disch := omega) only [hid1', hid2', guardK_u, takeG_u, wrap_in64, optK_some', fzK_false', nilK_ptr, brK_true', brK_false', guardK_tt', guardK_ff', guardK_tf', guardK_ft', takeG_tt', takeG_ff', takeG_tf', takeG_ft', pickK_t', pickK_f', pickT_t', pickT_f', notK, extract2_0', extract2_1', extract3_0', extract3_1', extract3_2', here_load, here_fieldAt, here_indexAt, here_extract, here_un, here_conv, here_slice, here_bin, here_nil, and_here, true_and, Nat.zero_add, Nat.add_assoc, Nat.add_zero, Int.toNat_natCast, size_alloc, World.cell?_drew, World.frozen?_drew, Bool.not_true, Bool.not_false, Int.toNat_zero, dec_t, dec_f, int_eq_t, int_eq_f, int_ne_t, int_ne_f, wrap_in, kbgtr3, kblss3, kld9, kbadd3, klen41, hlen41, kia41]
    refine loopK1 (fun v w2 => w2 = w' ∧ ∃ i : Nat, v = .int .i64 i ∧ i ≤ ps.length ∧ (ps.take i).all nameL = true) (fun v _ => ps.length - (intOf v).toNat) ⟨rfl, 0, rfl, by omega, rfl⟩ ?_
    rintro _ _ w2 ⟨hw, i, rfl, hi, hlo⟩
    obtain rfl : w2 = w' := hw
    by_cases hlt : i < ps.length
    · obtain ⟨g, o', rfl, hc⟩ := strs_at hr hlt
      have htk : ps.take (i + 1) = ps.take i ++ [ps[i]] := List.take_succ_eq_append_getElem hlt
      have hmem := List.getElem_mem hlt
      generalize ps[i] = p at *
      simp (maxSteps := 1000000) (disch := omega) only [hid1', hid2', guardK_u, takeG_u, wrap_in64, optK_some', fzK_false', nilK_ptr, brK_true', brK_false', guardK_tt', guardK_ff', guardK_tf', guardK_ft', takeG_tt', takeG_ff', takeG_tf', takeG_ft', pickK_t', pickK_f', pickT_t', pickT_f', notK, extract2_0', extract2_1', extract3_0', extract3_1', extract3_2', here_load, here_fieldAt, here_indexAt, here_extract, here_un, here_conv, here_slice, here_bin, here_nil, and_here, true_and, Nat.zero_add, Nat.add_assoc, Nat.add_zero, Int.toNat_natCast, size_alloc, World.cell?_drew, World.frozen?_drew, Bool.not_true, Bool.not_false, Int.toNat_zero, dec_t, dec_f, int_eq_t, int_eq_f, int_ne_t, int_ne_f, wrap_in, kbgtr3, kblss3, kld9, kbadd3, klen41, hlen41, kia41, hc]
      refine ck67 (nameR_any ?_)
      cases hp : nameL p with
      | true =>
        simp (maxSteps := 1000000) (disch := omega) only [hid1', hid2', guardK_u, takeG_u, wrap_in64, optK_some', fzK_false', nilK_ptr, brK_true', brK_false', guardK_tt', guardK_ff', guardK_tf', guardK_ft', takeG_tt', takeG_ff', takeG_tf', takeG_ft', pickK_t', pickK_f', pickT_t', pickT_f', notK, extract2_0', extract2_1', extract3_0', extract3_1', extract3_2', here_load, here_fieldAt, here_indexAt, here_extract, here_un, here_conv, here_slice, here_bin, here_nil, and_here, true_and, Nat.zero_add, Nat.add_assoc, Nat.add_zero, Int.toNat_natCast, size_alloc, World.cell?_drew, World.frozen?_drew, Bool.not_true, Bool.not_false, Int.toNat_zero, dec_t, dec_f, int_eq_t, int_eq_f, int_ne_t, int_ne_f, wrap_in, kbgtr3, kblss3, kld9, kbadd3, klen41, hlen41, kia41]
        refine ⟨⟨rfl, i + 1, by go_num, by omega, ?_⟩, by simp [rel, intOf]; omega⟩
        rw [htk, List.all_append, hlo]; simp [hp]
      | false =>
        have hany : ps.all nameL = false := by
          cases h : ps.all nameL with
          | false => rfl
          | true => rw [List.all_eq_true.1 h p hmem] at hp; cases hp
        rw [if_pos hany] at hK
        simp (maxSteps := 1000000) (disch := omega) only [hid1', hid2', guardK_u, takeG_u, wrap_in64, optK_some', fzK_false', nilK_ptr, brK_true', brK_false', guardK_tt', guardK_ff', guardK_tf', guardK_ft', takeG_tt', takeG_ff', takeG_tf', takeG_ft', pickK_t', pickK_f', pickT_t', pickT_f', notK, extract2_0', extract2_1', extract3_0', extract3_1', extract3_2', here_load, here_fieldAt, here_indexAt, here_extract, here_un, here_conv, here_slice, here_bin, here_nil, and_here, true_and, Nat.zero_add, Nat.add_assoc, Nat.add_zero, Int.toNat_natCast, size_alloc, World.cell?_drew, World.frozen?_drew, Bool.not_true, Bool.not_false, Int.toNat_zero, dec_t, dec_f, int_eq_t, int_eq_f, int_ne_t, int_ne_f, wrap_in, kbgtr3, kblss3, kld9, kbadd3, klen41, hlen41, kia41]
        exact hK none 0 none w2 (Own.nil _ _ _) q (fun _ h => by cases h)
    · rw [List.take_of_length_le (by omega)] at hlo
      rw [if_neg (by rw [hlo]; decide)] at hK
      by_cases h2 : 4 < ps.length
      · rw [if_pos h2] at hK
        simp (maxSteps := 1000000) (disch := omega) only [hid1', hid2', guardK_u, takeG_u, wrap_in64, optK_some', fzK_false', nilK_ptr, brK_true', brK_false', guardK_tt', guardK_ff', guardK_tf', guardK_ft', takeG_tt', takeG_ff', takeG_tf', takeG_ft', pickK_t', pickK_f', pickT_t', pickT_f', notK, extract2_0', extract2_1', extract3_0', extract3_1', extract3_2', here_load, here_fieldAt, here_indexAt, here_extract, here_un, here_conv, here_slice, here_bin, here_nil, and_here, true_and, Nat.zero_add, Nat.add_assoc, Nat.add_zero, Int.toNat_natCast, size_alloc, World.cell?_drew, World.frozen?_drew, Bool.not_true, Bool.not_false, Int.toNat_zero, dec_t, dec_f, int_eq_t, int_eq_f, int_ne_t, int_ne_f, wrap_in, kbgtr3, kblss3, kld9, kbadd3, klen41, hlen41, kia41]
        exact hK none 0 none w2 (Own.nil _ _ _) q (fun _ h => by cases h)
      · rw [if_neg h2] at hK
        simp (maxSteps := 1000000) (disch := omega) only [hid1', hid2', guardK_u, takeG_u, wrap_in64, optK_some', fzK_false', nilK_ptr, brK_true', brK_false', guardK_tt', guardK_ff', guardK_tf', guardK_ft', takeG_tt', takeG_ff', takeG_tf', takeG_ft', pickK_t', pickK_f', pickT_t', pickT_f', notK, extract2_0', extract2_1', extract3_0', extract3_1', extract3_2', here_load, here_fieldAt, here_indexAt, here_extract, here_un, here_conv, here_slice, here_bin, here_nil, and_here, true_and, Nat.zero_add, Nat.add_assoc, Nat.add_zero, Int.toNat_natCast, size_alloc, World.cell?_drew, World.frozen?_drew, Bool.not_true, Bool.not_false, Int.toNat_zero, dec_t, dec_f, int_eq_t, int_eq_f, int_ne_t, int_ne_f, wrap_in, kbgtr3, kblss3, kld9, kbadd3, klen41, hlen41, kia41]
        exact hK A c F w2 o q f
end Go.Proofs.YtbkficgmjgbbeaaDoor

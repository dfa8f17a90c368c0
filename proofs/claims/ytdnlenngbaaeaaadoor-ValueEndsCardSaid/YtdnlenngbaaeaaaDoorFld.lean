/- The document's Fields: words with single blanks between. Conditions: at most 100000 bytes. -/
import Derived.Test.YtdnlenngbaaeaaaDoorRef
import Derived.Test.YtdnlenngbaaeaaaDoorL4
set_option linter.unusedVariables false
set_option linter.unusedSimpArgs false
set_option maxRecDepth 100000
namespace Go.Proofs.YtdnlenngbaaeaaaDoor
open Go.RowKit Go.Cn
theorem take_o {P : Program} {S : World → Prop} {s : Sem Next} {K : Value → Prop} (v : Value) (hr : ∀ w, s.run P w = .ok (.value v) w) (hk : K v) : TakeO P S s (@Cn.hid _ ⟨K⟩) := ⟨v, fun w _ => hr w, hk⟩
/-- One more byte. -/
def snocS (l : List (List UInt8)) (c : UInt8) : List (List UInt8) := if c = 32 then l ++ [[]] else l.set (l.length - 1) (l.getD (l.length - 1) [] ++ [c])
theorem snocS_cons (a : List UInt8) (l : List (List UInt8)) (h : l ≠ []) (c : UInt8) : snocS (a :: l) c = a :: snocS l c := by
  unfold snocS
  cases l with
  | nil => exact absurd rfl h
  | cons b r =>
    by_cases hc : c = 32
    · simp [hc]
    · simp [hc]
theorem splitS_snoc : ∀ (l : List UInt8) (c : UInt8), splitS (l ++ [c]) = snocS (splitS l) c
  | [], c => by
    by_cases hc : c = 32
    · simp [splitS, snocS, hc]
    · simp [splitS, snocS, hc]
  | x :: l, c => by
    have ih := splitS_snoc l c
    rw [List.cons_append, splitS, ih]
    by_cases hx : x = 32
    · rw [if_pos hx, splitS, if_pos hx, snocS_cons _ _ (splitS_ne l)]
    · rw [if_neg hx, splitS, if_neg hx]
      cases hs : splitS l with
      | nil => exact absurd hs (splitS_ne l)
      | cons p r =>
        cases r with
        | nil =>
          unfold snocS
          by_cases hc : c = 32
          · simp [hc]
          · simp [hc]
        | cons b r =>
          rw [snocS_cons p (b :: r) (by simp)]
          simp only [List.headD_cons, List.tail_cons]
          rw [snocS_cons (x :: p) (b :: r) (by simp)]
theorem eq_txtE (l : List UInt8) : ((txt l).toList == (txt []).toList) = decide (l = []) := by
  rw [ByteArray.toList_eq, ByteArray.toList_eq, txt_data]
  cases l <;> rfl
/-- The document's words. -/
def fldS (l : List UInt8) : List (List UInt8) := if l = [] then [] else splitS l
set_option maxHeartbeats 4000000 in
theorem fld43 {l : List UInt8} {w : World} {K : Value → World → Prop} (hl : l.length ≤ 100000)
    (hK : ∀ A c F w', Own w' 9 1 (.slice A (fldS l).length c) (fldS l).length (strs (fldS l)) F → Qt w w' → (∀ k, F = some k → w.heap.size ≤ k) → K (.slice A (fldS l).length c) w') : CallK Tryd.prog 43 #[.string (txt l)] K w := by
  refine F43_calls _ _ _ ?_; unfold F43
  have hsz := txt_size l
  have hempty : (ByteArray.mk #[]) = txt [] := rfl
  unfold fldS at hK
  by_cases hl0 : l = []
  · rw [if_pos hl0] at hK
    have hb : decide (l = []) = true := decide_eq_true hl0
    simp (maxSteps := 1000000) (disch := omega) only [hid1', hid2', guardK_u, takeG_u, wrap_in64, optK_some', fzK_false', nilK_ptr, brK_true', brK_false', guardK_tt', guardK_ff', guardK_tf', guardK_ft', takeG_tt', takeG_ff', takeG_tf', takeG_ft', pickK_t', pickK_f', pickT_t', pickT_f', notK, extract2_0', extract2_1', extract3_0', extract3_1', extract3_2', here_load, here_fieldAt, here_indexAt, here_extract, here_un, here_conv, here_slice, here_bin, here_nil, and_here, true_and, Nat.zero_add, Nat.add_assoc, Nat.add_zero, Int.toNat_natCast, size_alloc, World.cell?_drew, World.frozen?_drew, Bool.not_true, Bool.not_false, Int.toNat_zero, dec_t, dec_f, int_eq_t, int_eq_f, int_ne_t, int_ne_f, wrap_in, kbsub3, klen9, hlen9, kbeql9, kblss3, kbadd3, kld9, kbeql5, klen59, hlen59, kia59, kbs59_1_0, kst9, eq_txtE, hb, hempty]
    exact hK none 0 none w (Own.nil _ _ _) Qt.refl (fun _ h => by cases h)
  rw [if_neg hl0] at hK
  have hb : decide (l = []) = false := decide_eq_false hl0
  simp (maxSteps := 1000000) (disch := omega) only [hid1', hid2', guardK_u, takeG_u, wrap_in64, optK_some', fzK_false', nilK_ptr, brK_true', brK_false', guardK_tt', guardK_ff', guardK_tf', guardK_ft', takeG_tt', takeG_ff', takeG_tf', takeG_ft', pickK_t', pickK_f', pickT_t', pickT_f', notK, extract2_0', extract2_1', extract3_0', extract3_1', extract3_2', here_load, here_fieldAt, here_indexAt, here_extract, here_un, here_conv, here_slice, here_bin, here_nil, and_here, true_and, Nat.zero_add, Nat.add_assoc, Nat.add_zero, Int.toNat_natCast, size_alloc, World.cell?_drew, World.frozen?_drew, Bool.not_true, Bool.not_false, Int.toNat_zero, dec_t, dec_f, int_eq_t, int_eq_f, int_ne_t, int_ne_f, wrap_in, kbsub3, klen9, hlen9, kbeql9, kblss3, kbadd3, kld9, kbeql5, klen59, hlen59, kia59, kbs59_1_0, kst9, eq_txtE, hb, hempty]
  have hrow0 : RowAt (w.alloc (.cells #[.string (txt [])] 9)) 9 1 w.heap.size 1 1 (strs (splitS (l.take 0))) := by
    exact ⟨rfl, _, blk_new _ _, Nat.le_refl _, by decide, by decide, rfl⟩
  refine loopK2 (fun x v w' => Qt w w' ∧ ∃ (i : Nat) (g cap : Nat), v = .int .i64 i ∧ i ≤ l.length ∧ w.heap.size ≤ g ∧ x = .slice (some ⟨g, 0, none⟩) (splitS (l.take i)).length cap ∧ RowAt w' 9 1 g (splitS (l.take i)).length cap (strs (splitS (l.take i)))) (fun _ v _ => l.length - (intOf v).toNat) ⟨Chg.alloc Qt.refl _, 0, w.heap.size, 1, rfl, by omega, Nat.le_refl _, rfl, hrow0⟩ ?_
  rintro _ _ _ w' ⟨q, i, g, cap, rfl, hi, hg, rfl, hrow⟩
  by_cases hlt : i < l.length
  · have htk : l.take (i + 1) = l.take i ++ [l[i]] := List.take_succ_eq_append_getElem hlt
    have hgi : l.getD i 0 = l[i] := by simp [hlt]
    have hdr : (l.drop i).take (i + 1 - i) = [l[i]] := by
      rw [show i + 1 - i = 1 by omega, List.drop_eq_getElem_cons hlt]; rfl
    have hsn := splitS_snoc (l.take i) l[i]
    rw [← htk] at hsn
    have hpos := splitS_pos (l.take i)
    have hle := splitS_len (l.take i)
    have hpl := partS_len (l.take i)
    have htl : (l.take i).length = i := by rw [List.length_take]; omega
    rw [htl] at hle hpl
    have hsl : ∀ (K : Value → World → Prop) (w : World), SliceK Tryd.prog 9 (.string (txt l)) (some (.int .i64 (i : Nat))) (some (.int .i64 ((i : Int) + 1))) none K w = K (.string (txt [l[i]])) w := fun K w => by
      rw [show ((i : Int) + 1) = ((i + 1 : Nat) : Int) by omega, slice_txt_lh Tryd.underlying9 l i (i + 1) ⟨by omega, by omega⟩, hdr]
    generalize l[i] = d at *
    generalize splitS (l.take i) = ps at *
    by_cases hd : d = 32
    · have hd' : ((d.toNat : Int) == 32) = true := by subst hd; rfl
      simp (maxSteps := 1000000) (disch := omega) only [hid1', hid2', guardK_u, takeG_u, wrap_in64, optK_some', fzK_false', nilK_ptr, brK_true', brK_false', guardK_tt', guardK_ff', guardK_tf', guardK_ft', takeG_tt', takeG_ff', takeG_tf', takeG_ft', pickK_t', pickK_f', pickT_t', pickT_f', notK, extract2_0', extract2_1', extract3_0', extract3_1', extract3_2', here_load, here_fieldAt, here_indexAt, here_extract, here_un, here_conv, here_slice, here_bin, here_nil, and_here, true_and, Nat.zero_add, Nat.add_assoc, Nat.add_zero, Int.toNat_natCast, size_alloc, World.cell?_drew, World.frozen?_drew, Bool.not_true, Bool.not_false, Int.toNat_zero, dec_t, dec_f, int_eq_t, int_eq_f, int_ne_t, int_ne_f, wrap_in, kbsub3, klen9, hlen9, kbeql9, kblss3, kbadd3, kld9, kbeql5, klen59, hlen59, kia59, kbs59_1_0, kst9, hsz, ix9, hgi, hd']
      obtain ⟨A2, c2, F2, w2, p2, o2, k2, f2⟩ := push_run (P := Tryd.prog) tyS hrow.own (.string (txt [])) rfl (by omega) (by omega) 59
      refine appK p2 ?_
      obtain ⟨g2, c2', e2, rfl, hr2⟩ := o2.pos (by omega)
      injection e2 with e21 e22 e23
      subst e21 e23
      have hq2 := Qt.then q k2 (fun k hk => by cases hk; exact hg)
      have hg2 : w.heap.size ≤ g2 := by
        rcases f2 g2 rfl with h | h
        · cases h; exact hg
        · have := q.size; omega
      have e47 : snocS ps d = ps ++ [[]] := by unfold snocS; rw [if_pos hd]
      simp (maxSteps := 1000000) (disch := omega) only [hid1', hid2', guardK_u, takeG_u, wrap_in64, optK_some', fzK_false', nilK_ptr, brK_true', brK_false', guardK_tt', guardK_ff', guardK_tf', guardK_ft', takeG_tt', takeG_ff', takeG_tf', takeG_ft', pickK_t', pickK_f', pickT_t', pickT_f', notK, extract2_0', extract2_1', extract3_0', extract3_1', extract3_2', here_load, here_fieldAt, here_indexAt, here_extract, here_un, here_conv, here_slice, here_bin, here_nil, and_here, true_and, Nat.zero_add, Nat.add_assoc, Nat.add_zero, Int.toNat_natCast, size_alloc, World.cell?_drew, World.frozen?_drew, Bool.not_true, Bool.not_false, Int.toNat_zero, dec_t, dec_f, int_eq_t, int_eq_f, int_ne_t, int_ne_f, wrap_in, kbsub3, klen9, hlen9, kbeql9, kblss3, kbadd3, kld9, kbeql5, klen59, hlen59, kia59, kbs59_1_0, kst9]
      refine ⟨⟨hq2, i + 1, g2, c2, by go_num, by omega, hg2, ?_, ?_⟩, by simp [rel, intOf]; omega⟩
      · rw [hsn, e47, List.length_append]; rfl
      · rw [hsn, e47, List.length_append, strs, List.map_append]; exact hr2
    · have hd' : ((d.toNat : Int) == 32) = false := by
        rw [beq_eq_false_iff_ne]; exact fun h => hd (UInt8.toNat_inj.1 (show d.toNat = 32 by omega))
      simp (maxSteps := 1000000) (disch := omega) only [hid1', hid2', guardK_u, takeG_u, wrap_in64, optK_some', fzK_false', nilK_ptr, brK_true', brK_false', guardK_tt', guardK_ff', guardK_tf', guardK_ft', takeG_tt', takeG_ff', takeG_tf', takeG_ft', pickK_t', pickK_f', pickT_t', pickT_f', notK, extract2_0', extract2_1', extract3_0', extract3_1', extract3_2', here_load, here_fieldAt, here_indexAt, here_extract, here_un, here_conv, here_slice, here_bin, here_nil, and_here, true_and, Nat.zero_add, Nat.add_assoc, Nat.add_zero, Int.toNat_natCast, size_alloc, World.cell?_drew, World.frozen?_drew, Bool.not_true, Bool.not_false, Int.toNat_zero, dec_t, dec_f, int_eq_t, int_eq_f, int_ne_t, int_ne_f, wrap_in, kbsub3, klen9, hlen9, kbeql9, kblss3, kbadd3, kld9, kbeql5, klen59, hlen59, kia59, kbs59_1_0, kst9, hsz, ix9, hgi, hd']
      refine drawK_by (fun _ => True) trivial ?_
      have hn1 : ((ps.length : Int) - 1).toNat = ps.length - 1 := by omega
      refine take_o (.int .i64 ps.length) (fun w => by first | (go_simp; rfl) | (go_simp; done)) ?_
      refine take_bin (.int .i64 ((ps.length : Int) - 1)) (fun w' _ => by (simp (maxSteps := 1000000) (disch := omega) only [hid1', hid2', guardK_u, takeG_u, wrap_in64, optK_some', fzK_false', nilK_ptr, brK_true', brK_false', guardK_tt', guardK_ff', guardK_tf', guardK_ft', takeG_tt', takeG_ff', takeG_tf', takeG_ft', pickK_t', pickK_f', pickT_t', pickT_f', notK, extract2_0', extract2_1', extract3_0', extract3_1', extract3_2', here_load, here_fieldAt, here_indexAt, here_extract, here_un, here_conv, here_slice, here_bin, here_nil, and_here, true_and, Nat.zero_add, Nat.add_assoc, Nat.add_zero, Int.toNat_natCast, size_alloc, World.cell?_drew, World.frozen?_drew, Bool.not_true, Bool.not_false, Int.toNat_zero, dec_t, dec_f, int_eq_t, int_eq_f, int_ne_t, int_ne_f, wrap_in, kbsub3, klen9, hlen9, kbeql9, kblss3, kbadd3, kld9, kbeql5, klen59, hlen59, kia59, kbs59_1_0, kst9]; try (exact ⟨trivial, trivial⟩))) ?_
      refine take_o (.int .i64 ps.length) (fun w => by first | (go_simp; rfl) | (go_simp; done)) ?_
      refine take_bin (.int .i64 ((ps.length : Int) - 1)) (fun w' _ => by (simp (maxSteps := 1000000) (disch := omega) only [hid1', hid2', guardK_u, takeG_u, wrap_in64, optK_some', fzK_false', nilK_ptr, brK_true', brK_false', guardK_tt', guardK_ff', guardK_tf', guardK_ft', takeG_tt', takeG_ff', takeG_tf', takeG_ft', pickK_t', pickK_f', pickT_t', pickT_f', notK, extract2_0', extract2_1', extract3_0', extract3_1', extract3_2', here_load, here_fieldAt, here_indexAt, here_extract, here_un, here_conv, here_slice, here_bin, here_nil, and_here, true_and, Nat.zero_add, Nat.add_assoc, Nat.add_zero, Int.toNat_natCast, size_alloc, World.cell?_drew, World.frozen?_drew, Bool.not_true, Bool.not_false, Int.toNat_zero, dec_t, dec_f, int_eq_t, int_eq_f, int_ne_t, int_ne_f, wrap_in, kbsub3, klen9, hlen9, kbeql9, kblss3, kbadd3, kld9, kbeql5, klen59, hlen59, kia59, kbs59_1_0, kst9]; try (exact ⟨trivial, trivial⟩))) ?_
      refine take_index (.pointer (some ⟨g, ps.length - 1, none⟩)) (fun w' _ => by (simp (maxSteps := 1000000) (disch := omega) only [hid1', hid2', guardK_u, takeG_u, wrap_in64, optK_some', fzK_false', nilK_ptr, brK_true', brK_false', guardK_tt', guardK_ff', guardK_tf', guardK_ft', takeG_tt', takeG_ff', takeG_tf', takeG_ft', pickK_t', pickK_f', pickT_t', pickT_f', notK, extract2_0', extract2_1', extract3_0', extract3_1', extract3_2', here_load, here_fieldAt, here_indexAt, here_extract, here_un, here_conv, here_slice, here_bin, here_nil, and_here, true_and, Nat.zero_add, Nat.add_assoc, Nat.add_zero, Int.toNat_natCast, size_alloc, World.cell?_drew, World.frozen?_drew, Bool.not_true, Bool.not_false, Int.toNat_zero, dec_t, dec_f, int_eq_t, int_eq_f, int_ne_t, int_ne_f, wrap_in, kbsub3, klen9, hlen9, kbeql9, kblss3, kbadd3, kld9, kbeql5, klen59, hlen59, kia59, kbs59_1_0, kst9, hn1]; try (exact ⟨trivial, trivial⟩))) ?_
      refine take_bin (.int .i64 ((i : Int) + 1)) (fun w' _ => by (simp (maxSteps := 1000000) (disch := omega) only [hid1', hid2', guardK_u, takeG_u, wrap_in64, optK_some', fzK_false', nilK_ptr, brK_true', brK_false', guardK_tt', guardK_ff', guardK_tf', guardK_ft', takeG_tt', takeG_ff', takeG_tf', takeG_ft', pickK_t', pickK_f', pickT_t', pickT_f', notK, extract2_0', extract2_1', extract3_0', extract3_1', extract3_2', here_load, here_fieldAt, here_indexAt, here_extract, here_un, here_conv, here_slice, here_bin, here_nil, and_here, true_and, Nat.zero_add, Nat.add_assoc, Nat.add_zero, Int.toNat_natCast, size_alloc, World.cell?_drew, World.frozen?_drew, Bool.not_true, Bool.not_false, Int.toNat_zero, dec_t, dec_f, int_eq_t, int_eq_f, int_ne_t, int_ne_f, wrap_in, kbsub3, klen9, hlen9, kbeql9, kblss3, kbadd3, kld9, kbeql5, klen59, hlen59, kia59, kbs59_1_0, kst9]; try (exact ⟨trivial, trivial⟩))) ?_
      refine take_slice (.string (txt [d])) (fun w' _ => by (simp (maxSteps := 1000000) (disch := omega) only [hid1', hid2', guardK_u, takeG_u, wrap_in64, optK_some', fzK_false', nilK_ptr, brK_true', brK_false', guardK_tt', guardK_ff', guardK_tf', guardK_ft', takeG_tt', takeG_ff', takeG_tf', takeG_ft', pickK_t', pickK_f', pickT_t', pickT_f', notK, extract2_0', extract2_1', extract3_0', extract3_1', extract3_2', here_load, here_fieldAt, here_indexAt, here_extract, here_un, here_conv, here_slice, here_bin, here_nil, and_here, true_and, Nat.zero_add, Nat.add_assoc, Nat.add_zero, Int.toNat_natCast, size_alloc, World.cell?_drew, World.frozen?_drew, Bool.not_true, Bool.not_false, Int.toNat_zero, dec_t, dec_f, int_eq_t, int_eq_f, int_ne_t, int_ne_f, wrap_in, kbsub3, klen9, hlen9, kbeql9, kblss3, kbadd3, kld9, kbeql5, klen59, hlen59, kia59, kbs59_1_0, kst9, hsl]; try (exact ⟨trivial, trivial⟩))) ?_
      have hlast : ps.length - 1 < ps.length := by omega
      have hcl : w'.drew.cell? ⟨g, ps.length - 1, none⟩ = some (.string (txt (ps.getD (ps.length - 1) []))) := by
        have := (hrow.chg (S := fun _ => False) (Qt.drew Qt.refl) (fun h => h)).cell (ps.length - 1) (by omega)
        rw [this, strs, List.getElem?_map, List.getElem?_eq_getElem hlast, List.getD_eq_getElem?_getD, List.getElem?_eq_getElem hlast]; rfl
      have hll : (ps.getD (ps.length - 1) []).length ≤ 2000000 := by
        rw [List.getD_eq_getElem?_getD, List.getElem?_eq_getElem hlast]
        have := hpl _ (List.getElem_mem hlast)
        simp only [Option.getD_some]; omega
      have e47 : snocS ps d = ps.set (ps.length - 1) (ps.getD (ps.length - 1) [] ++ [d]) := by unfold snocS; rw [if_neg hd]
      generalize ps.getD (ps.length - 1) [] = lp at *
      have hrow2 := (hrow.chg (S := fun _ => False) (Qt.drew Qt.refl) (fun h => h)).store (ps.length - 1) (.string (txt (lp ++ [d])))
      have hfz := (hrow.chg (S := fun _ => False) (Qt.drew Qt.refl) (fun h => h)).frozen (ps.length - 1)
      have hq2 : Qt w (w'.drew.setCell ⟨g, ps.length - 1, none⟩ (.string (txt (lp ++ [d])))) := Qt.then q ((Chg.refl (fun k => k = g) w').drew.setCell (p := ⟨g, ps.length - 1, none⟩) (.inl rfl) _) (fun k hk => by rw [hk]; exact hg)
      simp (maxSteps := 1000000) (disch := omega) only [hid1', hid2', guardK_u, takeG_u, wrap_in64, optK_some', fzK_false', nilK_ptr, brK_true', brK_false', guardK_tt', guardK_ff', guardK_tf', guardK_ft', takeG_tt', takeG_ff', takeG_tf', takeG_ft', pickK_t', pickK_f', pickT_t', pickT_f', notK, extract2_0', extract2_1', extract3_0', extract3_1', extract3_2', here_load, here_fieldAt, here_indexAt, here_extract, here_un, here_conv, here_slice, here_bin, here_nil, and_here, true_and, Nat.zero_add, Nat.add_assoc, Nat.add_zero, Int.toNat_natCast, size_alloc, World.cell?_drew, World.frozen?_drew, Bool.not_true, Bool.not_false, Int.toNat_zero, dec_t, dec_f, int_eq_t, int_eq_f, int_ne_t, int_ne_f, wrap_in, kbsub3, klen9, hlen9, kbeql9, kblss3, kbadd3, kld9, kbeql5, klen59, hlen59, kia59, kbs59_1_0, kst9, hcl]
      refine ⟨?_, trivial⟩
      refine take_bin (.string (txt (lp ++ [d]))) (fun w' _ => by rw [add_txt _ _ (by simp; omega)]; exact ⟨rfl, rfl⟩) ?_
      refine take_index (.pointer (some ⟨g, ps.length - 1, none⟩)) (fun w' _ => by (simp (maxSteps := 1000000) (disch := omega) only [hid1', hid2', guardK_u, takeG_u, wrap_in64, optK_some', fzK_false', nilK_ptr, brK_true', brK_false', guardK_tt', guardK_ff', guardK_tf', guardK_ft', takeG_tt', takeG_ff', takeG_tf', takeG_ft', pickK_t', pickK_f', pickT_t', pickT_f', notK, extract2_0', extract2_1', extract3_0', extract3_1', extract3_2', here_load, here_fieldAt, here_indexAt, here_extract, here_un, here_conv, here_slice, here_bin, here_nil, and_here, true_and, Nat.zero_add, Nat.add_assoc, Nat.add_zero, Int.toNat_natCast, size_alloc, World.cell?_drew, World.frozen?_drew, Bool.not_true, Bool.not_false, Int.toNat_zero, dec_t, dec_f, int_eq_t, int_eq_f, int_ne_t, int_ne_f, wrap_in, kbsub3, klen9, hlen9, kbeql9, kblss3, kbadd3, kld9, kbeql5, klen59, hlen59, kia59, kbs59_1_0, kst9, hn1]; try (exact ⟨trivial, trivial⟩))) ?_
      simp (maxSteps := 1000000) (disch := omega) only [hid1', hid2', guardK_u, takeG_u, wrap_in64, optK_some', fzK_false', nilK_ptr, brK_true', brK_false', guardK_tt', guardK_ff', guardK_tf', guardK_ft', takeG_tt', takeG_ff', takeG_tf', takeG_ft', pickK_t', pickK_f', pickT_t', pickT_f', notK, extract2_0', extract2_1', extract3_0', extract3_1', extract3_2', here_load, here_fieldAt, here_indexAt, here_extract, here_un, here_conv, here_slice, here_bin, here_nil, and_here, true_and, Nat.zero_add, Nat.add_assoc, Nat.add_zero, Int.toNat_natCast, size_alloc, World.cell?_drew, World.frozen?_drew, Bool.not_true, Bool.not_false, Int.toNat_zero, dec_t, dec_f, int_eq_t, int_eq_f, int_ne_t, int_ne_f, wrap_in, kbsub3, klen9, hlen9, kbeql9, kblss3, kbadd3, kld9, kbeql5, klen59, hlen59, kia59, kbs59_1_0, kst9, hcl, hfz]
      refine ⟨⟨⟨hq2, i + 1, g, cap, by go_num, by omega, hg, ?_, ?_⟩, by simp [rel, intOf]; omega⟩, trivial⟩
      · rw [hsn, e47, List.length_set]
      · rw [hsn, e47, List.length_set, strs, List.map_set]; exact hrow2
  · obtain rfl : i = l.length := by omega
    rw [List.take_length] at hrow ⊢
    simp (maxSteps := 1000000) (disch := omega) only [hid1', hid2', guardK_u, takeG_u, wrap_in64, optK_some', fzK_false', nilK_ptr, brK_true', brK_false', guardK_tt', guardK_ff', guardK_tf', guardK_ft', takeG_tt', takeG_ff', takeG_tf', takeG_ft', pickK_t', pickK_f', pickT_t', pickT_f', notK, extract2_0', extract2_1', extract3_0', extract3_1', extract3_2', here_load, here_fieldAt, here_indexAt, here_extract, here_un, here_conv, here_slice, here_bin, here_nil, and_here, true_and, Nat.zero_add, Nat.add_assoc, Nat.add_zero, Int.toNat_natCast, size_alloc, World.cell?_drew, World.frozen?_drew, Bool.not_true, Bool.not_false, Int.toNat_zero, dec_t, dec_f, int_eq_t, int_eq_f, int_ne_t, int_ne_f, wrap_in, kbsub3, klen9, hlen9, kbeql9, kblss3, kbadd3, kld9, kbeql5, klen59, hlen59, kia59, kbs59_1_0, kst9, hsz]
    exact hK _ _ _ w' hrow.own q (fun k hk => by cases hk; exact hg)
end Go.Proofs.YtdnlenngbaaeaaaDoor

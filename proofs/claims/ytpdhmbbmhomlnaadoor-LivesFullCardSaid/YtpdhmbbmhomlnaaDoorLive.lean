/- Lives: what the program's methods answer and leave. -/
import Derived.Test.YtpdhmbbmhomlnaaDoorNode
import Derived.Test.YtpdhmbbmhomlnaaDoorSI2
import Derived.Test.YtpdhmbbmhomlnaaDoorSM2
import Derived.Test.YtpdhmbbmhomlnaaDoorRef2
set_option linter.unusedVariables false
set_option linter.unusedSimpArgs false
set_option maxRecDepth 100000
namespace Go.Proofs.YtpdhmbbmhomlnaaDoor
open Go.RowKit Go.Cn Go.Cn.Num
abbrev LM := List (SI.κ × SI.ν)
def nodeB (p : ByteArray) : Bool := nodeL p.data.toList
def getN (m : LM) (p : ByteArray) : Int := SI.getM m p
theorem getN_eq (m : LM) (p : ByteArray) : SI.getM m p = getN m p := rfl
def beginM (m : LM) (p : ByteArray) : LM × Int × Int :=
  if nodeB p = false then (m, 0, 5) else if (fnd SI.lt m p = false ∧ 256 ≤ m.length) ∨ 1000000000 ≤ getN m p then (m, 0, 9) else (putM SI.lt m p (getN m p + 1), getN m p + 1, 0)
/-- Each value may be. -/
def Vals (m : LM) : Prop := ∀ q ∈ m, (1 : Int) ≤ q.2 ∧ (q.2 : Int) ≤ 1000000000
theorem getM_bd {m : LM} (h : Vals m) (p : ByteArray) : 0 ≤ getN m p ∧ getN m p ≤ 1000000000 := by
  unfold getN SI.getM
  by_cases hf : fnd SI.lt m p = true
  · rw [if_pos hf]
    have hlt := fnd_lt hf
    rw [List.getElem?_eq_getElem hlt]
    have := h _ (List.getElem_mem hlt)
    simp only [Option.map_some, Option.getD_some]
    exact ⟨Int.le_trans (by decide) this.1, this.2⟩
  · rw [if_neg hf]; exact ⟨Int.le_refl _, by decide⟩
theorem getM_no {m : LM} {p : ByteArray} (h : fnd SI.lt m p = false) : getN m p = 0 := by unfold getN SI.getM; rw [if_neg (by rw [h]; decide)]
def LivesAt (w : World) (x g : Nat) (m : LM) (F : Option Nat) : Prop := w.heap[x]? = some (.cells #[.pointer (some ⟨g, 0, none⟩)] 52 (0, 0)) ∧ SI.MapAt w g m F ∧ x ≠ g ∧ F ≠ some x
theorem LivesAt.chg {w w' : World} {x g : Nat} {m : LM} {F : Option Nat} {S : Nat → Prop} (h : LivesAt w x g m F) (c : Chg S w w') (hx : ¬ S x) (hg : ¬ S g) (hF : ∀ k, F = some k → ¬ S k) : LivesAt w' x g m F :=
  ⟨c.heap h.1 hx, h.2.1.chg c hg hF, h.2.2⟩
theorem LivesAt.quiet {w w' : World} {x g : Nat} {m : LM} {F : Option Nat} (h : LivesAt w x g m F) (c : Qt w w') : LivesAt w' x g m F := h.chg c (fun h => h) (fun h => h) (fun _ _ h => h)
theorem LivesAt.cell {w : World} {x g : Nat} {m : LM} {F : Option Nat} (h : LivesAt w x g m F) : w.cell? ⟨x, 0, none⟩ = some (.pointer (some ⟨g, 0, none⟩)) := by rw [blk_cell h.1]; rfl
theorem new_lives {w : World} {K : Value → World → Prop} (hK : ∀ x g w', LivesAt w' x g [] none → Qt w w' → w.heap.size ≤ x → w.heap.size ≤ g → K (.pointer (some ⟨x, 0, none⟩)) w') : CallK Tryd.prog 8 #[] K w := by
  refine F8_calls _ _ ?_; unfold F8
  refine ck19 (SI.new_any ?_)
  intro w1 h1 q1
  simp (maxSteps := 1000000) (disch := omega) only [hid1', hid2', guardK_u, takeG_u, wrap_in64, optK_some', fzK_false', nilK_ptr, brK_true', brK_false', guardK_tt', guardK_ff', guardK_tf', guardK_ft', takeG_tt', takeG_ff', takeG_tf', takeG_ft', pickK_t', pickK_f', pickT_t', pickT_f', notK, extract2_0', extract2_1', extract3_0', extract3_1', extract3_2', here_load, here_fieldAt, here_indexAt, here_extract, here_un, here_conv, here_slice, here_bin, here_nil, and_here, true_and, Nat.zero_add, Nat.add_assoc, Nat.add_zero, Int.toNat_natCast, size_alloc, World.cell?_drew, World.frozen?_drew, Bool.not_true, Bool.not_false, Int.toNat_zero, dec_t, dec_f, int_eq_t, int_eq_f, int_ne_t, int_ne_f, wrap_in, kbd52_0, kbx52]
  have q2 : Qt w1 (w1.alloc (.cells #[.pointer (some ⟨w.heap.size, 0, none⟩)] 52)) := Chg.alloc Qt.refl _
  have hlow := h1.low
  refine hK _ w.heap.size _ ⟨blk_new _ _, h1.quiet q2, by omega, fun h => by cases h⟩ (q1.trans q2) q1.size (Nat.le_refl _)
theorem depth_str {p : ByteArray} {w : World} {K : Value → World → Prop} (hl : p.data.toList.length ≤ 50000) (hm : MaxAt w)
    (hK : ∀ w', Qt w w' → K (.int .i64 (depthL p.data.toList)) w') : CallK Tryd.prog 20 #[.string p] K w := by
  rw [← txt_list p]; exact depth_any hl hm hK
theorem begin_any {w : World} {x g : Nat} {m : LM} {F : Option Nat} {p : ByteArray} {K : Value → World → Prop} (h : LivesAt w x g m F) (hp : p.size ≤ 1000) (hm : MaxAt w) (hl : m.length ≤ 1000) (hv : Vals m)
    (hK : ∀ F' w', LivesAt w' x g (beginM m p).1 F' → Chg (fun q => q = g ∨ F = some q) w w' → (∀ q, F' = some q → F = some q ∨ w.heap.size ≤ q) → K (.tuple #[.int .i64 (beginM m p).2.1, .int .i64 (beginM m p).2.2]) w') :
    CallK Tryd.prog 10 #[.pointer (some ⟨x, 0, none⟩), .string p] K w := by
  refine F10_calls _ _ _ _ ?_; unfold F10
  have hpl : p.data.toList.length ≤ 50000 := Nat.le_trans hp (by decide)
  have hdep := node_depth p.data.toList
  have hbd := getM_bd hv p
  refine ck20 (depth_str hpl hm ?_)
  intro w1 q1
  have h1 := h.quiet q1
  have hsz1 := q1.size
  have q1' : Chg (fun q => q = g ∨ F = some q) w w1 := q1.mono (fun _ _ h => h.elim)
  unfold beginM at hK
  by_cases hn : nodeB p = false
  · rw [if_pos hn] at hK
    have hlt : depthL p.data.toList < 1 := by
      have : ¬ (1 ≤ depthL p.data.toList) := fun e => by
        have := hdep.2 e
        unfold nodeB at hn
        rw [hn] at this; cases this
      omega
    generalize depthL p.data.toList = d at *
    simp (maxSteps := 1000000) (disch := omega) only [hid1', hid2', guardK_u, takeG_u, wrap_in64, optK_some', fzK_false', nilK_ptr, brK_true', brK_false', guardK_tt', guardK_ff', guardK_tf', guardK_ft', takeG_tt', takeG_ff', takeG_tf', takeG_ft', pickK_t', pickK_f', pickT_t', pickT_f', notK, extract2_0', extract2_1', extract3_0', extract3_1', extract3_2', here_load, here_fieldAt, here_indexAt, here_extract, here_un, here_conv, here_slice, here_bin, here_nil, and_here, true_and, Nat.zero_add, Nat.add_assoc, Nat.add_zero, Int.toNat_natCast, size_alloc, World.cell?_drew, World.frozen?_drew, Bool.not_true, Bool.not_false, Int.toNat_zero, dec_t, dec_f, int_eq_t, int_eq_f, int_ne_t, int_ne_f, wrap_in, kblss3, kbgeq3, kbgeq2, kbadd2, kfa52_0, kld49]
    exact hK F w1 h1 q1' (fun q hq => .inl hq)
  · rw [if_neg hn] at hK
    have hge : 1 ≤ depthL p.data.toList := hdep.1 (by unfold nodeB at hn; simpa using hn)
    generalize depthL p.data.toList = d at *
    have hc1 := h1.cell
    simp (maxSteps := 1000000) (disch := omega) only [hid1', hid2', guardK_u, takeG_u, wrap_in64, optK_some', fzK_false', nilK_ptr, brK_true', brK_false', guardK_tt', guardK_ff', guardK_tf', guardK_ft', takeG_tt', takeG_ff', takeG_tf', takeG_ft', pickK_t', pickK_f', pickT_t', pickT_f', notK, extract2_0', extract2_1', extract3_0', extract3_1', extract3_2', here_load, here_fieldAt, here_indexAt, here_extract, here_un, here_conv, here_slice, here_bin, here_nil, and_here, true_and, Nat.zero_add, Nat.add_assoc, Nat.add_zero, Int.toNat_natCast, size_alloc, World.cell?_drew, World.frozen?_drew, Bool.not_true, Bool.not_false, Int.toNat_zero, dec_t, dec_f, int_eq_t, int_eq_f, int_ne_t, int_ne_f, wrap_in, kblss3, kbgeq3, kbgeq2, kbadd2, kfa52_0, kld49, hc1]
    refine ck21 (SI.get_any h1.2.1 ?_)
    intro w2 q2
    have h2 := h1.quiet q2
    have hc2 := h2.cell
    have q12' := q1'.trans (q2.mono (fun _ _ h => h.elim))
    rw [getN_eq]
    have hsz2 := q2.size
    cases hf : fnd SI.lt m p with
    | false =>
      have hg0 := getM_no hf
      rw [hg0] at hK hbd ⊢
      rw [hf] at hK
      simp (maxSteps := 1000000) (disch := omega) only [hid1', hid2', guardK_u, takeG_u, wrap_in64, optK_some', fzK_false', nilK_ptr, brK_true', brK_false', guardK_tt', guardK_ff', guardK_tf', guardK_ft', takeG_tt', takeG_ff', takeG_tf', takeG_ft', pickK_t', pickK_f', pickT_t', pickT_f', notK, extract2_0', extract2_1', extract3_0', extract3_1', extract3_2', here_load, here_fieldAt, here_indexAt, here_extract, here_un, here_conv, here_slice, here_bin, here_nil, and_here, true_and, Nat.zero_add, Nat.add_assoc, Nat.add_zero, Int.toNat_natCast, size_alloc, World.cell?_drew, World.frozen?_drew, Bool.not_true, Bool.not_false, Int.toNat_zero, dec_t, dec_f, int_eq_t, int_eq_f, int_ne_t, int_ne_f, wrap_in, kblss3, kbgeq3, kbgeq2, kbadd2, kfa52_0, kld49, hc2]
      refine ck22 (SI.len_any h2.2.1 ?_)
      by_cases h256 : 256 ≤ m.length
      · rw [if_pos (.inl ⟨rfl, h256⟩)] at hK
        simp (maxSteps := 1000000) (disch := omega) only [hid1', hid2', guardK_u, takeG_u, wrap_in64, optK_some', fzK_false', nilK_ptr, brK_true', brK_false', guardK_tt', guardK_ff', guardK_tf', guardK_ft', takeG_tt', takeG_ff', takeG_tf', takeG_ft', pickK_t', pickK_f', pickT_t', pickT_f', notK, extract2_0', extract2_1', extract3_0', extract3_1', extract3_2', here_load, here_fieldAt, here_indexAt, here_extract, here_un, here_conv, here_slice, here_bin, here_nil, and_here, true_and, Nat.zero_add, Nat.add_assoc, Nat.add_zero, Int.toNat_natCast, size_alloc, World.cell?_drew, World.frozen?_drew, Bool.not_true, Bool.not_false, Int.toNat_zero, dec_t, dec_f, int_eq_t, int_eq_f, int_ne_t, int_ne_f, wrap_in, kblss3, kbgeq3, kbgeq2, kbadd2, kfa52_0, kld49, guardK_u]
        exact hK F w2 h2 q12' (fun q hq => .inl hq)
      · rw [if_neg (by omega)] at hK
        simp (maxSteps := 1000000) (disch := omega) only [hid1', hid2', guardK_u, takeG_u, wrap_in64, optK_some', fzK_false', nilK_ptr, brK_true', brK_false', guardK_tt', guardK_ff', guardK_tf', guardK_ft', takeG_tt', takeG_ff', takeG_tf', takeG_ft', pickK_t', pickK_f', pickT_t', pickT_f', notK, extract2_0', extract2_1', extract3_0', extract3_1', extract3_2', here_load, here_fieldAt, here_indexAt, here_extract, here_un, here_conv, here_slice, here_bin, here_nil, and_here, true_and, Nat.zero_add, Nat.add_assoc, Nat.add_zero, Int.toNat_natCast, size_alloc, World.cell?_drew, World.frozen?_drew, Bool.not_true, Bool.not_false, Int.toNat_zero, dec_t, dec_f, int_eq_t, int_eq_f, int_ne_t, int_ne_f, wrap_in, kblss3, kbgeq3, kbgeq2, kbadd2, kfa52_0, kld49, hc2]
        refine ck23 (SI.put_any h2.2.1 (by omega) ?_)
        intro F' w3 h3 k3 f3
        simp (maxSteps := 1000000) (disch := omega) only [hid1', hid2', guardK_u, takeG_u, wrap_in64, optK_some', fzK_false', nilK_ptr, brK_true', brK_false', guardK_tt', guardK_ff', guardK_tf', guardK_ft', takeG_tt', takeG_ff', takeG_tf', takeG_ft', pickK_t', pickK_f', pickT_t', pickT_f', notK, extract2_0', extract2_1', extract3_0', extract3_1', extract3_2', here_load, here_fieldAt, here_indexAt, here_extract, here_un, here_conv, here_slice, here_bin, here_nil, and_here, true_and, Nat.zero_add, Nat.add_assoc, Nat.add_zero, Int.toNat_natCast, size_alloc, World.cell?_drew, World.frozen?_drew, Bool.not_true, Bool.not_false, Int.toNat_zero, dec_t, dec_f, int_eq_t, int_eq_f, int_ne_t, int_ne_f, wrap_in, kblss3, kbgeq3, kbgeq2, kbadd2, kfa52_0, kld49]
        refine hK F' w3 ⟨k3.heap h2.1 ?_, h3, h.2.2.1, ?_⟩ (q12'.trans k3) (fun q hq => ?_)
        · rintro (e | e)
          · exact h.2.2.1 e
          · exact h.2.2.2 e
        · intro e
          rcases f3 x e with e | e
          · exact h.2.2.2 e
          · have := blk_lt h2.1; omega
        · rcases f3 q hq with e | e
          · exact .inl e
          · right; omega
    | true =>
      rw [hf] at hK
      generalize getN m p = n at *
      by_cases hbig : 1000000000 ≤ n
      · rw [if_pos (.inr hbig)] at hK
        simp (maxSteps := 1000000) (disch := omega) only [hid1', hid2', guardK_u, takeG_u, wrap_in64, optK_some', fzK_false', nilK_ptr, brK_true', brK_false', guardK_tt', guardK_ff', guardK_tf', guardK_ft', takeG_tt', takeG_ff', takeG_tf', takeG_ft', pickK_t', pickK_f', pickT_t', pickT_f', notK, extract2_0', extract2_1', extract3_0', extract3_1', extract3_2', here_load, here_fieldAt, here_indexAt, here_extract, here_un, here_conv, here_slice, here_bin, here_nil, and_here, true_and, Nat.zero_add, Nat.add_assoc, Nat.add_zero, Int.toNat_natCast, size_alloc, World.cell?_drew, World.frozen?_drew, Bool.not_true, Bool.not_false, Int.toNat_zero, dec_t, dec_f, int_eq_t, int_eq_f, int_ne_t, int_ne_f, wrap_in, kblss3, kbgeq3, kbgeq2, kbadd2, kfa52_0, kld49, guardK_u]
        exact hK F w2 h2 q12' (fun q hq => .inl hq)
      · rw [if_neg (by
          intro e
          rcases e with e | e
          · cases e.1
          · omega)] at hK
        simp (maxSteps := 1000000) (disch := omega) only [hid1', hid2', guardK_u, takeG_u, wrap_in64, optK_some', fzK_false', nilK_ptr, brK_true', brK_false', guardK_tt', guardK_ff', guardK_tf', guardK_ft', takeG_tt', takeG_ff', takeG_tf', takeG_ft', pickK_t', pickK_f', pickT_t', pickT_f', notK, extract2_0', extract2_1', extract3_0', extract3_1', extract3_2', here_load, here_fieldAt, here_indexAt, here_extract, here_un, here_conv, here_slice, here_bin, here_nil, and_here, true_and, Nat.zero_add, Nat.add_assoc, Nat.add_zero, Int.toNat_natCast, size_alloc, World.cell?_drew, World.frozen?_drew, Bool.not_true, Bool.not_false, Int.toNat_zero, dec_t, dec_f, int_eq_t, int_eq_f, int_ne_t, int_ne_f, wrap_in, kblss3, kbgeq3, kbgeq2, kbadd2, kfa52_0, kld49, hc2, guardK_u]
        refine ck23 (SI.put_any h2.2.1 (by omega) ?_)
        intro F' w3 h3 k3 f3
        simp (maxSteps := 1000000) (disch := omega) only [hid1', hid2', guardK_u, takeG_u, wrap_in64, optK_some', fzK_false', nilK_ptr, brK_true', brK_false', guardK_tt', guardK_ff', guardK_tf', guardK_ft', takeG_tt', takeG_ff', takeG_tf', takeG_ft', pickK_t', pickK_f', pickT_t', pickT_f', notK, extract2_0', extract2_1', extract3_0', extract3_1', extract3_2', here_load, here_fieldAt, here_indexAt, here_extract, here_un, here_conv, here_slice, here_bin, here_nil, and_here, true_and, Nat.zero_add, Nat.add_assoc, Nat.add_zero, Int.toNat_natCast, size_alloc, World.cell?_drew, World.frozen?_drew, Bool.not_true, Bool.not_false, Int.toNat_zero, dec_t, dec_f, int_eq_t, int_eq_f, int_ne_t, int_ne_f, wrap_in, kblss3, kbgeq3, kbgeq2, kbadd2, kfa52_0, kld49]
        refine hK F' w3 ⟨k3.heap h2.1 ?_, h3, h.2.2.1, ?_⟩ (q12'.trans k3) (fun q hq => ?_)
        · rintro (e | e)
          · exact h.2.2.1 e
          · exact h.2.2.2 e
        · intro e
          rcases f3 x e with e | e
          · exact h.2.2.2 e
          · have := blk_lt h2.1; omega
        · rcases f3 q hq with e | e
          · exact .inl e
          · right; omega
theorem of_lives {w : World} {x g : Nat} {m : LM} {F : Option Nat} {p : ByteArray} {K : Value → World → Prop} (h : LivesAt w x g m F)
    (hK : ∀ w', Qt w w' → K (.int .i64 (getN m p)) w') : CallK Tryd.prog 14 #[.pointer (some ⟨x, 0, none⟩), .string p] K w := by
  refine F14_calls _ _ _ _ ?_; unfold F14
  have hc := h.cell
  simp (maxSteps := 1000000) (disch := omega) only [hid1', hid2', guardK_u, takeG_u, wrap_in64, optK_some', fzK_false', nilK_ptr, brK_true', brK_false', guardK_tt', guardK_ff', guardK_tf', guardK_ft', takeG_tt', takeG_ff', takeG_tf', takeG_ft', pickK_t', pickK_f', pickT_t', pickT_f', notK, extract2_0', extract2_1', extract3_0', extract3_1', extract3_2', here_load, here_fieldAt, here_indexAt, here_extract, here_un, here_conv, here_slice, here_bin, here_nil, and_here, true_and, Nat.zero_add, Nat.add_assoc, Nat.add_zero, Int.toNat_natCast, size_alloc, World.cell?_drew, World.frozen?_drew, Bool.not_true, Bool.not_false, Int.toNat_zero, dec_t, dec_f, int_eq_t, int_eq_f, int_ne_t, int_ne_f, wrap_in, kfa52_0, kld49, hc]
  refine ck21 (SI.get_any h.2.1 ?_)
  intro w' q
  simp (maxSteps := 1000000) (disch := omega) only [hid1', hid2', guardK_u, takeG_u, wrap_in64, optK_some', fzK_false', nilK_ptr, brK_true', brK_false', guardK_tt', guardK_ff', guardK_tf', guardK_ft', takeG_tt', takeG_ff', takeG_tf', takeG_ft', pickK_t', pickK_f', pickT_t', pickT_f', notK, extract2_0', extract2_1', extract3_0', extract3_1', extract3_2', here_load, here_fieldAt, here_indexAt, here_extract, here_un, here_conv, here_slice, here_bin, here_nil, and_here, true_and, Nat.zero_add, Nat.add_assoc, Nat.add_zero, Int.toNat_natCast, size_alloc, World.cell?_drew, World.frozen?_drew, Bool.not_true, Bool.not_false, Int.toNat_zero, dec_t, dec_f, int_eq_t, int_eq_f, int_ne_t, int_ne_f, wrap_in, kfa52_0, kld49]
  exact hK w' q
end Go.Proofs.YtpdhmbbmhomlnaaDoor

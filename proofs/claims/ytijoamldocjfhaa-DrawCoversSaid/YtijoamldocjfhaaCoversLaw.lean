/- DrawCovers' walk. Conditions: the row reads as numbers. -/
import Derived.Test.YtijoamldocjfhaaTurns
import Derived.Test.YtijoamldocjfhaaL4
set_option linter.unusedVariables false
set_option linter.unusedSimpArgs false
namespace Go.Proofs.Ytijoamldocjfhaa
open Go.RowKit Go.Cn
theorem Try.info4 : (Try.prog.info? 4).map (fun i => (i.zero, i.size, i.bytes)) = some (some (.bool false), 1, 1) := by kernel_rfl
theorem tyBool : ElemTy Try.prog 32 4 (.bool false) 1 1 := ElemTy.mk' Try.underlying32 Try.info4 rfl (by decide)
def seenL (k : Nat) (ks : List Nat) : List Value := (List.range k).map fun i => Value.bool (decide (i ∈ ks))
theorem seenL_nil (k : Nat) : seenL k [] = List.replicate k (.bool false) := by
  apply List.ext_getElem
  · simp [seenL]
  · intro i h1 h2; simp [seenL]
theorem seenL_len (k : Nat) (ks : List Nat) : (seenL k ks).length = k := by simp [seenL]
theorem seenL_set (k : Nat) (ks : List Nat) (p : Nat) (hp : p < k) : (seenL k ks).set p (.bool true) = seenL k (if p ∈ ks then ks else ks ++ [p]) := by
  by_cases hm : p ∈ ks
  · rw [if_pos hm]
    apply List.ext_getElem
    · simp [seenL]
    · intro i h1 h2
      simp only [List.getElem_set]
      by_cases hpi : p = i
      · subst hpi; simp [seenL, hm]
      · rw [if_neg hpi]
  · rw [if_neg hm]
    apply List.ext_getElem
    · simp [seenL]
    · intro i h1 h2
      simp only [List.getElem_set]
      by_cases hpi : p = i
      · subst hpi; simp [seenL, hm]
      · rw [if_neg hpi]
        have : i ≠ p := fun h => hpi h.symm
        simp [seenL, this]
theorem seenL_get (k : Nat) (ks : List Nat) (p : Nat) (hp : p < k) : (seenL k ks)[p]? = some (.bool (decide (p ∈ ks))) := by simp [seenL, hp]
theorem covers_len {m n : Nat} {ds : List Int} {B : Option Addr} {c : Nat} {w : World} {K : Value → World → Prop} (hm : m = ds.length) (hn : 0 < n) (hn2 : n ≤ 9223372036854775807) (hd : Reads w B (ds.map (Value.int .i64))) (hdl : ds.length ≤ 9223372036854775807) (hdb : ∀ x ∈ ds, x ≤ 9223372036854775807)
    (hK : ∀ w', Qt w w' → K (.bool (decide (n ≤ (taken n ds []).length))) w') : CallK Try.prog 13 #[.int .i64 n, .slice B m c] K w := by
  subst hm
  exact covers_pos hn hn2 hd hdl hdb hK
theorem turnsL_le (k : Nat) (hk : 0 < k) (hk2 : k ≤ 9223372036854775807) (j : Nat) : ∀ x ∈ turnsL k j, x ≤ 9223372036854775807 := by
  intro x hx
  simp only [turnsL, List.mem_map] at hx
  obtain ⟨i, _, rfl⟩ := hx
  rw [if_neg (by omega)]
  have := Int.emod_lt_of_pos (i : Int) (show (0 : Int) < k by omega)
  omega
/-- Numbers below k, each once: at most k. -/
theorem once_le : ∀ (k : Nat) (l : List Nat), l.Nodup → (∀ x ∈ l, x < k) → l.length ≤ k
  | 0, l, _, h => by
    cases l with
    | nil => simp
    | cons a t => exact absurd (h a List.mem_cons_self) (by omega)
  | k + 1, l, hn, h => by
    have h1 := once_le k (l.erase k) (hn.erase k) (fun x hx => by
      have := (hn.mem_erase_iff).1 hx
      have := h x this.2
      omega)
    have := List.length_erase_le (a := k) (l := l)
    have h2 : l.length ≤ (l.erase k).length + 1 := by rw [List.length_erase]; split <;> omega
    omega
theorem taken_good (k : Nat) (hk : 0 < k) : ∀ (ds : List Int) (ks : List Nat), ks.Nodup → (∀ x ∈ ks, x < k) → (taken k ds ks).Nodup ∧ ∀ x ∈ taken k ds ks, x < k
  | [], ks, h1, h2 => ⟨h1, h2⟩
  | d :: ds, ks, h1, h2 => by
    rw [taken]
    by_cases hm : place d k ∈ ks
    · rw [if_pos hm]; exact taken_good k hk ds ks h1 h2
    · rw [if_neg hm]
      refine taken_good k hk ds _ ?_ ?_
      · rw [List.nodup_append]
        refine ⟨h1, by simp, ?_⟩
        intro a ha b hb
        simp at hb
        subst hb
        intro h; subst h; exact hm ha
      · intro x hx
        rcases List.mem_append.1 hx with h | h
        · exact h2 x h
        · simp at h; subst h; exact place_lt d hk
theorem taken_snoc (k : Nat) (d : Int) : ∀ (ds : List Int) (ks : List Nat), taken k (ds ++ [d]) ks = if place d k ∈ taken k ds ks then taken k ds ks else taken k ds ks ++ [place d k]
  | [], ks => by rfl
  | a :: ds, ks => by rw [List.cons_append, taken, taken_snoc k d ds, taken]
theorem taken_turns (k : Nat) (hk : 0 < k) : ∀ j : Nat, j ≤ k → taken k (turnsL k j) [] = List.range j
  | 0, _ => rfl
  | j + 1, hj => by
    have e : turnsL k (j + 1) = turnsL k j ++ [(j : Int) % (if (k : Int) < 1 then 1 else (k : Int))] := by simp [turnsL, List.range_succ]
    rw [e, taken_snoc, taken_turns k hk j (by omega), if_neg (show ¬ (k : Int) < 1 by omega)]
    have hp : place ((j : Int) % (k : Int)) k = j := by
      rw [Int.emod_eq_of_lt (by omega) (by omega)]
      unfold place
      rw [if_neg (by omega), Int.emod_eq_of_lt (by omega) (by omega)]
      omega
    rw [hp, if_neg (by simp), List.range_succ]
theorem turnsN_nat (j : Nat) (h : j ≤ 4096) : turnsN (j : Int) = j := by unfold turnsN; split <;> split <;> omega
set_option maxHeartbeats 2000000 in
theorem drawCovers_walk (n : Int) (B : Option Addr) (cap : Nat) (ds : List Int) (w : World) (hn0 : -9223372036854775808 ≤ n) (hn1 : n ≤ 9223372036854775807)
    (g2 : ds.length ≤ cap) (m2 : cap ≤ 9223372036854775807) (r2 : RRow 1 (RInt .i64) w B ds) :
    Calls Try.prog 4 #[.int .i64 n, .slice B ds.length cap] w fun e w' => e = .returned (.bool true) ∧ Below w.heap.size w w' := by
  have hB := Reads.of_row rint_one r2
  have hdb : ∀ x ∈ ds, x ≤ 9223372036854775807 := by
    intro x hx
    obtain ⟨i, hi, rfl⟩ := List.mem_iff_getElem.1 hx
    obtain ⟨cs, h⟩ := r2.elem hi
    exact (Go.bounds_i64 h.2).2
  clear r2
  refine callK_ret fun R hR => ?_
  refine F4_calls _ _ _ _ ?_; unfold F4
  refine cv7 (known_any w) ?_
  intro w1 q1
  replace hB := hB.quiet q1
  simp (maxSteps := 1000000) (disch := omega) only [hid1, hid2, optK_some, fzK_false, nilK_ptr, brK_true, brK_false, guardK_tt, guardK_ff, guardK_tf, guardK_ft, takeG_tt, takeG_ff, takeG_tf, takeG_ft, pickK_t, pickK_f, pickT_t, pickT_f, notK, extract2_0, extract2_1, extract3_0, extract3_1, extract3_2, here_load, here_fieldAt, here_indexAt, here_extract, here_un, here_conv, here_slice, here_bin, here_nil, and_here, true_and, Nat.zero_add, Nat.add_assoc, Nat.add_zero, Int.toNat_natCast, size_alloc, World.cell?_drew, World.frozen?_drew, Bool.not_true, Bool.not_false, dec_t, dec_f, int_eq_t, int_eq_f, int_ne_t, int_ne_f, wrap_in, klen23, hlen23, kbgtr3, kbs22_0, kbneq9, kbneq4, klen22, hlen22, kblss3, kia23, kld2, kbgtr2, kbrem2, kia22, kld9, kbs22_1_0, ksl22_010, kbadd3, ksl22_100, kblss2, kia32, kld4, kbsub3, kst4, kbeql3, kbeql4, kbneq3, kbgeq3, kbrem3, kbneq2, kbeql9, kbs22_3_0_1_2, kbs23_2_0_1, kbeql2, klen9, hlen9, kmax3_ft, kmin3_ft, kbs23_1_0, kbeql22n, kbeql22z, kmax2_ft, ksl22_111, ksl22_110, ksl22_011, ksl22_011z, ksl23_011, ksl23_011z]
  by_cases h100 : 100 < n
  · simp (maxSteps := 1000000) (disch := omega) only [hid1, hid2, optK_some, fzK_false, nilK_ptr, brK_true, brK_false, guardK_tt, guardK_ff, guardK_tf, guardK_ft, takeG_tt, takeG_ff, takeG_tf, takeG_ft, pickK_t, pickK_f, pickT_t, pickT_f, notK, extract2_0, extract2_1, extract3_0, extract3_1, extract3_2, here_load, here_fieldAt, here_indexAt, here_extract, here_un, here_conv, here_slice, here_bin, here_nil, and_here, true_and, Nat.zero_add, Nat.add_assoc, Nat.add_zero, Int.toNat_natCast, size_alloc, World.cell?_drew, World.frozen?_drew, Bool.not_true, Bool.not_false, dec_t, dec_f, int_eq_t, int_eq_f, int_ne_t, int_ne_f, wrap_in, klen23, hlen23, kbgtr3, kbs22_0, kbneq9, kbneq4, klen22, hlen22, kblss3, kia23, kld2, kbgtr2, kbrem2, kia22, kld9, kbs22_1_0, ksl22_010, kbadd3, ksl22_100, kblss2, kia32, kld4, kbsub3, kst4, kbeql3, kbeql4, kbneq3, kbgeq3, kbrem3, kbneq2, kbeql9, kbs22_3_0_1_2, kbs23_2_0_1, kbeql2, klen9, hlen9, kmax3_ft, kmin3_ft, kbs23_1_0, kbeql22n, kbeql22z, kmax2_ft, ksl22_111, ksl22_110, ksl22_011, ksl22_011z, ksl23_011, ksl23_011z]
    exact hR _ (Qt.below q1)
  by_cases h200 : 200 < ds.length
  · simp (maxSteps := 1000000) (disch := omega) only [hid1, hid2, optK_some, fzK_false, nilK_ptr, brK_true, brK_false, guardK_tt, guardK_ff, guardK_tf, guardK_ft, takeG_tt, takeG_ff, takeG_tf, takeG_ft, pickK_t, pickK_f, pickT_t, pickT_f, notK, extract2_0, extract2_1, extract3_0, extract3_1, extract3_2, here_load, here_fieldAt, here_indexAt, here_extract, here_un, here_conv, here_slice, here_bin, here_nil, and_here, true_and, Nat.zero_add, Nat.add_assoc, Nat.add_zero, Int.toNat_natCast, size_alloc, World.cell?_drew, World.frozen?_drew, Bool.not_true, Bool.not_false, dec_t, dec_f, int_eq_t, int_eq_f, int_ne_t, int_ne_f, wrap_in, klen23, hlen23, kbgtr3, kbs22_0, kbneq9, kbneq4, klen22, hlen22, kblss3, kia23, kld2, kbgtr2, kbrem2, kia22, kld9, kbs22_1_0, ksl22_010, kbadd3, ksl22_100, kblss2, kia32, kld4, kbsub3, kst4, kbeql3, kbeql4, kbneq3, kbgeq3, kbrem3, kbneq2, kbeql9, kbs22_3_0_1_2, kbs23_2_0_1, kbeql2, klen9, hlen9, kmax3_ft, kmin3_ft, kbs23_1_0, kbeql22n, kbeql22z, kmax2_ft, ksl22_111, ksl22_110, ksl22_011, ksl22_011z, ksl23_011, ksl23_011z]
    exact hR _ (Qt.below q1)
  simp (maxSteps := 1000000) (disch := omega) only [hid1, hid2, optK_some, fzK_false, nilK_ptr, brK_true, brK_false, guardK_tt, guardK_ff, guardK_tf, guardK_ft, takeG_tt, takeG_ff, takeG_tf, takeG_ft, pickK_t, pickK_f, pickT_t, pickT_f, notK, extract2_0, extract2_1, extract3_0, extract3_1, extract3_2, here_load, here_fieldAt, here_indexAt, here_extract, here_un, here_conv, here_slice, here_bin, here_nil, and_here, true_and, Nat.zero_add, Nat.add_assoc, Nat.add_zero, Int.toNat_natCast, size_alloc, World.cell?_drew, World.frozen?_drew, Bool.not_true, Bool.not_false, dec_t, dec_f, int_eq_t, int_eq_f, int_ne_t, int_ne_f, wrap_in, klen23, hlen23, kbgtr3, kbs22_0, kbneq9, kbneq4, klen22, hlen22, kblss3, kia23, kld2, kbgtr2, kbrem2, kia22, kld9, kbs22_1_0, ksl22_010, kbadd3, ksl22_100, kblss2, kia32, kld4, kbsub3, kst4, kbeql3, kbeql4, kbneq3, kbgeq3, kbrem3, kbneq2, kbeql9, kbs22_3_0_1_2, kbs23_2_0_1, kbeql2, klen9, hlen9, kmax3_ft, kmin3_ft, kbs23_1_0, kbeql22n, kbeql22z, kmax2_ft, ksl22_111, ksl22_110, ksl22_011, ksl22_011z, ksl23_011, ksl23_011z]
  by_cases hn : n < 1
  · refine ck13 (covers_nonpos hn hB (by omega) ?_)
    intro w2 q2
    simp (maxSteps := 1000000) (disch := omega) only [hid1, hid2, optK_some, fzK_false, nilK_ptr, brK_true, brK_false, guardK_tt, guardK_ff, guardK_tf, guardK_ft, takeG_tt, takeG_ff, takeG_tf, takeG_ft, pickK_t, pickK_f, pickT_t, pickT_f, notK, extract2_0, extract2_1, extract3_0, extract3_1, extract3_2, here_load, here_fieldAt, here_indexAt, here_extract, here_un, here_conv, here_slice, here_bin, here_nil, and_here, true_and, Nat.zero_add, Nat.add_assoc, Nat.add_zero, Int.toNat_natCast, size_alloc, World.cell?_drew, World.frozen?_drew, Bool.not_true, Bool.not_false, dec_t, dec_f, int_eq_t, int_eq_f, int_ne_t, int_ne_f, wrap_in, klen23, hlen23, kbgtr3, kbs22_0, kbneq9, kbneq4, klen22, hlen22, kblss3, kia23, kld2, kbgtr2, kbrem2, kia22, kld9, kbs22_1_0, ksl22_010, kbadd3, ksl22_100, kblss2, kia32, kld4, kbsub3, kst4, kbeql3, kbeql4, kbneq3, kbgeq3, kbrem3, kbneq2, kbeql9, kbs22_3_0_1_2, kbs23_2_0_1, kbeql2, klen9, hlen9, kmax3_ft, kmin3_ft, kbs23_1_0, kbeql22n, kbeql22z, kmax2_ft, ksl22_111, ksl22_110, ksl22_011, ksl22_011z, ksl23_011, ksl23_011z]
    exact hR _ (Qt.below (q1.trans q2))
  obtain ⟨k, rfl⟩ := Int.eq_ofNat_of_zero_le (show 0 ≤ n by omega)
  refine ck13 (covers_pos (n := k) (by omega) (by omega) hB (by omega) hdb ?_)
  intro w2 q2
  have htg := taken_good k (by omega) ds [] (by simp) (by simp)
  have htl := once_le k _ htg.1 htg.2
  replace hB := hB.quiet q2
  have q12 := q1.trans q2
  simp (maxSteps := 1000000) (disch := omega) only [hid1, hid2, optK_some, fzK_false, nilK_ptr, brK_true, brK_false, guardK_tt, guardK_ff, guardK_tf, guardK_ft, takeG_tt, takeG_ff, takeG_tf, takeG_ft, pickK_t, pickK_f, pickT_t, pickT_f, notK, extract2_0, extract2_1, extract3_0, extract3_1, extract3_2, here_load, here_fieldAt, here_indexAt, here_extract, here_un, here_conv, here_slice, here_bin, here_nil, and_here, true_and, Nat.zero_add, Nat.add_assoc, Nat.add_zero, Int.toNat_natCast, size_alloc, World.cell?_drew, World.frozen?_drew, Bool.not_true, Bool.not_false, dec_t, dec_f, int_eq_t, int_eq_f, int_ne_t, int_ne_f, wrap_in, klen23, hlen23, kbgtr3, kbs22_0, kbneq9, kbneq4, klen22, hlen22, kblss3, kia23, kld2, kbgtr2, kbrem2, kia22, kld9, kbs22_1_0, ksl22_010, kbadd3, ksl22_100, kblss2, kia32, kld4, kbsub3, kst4, kbeql3, kbeql4, kbneq3, kbgeq3, kbrem3, kbneq2, kbeql9, kbs22_3_0_1_2, kbs23_2_0_1, kbeql2, klen9, hlen9, kmax3_ft, kmin3_ft, kbs23_1_0, kbeql22n, kbeql22z, kmax2_ft, ksl22_111, ksl22_110, ksl22_011, ksl22_011z, ksl23_011, ksl23_011z]
  refine makeK tyBool rfl k (by omega) (by omega) ?_
  intro w3 hrow q3
  rw [← seenL_nil] at hrow
  have hg : w.heap.size ≤ w2.heap.size := q12.size
  have hBg : 0 < ds.length → ∀ ad, B = some ad → ad.block < w2.heap.size := by
    intro h ad e
    obtain ⟨g, o, rfl, hc⟩ := hB.all h
    cases e
    exact World.block_lt_of_cell? _ _ (hc 0 h)
  generalize w2.heap.size = g at *
  simp (maxSteps := 1000000) (disch := omega) only [hid1, hid2, optK_some, fzK_false, nilK_ptr, brK_true, brK_false, guardK_tt, guardK_ff, guardK_tf, guardK_ft, takeG_tt, takeG_ff, takeG_tf, takeG_ft, pickK_t, pickK_f, pickT_t, pickT_f, notK, extract2_0, extract2_1, extract3_0, extract3_1, extract3_2, here_load, here_fieldAt, here_indexAt, here_extract, here_un, here_conv, here_slice, here_bin, here_nil, and_here, true_and, Nat.zero_add, Nat.add_assoc, Nat.add_zero, Int.toNat_natCast, size_alloc, World.cell?_drew, World.frozen?_drew, Bool.not_true, Bool.not_false, dec_t, dec_f, int_eq_t, int_eq_f, int_ne_t, int_ne_f, wrap_in, klen23, hlen23, kbgtr3, kbs22_0, kbneq9, kbneq4, klen22, hlen22, kblss3, kia23, kld2, kbgtr2, kbrem2, kia22, kld9, kbs22_1_0, ksl22_010, kbadd3, ksl22_100, kblss2, kia32, kld4, kbsub3, kst4, kbeql3, kbeql4, kbneq3, kbgeq3, kbrem3, kbneq2, kbeql9, kbs22_3_0_1_2, kbs23_2_0_1, kbeql2, klen9, hlen9, kmax3_ft, kmin3_ft, kbs23_1_0, kbeql22n, kbeql22z, kmax2_ft, ksl22_111, ksl22_110, ksl22_011, ksl22_011z, ksl23_011, ksl23_011z]
  refine loopK2 (fun lf v w' => ∃ (i : Nat) (ks : List Nat), v = .int .i64 i ∧ i ≤ ds.length ∧ ks.length ≤ i ∧ lf = .int .i64 ((k : Int) - ks.length) ∧ RowAt w' 4 1 g k k (seenL k ks) ∧ Chg (fun j => j = g) w3 w' ∧ taken k (ds.drop i) ks = taken k ds []) (fun _ v _ => ds.length - (intOf v).toNat) ⟨0, [], rfl, by omega, by simp, by simp, hrow, Chg.refl _ _, rfl⟩ ?_
  rintro _ _ _ w' ⟨i, ks, rfl, hi, hki, rfl, hrow', hc, htk⟩
  by_cases hlt : i < ds.length
  · have hB' := (hB.quiet q3).chg hc (fun ad e h => by have := hBg (by omega) ad e; omega)
    obtain ⟨b, o, rfl, hcell⟩ := hB'.get hlt
    have hx : ds.getD i default ≤ 9223372036854775807 := hdb _ (by rw [List.getD_eq_getElem?_getD, List.getElem?_eq_getElem hlt]; exact List.getElem_mem hlt)
    have hst := taken_step k (ds.getD i default) ds i hlt (by simp [hlt]) ks
    generalize ds.getD i default = x at *
    simp (maxSteps := 1000000) (disch := omega) only [hid1, hid2, optK_some, fzK_false, nilK_ptr, brK_true, brK_false, guardK_tt, guardK_ff, guardK_tf, guardK_ft, takeG_tt, takeG_ff, takeG_tf, takeG_ft, pickK_t, pickK_f, pickT_t, pickT_f, notK, extract2_0, extract2_1, extract3_0, extract3_1, extract3_2, here_load, here_fieldAt, here_indexAt, here_extract, here_un, here_conv, here_slice, here_bin, here_nil, and_here, true_and, Nat.zero_add, Nat.add_assoc, Nat.add_zero, Int.toNat_natCast, size_alloc, World.cell?_drew, World.frozen?_drew, Bool.not_true, Bool.not_false, dec_t, dec_f, int_eq_t, int_eq_f, int_ne_t, int_ne_f, wrap_in, klen23, hlen23, kbgtr3, kbs22_0, kbneq9, kbneq4, klen22, hlen22, kblss3, kia23, kld2, kbgtr2, kbrem2, kia22, kld9, kbs22_1_0, ksl22_010, kbadd3, ksl22_100, kblss2, kia32, kld4, kbsub3, kst4, kbeql3, kbeql4, kbneq3, kbgeq3, kbrem3, kbneq2, kbeql9, kbs22_3_0_1_2, kbs23_2_0_1, kbeql2, klen9, hlen9, kmax3_ft, kmin3_ft, kbs23_1_0, kbeql22n, kbeql22z, kmax2_ft, ksl22_111, ksl22_110, ksl22_011, ksl22_011z, ksl23_011, ksl23_011z, hcell]
    refine cutK1 (fun v w'' => v = .int .i64 (if x < 0 then 0 else x) ∧ w'' = w') ?_ ?_
    · by_cases h : x < 0
      · rw [if_pos h]
        simp (maxSteps := 1000000) (disch := omega) only [hid1, hid2, optK_some, fzK_false, nilK_ptr, brK_true, brK_false, guardK_tt, guardK_ff, guardK_tf, guardK_ft, takeG_tt, takeG_ff, takeG_tf, takeG_ft, pickK_t, pickK_f, pickT_t, pickT_f, notK, extract2_0, extract2_1, extract3_0, extract3_1, extract3_2, here_load, here_fieldAt, here_indexAt, here_extract, here_un, here_conv, here_slice, here_bin, here_nil, and_here, true_and, Nat.zero_add, Nat.add_assoc, Nat.add_zero, Int.toNat_natCast, size_alloc, World.cell?_drew, World.frozen?_drew, Bool.not_true, Bool.not_false, dec_t, dec_f, int_eq_t, int_eq_f, int_ne_t, int_ne_f, wrap_in, klen23, hlen23, kbgtr3, kbs22_0, kbneq9, kbneq4, klen22, hlen22, kblss3, kia23, kld2, kbgtr2, kbrem2, kia22, kld9, kbs22_1_0, ksl22_010, kbadd3, ksl22_100, kblss2, kia32, kld4, kbsub3, kst4, kbeql3, kbeql4, kbneq3, kbgeq3, kbrem3, kbneq2, kbeql9, kbs22_3_0_1_2, kbs23_2_0_1, kbeql2, klen9, hlen9, kmax3_ft, kmin3_ft, kbs23_1_0, kbeql22n, kbeql22z, kmax2_ft, ksl22_111, ksl22_110, ksl22_011, ksl22_011z, ksl23_011, ksl23_011z]
        exact ⟨rfl, rfl⟩
      · rw [if_neg h]
        simp (maxSteps := 1000000) (disch := omega) only [hid1, hid2, optK_some, fzK_false, nilK_ptr, brK_true, brK_false, guardK_tt, guardK_ff, guardK_tf, guardK_ft, takeG_tt, takeG_ff, takeG_tf, takeG_ft, pickK_t, pickK_f, pickT_t, pickT_f, notK, extract2_0, extract2_1, extract3_0, extract3_1, extract3_2, here_load, here_fieldAt, here_indexAt, here_extract, here_un, here_conv, here_slice, here_bin, here_nil, and_here, true_and, Nat.zero_add, Nat.add_assoc, Nat.add_zero, Int.toNat_natCast, size_alloc, World.cell?_drew, World.frozen?_drew, Bool.not_true, Bool.not_false, dec_t, dec_f, int_eq_t, int_eq_f, int_ne_t, int_ne_f, wrap_in, klen23, hlen23, kbgtr3, kbs22_0, kbneq9, kbneq4, klen22, hlen22, kblss3, kia23, kld2, kbgtr2, kbrem2, kia22, kld9, kbs22_1_0, ksl22_010, kbadd3, ksl22_100, kblss2, kia32, kld4, kbsub3, kst4, kbeql3, kbeql4, kbneq3, kbgeq3, kbrem3, kbneq2, kbeql9, kbs22_3_0_1_2, kbs23_2_0_1, kbeql2, klen9, hlen9, kmax3_ft, kmin3_ft, kbs23_1_0, kbeql22n, kbeql22z, kmax2_ft, ksl22_111, ksl22_110, ksl22_011, ksl22_011z, ksl23_011, ksl23_011z]
        exact ⟨rfl, rfl⟩
    rintro _ _ w4 ⟨rfl, hw⟩
    obtain rfl : w4 = w' := hw
    have h : (if x < 0 then 0 else x) ≤ 9223372036854775807 ∧ 0 ≤ (if x < 0 then 0 else x) := by split <;> omega
    have hpe := place_eq x (show 0 < k by omega)
    have hp := place_lt x (show 0 < k by omega)
    generalize place x k = p at *
    simp (maxSteps := 1000000) (disch := omega) only [hid1, hid2, optK_some, fzK_false, nilK_ptr, brK_true, brK_false, guardK_tt, guardK_ff, guardK_tf, guardK_ft, takeG_tt, takeG_ff, takeG_tf, takeG_ft, pickK_t, pickK_f, pickT_t, pickT_f, notK, extract2_0, extract2_1, extract3_0, extract3_1, extract3_2, here_load, here_fieldAt, here_indexAt, here_extract, here_un, here_conv, here_slice, here_bin, here_nil, and_here, true_and, Nat.zero_add, Nat.add_assoc, Nat.add_zero, Int.toNat_natCast, size_alloc, World.cell?_drew, World.frozen?_drew, Bool.not_true, Bool.not_false, dec_t, dec_f, int_eq_t, int_eq_f, int_ne_t, int_ne_f, wrap_in, klen23, hlen23, kbgtr3, kbs22_0, kbneq9, kbneq4, klen22, hlen22, kblss3, kia23, kld2, kbgtr2, kbrem2, kia22, kld9, kbs22_1_0, ksl22_010, kbadd3, ksl22_100, kblss2, kia32, kld4, kbsub3, kst4, kbeql3, kbeql4, kbneq3, kbgeq3, kbrem3, kbneq2, kbeql9, kbs22_3_0_1_2, kbs23_2_0_1, kbeql2, klen9, hlen9, kmax3_ft, kmin3_ft, kbs23_1_0, kbeql22n, kbeql22z, kmax2_ft, ksl22_111, ksl22_110, ksl22_011, ksl22_011z, ksl23_011, ksl23_011z, hpe]
    have hcp := hrow'.cell p (by omega)
    rw [seenL_get k ks p hp] at hcp
    refine cutK1 (fun v w'' => v = .int .i64 ((k : Int) - (if p ∈ ks then ks else ks ++ [p]).length) ∧ w'' = w4) ?_ ?_
    · by_cases hm : p ∈ ks
      · rw [if_pos hm]
        rw [decide_eq_true hm] at hcp
        simp (maxSteps := 1000000) (disch := omega) only [hid1, hid2, optK_some, fzK_false, nilK_ptr, brK_true, brK_false, guardK_tt, guardK_ff, guardK_tf, guardK_ft, takeG_tt, takeG_ff, takeG_tf, takeG_ft, pickK_t, pickK_f, pickT_t, pickT_f, notK, extract2_0, extract2_1, extract3_0, extract3_1, extract3_2, here_load, here_fieldAt, here_indexAt, here_extract, here_un, here_conv, here_slice, here_bin, here_nil, and_here, true_and, Nat.zero_add, Nat.add_assoc, Nat.add_zero, Int.toNat_natCast, size_alloc, World.cell?_drew, World.frozen?_drew, Bool.not_true, Bool.not_false, dec_t, dec_f, int_eq_t, int_eq_f, int_ne_t, int_ne_f, wrap_in, klen23, hlen23, kbgtr3, kbs22_0, kbneq9, kbneq4, klen22, hlen22, kblss3, kia23, kld2, kbgtr2, kbrem2, kia22, kld9, kbs22_1_0, ksl22_010, kbadd3, ksl22_100, kblss2, kia32, kld4, kbsub3, kst4, kbeql3, kbeql4, kbneq3, kbgeq3, kbrem3, kbneq2, kbeql9, kbs22_3_0_1_2, kbs23_2_0_1, kbeql2, klen9, hlen9, kmax3_ft, kmin3_ft, kbs23_1_0, kbeql22n, kbeql22z, kmax2_ft, ksl22_111, ksl22_110, ksl22_011, ksl22_011z, ksl23_011, ksl23_011z, hcp]
        exact ⟨rfl, rfl⟩
      · rw [if_neg hm]
        rw [decide_eq_false hm] at hcp
        simp (maxSteps := 1000000) (disch := omega) only [hid1, hid2, optK_some, fzK_false, nilK_ptr, brK_true, brK_false, guardK_tt, guardK_ff, guardK_tf, guardK_ft, takeG_tt, takeG_ff, takeG_tf, takeG_ft, pickK_t, pickK_f, pickT_t, pickT_f, notK, extract2_0, extract2_1, extract3_0, extract3_1, extract3_2, here_load, here_fieldAt, here_indexAt, here_extract, here_un, here_conv, here_slice, here_bin, here_nil, and_here, true_and, Nat.zero_add, Nat.add_assoc, Nat.add_zero, Int.toNat_natCast, size_alloc, World.cell?_drew, World.frozen?_drew, Bool.not_true, Bool.not_false, dec_t, dec_f, int_eq_t, int_eq_f, int_ne_t, int_ne_f, wrap_in, klen23, hlen23, kbgtr3, kbs22_0, kbneq9, kbneq4, klen22, hlen22, kblss3, kia23, kld2, kbgtr2, kbrem2, kia22, kld9, kbs22_1_0, ksl22_010, kbadd3, ksl22_100, kblss2, kia32, kld4, kbsub3, kst4, kbeql3, kbeql4, kbneq3, kbgeq3, kbrem3, kbneq2, kbeql9, kbs22_3_0_1_2, kbs23_2_0_1, kbeql2, klen9, hlen9, kmax3_ft, kmin3_ft, kbs23_1_0, kbeql22n, kbeql22z, kmax2_ft, ksl22_111, ksl22_110, ksl22_011, ksl22_011z, ksl23_011, ksl23_011z, hcp]
        refine ⟨?_, rfl⟩
        rw [List.length_append, List.length_singleton]
        congr 1
        omega
    rintro _ _ w5 ⟨rfl, hw⟩
    obtain rfl : w5 = w4 := hw
    have hfz := hrow'.frozen p
    have hk2 : (if p ∈ ks then ks else ks ++ [p]).length ≤ i + 1 := by split <;> (try rw [List.length_append, List.length_singleton]) <;> omega
    simp (maxSteps := 1000000) (disch := omega) only [hid1, hid2, optK_some, fzK_false, nilK_ptr, brK_true, brK_false, guardK_tt, guardK_ff, guardK_tf, guardK_ft, takeG_tt, takeG_ff, takeG_tf, takeG_ft, pickK_t, pickK_f, pickT_t, pickT_f, notK, extract2_0, extract2_1, extract3_0, extract3_1, extract3_2, here_load, here_fieldAt, here_indexAt, here_extract, here_un, here_conv, here_slice, here_bin, here_nil, and_here, true_and, Nat.zero_add, Nat.add_assoc, Nat.add_zero, Int.toNat_natCast, size_alloc, World.cell?_drew, World.frozen?_drew, Bool.not_true, Bool.not_false, dec_t, dec_f, int_eq_t, int_eq_f, int_ne_t, int_ne_f, wrap_in, klen23, hlen23, kbgtr3, kbs22_0, kbneq9, kbneq4, klen22, hlen22, kblss3, kia23, kld2, kbgtr2, kbrem2, kia22, kld9, kbs22_1_0, ksl22_010, kbadd3, ksl22_100, kblss2, kia32, kld4, kbsub3, kst4, kbeql3, kbeql4, kbneq3, kbgeq3, kbrem3, kbneq2, kbeql9, kbs22_3_0_1_2, kbs23_2_0_1, kbeql2, klen9, hlen9, kmax3_ft, kmin3_ft, kbs23_1_0, kbeql22n, kbeql22z, kmax2_ft, ksl22_111, ksl22_110, ksl22_011, ksl22_011z, ksl23_011, ksl23_011z, hcp, hfz]
    refine ⟨⟨i + 1, _, by go_num, by omega, hk2, rfl, ?_, hc.setCell (p := ⟨g, p, none⟩) (.inl rfl) _, by rw [← htk, hst]⟩, by simp [rel, intOf]; omega⟩
    rw [← seenL_set k ks p hp]
    exact hrow'.store p (.bool true)
  · rw [List.drop_eq_nil_of_le (by omega), taken] at htk
    rw [← htk] at htl ⊢
    have qd : Qt w w' := (q12.trans q3).then hc (fun j hj => by omega)
    have e0 : ((k : Int) - ks.length == 0) = decide (k ≤ ks.length) := by
      by_cases h : k ≤ ks.length
      · rw [decide_eq_true h]; exact beq_iff_eq.2 (by omega)
      · rw [decide_eq_false h]; exact beq_eq_false_iff_ne.2 (by omega)
    simp (maxSteps := 1000000) (disch := omega) only [hid1, hid2, optK_some, fzK_false, nilK_ptr, brK_true, brK_false, guardK_tt, guardK_ff, guardK_tf, guardK_ft, takeG_tt, takeG_ff, takeG_tf, takeG_ft, pickK_t, pickK_f, pickT_t, pickT_f, notK, extract2_0, extract2_1, extract3_0, extract3_1, extract3_2, here_load, here_fieldAt, here_indexAt, here_extract, here_un, here_conv, here_slice, here_bin, here_nil, and_here, true_and, Nat.zero_add, Nat.add_assoc, Nat.add_zero, Int.toNat_natCast, size_alloc, World.cell?_drew, World.frozen?_drew, Bool.not_true, Bool.not_false, dec_t, dec_f, int_eq_t, int_eq_f, int_ne_t, int_ne_f, wrap_in, klen23, hlen23, kbgtr3, kbs22_0, kbneq9, kbneq4, klen22, hlen22, kblss3, kia23, kld2, kbgtr2, kbrem2, kia22, kld9, kbs22_1_0, ksl22_010, kbadd3, ksl22_100, kblss2, kia32, kld4, kbsub3, kst4, kbeql3, kbeql4, kbneq3, kbgeq3, kbrem3, kbneq2, kbeql9, kbs22_3_0_1_2, kbs23_2_0_1, kbeql2, klen9, hlen9, kmax3_ft, kmin3_ft, kbs23_1_0, kbeql22n, kbeql22z, kmax2_ft, ksl22_111, ksl22_110, ksl22_011, ksl22_011z, ksl23_011, ksl23_011z, e0, beq_self_eq_true]
    refine ck14 (turns_any (by omega) ?_)
    intro A5 c5 w5 r5 q5
    rw [turnsN_nat k (by omega)] at r5 ⊢
    simp (maxSteps := 1000000) (disch := omega) only [hid1, hid2, optK_some, fzK_false, nilK_ptr, brK_true, brK_false, guardK_tt, guardK_ff, guardK_tf, guardK_ft, takeG_tt, takeG_ff, takeG_tf, takeG_ft, pickK_t, pickK_f, pickT_t, pickT_f, notK, extract2_0, extract2_1, extract3_0, extract3_1, extract3_2, here_load, here_fieldAt, here_indexAt, here_extract, here_un, here_conv, here_slice, here_bin, here_nil, and_here, true_and, Nat.zero_add, Nat.add_assoc, Nat.add_zero, Int.toNat_natCast, size_alloc, World.cell?_drew, World.frozen?_drew, Bool.not_true, Bool.not_false, dec_t, dec_f, int_eq_t, int_eq_f, int_ne_t, int_ne_f, wrap_in, klen23, hlen23, kbgtr3, kbs22_0, kbneq9, kbneq4, klen22, hlen22, kblss3, kia23, kld2, kbgtr2, kbrem2, kia22, kld9, kbs22_1_0, ksl22_010, kbadd3, ksl22_100, kblss2, kia32, kld4, kbsub3, kst4, kbeql3, kbeql4, kbneq3, kbgeq3, kbrem3, kbneq2, kbeql9, kbs22_3_0_1_2, kbs23_2_0_1, kbeql2, klen9, hlen9, kmax3_ft, kmin3_ft, kbs23_1_0, kbeql22n, kbeql22z, kmax2_ft, ksl22_111, ksl22_110, ksl22_011, ksl22_011z, ksl23_011, ksl23_011z]
    refine ck13 (covers_len (turnsL_len _ _).symm (by omega) (by omega) r5 (by rw [turnsL_len]; omega) (turnsL_le k (by omega) (by omega) k) ?_)
    intro w6 q6
    rw [taken_turns k (by omega) k (Nat.le_refl _), List.length_range]
    simp (maxSteps := 1000000) (disch := omega) only [hid1, hid2, optK_some, fzK_false, nilK_ptr, brK_true, brK_false, guardK_tt, guardK_ff, guardK_tf, guardK_ft, takeG_tt, takeG_ff, takeG_tf, takeG_ft, pickK_t, pickK_f, pickT_t, pickT_f, notK, extract2_0, extract2_1, extract3_0, extract3_1, extract3_2, here_load, here_fieldAt, here_indexAt, here_extract, here_un, here_conv, here_slice, here_bin, here_nil, and_here, true_and, Nat.zero_add, Nat.add_assoc, Nat.add_zero, Int.toNat_natCast, size_alloc, World.cell?_drew, World.frozen?_drew, Bool.not_true, Bool.not_false, dec_t, dec_f, int_eq_t, int_eq_f, int_ne_t, int_ne_f, wrap_in, klen23, hlen23, kbgtr3, kbs22_0, kbneq9, kbneq4, klen22, hlen22, kblss3, kia23, kld2, kbgtr2, kbrem2, kia22, kld9, kbs22_1_0, ksl22_010, kbadd3, ksl22_100, kblss2, kia32, kld4, kbsub3, kst4, kbeql3, kbeql4, kbneq3, kbgeq3, kbrem3, kbneq2, kbeql9, kbs22_3_0_1_2, kbs23_2_0_1, kbeql2, klen9, hlen9, kmax3_ft, kmin3_ft, kbs23_1_0, kbeql22n, kbeql22z, kmax2_ft, ksl22_111, ksl22_110, ksl22_011, ksl22_011z, ksl23_011, ksl23_011z]
    refine ck14 (turns_any (by omega) ?_)
    intro A7 c7 w7 r7 q7
    rw [show ((k : Int) - 1) = ((k - 1 : Nat) : Int) by omega, turnsN_nat (k - 1) (by omega)] at r7
    rw [show ((k : Int) - 1) = ((k - 1 : Nat) : Int) by omega, turnsN_nat (k - 1) (by omega)]
    simp (maxSteps := 1000000) (disch := omega) only [hid1, hid2, optK_some, fzK_false, nilK_ptr, brK_true, brK_false, guardK_tt, guardK_ff, guardK_tf, guardK_ft, takeG_tt, takeG_ff, takeG_tf, takeG_ft, pickK_t, pickK_f, pickT_t, pickT_f, notK, extract2_0, extract2_1, extract3_0, extract3_1, extract3_2, here_load, here_fieldAt, here_indexAt, here_extract, here_un, here_conv, here_slice, here_bin, here_nil, and_here, true_and, Nat.zero_add, Nat.add_assoc, Nat.add_zero, Int.toNat_natCast, size_alloc, World.cell?_drew, World.frozen?_drew, Bool.not_true, Bool.not_false, dec_t, dec_f, int_eq_t, int_eq_f, int_ne_t, int_ne_f, wrap_in, klen23, hlen23, kbgtr3, kbs22_0, kbneq9, kbneq4, klen22, hlen22, kblss3, kia23, kld2, kbgtr2, kbrem2, kia22, kld9, kbs22_1_0, ksl22_010, kbadd3, ksl22_100, kblss2, kia32, kld4, kbsub3, kst4, kbeql3, kbeql4, kbneq3, kbgeq3, kbrem3, kbneq2, kbeql9, kbs22_3_0_1_2, kbs23_2_0_1, kbeql2, klen9, hlen9, kmax3_ft, kmin3_ft, kbs23_1_0, kbeql22n, kbeql22z, kmax2_ft, ksl22_111, ksl22_110, ksl22_011, ksl22_011z, ksl23_011, ksl23_011z]
    refine ck13 (covers_len (turnsL_len _ _).symm (by omega) (by omega) r7 (by rw [turnsL_len]; omega) (turnsL_le k (by omega) (by omega) (k - 1)) ?_)
    intro w8 q8
    rw [taken_turns k (by omega) (k - 1) (by omega), List.length_range]
    simp (maxSteps := 1000000) (disch := omega) only [hid1, hid2, optK_some, fzK_false, nilK_ptr, brK_true, brK_false, guardK_tt, guardK_ff, guardK_tf, guardK_ft, takeG_tt, takeG_ff, takeG_tf, takeG_ft, pickK_t, pickK_f, pickT_t, pickT_f, notK, extract2_0, extract2_1, extract3_0, extract3_1, extract3_2, here_load, here_fieldAt, here_indexAt, here_extract, here_un, here_conv, here_slice, here_bin, here_nil, and_here, true_and, Nat.zero_add, Nat.add_assoc, Nat.add_zero, Int.toNat_natCast, size_alloc, World.cell?_drew, World.frozen?_drew, Bool.not_true, Bool.not_false, dec_t, dec_f, int_eq_t, int_eq_f, int_ne_t, int_ne_f, wrap_in, klen23, hlen23, kbgtr3, kbs22_0, kbneq9, kbneq4, klen22, hlen22, kblss3, kia23, kld2, kbgtr2, kbrem2, kia22, kld9, kbs22_1_0, ksl22_010, kbadd3, ksl22_100, kblss2, kia32, kld4, kbsub3, kst4, kbeql3, kbeql4, kbneq3, kbgeq3, kbrem3, kbneq2, kbeql9, kbs22_3_0_1_2, kbs23_2_0_1, kbeql2, klen9, hlen9, kmax3_ft, kmin3_ft, kbs23_1_0, kbeql22n, kbeql22z, kmax2_ft, ksl22_111, ksl22_110, ksl22_011, ksl22_011z, ksl23_011, ksl23_011z]
    exact hR _ (Qt.below ((((qd.trans q5).trans q6).trans q7).trans q8))
end Go.Proofs.Ytijoamldocjfhaa

/- The document's Order: each put in its place. Conditions: the rows read. -/
import Derived.Test.YtpjeohellehgjaaDoorKn15
set_option linter.unusedVariables false
set_option linter.unusedSimpArgs false
set_option maxRecDepth 100000
namespace Go.Cn
/-- One put in its place. -/
theorem ins_pair {l : List ChoD} {c : ChoD} {k : Nat} (hs : l.Pairwise (fun a b => cmpC a b ≤ 0)) (hk : k ≤ l.length) (h1 : ∀ j, j < k → ¬ cmpC c (el l j) < 0) (h2 : k = l.length ∨ cmpC c (el l k) < 0) : (l.take k ++ c :: l.drop k).Pairwise (fun a b => cmpC a b ≤ 0) := by
  have hlow : ∀ a ∈ l.take k, cmpC a c ≤ 0 := fun a ha => by
    obtain ⟨j, hj, rfl⟩ := List.mem_iff_getElem.1 ha
    have hj' : j < k := by rw [List.length_take] at hj; omega
    have h := h1 j hj'
    have e : el l j = (l.take k)[j] := by
      rw [List.getElem_take]; simp [el, show j < l.length by omega]
    rw [e] at h
    have := cmpC_anti c (l.take k)[j]
    omega
  have hhigh : ∀ b ∈ l.drop k, cmpC c b ≤ 0 := fun b hb => by
    obtain ⟨j, hj, rfl⟩ := List.mem_iff_getElem.1 hb
    rw [List.length_drop] at hj
    have hk2 : cmpC c (el l k) < 0 := h2.elim (fun e => by omega) (fun h => h)
    rw [List.getElem_drop]
    by_cases e0 : j = 0
    · subst e0
      have e : el l k = l[k + 0] := by simp [el, show k < l.length by omega]
      rw [e] at hk2; omega
    · have hp := List.pairwise_iff_getElem.1 hs k (k + j) (by omega) (by omega) (by omega)
      have e : el l k = l[k] := by simp [el, show k < l.length by omega]
      rw [e] at hk2
      exact cmpC_trans (by omega) hp
  refine List.pairwise_append.2 ⟨hs.sublist (List.take_sublist _ _), List.pairwise_cons.2 ⟨hhigh, hs.sublist (List.drop_sublist _ _)⟩, fun a ha b hb => ?_⟩
  rcases List.mem_cons.1 hb with rfl | hb
  · exact hlow a ha
  · exact cmpC_trans (hlow a ha) (hhigh b hb)
theorem ins_perm (l : List ChoD) (c : ChoD) (k : Nat) : (l.take k ++ c :: l.drop k).Perm (c :: l) := by
  have : (l.take k ++ c :: l.drop k).Perm (c :: (l.take k ++ l.drop k)) := List.perm_middle
  rwa [List.take_append_drop] at this
end Go.Cn
namespace Go.Proofs.YtpjeohellehgjaaDoor
open Go.RowKit Go.Cn
theorem infoCR : (Tryd.prog.info? 76).map (fun i => (i.zero, i.size, i.bytes)) = some (some (.agg #[.string ByteArray.empty, .string ByteArray.empty, .int .i64 0]), 3, 40) := by kernel_rfl
theorem tyCR : ElemTy Tryd.prog 70 76 (.agg #[.string ByteArray.empty, .string ByteArray.empty, .int .i64 0]) 3 40 := ElemTy.mk' Tryd.underlying70 infoCR rfl (by decide)
theorem flat_take (m : List ChoD) (i : Nat) : (m.take i).flatMap choC = (m.flatMap choC).take (i * 3) := by
  induction m generalizing i with
  | nil => simp
  | cons x m ih =>
    cases i with
    | zero => simp
    | succ i =>
      rw [List.take_succ_cons, List.flatMap_cons, ih, List.flatMap_cons, show (i + 1) * 3 = (choC x).length + i * 3 by rw [choC_len]; omega, List.take_length_add_append]
theorem flat_drop (m : List ChoD) (i : Nat) : (m.drop i).flatMap choC = (m.flatMap choC).drop (i * 3) := by
  induction m generalizing i with
  | nil => simp
  | cons x m ih =>
    cases i with
    | zero => simp
    | succ i =>
      rw [List.drop_succ_cons, ih, List.flatMap_cons, show (i + 1) * 3 = (choC x).length + i * 3 by rw [choC_len]; omega, List.drop_length_add_append]
theorem src_take3 {w : World} {A : Option Addr} {m : List ChoD} (hr : Reads w A (m.flatMap choC)) (i : Nat) : Cn.Src w A ((m.take i).flatMap choC) := by
  intro j u hj
  refine hr.src j u ?_
  rw [flat_take, List.getElem?_take] at hj
  split at hj
  · exact hj
  · cases hj
theorem src_drop3 {w : World} {g o c : Nat} {m : List ChoD} (hr : Reads w (some ⟨g, o, none⟩) (m.flatMap choC)) (hc : m.length ≤ c) (i : Nat) (hi : i ≤ m.length) : Cn.Src w (if c = i then some ⟨g, o, none⟩ else some ⟨g, o + i * 3, none⟩) ((m.drop i).flatMap choC) := by
  by_cases h : c = i
  · have : m.drop i = [] := List.drop_eq_nil_of_le (by omega)
    rw [this]; exact Src.nil _ _
  · rw [if_neg h, flat_drop]
    intro j u hj
    refine ⟨_, rfl, ?_⟩
    rw [Addr.add_lit]
    rw [List.getElem?_drop] at hj
    rcases hr with e | ⟨g', o', e, hcell⟩
    · rw [e] at hj; simp at hj
    · cases e
      have hlt := (List.getElem?_eq_some_iff.1 hj).1
      have := hcell (i * 3 + j) hlt
      rw [hj] at this
      rw [Nat.add_assoc]; exact this
theorem src_drop0 {w : World} {g c : Nat} {m : List ChoD} (hr : Reads w (some ⟨g, 0, none⟩) (m.flatMap choC)) (hc : m.length ≤ c) (i : Nat) (hi : i ≤ m.length) : Cn.Src w (if c = i then some ⟨g, 0, none⟩ else some ⟨g, i * 3, none⟩) ((m.drop i).flatMap choC) := by
  have := src_drop3 hr hc i hi
  rw [Nat.zero_add] at this
  exact this
theorem sl_z {n : Nat} (h0 : n = 0) {K : Value → World → Prop} {w : World} (h : K (.slice none 0 0) w) : SliceK Tryd.prog 70 (.slice none n 0) none (some (.int .i64 ((0 : Nat) : Int))) none K w := by
  subst h0; unfold SliceK; go_simp; exact h
theorem sl_n {K : Value → World → Prop} {w : World} (h : K (.slice none 0 0) w) : SliceK Tryd.prog 70 (.slice none 0 0) (some (.int .i64 ((0 : Nat) : Int))) none none K w := by
  unfold SliceK; go_simp; exact h
theorem choF_one (l : List ChoD) : ∀ u ∈ l.flatMap choC, u.oneCell' = true := fun u hu => by
  obtain ⟨x, _, h⟩ := List.mem_flatMap.1 hu
  exact choC_one x u h
set_option maxHeartbeats 8000000 in
theorem orderR_any {rs : List RowH} {A : Option Addr} {c : Nat} {w : World} {K : Value → World → Prop} (ha : RowsAt w A rs) (lr : rs.length ≤ 100000) (hok : ∀ r ∈ rs, ElOk r)
    (hK : ∀ A' c' w', Reads w' A' ((ordL (standL (rs.map rowP))).flatMap choC) → Qt w w' → K (.slice A' (ordL (standL (rs.map rowP))).length c') w') : CallK Tryd.prog 32 #[.slice A rs.length c] K w := by
  refine F32_calls _ _ _ ?_; unfold F32
  refine loopK2 (fun x v w' => ∃ (i : Nat) (A' : Option Addr) (c' : Nat) (F : Option Nat) (out : List ChoD), v = .int .i64 i ∧ i ≤ rs.length ∧ x = .slice A' out.length c' ∧ out.Perm (standL ((rs.map rowP).take i)) ∧ out.Pairwise (fun a b => cmpC a b ≤ 0) ∧ Own w' 76 3 (.slice A' out.length c') out.length (out.flatMap choC) F ∧ Qt w w' ∧ (∀ k, F = some k → w.heap.size ≤ k)) (fun _ v _ => rs.length - (intOf v).toNat) ⟨0, none, 0, none, [], rfl, by omega, rfl, List.Perm.refl _, List.Pairwise.nil, Own.nil _ _ _, Qt.refl, fun _ h => by cases h⟩ ?_
  rintro _ _ _ w1 ⟨i, A1, c1, F1, out, rfl, hi, rfl, hout, hpair, o1, q1, f1⟩
  have hlen := stand_len (rs.map rowP) i
  rw [← hout.length_eq, List.length_map] at hlen
  by_cases hlt : i < rs.length
  case neg =>
    obtain rfl : i = rs.length := by omega
    rw [List.take_of_length_le (by rw [List.length_map]; omega)] at hout
    have e : out = ordL (standL (rs.map rowP)) := pair_eq hpair (ordL_pair _) (hout.trans (ordL_perm _).symm)
    simp (maxSteps := 1000000) (disch := omega) only [genAll, decAll, tk_nil, st32]
    rw [e] at o1 ⊢
    exact hK _ _ _ (reads_own o1) q1
  have XR := fun w' (q : Qt w w') => row_at (Reads.quiet ha.1 q) hlt
  obtain ⟨g, o, hA, _⟩ := XR w Qt.refl
  subst hA
  have hat := fun w' (q : Qt w w') => (ha.get hlt).quiet q
  have hk := hok _ (getD_mem hlt)
  have hsn := stand_snoc (rs.map rowP) (i := i) (by rw [List.length_map]; exact hlt)
  rw [rowP_getD] at hsn
  generalize rs.getD i default = r at *
  obtain ⟨key, s, B, d, hs⟩ := r
  obtain ⟨k1, k2, k3, k4⟩ := hk
  have hsn : standL ((rs.map rowP).take (i + 1)) = standL ((rs.map rowP).take i) ++ if standsP (key, s, hs.map attP) = true then [choOf (key, s, hs.map attP)] else [] := hsn
  simp only at hat k1 k2 k3 k4
  have Z0 : ∀ w', Qt w w' → w'.cell? ⟨g, o + i * 6, none⟩ = some (.string key) := fun w' q => by obtain ⟨_, _, he, h, _⟩ := XR w' q; cases he; exact h
  have Z5 : ∀ w', Qt w w' → w'.cell? ⟨g, o + (i * 6 + 5), none⟩ = some (.slice B hs.length d) := fun w' q => by obtain ⟨_, _, he, _, _, _, _, _, h⟩ := XR w' q; cases he; exact h
  clear XR
  have z5 := Z5 w1 q1
  simp (maxSteps := 1000000) (disch := omega) only [genAll, decAll, tk_nil, st32, z5]
  refine ck70 (getR_any (nm := kRep) (hat w1 q1).1 k2 ?_)
  intro B3 d3 w3 q3
  have q03 := q1.trans q3
  have hsz : (getB (hs.map attP) kRep).1.2.2.1.size ≤ 20000 := by
    rcases getB_cases (hs.map attP) kRep with e | ⟨a, ha', e⟩
    · rw [e]; exact Nat.zero_le _
    · obtain ⟨h, hh, rfl⟩ := List.mem_map.1 ha'
      rw [e]; exact k4 h hh
  have hst : standsP (key, s, hs.map attP) = ((getB (hs.map attP) kRep).2 && decide ((getB (hs.map attP) kRep).1.1 = 2) && nodeB (getB (hs.map attP) kRep).1.2.2.1.data.toList) := rfl
  have hch : choOf (key, s, hs.map attP) = (key, (getB (hs.map attP) kRep).1.2.2.1, loadOf (hs.map attP)) := rfl
  generalize hgb : getB (hs.map attP) kRep = p at *
  obtain ⟨v, ok⟩ := p
  simp only at hst hch hsz ⊢
  obtain ⟨q4, h4, s4⟩ := newb w3 #[.int .i64 v.1, .int .i64 v.2.1, .string v.2.2.1, .slice B3 v.2.2.2.length d3] 121
  simp (maxSteps := 1000000) (disch := omega) only [genAll, decAll, tk_nil, st32]
  generalize (w3.alloc (.cells #[.int .i64 v.1, .int .i64 v.2.1, .string v.2.2.1, .slice B3 v.2.2.2.length d3] 121)) = w4 at *
  generalize w3.heap.size = b4 at *
  have q14 := q3.trans q4
  have q04 := q03.trans q4
  have Y := fun w' (q : Qt w4 w') => cell4 (q.heap h4 (fun h => h))
  obtain ⟨y0, y1, y2, y3⟩ := Y w4 Qt.refl
  have hskip : ∀ w', Qt w1 w' → standsP (key, s, hs.map attP) = false → (∃ (i2 : Nat) (A' : Option Addr) (c' : Nat) (F : Option Nat) (out2 : List ChoD), (Value.int .i64 ((i : Int) + 1)) = .int .i64 i2 ∧ i2 ≤ rs.length ∧ (Value.slice A1 out.length c1) = .slice A' out2.length c' ∧ out2.Perm (standL ((rs.map rowP).take i2)) ∧ out2.Pairwise (fun a b => cmpC a b ≤ 0) ∧ Own w' 76 3 (.slice A' out2.length c') out2.length (out2.flatMap choC) F ∧ Qt w w' ∧ (∀ k, F = some k → w.heap.size ≤ k)) := fun w' q hf => by
    rw [hf, if_neg (by decide), List.append_nil] at hsn
    exact ⟨i + 1, A1, c1, F1, out, by congr 1, by omega, rfl, by rw [hsn]; exact hout, hpair, o1.chg q (fun _ _ h => h), q1.trans q, f1⟩
  cases ok with
  | false =>
    have hf : standsP (key, s, hs.map attP) = false := by rw [hst]; rfl
    simp (maxSteps := 1000000) (disch := omega) only [genAll, decAll, tk_nil, st32, guardK_u]
    exact ⟨hskip _ q14 hf, by simp [rel, intOf]; omega⟩
  | true =>
  by_cases hk2 : v.1 = 2
  case neg =>
    have e : (v.1 != 2) = true := by rw [bne_iff_ne]; exact hk2
    have hf : standsP (key, s, hs.map attP) = false := by rw [hst, decide_eq_false hk2]; rfl
    simp (maxSteps := 1000000) (disch := omega) only [genAll, decAll, tk_nil, st32, y0, e, guardK_u]
    exact ⟨hskip _ q14 hf, by simp [rel, intOf]; omega⟩
  have e : (v.1 != 2) = false := by rw [hk2]; rfl
  obtain ⟨l, hl', hd, hs'⟩ := txt_of v.2.2.1
  have y2' := y2
  rw [hl'] at y2'
  simp (maxSteps := 1000000) (disch := omega) only [genAll, decAll, tk_nil, st32, y0, e, y2']
  refine ck71 (nodeR_B (l := l) (by omega) ?_)
  intro w5 q5
  have q05 := q04.trans q5
  rw [decide_eq_true hk2, hd] at hst
  cases hnb : nodeB l with
  | false =>
    rw [hnb] at hst
    simp (maxSteps := 1000000) (disch := omega) only [genAll, decAll, tk_nil, st32]
    exact ⟨hskip _ (q14.trans q5) hst, by simp [rel, intOf]; omega⟩
  | true =>
  have hst : standsP (key, s, hs.map attP) = true := by rw [hst, hnb]; rfl
  clear hskip
  rw [hst, if_pos rfl, hch] at hsn
  have hd5 : Qt w5 w5.drew := Qt.drew Qt.refl
  have q45 := q5
  simp (maxSteps := 1000000) (disch := omega) only [genAll, decAll, tk_nil, st32]
  refine cutK1 (fun u w' => ∃ bc, u = .pointer (some ⟨bc, 0, none⟩) ∧ w'.heap[bc]? = some (.cells #[.string key, .string v.2.2.1, .int .i64 0] 76 (0, 0)) ∧ w5.heap.size ≤ bc ∧ Qt w5 w') ?_ ?_
  · refine drawQ w5 hd5 ?_
    generalize w5.drew = wd at *
    have U0 := fun w' (q : Quiets w5 w') => Z0 w' (q05.trans q)
    have U2 := fun w' (q : Quiets w5 w') => (Y w' (q5.trans q)).2.2.1
    simp (maxSteps := 1000000) (disch := omega) only [genAll, decAll, tk_nil, st32, qkld9 U0, qkld9 U2]
    have z0 : Qt w5 (wd.alloc (.cells #[.string ByteArray.empty, .string ByteArray.empty, .int .i64 0] 76)) := hd5.trans (Chg.alloc Qt.refl _)
    have z1 : Qt w5 (wd.alloc (.cells #[.string key, .string v.2.2.1, .int .i64 0] 76)) := hd5.trans (Chg.alloc Qt.refl _)
    have hsz5 := hd5.size
    exact ⟨⟨hd5, ⟨z0, ⟨z1, _, rfl, blk_new _ _, hsz5, z1⟩, trivial⟩, trivial⟩, ⟨z0, ⟨z0, ⟨z1, _, rfl, blk_new _ _, hsz5, z1⟩, trivial⟩, trivial⟩, trivial⟩
  rintro _ _ w6 ⟨bc, rfl, h6, hbc, q6⟩
  have q06 := q05.trans q6
  have z5 := Z5 w6 q06
  simp (maxSteps := 1000000) (disch := omega) only [genAll, decAll, tk_nil, st32, z5]
  refine ck70 (getR_any (nm := kLoad) (hat w6 q06).1 k2 ?_)
  intro B7 d7 w7 q7
  have hlo : loadOf (hs.map attP) = if (getB (hs.map attP) kLoad).2 = true ∧ (getB (hs.map attP) kLoad).1.1 = 1 then (getB (hs.map attP) kLoad).1.2.1 else 0 := rfl
  generalize getB (hs.map attP) kLoad = p at *
  obtain ⟨u, ok⟩ := p
  simp only at hlo ⊢
  obtain ⟨q8, h8, s8⟩ := newb w7 #[.int .i64 u.1, .int .i64 u.2.1, .string u.2.2.1, .slice B7 u.2.2.2.length d7] 121
  simp (maxSteps := 1000000) (disch := omega) only [genAll, decAll, tk_nil, st32]
  generalize (w7.alloc (.cells #[.int .i64 u.1, .int .i64 u.2.1, .string u.2.2.1, .slice B7 u.2.2.2.length d7] 121)) = w8 at *
  have hb7 := q7.size
  generalize w7.heap.size = b8 at *
  have q68 := q7.trans q8
  have h68 := q68.heap h6 (fun h => h)
  have q58 := q6.trans q68
  obtain ⟨u0, u1, u2, u3⟩ := cell4 h8
  obtain ⟨c0', c1', c2'⟩ := cell3 h68
  refine cutK0 (fun w' => w'.heap[bc]? = some (.cells #[.string key, .string v.2.2.1, .int .i64 (loadOf (hs.map attP))] 76 (0, 0)) ∧ Qt w5 w') ?_ ?_
  · by_cases hyes : ok = true ∧ u.1 = 1
    · rw [if_pos hyes] at hlo
      obtain ⟨rfl, hu1⟩ := hyes
      have e1 : (u.1 == 1) = true := by rw [hu1]; rfl
      have fz := blk_frozen h68 2
      simp (maxSteps := 1000000) (disch := omega) only [genAll, decAll, tk_nil, st32, u0, e1, u1, c2', fz]
      refine ⟨by rw [hlo, blk_set h68]; rfl, Qt.then q58 ((Chg.refl (fun k => k = bc) w8).setCell (p := ⟨bc, 2, none⟩) (.inl rfl) _) (fun k hk => by omega)⟩
    · rw [if_neg hyes] at hlo
      have hstep : (ok = false) ∨ (ok = true ∧ (u.1 == 1) = false) := by
        cases ok with
        | false => exact .inl rfl
        | true => exact .inr ⟨rfl, beq_eq_false_iff_ne.2 (fun e => hyes ⟨rfl, e⟩)⟩
      rcases hstep with rfl | ⟨rfl, e1⟩
      case' inl => simp (maxSteps := 1000000) (disch := omega) only [genAll, decAll, tk_nil, st32, guardK_u]
      case' inr => simp (maxSteps := 1000000) (disch := omega) only [genAll, decAll, tk_nil, st32, u0, e1]
      all_goals exact ⟨by rw [hlo]; exact h68, q58⟩
  clear h68 c0' c1' c2' u0 u1 u2 u3 hlo
  rintro _ w9 ⟨h9, q59⟩
  generalize hcc : (key, v.2.2.1, loadOf (hs.map attP)) = cc at *
  have h9 : w9.heap[bc]? = some (.cells #[.string cc.1, .string cc.2.1, .int .i64 cc.2.2] 76 (0, 0)) := by rw [← hcc]; exact h9
  have q19 : Qt w1 w9 := (q14.trans q45).trans q59
  have q09 := q1.trans q19
  have o9 := o1.chg q19 (fun _ _ h => h)
  have hsh := own_cases o9
  have C := fun w' (q : Quiets w9 w') => cell3 (Chg.heap q h9 (fun h => h))
  refine loopK1 (fun a w' => ∃ k : Nat, a = .int .i64 k ∧ k ≤ out.length ∧ (∀ j, j < k → ¬ cmpC cc (el out j) < 0) ∧ Qt w9 w') (fun a _ => out.length - (intOf a).toNat) ⟨0, rfl, by omega, fun j h => by omega, Qt.refl⟩ ?_
  rintro _ _ w10 ⟨k, rfl, hkn, hlow, q10⟩
  have q10d : Qt w9 w10.drew := q10.trans (Qt.drew Qt.refl)
  by_cases hkl : k < out.length
  case' pos =>
    have XO := fun w' (q : Quiets w9 w') => cho_at (Reads.quiet (reads_own o9) q) hkl
    obtain ⟨g1, o1', hA1, _⟩ := XO w9 Qt.refl
    subst hA1
    have X1 : ∀ w', Quiets w9 w' → w'.cell? ⟨g1, o1' + k * 3, none⟩ = some (.string (el out k).1) ∧ w'.cell? ⟨g1, o1' + k * 3 + 1, none⟩ = some (.string (el out k).2.1) ∧ w'.cell? ⟨g1, o1' + k * 3 + 2, none⟩ = some (.int .i64 (el out k).2.2) := fun w' q => by obtain ⟨_, _, he, z⟩ := XO w' q; cases he; exact z
    refine drawQ w9 q10d ?_
    generalize w10.drew = wd at *
    simp (maxSteps := 1000000) (disch := omega) only [genAll, decAll, tk_nil, st32, qkld76 C, qkld76 X1]
    refine ⟨?_, trivial⟩
    refine ck72 (less_any (a := cc) (b := el out k) ?_)
    intro w11 q11
    have q911 := q10d.trans q11
    by_cases hc : cmpC cc (el out k) < 0
    case neg =>
      rw [decide_eq_false hc]
      simp (maxSteps := 1000000) (disch := omega) only [genAll, decAll, tk_nil, st32, tk_not]
      exact ⟨q911, ⟨k + 1, by go_num, by omega, fun j hj => by
        by_cases e : j = k
        · subst e; exact hc
        · exact hlow j (by omega), q911⟩, by simp [rel, intOf]; omega⟩
    rw [decide_eq_true hc]
    have hstop : k = out.length ∨ cmpC cc (el out k) < 0 := .inr hc
    simp (maxSteps := 1000000) (disch := omega) only [genAll, decAll, tk_nil, st32, tk_not]
    refine ⟨q911, ?_⟩
  case' neg =>
    refine drawQ w9 q10d ?_
    generalize w10.drew = w11 at *
    have q911 := q10d
    have hstop : k = out.length ∨ cmpC cc (el out k) < 0 := .inl (by omega)
    simp (maxSteps := 1000000) (disch := omega) only [genAll, decAll, tk_nil, st32, takeG_u, guardK_u]
    refine ⟨⟨q911, ?_⟩, trivial⟩
  all_goals
    rcases hsh with ⟨hA, h0, hc1, hnil⟩ | ⟨g1, hA, hF, hc1, hc2⟩
    · first
        | (cases hA; done)
        | (subst hA hc1
           obtain rfl : k = 0 := by omega
           have q12 : Qt w9 w11.drew := q911.trans (Qt.drew Qt.refl)
           have rO := reads_own o9
           refine cutK1 (fun u w' => ∃ F6, Own w' 76 3 u (0 + 1) ((out.take 0 ++ [cc]).flatMap choC) F6 ∧ (∀ kk, F6 = some kk → w9.heap.size ≤ kk) ∧ Qt w9 w') ?_ ?_
           · refine drawQ w9 q12 ?_
             have s5 := q12.size
             generalize w11.drew = wd at *
             refine take_slice (.slice none 0 0) (fun w' _ => sl_z h0 ⟨rfl, rfl⟩) ?_
             have rT := fun w' (q : Qt w9 w') => src_take3 (rO.quiet q) 0
             have step1 : ∀ (w' : World) (bb : Nat), Own w' 76 3 (.slice (some ⟨bb, 0, none⟩) 0 0) 0 [] (some bb) → Qt w9 w' → w9.heap.size ≤ bb → ∃ A' cap F' w'', (Builtin.append_ #[70, 70] 70 #[.slice (some ⟨bb, 0, none⟩) 0 0, .slice (none) 0 0]).run Tryd.prog w' = .ok (.slice A' 0 cap) w'' ∧ Own w'' 76 3 (.slice A' 0 cap) 0 ((out.take 0).flatMap choC) F' ∧ Qt w9 w'' ∧ (∀ j, F' = some j → w9.heap.size ≤ j) ∧ (∀ j, j < w'.heap.size → j ≠ bb → w''.heap[j]? = w'.heap[j]?) := by
               intro w' bb oo q hb
               obtain ⟨A', cap, F', w'', p, o', kk, f⟩ := app_run (P := Tryd.prog) tyCR oo (none) 0 0 ((out.take 0).flatMap choC) (by rw [flat_len choC_len, List.length_take]; omega) (rT w' q) (choF_one _) (by omega) (by omega) 70
               rw [Nat.zero_add] at p o'
               rw [List.nil_append] at o'
               refine ⟨A', cap, F', w'', p, o', Qt.then q kk (fun j hj => by cases hj; exact hb), fun j hj => ?_, fun j hj hne => (kk.block j hj (fun h => by cases h; exact hne rfl))⟩
               rcases f j hj with h | h
               · cases h; exact hb
               · have := q.size; omega
             have z0 : ∀ w', Qt w' (w'.alloc (.cells #[] 76)) := fun w' => Chg.alloc Qt.refl _
             have z1 : ∀ w', Qt w' (w'.alloc (.cells #[.string cc.1, .string cc.2.1, .int .i64 cc.2.2] 76)) := fun w' => Chg.alloc Qt.refl _
             have qa := q12.trans (z0 wd)
             have qab := qa.trans (z1 _)
             have qb := q12.trans (z1 wd)
             have qba := qb.trans (z0 _)
             have push2 : ∀ (w' : World) (A' : Option Addr) (cap : Nat) (F' : Option Nat) (b1 : Nat), Own w' 76 3 (.slice A' 0 cap) 0 ((out.take 0).flatMap choC) F' → Qt w9 w' → (∀ j, F' = some j → w9.heap.size ≤ j) → w'.heap[b1]? = some (.cells #[.string cc.1, .string cc.2.1, .int .i64 cc.2.2] 76 (0, 0)) → ∃ A6 c6 F6 w6, (Builtin.append_ #[70, 70] 70 #[.slice A' 0 cap, .slice (some ⟨b1, 0, none⟩) 1 1]).run Tryd.prog w' = .ok (.slice A6 (0 + 1) c6) w6 ∧ Own w6 76 3 (.slice A6 (0 + 1) c6) (0 + 1) ((out.take 0 ++ [cc]).flatMap choC) F6 ∧ (∀ j, F6 = some j → w9.heap.size ≤ j) ∧ Qt w9 w6 := by
               intro w' A' cap F' b1 o q hF hb1
               obtain ⟨A6, c6, F6, w6, p, o6, kk, f⟩ := pushN_run (P := Tryd.prog) tyCR o (choC cc) rfl (choC_one cc) hb1 (by omega) (by omega) 70
               refine ⟨A6, c6, F6, w6, p, by rw [List.flatMap_append]; simpa using o6, fun j hj => ?_, Qt.then q kk hF⟩
               rcases f j hj with h | h
               · exact hF j h
               · have := q.size; omega
             have hz0 : (wd.alloc (.cells #[] 76)).heap.size = wd.heap.size + 1 := size_alloc _ _
             have hz1 : (wd.alloc (.cells #[.string cc.1, .string cc.2.1, .int .i64 cc.2.2] 76)).heap.size = wd.heap.size + 1 := size_alloc _ _
             have o0 := own_empty wd 76 3
             have o1x := own_empty (wd.alloc (.cells #[.string cc.1, .string cc.2.1, .int .i64 cc.2.2] 76)) 76 3
             have b0 : ((wd.alloc (.cells #[] 76)).alloc (.cells #[.string cc.1, .string cc.2.1, .int .i64 cc.2.2] 76)).heap[wd.heap.size + 1]? = some (.cells #[.string cc.1, .string cc.2.1, .int .i64 cc.2.2] 76 (0, 0)) := by rw [← hz0]; exact blk_new _ _
             have b1 : ((wd.alloc (.cells #[.string cc.1, .string cc.2.1, .int .i64 cc.2.2] 76)).alloc (.cells #[] 76)).heap[wd.heap.size]? = some (.cells #[.string cc.1, .string cc.2.1, .int .i64 cc.2.2] 76 (0, 0)) := (z0 _).heap (blk_new _ _) (fun h => h)
             rw [hz1] at o1x
             have o0b := o0.chg (z1 _) (fun _ _ h => h)
             have l0 := blk_lt b0
             have l1 := blk_lt b1
             simp (maxSteps := 1000000) (disch := omega) only [genAll, decAll, tk_nil, st32, qkld76 C]
             refine ⟨⟨qa, ?_, ⟨qab, ?_, trivial⟩, trivial⟩, ⟨qb, ⟨qba, ?_, trivial⟩, trivial⟩, trivial⟩
             · obtain ⟨A', cap, F', w6', p6, o6, q6', f6, _⟩ := step1 _ _ o0 qa s5
               refine appK p6 ?_
               obtain ⟨A7, c7, F7, w7', p7, o7, f7, q7'⟩ := push2 (w6'.alloc (.cells #[.string cc.1, .string cc.2.1, .int .i64 cc.2.2] 76)) A' cap F' w6'.heap.size (o6.chg (z1 _) (fun _ _ h => h)) (q6'.trans (z1 _)) f6 (blk_new _ _)
               simp (maxSteps := 1000000) (disch := omega) only [genAll, decAll, tk_nil, st32]
               refine ⟨q6', ⟨q6'.trans (z1 _), appK p7 ?_, trivial⟩, trivial⟩
               simp (maxSteps := 1000000) (disch := omega) only [genAll, decAll, tk_nil, st32]
               exact ⟨q7', F7, o7, f7, q7'⟩
             · obtain ⟨A', cap, F', w6', p6, o6, q6', f6, k6⟩ := step1 _ _ o0b qab s5
               refine appK p6 ?_
               obtain ⟨A7, c7, F7, w7', p7, o7, f7, q7'⟩ := push2 w6' A' cap F' (wd.heap.size + 1) o6 q6' f6 (by rw [k6 _ l0 (by omega)]; exact b0)
               simp (maxSteps := 1000000) (disch := omega) only [genAll, decAll, tk_nil, st32]
               refine ⟨q6', appK p7 ?_, trivial⟩
               simp (maxSteps := 1000000) (disch := omega) only [genAll, decAll, tk_nil, st32]
               exact ⟨q7', F7, o7, f7, q7'⟩
             · obtain ⟨A', cap, F', w6', p6, o6, q6', f6, k6⟩ := step1 _ _ o1x qba (by omega)
               refine appK p6 ?_
               obtain ⟨A7, c7, F7, w7', p7, o7, f7, q7'⟩ := push2 w6' A' cap F' wd.heap.size o6 q6' f6 (by rw [k6 _ l1 (by omega)]; exact b1)
               simp (maxSteps := 1000000) (disch := omega) only [genAll, decAll, tk_nil, st32]
               refine ⟨q6', appK p7 ?_, trivial⟩
               simp (maxSteps := 1000000) (disch := omega) only [genAll, decAll, tk_nil, st32]
               exact ⟨q7', F7, o7, f7, q7'⟩
           rintro _ u w12 ⟨F6, o6, hF6, q12x⟩
           obtain ⟨A6, c6, rfl, _, _⟩ := o6.shape
           have hout0 : out.drop 0 = [] := by rw [List.drop_zero]; exact List.length_eq_zero_iff.1 h0
           rw [h0]
           refine sl_n ?_
           obtain ⟨A8, c8, F8, w13, p8, o8, k8, f8⟩ := app_run (P := Tryd.prog) tyCR o6 none 0 0 ((out.drop 0).flatMap choC) (by rw [hout0]; rfl) (by rw [hout0]; exact Src.nil _ _) (choF_one _) (by omega) (by omega) 70
           refine appK p8 ?_
           have q13 : Qt w9 w13 := Qt.then q12x k8 hF6
           have el' : (out.take 0 ++ cc :: out.drop 0).length = 0 + 1 + 0 := by rw [hout0]; simp
           have ef : (out.take 0 ++ [cc]).flatMap choC ++ (out.drop 0).flatMap choC = (out.take 0 ++ cc :: out.drop 0).flatMap choC := by rw [List.flatMap_append, List.flatMap_append, List.flatMap_cons]; simp
           rw [ef, ← el'] at o8
           rw [← el']
           simp (maxSteps := 1000000) (disch := omega) only [genAll, decAll, tk_nil, st32]
           refine ⟨⟨i + 1, A8, c8, F8, out.take 0 ++ cc :: out.drop 0, by go_num, by omega, rfl, ?_, ins_pair hpair hkn hlow hstop, o8, q09.trans q13, fun j hj => ?_⟩, by simp [rel, intOf]; omega⟩
           · rw [hsn]
             exact (ins_perm out cc 0).trans ((List.Perm.cons cc hout).trans (List.perm_append_singleton cc _).symm)
           · rcases f8 j hj with h | h
             · have := hF6 j h; have := q09.size; omega
             · have := (q09.trans q12x).size; omega)
    · cases hA.symm
      have q12 : Qt w9 w11.drew := q911.trans (Qt.drew Qt.refl)
      have rO := reads_own o9
      refine cutK1 (fun u w' => ∃ F6, Own w' 76 3 u (k + 1) ((out.take k ++ [cc]).flatMap choC) F6 ∧ (∀ kk, F6 = some kk → w9.heap.size ≤ kk) ∧ Qt w9 w') ?_ ?_
      · refine drawQ w9 q12 ?_
        have s5 := q12.size
        generalize w11.drew = wd at *
        refine take_slice (.slice (some ⟨g1, 0, none⟩) k c1) (fun w' _ => by (simp (maxSteps := 1000000) (disch := omega) only [genAll, decAll, tk_nil, st32]; try (exact ⟨trivial, trivial⟩))) ?_
        have rT := fun w' (q : Qt w9 w') => src_take3 (rO.quiet q) k
        have step1 : ∀ (w' : World) (bb : Nat), Own w' 76 3 (.slice (some ⟨bb, 0, none⟩) 0 0) 0 [] (some bb) → Qt w9 w' → w9.heap.size ≤ bb → ∃ A' cap F' w'', (Builtin.append_ #[70, 70] 70 #[.slice (some ⟨bb, 0, none⟩) 0 0, .slice (some ⟨g1, 0, none⟩) k c1]).run Tryd.prog w' = .ok (.slice A' k cap) w'' ∧ Own w'' 76 3 (.slice A' k cap) k ((out.take k).flatMap choC) F' ∧ Qt w9 w'' ∧ (∀ j, F' = some j → w9.heap.size ≤ j) ∧ (∀ j, j < w'.heap.size → j ≠ bb → w''.heap[j]? = w'.heap[j]?) := by
          intro w' bb oo q hb
          obtain ⟨A', cap, F', w'', p, o', kk, f⟩ := app_run (P := Tryd.prog) tyCR oo (some ⟨g1, 0, none⟩) k c1 ((out.take k).flatMap choC) (by rw [flat_len choC_len, List.length_take]; omega) (rT w' q) (choF_one _) (by omega) (by omega) 70
          rw [Nat.zero_add] at p o'
          rw [List.nil_append] at o'
          refine ⟨A', cap, F', w'', p, o', Qt.then q kk (fun j hj => by cases hj; exact hb), fun j hj => ?_, fun j hj hne => (kk.block j hj (fun h => by cases h; exact hne rfl))⟩
          rcases f j hj with h | h
          · cases h; exact hb
          · have := q.size; omega
        have z0 : ∀ w', Qt w' (w'.alloc (.cells #[] 76)) := fun w' => Chg.alloc Qt.refl _
        have z1 : ∀ w', Qt w' (w'.alloc (.cells #[.string cc.1, .string cc.2.1, .int .i64 cc.2.2] 76)) := fun w' => Chg.alloc Qt.refl _
        have qa := q12.trans (z0 wd)
        have qab := qa.trans (z1 _)
        have qb := q12.trans (z1 wd)
        have qba := qb.trans (z0 _)
        have push2 : ∀ (w' : World) (A' : Option Addr) (cap : Nat) (F' : Option Nat) (b1 : Nat), Own w' 76 3 (.slice A' k cap) k ((out.take k).flatMap choC) F' → Qt w9 w' → (∀ j, F' = some j → w9.heap.size ≤ j) → w'.heap[b1]? = some (.cells #[.string cc.1, .string cc.2.1, .int .i64 cc.2.2] 76 (0, 0)) → ∃ A6 c6 F6 w6, (Builtin.append_ #[70, 70] 70 #[.slice A' k cap, .slice (some ⟨b1, 0, none⟩) 1 1]).run Tryd.prog w' = .ok (.slice A6 (k + 1) c6) w6 ∧ Own w6 76 3 (.slice A6 (k + 1) c6) (k + 1) ((out.take k ++ [cc]).flatMap choC) F6 ∧ (∀ j, F6 = some j → w9.heap.size ≤ j) ∧ Qt w9 w6 := by
          intro w' A' cap F' b1 o q hF hb1
          obtain ⟨A6, c6, F6, w6, p, o6, kk, f⟩ := pushN_run (P := Tryd.prog) tyCR o (choC cc) rfl (choC_one cc) hb1 (by omega) (by omega) 70
          refine ⟨A6, c6, F6, w6, p, by rw [List.flatMap_append]; simpa using o6, fun j hj => ?_, Qt.then q kk hF⟩
          rcases f j hj with h | h
          · exact hF j h
          · have := q.size; omega
        have hz0 : (wd.alloc (.cells #[] 76)).heap.size = wd.heap.size + 1 := size_alloc _ _
        have hz1 : (wd.alloc (.cells #[.string cc.1, .string cc.2.1, .int .i64 cc.2.2] 76)).heap.size = wd.heap.size + 1 := size_alloc _ _
        have o0 := own_empty wd 76 3
        have o1x := own_empty (wd.alloc (.cells #[.string cc.1, .string cc.2.1, .int .i64 cc.2.2] 76)) 76 3
        have b0 : ((wd.alloc (.cells #[] 76)).alloc (.cells #[.string cc.1, .string cc.2.1, .int .i64 cc.2.2] 76)).heap[wd.heap.size + 1]? = some (.cells #[.string cc.1, .string cc.2.1, .int .i64 cc.2.2] 76 (0, 0)) := by rw [← hz0]; exact blk_new _ _
        have b1 : ((wd.alloc (.cells #[.string cc.1, .string cc.2.1, .int .i64 cc.2.2] 76)).alloc (.cells #[] 76)).heap[wd.heap.size]? = some (.cells #[.string cc.1, .string cc.2.1, .int .i64 cc.2.2] 76 (0, 0)) := (z0 _).heap (blk_new _ _) (fun h => h)
        rw [hz1] at o1x
        have o0b := o0.chg (z1 _) (fun _ _ h => h)
        have l0 := blk_lt b0
        have l1 := blk_lt b1
        simp (maxSteps := 1000000) (disch := omega) only [genAll, decAll, tk_nil, st32, qkld76 C]
        refine ⟨⟨qa, ?_, ⟨qab, ?_, trivial⟩, trivial⟩, ⟨qb, ⟨qba, ?_, trivial⟩, trivial⟩, trivial⟩
        · obtain ⟨A', cap, F', w6', p6, o6, q6', f6, _⟩ := step1 _ _ o0 qa s5
          refine appK p6 ?_
          obtain ⟨A7, c7, F7, w7', p7, o7, f7, q7'⟩ := push2 (w6'.alloc (.cells #[.string cc.1, .string cc.2.1, .int .i64 cc.2.2] 76)) A' cap F' w6'.heap.size (o6.chg (z1 _) (fun _ _ h => h)) (q6'.trans (z1 _)) f6 (blk_new _ _)
          simp (maxSteps := 1000000) (disch := omega) only [genAll, decAll, tk_nil, st32]
          refine ⟨q6', ⟨q6'.trans (z1 _), appK p7 ?_, trivial⟩, trivial⟩
          simp (maxSteps := 1000000) (disch := omega) only [genAll, decAll, tk_nil, st32]
          exact ⟨q7', F7, o7, f7, q7'⟩
        · obtain ⟨A', cap, F', w6', p6, o6, q6', f6, k6⟩ := step1 _ _ o0b qab s5
          refine appK p6 ?_
          obtain ⟨A7, c7, F7, w7', p7, o7, f7, q7'⟩ := push2 w6' A' cap F' (wd.heap.size + 1) o6 q6' f6 (by rw [k6 _ l0 (by omega)]; exact b0)
          simp (maxSteps := 1000000) (disch := omega) only [genAll, decAll, tk_nil, st32]
          refine ⟨q6', appK p7 ?_, trivial⟩
          simp (maxSteps := 1000000) (disch := omega) only [genAll, decAll, tk_nil, st32]
          exact ⟨q7', F7, o7, f7, q7'⟩
        · obtain ⟨A', cap, F', w6', p6, o6, q6', f6, k6⟩ := step1 _ _ o1x qba (by omega)
          refine appK p6 ?_
          obtain ⟨A7, c7, F7, w7', p7, o7, f7, q7'⟩ := push2 w6' A' cap F' wd.heap.size o6 q6' f6 (by rw [k6 _ l1 (by omega)]; exact b1)
          simp (maxSteps := 1000000) (disch := omega) only [genAll, decAll, tk_nil, st32]
          refine ⟨q6', appK p7 ?_, trivial⟩
          simp (maxSteps := 1000000) (disch := omega) only [genAll, decAll, tk_nil, st32]
          exact ⟨q7', F7, o7, f7, q7'⟩
      rintro _ u w12 ⟨F6, o6, hF6, q12x⟩
      obtain ⟨A6, c6, rfl, _, _⟩ := o6.shape
      simp (maxSteps := 1000000) (disch := omega) only [genAll, decAll, tk_nil, st32]
      obtain ⟨A8, c8, F8, w13, p8, o8, k8, f8⟩ := app_run (P := Tryd.prog) tyCR o6 (if c1 = k then some ⟨g1, 0, none⟩ else some ⟨g1, k * 3, none⟩) (out.length - k) (c1 - k) ((out.drop k).flatMap choC) (by rw [flat_len choC_len, List.length_drop]) (src_drop0 (rO.quiet q12x) hc1 k hkn) (choF_one _) (by omega) (by omega) 70
      refine appK p8 ?_
      have q13 : Qt w9 w13 := Qt.then q12x k8 hF6
      have el' : (out.take k ++ cc :: out.drop k).length = k + 1 + (out.length - k) := by rw [List.length_append, List.length_cons, List.length_take, List.length_drop]; omega
      have ef : (out.take k ++ [cc]).flatMap choC ++ (out.drop k).flatMap choC = (out.take k ++ cc :: out.drop k).flatMap choC := by rw [List.flatMap_append, List.flatMap_append, List.flatMap_cons]; simp
      rw [ef, ← el'] at o8
      rw [← el']
      simp (maxSteps := 1000000) (disch := omega) only [genAll, decAll, tk_nil, st32]
      refine ⟨⟨i + 1, A8, c8, F8, out.take k ++ cc :: out.drop k, by go_num, by omega, rfl, ?_, ins_pair hpair hkn hlow hstop, o8, q09.trans q13, fun j hj => ?_⟩, by simp [rel, intOf]; omega⟩
      · rw [hsn]
        exact (ins_perm out cc k).trans ((List.Perm.cons cc hout).trans (List.perm_append_singleton cc _).symm)
      · rcases f8 j hj with h | h
        · have := hF6 j h; have := q09.size; omega
        · have := (q09.trans q12x).size; omega
end Go.Proofs.YtpjeohellehgjaaDoor

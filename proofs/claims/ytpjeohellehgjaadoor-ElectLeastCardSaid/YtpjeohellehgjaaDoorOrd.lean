/- elect.Order, elect.Rep: those that stand, in order. Conditions: the rows read, their attributes rise. -/
import Derived.Test.YtpjeohellehgjaaDoorStab
import Derived.Test.YtpjeohellehgjaaDoorEl3
set_option linter.unusedVariables false
set_option linter.unusedSimpArgs false
set_option maxRecDepth 100000
namespace Go.Cn
def ordL (l : List ChoD) : List ChoD := l.mergeSort (fun a b => decide (cmpC a b ≤ 0))
theorem ordL_perm (l : List ChoD) : (ordL l).Perm l := List.mergeSort_perm _ _
theorem cmpC_total (a b : ChoD) : cmpC a b ≤ 0 ∨ cmpC b a ≤ 0 := by
  have := cmpC_anti a b; omega
theorem ordL_pair (l : List ChoD) : (ordL l).Pairwise (fun a b => cmpC a b ≤ 0) := by
  have := List.pairwise_mergeSort (le := fun a b => decide (cmpC a b ≤ 0)) (fun a b c h1 h2 => decide_eq_true (cmpC_trans (of_decide_eq_true h1) (of_decide_eq_true h2))) (fun a b => by
    rcases cmpC_total a b with h | h
    · simp [h]
    · simp [h]) l
  exact this.imp (fun h => of_decide_eq_true h)
theorem srt_pair {l : List ChoD} (hl : Srt 0 l.length l) : l.Pairwise (fun a b => cmpC a b ≤ 0) := by
  refine List.pairwise_iff_getElem.2 fun i j hi hj hij => ?_
  have := hl i j (Nat.zero_le _) hij hj
  simpa [el, hi, hj] using this
theorem pair_eq {d d' : List ChoD} (h : d.Pairwise (fun a b => cmpC a b ≤ 0)) (h2 : d'.Pairwise (fun a b => cmpC a b ≤ 0)) (hp : d.Perm d') : d = d' :=
  List.Perm.eq_of_pairwise (le := fun a b => cmpC a b ≤ 0) (fun a b _ _ h1 h3 => by
    have := cmpC_anti a b
    exact cmpC_zero (by omega)) h h2 hp
theorem ord_eq {l ys : List ChoD} (h : Srt 0 ys.length ys) (hp : ys.Perm l) : ys = ordL l := pair_eq (srt_pair h) (ordL_pair l) (hp.trans (ordL_perm l).symm)
theorem ordL_len (l : List ChoD) : (ordL l).length = l.length := (ordL_perm l).length_eq
end Go.Cn
namespace Go.Proofs.YtpjeohellehgjaaDoor
open Go.RowKit Go.Cn
theorem infoC : (Tryd.prog.info? 73).map (fun i => (i.zero, i.size, i.bytes)) = some (some (.agg #[.string ByteArray.empty, .string ByteArray.empty, .int .i64 0]), 3, 40) := by kernel_rfl
theorem tyC : ElemTy Tryd.prog 68 73 (.agg #[.string ByteArray.empty, .string ByteArray.empty, .int .i64 0]) 3 40 := ElemTy.mk' Tryd.underlying68 infoC rfl (by decide)
theorem clipC_any {w : World} {n c : Nat} {A : Option Addr} {xs : List Value} {F : Option Nat} {K : Value → World → Prop} (o : Own w 73 3 (.slice A n c) n xs F) (hK : K (.slice A n n) w) : CallK Tryd.prog 69 #[.slice A n c] K w := by
  refine F69_calls _ _ _ ?_; unfold F69
  rcases own_cases o with ⟨rfl, rfl, rfl, _⟩ | ⟨g, rfl, _, h1, h2⟩
  · have e0 : ((0 : Nat) : Int) = 0 := rfl
    simp (maxSteps := 1000000) (disch := omega) only [genAll, decAll, tk_nil, st69, e0]
    exact hK
  · simp (maxSteps := 1000000) (disch := omega) only [genAll, decAll, tk_nil, st69]
    exact hK
theorem sort_any {w : World} {n c : Nat} {A : Option Addr} {xs : List ChoD} {F : Option Nat} {K : Value → World → Prop} (e : xs.length = n) (hl : n ≤ 100000) (o : Own w 73 3 (.slice A n c) n (xs.flatMap choC) F) (hK : ∀ w', Own w' 73 3 (.slice A n c) n ((ordL xs).flatMap choC) F → Chg (fun k => F = some k) w w' → K (.tuple #[]) w') : CallK Tryd.prog 67 #[.slice A n c, .func (.func 68) #[] #[]] K w := by
  refine F67_calls _ _ _ _ ?_; unfold F67
  rcases o with ⟨hv, h0, h1, h2⟩ | ⟨g, cap, hv, hF, hr⟩
  · cases hv
    subst h2
    obtain rfl : xs = [] := List.length_eq_zero_iff.1 e
    have e0 : ((0 : Nat) : Int) = 0 := rfl
    simp (maxSteps := 1000000) (disch := omega) only [genAll, decAll, tk_nil, st67, e0]
    refine ck92 (stab0_any ?_)
    simp (maxSteps := 1000000) (disch := omega) only [genAll, decAll, tk_nil, st67]
    exact hK w (by rw [show ordL [] = [] by simp [ordL]]; exact Own.nil _ _ _) (Chg.refl _ _)
  · cases hv
    subst hF
    subst e
    simp (maxSteps := 1000000) (disch := omega) only [genAll, decAll, tk_nil, st67]
    refine ck92 (stab_any (g := g) (cap := c) (xs := xs) hr hl ?_)
    intro ys w2 h2 m2 s2 c2
    have hy : ys = ordL xs := ord_eq (by rw [m2.len]; exact s2) m2.perm
    simp (maxSteps := 1000000) (disch := omega) only [genAll, decAll, tk_nil, st67]
    refine hK w2 ?_ (c2.mono (fun _ _ h => by rw [h]))
    rw [← hy]
    have : ChAt w2 g c ys := h2
    unfold ChAt at this
    rw [m2.len] at this
    exact .inr ⟨g, c, rfl, rfl, this⟩
/-- What a row must tell for one to stand. -/
structure ElOk (r : RowH) : Prop where
  up : UpK (r.2.2.2.2.map (·.1))
  n : r.2.2.2.2.length ≤ 100000
  l : ∀ h ∈ r.2.2.2.2, h.2.1.2.2.2.length ≤ 100000
  s : ∀ h ∈ r.2.2.2.2, h.2.1.2.2.1.size ≤ 20000
theorem stand_snoc (l : List RowD) {i : Nat} (hi : i < l.length) : standL (l.take (i + 1)) = standL (l.take i) ++ if standsP (l.getD i default) = true then [choOf (l.getD i default)] else [] := by
  unfold standL
  rw [filter_snoc l standsP hi, List.map_append]
  by_cases h : standsP (l.getD i default) = true
  · rw [if_pos h, if_pos h]; rfl
  · rw [if_neg h, if_neg h]; rfl
theorem stand_len (l : List RowD) (i : Nat) : (standL (l.take i)).length ≤ l.length := by
  unfold standL
  rw [List.length_map]
  exact filter_take_len l standsP i
set_option maxHeartbeats 4000000 in
theorem order_any {rs : List RowH} {A : Option Addr} {c : Nat} {w : World} {K : Value → World → Prop} (hm : MaxAt w) (ha : RowsAt w A rs) (lr : rs.length ≤ 100000) (hok : ∀ r ∈ rs, ElOk r)
    (hK : ∀ A' w', Reads w' A' ((ordL (standL (rs.map rowP))).flatMap choC) → Qt w w' → K (.slice A' (ordL (standL (rs.map rowP))).length (ordL (standL (rs.map rowP))).length) w') : CallK Tryd.prog 31 #[.slice A rs.length c] K w := by
  refine F31_calls _ _ _ ?_; unfold F31
  simp (maxSteps := 1000000) (disch := omega) only [genAll, decAll, tk_nil, st31]
  refine loopK2 (fun x v w' => ∃ (i : Nat) (A' : Option Addr) (c' : Nat) (F : Option Nat) (out : List ChoD), v = .int .i64 i ∧ i ≤ rs.length ∧ x = .slice A' out.length c' ∧ out = standL ((rs.map rowP).take i) ∧ Own w' 73 3 (.slice A' out.length c') out.length (out.flatMap choC) F ∧ Qt w w' ∧ (∀ k, F = some k → w.heap.size ≤ k)) (fun _ v _ => rs.length - (intOf v).toNat) ⟨0, none, 0, none, [], rfl, by omega, rfl, rfl, Own.nil _ _ _, Qt.refl, fun _ h => by cases h⟩ ?_
  rintro _ _ _ w1 ⟨i, A1, c1, F1, out, rfl, hi, rfl, hout, o1, q1, f1⟩
  have hlen := stand_len (rs.map rowP) i
  rw [← hout, List.length_map] at hlen
  by_cases hlt : i < rs.length
  · obtain ⟨g, o, rfl, z0, z1, z2, z3, z4, z5⟩ := row_at (ha.1.quiet q1) hlt
    have hat := (ha.get hlt).quiet q1
    have hk := hok _ (getD_mem hlt)
    have hsn := stand_snoc (rs.map rowP) (i := i) (by rw [List.length_map]; exact hlt)
    rw [rowP_getD, ← hout] at hsn
    generalize rs.getD i default = r at *
    obtain ⟨key, s, B, d, hs⟩ := r
    obtain ⟨k1, k2, k3, k4⟩ := hk
    have hsn : standL ((rs.map rowP).take (i + 1)) = out ++ if standsP (key, s, hs.map attP) = true then [choOf (key, s, hs.map attP)] else [] := hsn
    simp only at z0 z1 z2 z3 z4 z5 hat k1 k2 k3 k4
    obtain ⟨q2, h2, s2⟩ := newb w1 #[.string key, .int .i64 s.1, .int .i64 s.2.1, .int .i64 s.2.2.1, .string s.2.2.2, .slice B hs.length d] 55
    simp (maxSteps := 1000000) (disch := omega) only [genAll, decAll, tk_nil, st31, z0, z1, z2, z3, z4, z5]
    generalize (w1.alloc (.cells #[.string key, .int .i64 s.1, .int .i64 s.2.1, .int .i64 s.2.2.1, .string s.2.2.2, .slice B hs.length d] 55)) = w2 at *
    generalize w1.heap.size = b at *
    obtain ⟨x0, x1, x2, x3, x4, x5⟩ := cell6 h2
    have q02 := q1.trans q2
    simp (maxSteps := 1000000) (disch := omega) only [genAll, decAll, tk_nil, st31, x0, x1, x2, x3, x4, x5]
    refine ck66 (stands_any (hm.quiet q02) (hat.quiet q2) k1 k2 k3 k4 ?_)
    intro w3 q3
    have q03 := q02.trans q3
    cases hst : standsP (key, s, hs.map attP) with
    | false =>
      rw [hst, if_neg (by decide), List.append_nil] at hsn
      rw [if_neg (by decide)]
      obtain ⟨q4, h4, s4⟩ := newb w3 #[.string cho0.1, .string cho0.2.1, .int .i64 cho0.2.2] 73
      simp (maxSteps := 1000000) (disch := omega) only [genAll, decAll, tk_nil, st31]
      generalize (w3.alloc (.cells #[.string cho0.1, .string cho0.2.1, .int .i64 cho0.2.2] 73)) = w4 at *
      have q14 := (q2.trans q3).trans q4
      exact ⟨⟨i + 1, A1, c1, F1, out, by go_num, by omega, rfl, hsn.symm, o1.chg q14 (fun _ _ h => h), q1.trans q14, f1⟩, by simp [rel, intOf]; omega⟩
    | true =>
      rw [hst, if_pos rfl] at hsn
      rw [if_pos rfl]
      generalize choOf (key, s, hs.map attP) = cc at *
      obtain ⟨q4, h4, s4⟩ := newb w3 #[.string cc.1, .string cc.2.1, .int .i64 cc.2.2] 73
      simp (maxSteps := 1000000) (disch := omega) only [genAll, decAll, tk_nil, st31]
      generalize (w3.alloc (.cells #[.string cc.1, .string cc.2.1, .int .i64 cc.2.2] 73)) = w4 at *
      generalize w3.heap.size = b3 at *
      obtain ⟨y0, y1, y2⟩ := cell3 h4
      have q14 := (q2.trans q3).trans q4
      obtain ⟨q6, h6, s6⟩ := newb w4 #[.string cc.1, .string cc.2.1, .int .i64 cc.2.2] 73
      obtain ⟨A7, c7, F7, w7, p7, o7, k7, f7⟩ := pushN_run (P := Tryd.prog) tyC ((o1.chg q14 (fun _ _ h => h)).chg q6 (fun _ _ h => h)) (choC cc) rfl (choC_one cc) h6 (by omega) (by omega) 68
      simp (maxSteps := 1000000) (disch := omega) only [genAll, decAll, tk_nil, st31, y0, y1, y2]
      generalize (w4.alloc (.cells #[.string cc.1, .string cc.2.1, .int .i64 cc.2.2] 73)) = w6 at *
      refine appK p7 ?_
      simp (maxSteps := 1000000) (disch := omega) only [genAll, decAll, tk_nil, st31]
      have q07 := Qt.then ((q1.trans q14).trans q6) k7 f1
      have hlen2 : (out ++ [cc]).length = out.length + 1 := by simp
      refine ⟨⟨i + 1, A7, c7, F7, out ++ [cc], by go_num, by omega, by rw [hlen2], hsn.symm, ?_, q07, fun k hk => ?_⟩, by simp [rel, intOf]; omega⟩
      · rw [hlen2, List.flatMap_append]
        simpa using o7
      · rcases f7 k hk with h | h
        · exact f1 k h
        · have := ((q1.trans q14).trans q6).size; omega
  · obtain rfl : i = rs.length := by omega
    rw [List.take_of_length_le (by rw [List.length_map]; omega)] at hout
    simp (maxSteps := 1000000) (disch := omega) only [genAll, decAll, tk_nil, st31]
    refine ck67 (sort_any rfl (by omega) o1 ?_)
    intro w2 o2 c2
    have q2 := Qt.then q1 c2 f1
    simp (maxSteps := 1000000) (disch := omega) only [genAll, decAll, tk_nil, st31]
    refine ck69 (clipC_any o2 ?_)
    simp (maxSteps := 1000000) (disch := omega) only [genAll, decAll, tk_nil, st31]
    have := hK A1 w2 (by rw [← hout]; exact reads_own o2) q2
    rw [← hout, ordL_len] at this
    exact this
/-- The first, and whether there is one. -/
def firstC (l : List ChoD) : ChoD := l.headD cho0
theorem first_any {l : List ChoD} {A : Option Addr} {c : Nat} {w : World} {K : Value → World → Prop} (hr : Reads w A (l.flatMap choC)) (hK : ∀ w', Qt w w' → K (.tuple #[choV (firstC l), .bool (!l.isEmpty)]) w') : CallK Tryd.prog 73 #[.slice A l.length c] K w := by
  refine F73_calls _ _ _ ?_; unfold F73
  obtain ⟨q1, h1, s1⟩ := newb w #[.string ByteArray.empty, .string ByteArray.empty, .int .i64 0] 73
  simp (maxSteps := 1000000) (disch := omega) only [genAll, decAll, tk_nil, st73]
  generalize (w.alloc (.cells #[.string ByteArray.empty, .string ByteArray.empty, .int .i64 0] 73)) = w1 at *
  generalize hb : w.heap.size = b at *
  cases l with
  | nil =>
    have e : (((([] : List ChoD).length : Nat) : Int) == 0) = true := rfl
    obtain ⟨q2, h2, s2⟩ := newb w1 #[.string ByteArray.empty, .string ByteArray.empty, .int .i64 0] 73
    simp (maxSteps := 1000000) (disch := omega) only [genAll, decAll, tk_nil, st73, e]
    generalize (w1.alloc (.cells #[.string ByteArray.empty, .string ByteArray.empty, .int .i64 0] 73)) = w2 at *
    obtain ⟨x0, x1, x2⟩ := cell3 h2
    simp (maxSteps := 1000000) (disch := omega) only [genAll, decAll, tk_nil, st73, x0, x1, x2]
    refine aggStoreW (cs := choC cho0) (q2.heap h1 (fun h => h)) rfl (by kernel_rfl) (choC_one _) ?_
    intro w3 h3 k3
    obtain ⟨y0, y1, y2⟩ := cell3 h3
    simp (maxSteps := 1000000) (disch := omega) only [genAll, decAll, tk_nil, st73, y0, y1, y2]
    exact hK _ (Qt.then (q1.trans q2) k3 (fun k hk => by omega))
  | cons x l =>
    have e : ((((x :: l).length : Nat) : Int) == 0) = false := beq_eq_false_iff_ne.2 (by rw [List.length_cons]; omega)
    obtain ⟨g, o, rfl, z0, z1, z2⟩ := cho_at (hr.quiet q1) (i := 0) (by simp)
    have ex : (x :: l).getD 0 default = x := rfl
    rw [ex] at z0 z1 z2
    have hlp : 0 < (x :: l).length := by simp
    simp (maxSteps := 1000000) (disch := omega) only [genAll, decAll, tk_nil, st73, e, z0, z1, z2]
    refine aggStoreW (cs := choC x) h1 rfl (by kernel_rfl) (choC_one _) ?_
    intro w3 h3 k3
    obtain ⟨y0, y1, y2⟩ := cell3 h3
    simp (maxSteps := 1000000) (disch := omega) only [genAll, decAll, tk_nil, st73, y0, y1, y2]
    exact hK _ (Qt.then q1 k3 (fun k hk => by omega))
theorem rep_any {rs : List RowH} {A : Option Addr} {c : Nat} {w : World} {K : Value → World → Prop} (hm : MaxAt w) (ha : RowsAt w A rs) (lr : rs.length ≤ 100000) (hok : ∀ r ∈ rs, ElOk r)
    (hK : ∀ w', Qt w w' → K (.tuple #[choV (firstC (ordL (standL (rs.map rowP)))), .bool (!(ordL (standL (rs.map rowP))).isEmpty)]) w') : CallK Tryd.prog 33 #[.slice A rs.length c] K w := by
  refine F33_calls _ _ _ ?_; unfold F33
  obtain ⟨q1, h1, s1⟩ := newb w #[.string ByteArray.empty, .string ByteArray.empty, .int .i64 0] 73
  simp (maxSteps := 1000000) (disch := omega) only [genAll, decAll, tk_nil, st33]
  generalize (w.alloc (.cells #[.string ByteArray.empty, .string ByteArray.empty, .int .i64 0] 73)) = w1 at *
  generalize hb : w.heap.size = b at *
  refine ck31 (order_any (hm.quiet q1) (ha.quiet q1) lr hok ?_)
  intro A2 w2 r2 q2
  simp (maxSteps := 1000000) (disch := omega) only [genAll, decAll, tk_nil, st33]
  refine ck73 (first_any r2 ?_)
  generalize ordL (standL (rs.map rowP)) = l at *
  intro w3 q3
  have q03 := (q1.trans q2).trans q3
  simp (maxSteps := 1000000) (disch := omega) only [genAll, decAll, tk_nil, st33]
  refine aggStoreW (cs := choC (firstC l)) ((q2.trans q3).heap h1 (fun h => h)) rfl (by kernel_rfl) (choC_one _) ?_
  intro w4 h4 k4
  obtain ⟨y0, y1, y2⟩ := cell3 h4
  simp (maxSteps := 1000000) (disch := omega) only [genAll, decAll, tk_nil, st33, y0, y1, y2]
  exact hK _ (Qt.then q03 k4 (fun k hk => by omega))
end Go.Proofs.YtpjeohellehgjaaDoor

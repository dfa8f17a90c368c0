/- DigestSelf: the walk. Conditions: rows read. -/
import Derived.Test.YtpjeohellehgjaaDoorAnyLaw
set_option linter.unusedVariables false
set_option linter.unusedSimpArgs false
set_option maxRecDepth 100000
namespace Go.Proofs.YtpjeohellehgjaaDoor
open Go.RowKit Go.Cn
theorem cmpStm_self (s : Stm) : cmpStm s s = 0 := cmpStm_zero.2 rfl
theorem sendL_self (l : List RowD) : sendL l (l.map mkR) = [] := by
  unfold sendL
  rw [List.filter_eq_nil_iff]
  intro r hr
  unfold newS
  have : ((l.map mkR).any fun m => decide (m.1 = r.1) && decide (cmpStm r.2.1 m.2 ≤ 0)) = true := by
    rw [List.any_eq_true]
    refine ⟨mkR r, List.mem_map_of_mem hr, ?_⟩
    have e : (mkR r).2 = r.2.1 := rfl
    rw [e, cmpStm_self]
    have e2 : (mkR r).1 = r.1 := rfl
    rw [decide_eq_true e2]; rfl
  rw [this]; decide
theorem wantL_self (l : List RowD) : wantL l (l.map mkR) = [] := by
  unfold wantL
  rw [List.map_eq_nil_iff, List.filter_eq_nil_iff]
  intro m hm
  obtain ⟨r, hr, rfl⟩ := List.mem_map.1 hm
  unfold newW
  have : (l.any fun x => decide ((mkR r).1 = x.1) && decide (0 ≤ cmpStm x.2.1 (mkR r).2)) = true := by
    rw [List.any_eq_true]
    refine ⟨r, hr, ?_⟩
    have e : (mkR r).2 = r.2.1 := rfl
    rw [e, cmpStm_self]
    have e2 : (mkR r).1 = r.1 := rfl
    rw [decide_eq_true e2]; rfl
  rw [this]; decide
theorem sendL_nil (l : List RowD) : sendL l [] = l := List.filter_eq_self.2 (fun _ _ => rfl)
theorem wantL_nil (o : List MarkD) : wantL [] o = o.map (·.1) := by
  unfold wantL
  have : o.filter (newW []) = o := List.filter_eq_self.2 (fun _ _ => rfl)
  rw [this]
theorem pickL_nil (l : List RowD) : pickL l [] = [] := List.filter_eq_nil_iff.2 (fun _ _ h => by cases h)
/-- Those named, and nothing else, of rows that rise. -/
theorem pickL_keys {l : List RowD} (hu : UpK (l.map (·.1))) (f : RowD → Bool) : pickL l ((l.filter f).map (·.1)) = l.filter f := by
  unfold pickL
  apply List.filter_congr
  intro r hr
  unfold inK
  rw [Bool.eq_iff_iff, List.any_eq_true]
  constructor
  · rintro ⟨k, hk, he⟩
    obtain ⟨x, hx, rfl⟩ := List.mem_map.1 hk
    obtain ⟨hx1, hx2⟩ := List.mem_filter.1 hx
    have he := of_decide_eq_true he
    obtain ⟨i, hi, rfl⟩ := List.mem_iff_getElem.1 hx1
    obtain ⟨j, hj, rfl⟩ := List.mem_iff_getElem.1 hr
    have : i = j := upK_one hu hi hj (by simpa [hi, hj] using he)
    subst this
    exact hx2
  · intro h
    exact ⟨r.1, List.mem_map_of_mem (List.mem_filter.2 ⟨hr, h⟩), decide_eq_true rfl⟩
theorem badM_ok : ∀ (l : List RowD) (p : Option ByteArray), (∀ r ∈ l, checkR r = 0) → UpK (l.map (·.1)) → (∀ q, p = some q → ∀ r ∈ l, ltS q r.1 = true) → chkM p (l.map mkR) = 0
  | [], p, _, _, _ => by cases p <;> rfl
  | r :: l, p, h, hu, hp => by
    have h1 := h r List.mem_cons_self
    unfold checkR at h1
    have e1 : nameL r.1.data.toList = true := by
      cases e : nameL r.1.data.toList with
      | true => rfl
      | false => rw [if_pos e] at h1; exact absurd h1 (by decide)
    rw [if_neg (by rw [e1]; decide)] at h1
    have e2 : checkS r.2.1 = 0 := by
      by_cases e : checkS r.2.1 = 0
      · exact e
      · rw [if_pos e] at h1; exact absurd h1 e
    have hu' := List.pairwise_cons.1 hu
    show chkM p (mkR r :: l.map mkR) = 0
    rw [chkM]
    have e3 : (p.all fun q => ltS q (mkR r).1) = true := by
      cases p with
      | none => rfl
      | some q => exact hp q rfl r List.mem_cons_self
    have e4 : nameL (mkR r).1.data.toList = true := e1
    have e5 : checkS (mkR r).2 = 0 := e2
    rw [if_neg (by rw [e4]; decide), if_neg (by rw [e3]; decide), if_neg (fun e => e e5)]
    exact badM_ok l _ (fun x hx => h x (List.mem_cons_of_mem _ hx)) hu'.2 (fun q e x hx => by
      cases e
      exact hu'.1 x.1 (List.mem_map_of_mem hx))
theorem checkMs_ok {l : List RowD} (h : ∀ r ∈ l, checkR r = 0) (hl : l.length ≤ 64) (hu : UpK (l.map (·.1))) : checkMs (l.map mkR) = 0 := by
  unfold checkMs
  rw [if_neg (by rw [List.length_map]; omega)]
  exact badM_ok l none h hu (fun _ e => by cases e)
/-- Filtered by the place, too. -/
def filtI (f : Nat → Bool) : Nat → List RowD → List RowD
  | _, [] => []
  | i, r :: l => if f i = true then r :: filtI f (i + 1) l else filtI f (i + 1) l
theorem filtI_sub (f : Nat → Bool) : ∀ (i : Nat) (l : List RowD), (filtI f i l).Sublist l
  | _, [] => .slnil
  | i, r :: l => by
    rw [filtI]
    by_cases h : f i = true
    · rw [if_pos h]; exact (filtI_sub f (i + 1) l).cons_cons r
    · rw [if_neg h]; exact (filtI_sub f (i + 1) l).cons r
/-- Those named by a part of the rows are that part. -/
theorem pickL_sub {l s : List RowD} (hu : UpK (l.map (·.1))) (hs : s.Sublist l) : pickL l (s.map (·.1)) = s := by
  induction hs with
  | slnil => rfl
  | @cons a b r hs ih =>
    have hu' := List.pairwise_cons.1 hu
    have hno : inK (a.map (·.1)) r = false := by
      unfold inK
      rw [List.any_eq_false]
      intro k hk
      obtain ⟨x, hx, rfl⟩ := List.mem_map.1 hk
      have := hu'.1 x.1 (List.mem_map_of_mem (hs.subset hx))
      intro e
      have e := of_decide_eq_true e
      rw [e, ltS_self] at this; cases this
    have := ih hu'.2
    unfold pickL at this ⊢
    rw [List.filter_cons, hno, if_neg (by decide)]
    exact this
  | @cons_cons a b r hs ih =>
    have hu' := List.pairwise_cons.1 hu
    have hyes : inK ((r :: a).map (·.1)) r = true := by
      unfold inK
      rw [List.any_eq_true]
      exact ⟨r.1, List.mem_cons_self, decide_eq_true rfl⟩
    have hrest : b.filter (inK ((r :: a).map (·.1))) = b.filter (inK (a.map (·.1))) := by
      apply List.filter_congr
      intro x hx
      unfold inK
      rw [List.map_cons, List.any_cons]
      have : decide (r.1 = x.1) = false := decide_eq_false (fun e => by
        have this : ltS r.1 x.1 = true := hu'.1 x.1 (List.mem_map_of_mem hx)
        rw [e, ltS_self] at this; cases this)
      rw [this, Bool.false_or]
    have := ih hu'.2
    unfold pickL at this ⊢
    rw [List.filter_cons, hyes, if_pos rfl, hrest, this]
theorem pick_len {rs : List RowH} {ks : List ByteArray} {n : Nat} {A B : Option Addr} {c d : Nat} {w : World} {K : Value → World → Prop} (e : ks.length = n) (ha : RowsAt w A rs) (hb : Reads w B (ks.map Value.string)) (lr : rs.length ≤ 100000) (lk : n ≤ 100000) (hn : ∀ r ∈ rs, r.2.2.2.2.length ≤ 100000) (hv : ∀ r ∈ rs, ∀ h ∈ r.2.2.2.2, h.2.1.2.2.2.length ≤ 100000)
    (hK : ∀ A' rs' w', rs'.map rowP = pickL (rs.map rowP) ks → RowsAt w' A' rs' → Qt w w' → K (.slice A' rs'.length rs'.length) w') : CallK Tryd.prog 24 #[.slice A rs.length c, .slice B n d] K w := by
  subst e; exact pick_any ha hb lr lk hn hv hK
theorem send_len {rs : List RowH} {ms : List MarkD} {n : Nat} {A B : Option Addr} {c d : Nat} {w : World} {K : Value → World → Prop} (e : ms.length = n) (ha : RowsAt w A rs) (hb : Reads w B (ms.flatMap markC)) (lr : rs.length ≤ 100000) (lm : n ≤ 100000) (hn : ∀ r ∈ rs, r.2.2.2.2.length ≤ 100000) (hv : ∀ r ∈ rs, ∀ h ∈ r.2.2.2.2, h.2.1.2.2.2.length ≤ 100000) (ur : UpK (rs.map (·.1))) (um : UpK (ms.map (·.1)))
    (hK : ∀ A' rs' w', rs'.map rowP = sendL (rs.map rowP) ms → RowsAt w' A' rs' → Qt w w' → K (.slice A' rs'.length rs'.length) w') : CallK Tryd.prog 19 #[.slice A rs.length c, .slice B n d] K w := by
  subst e; exact send_any ha hb lr lm hn hv ur um hK
theorem want_len2 {rs : List RowH} {ms : List MarkD} {m n : Nat} {A B : Option Addr} {c d : Nat} {w : World} {K : Value → World → Prop} (e2 : rs.length = m) (e : ms.length = n) (ha : Reads w A (rs.flatMap rowC)) (hb : Reads w B (ms.flatMap markC)) (lr : m ≤ 100000) (lm : n ≤ 100000) (ur : UpK (rs.map (·.1))) (um : UpK (ms.map (·.1)))
    (hK : ∀ A' w', Reads w' A' ((wantL (rs.map rowP) ms).map Value.string) → Qt w w' → K (.slice A' (wantL (rs.map rowP) ms).length (wantL (rs.map rowP) ms).length) w') : CallK Tryd.prog 22 #[.slice A m c, .slice B n d] K w := by
  subst e e2; exact want_any ha hb lr lm ur um hK
theorem want_len {rs : List RowH} {ms : List MarkD} {n : Nat} {A B : Option Addr} {c d : Nat} {w : World} {K : Value → World → Prop} (e : ms.length = n) (ha : Reads w A (rs.flatMap rowC)) (hb : Reads w B (ms.flatMap markC)) (lr : rs.length ≤ 100000) (lm : n ≤ 100000) (ur : UpK (rs.map (·.1))) (um : UpK (ms.map (·.1)))
    (hK : ∀ A' w', Reads w' A' ((wantL (rs.map rowP) ms).map Value.string) → Qt w w' → K (.slice A' (wantL (rs.map rowP) ms).length (wantL (rs.map rowP) ms).length) w') : CallK Tryd.prog 22 #[.slice A rs.length c, .slice B n d] K w :=
  want_len2 rfl e ha hb lr lm ur um hK
theorem chkM_len {ms : List MarkD} {n : Nat} {A : Option Addr} {c : Nat} {w : World} {K : Value → World → Prop} (e : ms.length = n) (hm : MaxAt w) (ha : Reads w A (ms.flatMap markC)) (hz : ∀ m ∈ ms, m.2.2.2.2.size ≤ 20000)
    (hK : ∀ w', Qt w w' → K (.int .i64 (checkMs ms)) w') : CallK Tryd.prog 13 #[.slice A n c] K w := by
  subst e; exact chkM_any hm ha hz hK
set_option maxHeartbeats 8000000 in
theorem digestSelf_any {rs : List RowH} {n : Int} {A : Option Addr} {c : Nat} {w : World} {K : Value → World → Prop} (hm : MaxAt w) (ha : RowsAt w A rs) (n0 : 0 ≤ n) (n1 : n ≤ 65535) (hK : ∀ w', Qt w w' → K (.bool true) w') : CallK Tryd.prog 4 #[.slice A rs.length c, .int .u16 n] K w := by
  refine F4_calls _ _ _ _ ?_; unfold F4
  refine ck9 (known14_any hm ?_)
  intro w1 q1
  simp (maxSteps := 1000000) (disch := omega) only [genAll, decAll, tk_nil, st4]
  refine ck14 (rise_any (ha.quiet q1) ?_)
  intro b w2 q2 hr
  have q02 := q1.trans q2
  cases b with
  | false =>
    simp (maxSteps := 1000000) (disch := omega) only [genAll, decAll, tk_nil, st4]
    exact hK _ q02
  | true =>
  have hr := hr rfl
  have h64 := hr.len
  have okr := riseH_ok hr
  have nr := riseH_n hr
  have vr := riseH_v hr
  simp (maxSteps := 1000000) (disch := omega) only [genAll, decAll, tk_nil, st4]
  refine ck16 (dOf_any (ha.1.quiet q02) (by omega) ?_)
  intro A3 w3 r3 q3 _
  have q03 := q02.trans q3
  simp (maxSteps := 1000000) (disch := omega) only [genAll, decAll, tk_nil, st4]
  refine loopK2 (fun x v w' => ∃ (i : Nat) (s : List RowD) (A' : Option Addr) (c' : Nat) (F : Option Nat), v = .int .i64 i ∧ i ≤ rs.length ∧ x = .slice A' s.length c' ∧ s.Sublist ((rs.map rowP).take i) ∧ Own w' 9 1 (.slice A' s.length c') s.length ((s.map (·.1)).map Value.string) F ∧ Qt w3 w' ∧ (∀ k, F = some k → w3.heap.size ≤ k)) (fun _ v _ => rs.length - (intOf v).toNat) ⟨0, [], none, 0, none, rfl, by omega, rfl, List.nil_sublist _, Own.nil _ _ _, Qt.refl, fun _ h => by cases h⟩ ?_
  rintro _ _ _ w4 ⟨i, s, A4, c4, F4, rfl, hi, rfl, hs, o4, q4, f4⟩
  have q04 := q03.trans q4
  by_cases hlt : i < rs.length
  · simp (maxSteps := 1000000) (disch := omega) only [genAll, decAll, tk_nil, st4]
    obtain ⟨g, o, hA, z0, _⟩ := row_at (ha.1.quiet q04) hlt
    subst hA
    have htk : (rs.map rowP).take (i + 1) = (rs.map rowP).take i ++ [rowP (rs.getD i default)] := by
      rw [List.take_succ_eq_append_getElem (by rw [List.length_map]; exact hlt)]; simp [hlt]
    have hsl := hs.length_le
    rw [List.length_take, List.length_map] at hsl
    generalize rs.getD i default = r at *
    generalize (Go.bits BinOp.and IntKind.u16 (n / 2 ^ min ((i : Int) % 16).toNat 16) 1 == 1) = bt at *
    cases bt with
    | false =>
      simp (maxSteps := 1000000) (disch := omega) only [genAll, decAll, tk_nil, st4]
      exact ⟨⟨i + 1, s, A4, c4, F4, by go_num, by omega, rfl, by rw [htk]; exact hs.trans (List.sublist_append_left _ _), o4, q4, f4⟩, by simp [rel, intOf]; omega⟩
    | true =>
      obtain ⟨q6, h6, s6⟩ := newb w4 #[.string r.1] 9
      obtain ⟨A7, c7, F7, w7, p7, o7, k7, f7⟩ := pushN_run (P := Tryd.prog) tyS (o4.chg q6 (fun _ _ h => h)) [.string r.1] rfl (oneCell_one rfl) h6 (by omega) (by omega) 24
      simp (maxSteps := 1000000) (disch := omega) only [genAll, decAll, tk_nil, st4, z0]
      generalize (w4.alloc (.cells #[.string r.1] 9)) = w6 at *
      refine appK p7 ?_
      simp (maxSteps := 1000000) (disch := omega) only [genAll, decAll, tk_nil, st4]
      have q07 := Qt.then (q4.trans q6) k7 f4
      have hlen2 : (s ++ [rowP r]).length = s.length + 1 := by simp
      refine ⟨⟨i + 1, s ++ [rowP r], A7, c7, F7, by go_num, by omega, by rw [hlen2], by rw [htk]; exact hs.append_right _, ?_, q07, fun k hk => ?_⟩, by simp [rel, intOf]; omega⟩
      · rw [hlen2, List.map_append, List.map_append]; exact o7
      · rcases f7 k hk with h | h
        · exact f4 k h
        · have := (q4.trans q6).size; omega
  obtain rfl : i = rs.length := by omega
  rw [List.take_of_length_le (by rw [List.length_map]; omega)] at hs
  have hsl := hs.length_le
  rw [List.length_map] at hsl
  have upR : UpK ((rs.map rowP).map (·.1)) := by rw [mapKeys]; exact hr.up
  have hpk := pickL_sub upR hs
  simp (maxSteps := 1000000) (disch := omega) only [genAll, decAll, tk_nil, st4]
  refine ck24 (pick_len (ks := s.map (·.1)) (by rw [List.length_map]) (ha.quiet q04) (reads_own o4) (by omega) (by omega) nr vr ?_)
  rw [hpk]
  intro A6 rs6 w6 m6 a6 q6
  have q06 := q04.trans q6
  have l6 : rs6.length = s.length := by have := congrArg List.length m6; simpa using this
  have en : ((rs6.length : Int) != (s.length : Int)) = false := by rw [l6]; exact bne_self_eq_false _
  simp (maxSteps := 1000000) (disch := omega) only [genAll, decAll, tk_nil, st4, en]
  refine loopK1 (fun v w' => ∃ i : Nat, v = .int .i64 i ∧ i ≤ rs6.length ∧ Qt w6 w') (fun v _ => rs6.length - (intOf v).toNat) ⟨0, rfl, by omega, Qt.refl⟩ ?_
  rintro _ _ w7 ⟨i, rfl, hi, q7⟩
  have q07 := q06.trans q7
  by_cases hlt : i < rs6.length
  · have X := fun w' (q : Quiets w6 w') => row_at (Reads.quiet a6.1 q) hlt
    have Y := fun w' (q : Quiets w6 w') => key_at (Reads.quiet ((reads_own o4).quiet q6) q) (show i < (s.map (·.1)).length by rw [List.length_map]; omega)
    obtain ⟨g, o, hA, _⟩ := X w6 Qt.refl
    obtain ⟨g2, o2, hB, _⟩ := Y w6 Qt.refl
    subst hA hB
    have hkey : (s.map (·.1)).getD i default = (rs6.getD i default).1 := by
      rw [← m6, mapKeys]
      simp [hlt]
    rw [hkey] at Y
    generalize (rs6.getD i default).1 = k at *
    have X1 : ∀ w', Quiets w6 w' → w'.cell? ⟨g, o + i * 6, none⟩ = some (.string k) := fun w' q => by obtain ⟨_, _, he, z, _⟩ := X w' q; cases he; exact z
    have Y1 : ∀ w', Quiets w6 w' → w'.cell? ⟨g2, o2 + i, none⟩ = some (.string k) := fun w' q => by obtain ⟨_, _, he, z⟩ := Y w' q; cases he; exact z
    have q7d : Qt w6 w7.drew := q7.trans (Qt.drew Qt.refl)
    have hd : (!(k.toList == k.toList)) = false := by rw [beq_self_eq_true]; rfl
    simp (maxSteps := 1000000) (disch := omega) only [genAll, decAll, tk_nil, st4]
    refine drawQ w6 q7d ?_
    generalize w7.drew = wd at *
    simp (maxSteps := 1000000) (disch := omega) only [genAll, decAll, tk_nil, st4, qkld9 X1, qkld9 Y1, hd]
    exact ⟨⟨i + 1, by go_num, by omega, q7d⟩, by simp [rel, intOf]; omega⟩
  have q37 : Qt w3 w7 := (q4.trans q6).trans q7
  have hmk : rs.map mkH = (rs.map rowP).map mkR := mkH_rowP rs
  have um : UpK ((rs.map mkH).map (·.1)) := by rw [List.map_map]; exact hr.up
  simp (maxSteps := 1000000) (disch := omega) only [genAll, decAll, tk_nil, st4]
  refine ck19 (send_len (ms := rs.map mkH) (by rw [List.length_map]) (ha.quiet q07) (r3.quiet q37) (by omega) (by omega) nr vr hr.up um ?_)
  rw [hmk, sendL_self]
  intro A8 rs8 w8 m8 a8 q8
  have q08 := q07.trans q8
  have l8 : rs8.length = 0 := by have := congrArg List.length m8; simpa using this
  simp (maxSteps := 1000000) (disch := omega) only [genAll, decAll, tk_nil, st4, l8]
  refine ck22 (want_len (ms := rs.map mkH) (by rw [List.length_map]) (ha.1.quiet q08) (r3.quiet (q37.trans q8)) (by omega) (by omega) hr.up um ?_)
  rw [hmk, wantL_self]
  intro A9 w9 r9 q9
  have q09 := q08.trans q9
  have l9 : ([] : List ByteArray).length = 0 := rfl
  simp (maxSteps := 1000000) (disch := omega) only [genAll, decAll, tk_nil, st4, l9]
  refine ck19 (send_len (ms := []) (n := 0) rfl (ha.quiet q09) (.inl rfl) (by omega) (by omega) nr vr hr.up List.Pairwise.nil ?_)
  rw [sendL_nil]
  intro A10 rs10 w10 m10 a10 q10
  have q010 := q09.trans q10
  have l10 : rs10.length = rs.length := by have := congrArg List.length m10; simpa using this
  simp (maxSteps := 1000000) (disch := omega) only [genAll, decAll, tk_nil, st4, l10]
  refine ck22 (want_len2 (rs := []) (ms := rs.map mkH) (m := 0) rfl (by rw [List.length_map]) (.inl rfl) (r3.quiet (((q37.trans q8).trans q9).trans q10)) (by omega) (by omega) List.Pairwise.nil um ?_)
  intro A11 w11 r11 q11
  have q011 := q010.trans q11
  have l11 : (wantL (([] : List RowH).map rowP) (rs.map mkH)).length = rs.length := by
    rw [show ([] : List RowH).map rowP = [] from rfl, wantL_nil, List.length_map, List.length_map]
  simp (maxSteps := 1000000) (disch := omega) only [genAll, decAll, tk_nil, st4, l11]
  refine ck24 (pick_len (ks := []) (n := 0) rfl (ha.quiet q011) (.inl rfl) (by omega) (by omega) nr vr ?_)
  rw [pickL_nil]
  intro A12 rs12 w12 m12 a12 q12
  have q012 := q011.trans q12
  have l12 : rs12.length = 0 := by have := congrArg List.length m12; simpa using this
  simp (maxSteps := 1000000) (disch := omega) only [genAll, decAll, tk_nil, st4, l12]
  refine ck13 (chkM_len (ms := rs.map mkH) (by rw [List.length_map]) (hm.quiet q012) (r3.quiet ((((q37.trans q8).trans q9).trans (q10.trans q11)).trans q12)) (fun m hm => ?_) ?_)
  · obtain ⟨r, hr', rfl⟩ := List.mem_map.1 hm
    have := (hr.few r hr').2.1
    show r.2.1.2.2.2.size ≤ 20000
    omega
  rw [hmk, checkMs_ok (fun r hr' => by
    obtain ⟨x, hx, rfl⟩ := List.mem_map.1 hr'
    exact hr.ok x hx) (by rw [List.length_map]; exact h64) upR]
  intro w13 q13
  simp (maxSteps := 1000000) (disch := omega) only [genAll, decAll, tk_nil, st4]
  exact hK _ (q012.trans q13)
end Go.Proofs.YtpjeohellehgjaaDoor

/- DigestMeets: the walk. Conditions: rows read. -/
import Derived.Test.YtpjeohellehgjaaDoorMeet1
set_option linter.unusedVariables false
set_option linter.unusedSimpArgs false
set_option maxRecDepth 100000
namespace Go.Proofs.YtpjeohellehgjaaDoor
open Go.RowKit Go.Cn
set_option maxHeartbeats 16000000 in
theorem digestMeets_any {ra rb : List RowH} {A B : Option Addr} {c d : Nat} {w : World} {K : Value → World → Prop} (hm : MaxAt w) (ha : RowsAt w A ra) (hb : RowsAt w B rb) (hK : ∀ w', Qt w w' → K (.bool true) w') : CallK Tryd.prog 5 #[.slice A ra.length c, .slice B rb.length d] K w := by
  refine F5_calls _ _ _ _ ?_; unfold F5
  refine ck9 (known14_any hm ?_)
  intro w1 q1
  simp (maxSteps := 1000000) (disch := omega) only [genAll, decAll, tk_nil, st5]
  refine ck14 (rise_any (ha.quiet q1) ?_)
  intro b w2 q2 hra
  have q02 := q1.trans q2
  cases b with
  | false =>
    simp (maxSteps := 1000000) (disch := omega) only [genAll, decAll, tk_nil, st5, guardK_u]
    exact hK _ q02
  | true =>
  have hra := hra rfl
  simp (maxSteps := 1000000) (disch := omega) only [genAll, decAll, tk_nil, st5]
  refine ck14 (rise_any (hb.quiet q02) ?_)
  intro b w3 q3 hrb
  have q03 := q02.trans q3
  cases b with
  | false =>
    simp (maxSteps := 1000000) (disch := omega) only [genAll, decAll, tk_nil, st5, guardK_u]
    exact hK _ q03
  | true =>
  have hrb := hrb rfl
  have la := hra.len
  have lb := hrb.len
  by_cases h64 : 64 < ra.length + rb.length
  · have e : decide ((64 : Int) < (ra.length : Int) + (rb.length : Int)) = true := decide_eq_true (by omega)
    simp (maxSteps := 1000000) (disch := omega) only [genAll, decAll, tk_nil, st5, guardK_u, e]
    exact hK _ q03
  have e : decide ((64 : Int) < (ra.length : Int) + (rb.length : Int)) = false := decide_eq_false (by omega)
  simp (maxSteps := 1000000) (disch := omega) only [genAll, decAll, tk_nil, st5, e]
  have oa := riseH_ok hra
  have ob := riseH_ok hrb
  refine loopK1 (fun v w' => ∃ i : Nat, v = .int .i64 i ∧ i ≤ ra.length ∧ (∀ i', i' < i → ∀ j, j < rb.length → (ra.getD i' default).1 = (rb.getD j default).1 → cmpStm (ra.getD i' default).2.1 (rb.getD j default).2.1 = 0 → sameR (rowP (ra.getD i' default)) (rowP (rb.getD j default)) = true) ∧ Qt w w') (fun v _ => ra.length - (intOf v).toNat) ⟨0, rfl, by omega, fun i' h => by omega, q03⟩ ?_
  rintro _ _ w4 ⟨i, rfl, hi, hI, q4⟩
  by_cases hlt : i < ra.length
  · have hfin := hI
    have X := fun w' (q : Quiets w w') => row_at (Reads.quiet ha.1 q) hlt
    obtain ⟨g, o, hA, _⟩ := X w Qt.refl
    subst hA
    have hta := ha.get hlt
    have hoa := oa _ (getD_mem hlt)
    have hI2 : (∀ j, j < rb.length → (ra.getD i default).1 = (rb.getD j default).1 → cmpStm (ra.getD i default).2.1 (rb.getD j default).2.1 = 0 → sameR (rowP (ra.getD i default)) (rowP (rb.getD j default)) = true) → ∀ i', i' < i + 1 → ∀ j, j < rb.length → (ra.getD i' default).1 = (rb.getD j default).1 → cmpStm (ra.getD i' default).2.1 (rb.getD j default).2.1 = 0 → sameR (rowP (ra.getD i' default)) (rowP (rb.getD j default)) = true := fun h i' hi' => by
      by_cases e : i' = i
      · subst e; exact h
      · exact hI i' (by omega)
    clear hfin hI
    generalize ra.getD i default = r at *
    obtain ⟨k1, s1, A1, c1, h1⟩ := r
    have X0 : ∀ w', Quiets w w' → w'.cell? ⟨g, o + i * 6, none⟩ = some (.string k1) := fun w' q => by obtain ⟨_, _, he, h, _⟩ := X w' q; cases he; exact h
    have X1 : ∀ w', Quiets w w' → w'.cell? ⟨g, o + (i * 6 + 1), none⟩ = some (.int .i64 s1.1) ∧ w'.cell? ⟨g, o + (i * 6 + 1) + 1, none⟩ = some (.int .i64 s1.2.1) ∧ w'.cell? ⟨g, o + (i * 6 + 1) + 2, none⟩ = some (.int .i64 s1.2.2.1) ∧ w'.cell? ⟨g, o + (i * 6 + 1) + 3, none⟩ = some (.string s1.2.2.2) := fun w' q => by obtain ⟨_, _, he, _, h1, h2, h3, h4, _⟩ := X w' q; cases he; exact ⟨h1, h2, h3, h4⟩
    have Xa : ∀ w', Quiets w w' → w'.cell? ⟨g, o + i * 6, none⟩ = some (.string k1) ∧ w'.cell? ⟨g, o + i * 6 + 1, none⟩ = some (.int .i64 s1.1) ∧ w'.cell? ⟨g, o + i * 6 + 2, none⟩ = some (.int .i64 s1.2.1) ∧ w'.cell? ⟨g, o + i * 6 + 3, none⟩ = some (.int .i64 s1.2.2.1) ∧ w'.cell? ⟨g, o + i * 6 + 4, none⟩ = some (.string s1.2.2.2) ∧ w'.cell? ⟨g, o + i * 6 + 5, none⟩ = some (.slice A1 h1.length c1) := fun w' q => by obtain ⟨_, _, he, z⟩ := X w' q; cases he; exact z
    simp (maxSteps := 1000000) (disch := omega) only [genAll, decAll, tk_nil, st5]
    refine loopK1 (fun v w' => ∃ j : Nat, v = .int .i64 j ∧ j ≤ rb.length ∧ (∀ j', j' < j → k1 = (rb.getD j' default).1 → cmpStm s1 (rb.getD j' default).2.1 = 0 → sameR (rowP (k1, s1, A1, c1, h1)) (rowP (rb.getD j' default)) = true) ∧ Qt w w') (fun v _ => rb.length - (intOf v).toNat) ⟨0, rfl, by omega, fun j' h => by omega, q4⟩ ?_
    rintro _ _ w5 ⟨j, rfl, hj, hJ, q5⟩
    by_cases hjl : j < rb.length
    · have Y := fun w' (q : Quiets w w') => row_at (Reads.quiet hb.1 q) hjl
      obtain ⟨g2, o2, hB, _⟩ := Y w Qt.refl
      subst hB
      have htb := hb.get hjl
      have hob := ob _ (getD_mem hjl)
      have hJ2 : (k1 = (rb.getD j default).1 → cmpStm s1 (rb.getD j default).2.1 = 0 → sameR (rowP (k1, s1, A1, c1, h1)) (rowP (rb.getD j default)) = true) → ∀ j', j' < j + 1 → k1 = (rb.getD j' default).1 → cmpStm s1 (rb.getD j' default).2.1 = 0 → sameR (rowP (k1, s1, A1, c1, h1)) (rowP (rb.getD j' default)) = true := fun h j' hj' => by
        by_cases e : j' = j
        · subst e; exact h
        · exact hJ j' (by omega)
      clear hJ
      generalize rb.getD j default = r2 at *
      obtain ⟨k2, s2, A2, c2, h2⟩ := r2
      have Y0 : ∀ w', Quiets w w' → w'.cell? ⟨g2, o2 + j * 6, none⟩ = some (.string k2) := fun w' q => by obtain ⟨_, _, he, h, _⟩ := Y w' q; cases he; exact h
      have Y1 : ∀ w', Quiets w w' → w'.cell? ⟨g2, o2 + (j * 6 + 1), none⟩ = some (.int .i64 s2.1) ∧ w'.cell? ⟨g2, o2 + (j * 6 + 1) + 1, none⟩ = some (.int .i64 s2.2.1) ∧ w'.cell? ⟨g2, o2 + (j * 6 + 1) + 2, none⟩ = some (.int .i64 s2.2.2.1) ∧ w'.cell? ⟨g2, o2 + (j * 6 + 1) + 3, none⟩ = some (.string s2.2.2.2) := fun w' q => by obtain ⟨_, _, he, _, h1, h2, h3, h4, _⟩ := Y w' q; cases he; exact ⟨h1, h2, h3, h4⟩
      have Yb : ∀ w', Quiets w w' → w'.cell? ⟨g2, o2 + j * 6, none⟩ = some (.string k2) ∧ w'.cell? ⟨g2, o2 + j * 6 + 1, none⟩ = some (.int .i64 s2.1) ∧ w'.cell? ⟨g2, o2 + j * 6 + 2, none⟩ = some (.int .i64 s2.2.1) ∧ w'.cell? ⟨g2, o2 + j * 6 + 3, none⟩ = some (.int .i64 s2.2.2.1) ∧ w'.cell? ⟨g2, o2 + j * 6 + 4, none⟩ = some (.string s2.2.2.2) ∧ w'.cell? ⟨g2, o2 + j * 6 + 5, none⟩ = some (.slice A2 h2.length c2) := fun w' q => by obtain ⟨_, _, he, z⟩ := Y w' q; cases he; exact z
      have q5d : Qt w w5.drew := q5.trans (Qt.drew Qt.refl)
      simp (maxSteps := 1000000) (disch := omega) only [genAll, decAll, tk_nil, st5]
      refine drawQ w q5d ?_
      generalize w5.drew = wd at *
      by_cases hk : k1 = k2
      case neg =>
        have e := decide_eq_false hk
        simp (maxSteps := 1000000) (disch := omega) only [genAll, decAll, tk_nil, st5, qkld9 X0, qkld9 Y0, beq_ba, e, takeG_u, guardK_u]
        exact ⟨⟨q5d, ⟨q5d, ⟨j + 1, by go_num, by omega, hJ2 (fun h => absurd h hk), q5d⟩, by simp [rel, intOf]; omega⟩, trivial⟩, trivial⟩
      have e0 := decide_eq_true hk
      simp (maxSteps := 1000000) (disch := omega) only [genAll, decAll, tk_nil, st5, qkld9 X0, qkld9 Y0, beq_ba, e0, qkld52 X1, qkld52 Y1]
      refine ⟨?_, trivial⟩
      refine ck26 (cmpSt_any ?_)
      intro w6 q6
      have q56 := q5d.trans q6
      by_cases hc : cmpStm s1 s2 = 0
      case neg =>
        have e : (cmpStm s1 s2 == 0) = false := by rw [beq_eq_false_iff_ne]; exact hc
        simp (maxSteps := 1000000) (disch := omega) only [genAll, decAll, tk_nil, st5, beq_ba, e0, e, takeG_u, guardK_u]
        exact ⟨q56, ⟨q56, ⟨j + 1, by go_num, by omega, hJ2 (fun _ h => absurd h hc), q56⟩, by simp [rel, intOf]; omega⟩, trivial⟩
      have e : (cmpStm s1 s2 == 0) = true := by rw [beq_iff_eq]; exact hc
      simp (maxSteps := 1000000) (disch := omega) only [genAll, decAll, tk_nil, st5, beq_ba, e0, e, qkld55 Xa, qkld55 Yb]
      have ga : RowGood w6 k1 s1 A1 h1 := (hoa.good hta).quiet q56
      have gb : RowGood w6 k2 s2 A2 h2 := (hob.good htb).quiet q56
      refine ⟨q56, ?_, trivial⟩
      refine ck27 (same_any ga gb ?_)
      intro w7 q7
      have q57 := q56.trans q7
      have e3 : rowP (k1, s1, A1, c1, h1) = (k1, s1, h1.map attP) := rfl
      have e4 : rowP (k2, s2, A2, c2, h2) = (k2, s2, h2.map attP) := rfl
      rw [e3, e4] at hJ2
      generalize sameR (k1, s1, h1.map attP) (k2, s2, h2.map attP) = z at *
      cases z
      · simp (maxSteps := 1000000) (disch := omega) only [genAll, decAll, tk_nil, st5, beq_ba, e0, e, tk_not]
        exact ⟨q57, hK _ q57⟩
      · simp (maxSteps := 1000000) (disch := omega) only [genAll, decAll, tk_nil, st5, beq_ba, e0, e, tk_not]
        exact ⟨q57, ⟨j + 1, by go_num, by omega, hJ2 (fun _ _ => rfl), q57⟩, by simp [rel, intOf]; omega⟩
    · obtain rfl : j = rb.length := by omega
      simp (maxSteps := 1000000) (disch := omega) only [genAll, decAll, tk_nil, st5]
      exact ⟨⟨i + 1, by go_num, by omega, hI2 hJ, q5⟩, by simp [rel, intOf]; omega⟩
  · obtain rfl : i = ra.length := by omega
    simp (maxSteps := 1000000) (disch := omega) only [genAll, decAll, tk_nil, st5]
    have na := riseH_n hra
    have nb := riseH_n hrb
    have va := riseH_v hra
    have vb := riseH_v hrb
    have pa := riseH_put hra
    have pb := riseH_put hrb
    have ua := hra.up
    have ub := hrb.up
    have H : ∀ r ∈ ra.map rowP, ∀ s ∈ rb.map rowP, r.1 = s.1 → cmpStm r.2.1 s.2.1 = 0 → sameR r s = true := fun r hr s hs => by
      obtain ⟨r', hr', rfl⟩ := List.mem_map.1 hr
      obtain ⟨s', hs', rfl⟩ := List.mem_map.1 hs
      obtain ⟨i, hi, rfl⟩ := List.mem_iff_getElem.1 hr'
      obtain ⟨j, hj, rfl⟩ := List.mem_iff_getElem.1 hs'
      have := hI i hi j hj
      have ei : ra.getD i default = ra[i] := by simp [hi]
      have ej : rb.getD j default = rb[j] := by simp [hj]
      rw [ei, ej] at this
      exact this
    have hmeet := meets_same (upR_of ua) (upR_of ub) H
    clear hI
    refine ck15 (ofRows2_any (ha.quiet q4) (by omega) na ?_)
    intro A7 c7 rs7 w7 m7 a7 l7 s7 q7
    have q07 := q4.trans q7
    obtain ⟨q8, h8, s8⟩ := newb w7 #[.int .i64 64, .slice A7 rs7.length c7] 60
    simp (maxSteps := 1000000) (disch := omega) only [genAll, decAll, tk_nil, st5]
    generalize (w7.alloc (.cells #[.int .i64 64, .slice A7 rs7.length c7] 60)) = w8 at *
    have hb7 := q07.size
    generalize w7.heap.size = b7 at *
    have q08 := q07.trans q8
    refine ck15 (ofRows2_any (hb.quiet q08) (by omega) nb ?_)
    intro A9 c9 rs9 w9 m9 a9 l9 s9 q9
    have q09 := q08.trans q9
    obtain ⟨q10, h10, s10⟩ := newb w9 #[.int .i64 64, .slice A9 rs9.length c9] 60
    simp (maxSteps := 1000000) (disch := omega) only [genAll, decAll, tk_nil, st5]
    generalize (w9.alloc (.cells #[.int .i64 64, .slice A9 rs9.length c9] 60)) = w10 at *
    have hb8 := q9.size
    rw [s8] at hb8
    generalize w9.heap.size = b8 at *
    have q010 := q09.trans q10
    refine ck16 (dOf_any (hb.1.quiet q010) (by omega) ?_)
    intro A11 w11 r11 q11 _
    have q011 := q010.trans q11
    have um : UpK ((rb.map mkH).map (·.1)) := by rw [List.map_map]; exact ub
    simp (maxSteps := 1000000) (disch := omega) only [genAll, decAll, tk_nil, st5]
    refine ck19 (send_len (n := rb.length) (List.length_map ..) (ha.quiet q011) r11 (by omega) (by omega) na va ua um ?_)
    rw [mkH_rowP rb]
    intro A12 rs12 w12 m12 a12 q12
    have q012 := q011.trans q12
    have l12 := len_sub m12
    have p12 : ∀ r ∈ rs12, PutOk r := putOk_sub pa (fun x hx => (List.mem_filter.1 (m12 ▸ hx)).1)
    simp (maxSteps := 1000000) (disch := omega) only [genAll, decAll, tk_nil, st5]
    refine ck15 (ofRows2_any a12 (by omega) (fun r hr => (p12 r hr).1.2) ?_)
    rw [m12]
    intro A13 c13 gv w13 m13 a13 l13 s13 q13
    have q013 := q012.trans q13
    simp (maxSteps := 1000000) (disch := omega) only [genAll, decAll, tk_nil, st5]
    refine ck22 (want_len (ms := []) (n := 0) rfl (hb.1.quiet q013) (.inl rfl) (by omega) (by omega) ub List.Pairwise.nil ?_)
    rw [wantL_e]
    intro A14 w14 r14 q14
    have q014 := q013.trans q14
    simp (maxSteps := 1000000) (disch := omega) only [genAll, decAll, tk_nil, st5]
    refine ck24 (pick_len (ks := []) (n := 0) rfl (hb.quiet q014) r14 (by omega) (by omega) nb vb ?_)
    rw [pickL_nil]
    intro A15 rs15 w15 m15 a15 q15
    obtain rfl := List.map_eq_nil_iff.1 m15
    have q015 := q014.trans q15
    simp (maxSteps := 1000000) (disch := omega) only [genAll, decAll, tk_nil, st5]
    refine ck15 (ofRows2_any a15 (Nat.zero_le _) (fun r hr => by cases hr) ?_)
    intro A16 c16 rs16 w16 m16 _ _ _ q16
    obtain rfl := List.map_eq_nil_iff.1 m16
    have q016 := q015.trans q16
    simp (maxSteps := 1000000) (disch := omega) only [genAll, decAll, tk_nil, st5]
    refine ck16 (dOf_any (hb.1.quiet q016) (by omega) ?_)
    intro A17 w17 r17 q17 _
    have q017 := q016.trans q17
    simp (maxSteps := 1000000) (disch := omega) only [genAll, decAll, tk_nil, st5]
    refine ck22 (want_len (n := rb.length) (List.length_map ..) (ha.1.quiet q017) r17 (by omega) (by omega) ua um ?_)
    rw [mkH_rowP rb]
    have lw : (wantL (ra.map rowP) ((rb.map rowP).map mkR)).length ≤ rb.length := by
      unfold wantL
      rw [List.length_map]
      exact Nat.le_trans (List.length_filter_le ..) (by simp)
    intro A18 w18 r18 q18
    have q018 := q017.trans q18
    simp (maxSteps := 1000000) (disch := omega) only [genAll, decAll, tk_nil, st5]
    refine ck24 (pick_any (hb.quiet q018) r18 (by omega) (by omega) nb vb ?_)
    intro A19 rs19 w19 m19 a19 q19
    have q019 := q018.trans q19
    have l19 := len_sub m19
    have p19 : ∀ r ∈ rs19, PutOk r := putOk_sub pb (fun x hx => (List.mem_filter.1 (m19 ▸ hx)).1)
    simp (maxSteps := 1000000) (disch := omega) only [genAll, decAll, tk_nil, st5]
    refine ck15 (ofRows2_any a19 (by omega) (fun r hr => (p19 r hr).1.2) ?_)
    rw [m19]
    intro A20 c20 gx w20 m20 a20 l20 s20 q20
    have q020 := q019.trans q20
    have q1320 := ((q14.trans q15).trans q16).trans ((q17.trans q18).trans (q19.trans q20))
    have q1020 := (q11.trans (q12.trans q13)).trans q1320
    have lgv : gv.length ≤ ra.length := by
      have := congrArg List.length m13
      have h2 := congrArg List.length m12
      rw [List.length_map] at this h2
      omega
    have lgx : gx.length ≤ rb.length := by
      have := congrArg List.length m20
      have h2 := congrArg List.length m19
      rw [List.length_map] at this h2
      omega
    have pgv : ∀ r ∈ gv, PutOk r := putOk_sub p12 (fun x hx => by rw [m12, ← m13]; exact hx)
    have pgx : ∀ r ∈ gx, PutOk r := putOk_sub p19 (fun x hx => by rw [m19, ← m20]; exact hx)
    rw [← m13, ← m20] at hmeet
    have h10 := q1020.heap h10 (fun h => h)
    have h8 := (q9.trans (q10.trans q1020)).heap h8 (fun h => h)
    have a7 := a7.quiet (q8.trans (q9.trans (q10.trans q1020)))
    have a9 := a9.quiet (q10.trans q1020)
    have a13 := a13.quiet q1320
    have p7 : ∀ r ∈ rs7, PutOk r := putOk_sub pa (fun x hx => m7 ▸ hx)
    have p9 : ∀ r ∈ rs9, PutOk r := putOk_sub pb (fun x hx => m9 ▸ hx)
    have lr7 : rs7.length = ra.length := by have := congrArg List.length m7; simpa using this
    have lr9 : rs9.length = rb.length := by have := congrArg List.length m9; simpa using this
    simp (maxSteps := 1000000) (disch := omega) only [genAll, decAll, tk_nil, st5]
    refine loopK1 (fun v w' => ∃ (i : Nat) (A' : Option Addr) (c' : Nat) (rs' : List RowH), v = .int .i64 i ∧ i ≤ gv.length ∧ w'.heap[b8]? = some (.cells #[.int .i64 64, .slice A' rs'.length c'] 60 (0, 0)) ∧ rs'.map rowP = ((gv.map rowP).take i).foldl putD (rb.map rowP) ∧ RowsAt w' A' rs' ∧ rs'.length ≤ c' ∧ ((A' = none ∧ c' = 0) ∨ ∃ g o, A' = some ⟨g, o, none⟩) ∧ (∀ x ∈ rs', PutOk x) ∧ RowsAt w' A13 gv ∧ RowsAt w' A20 gx ∧ RowsAt w' A7 rs7 ∧ w'.heap[b7]? = some (.cells #[.int .i64 64, .slice A7 rs7.length c7] 60 (0, 0)) ∧ Qt w w') (fun v _ => gv.length - (intOf v).toNat) ⟨0, A9, c9, rs9, rfl, by omega, h10, m9, a9, l9, s9, p9, a13, a20, a7, h8, q020⟩ ?_
    clear h10 h8 a7 a9 a13 a20 s9 l9
    rintro _ _ w21 ⟨i, A9, c9, rs9, rfl, hi, h10, m9, a9, l9, s9, p9, a13, a20, a7, h8, q021⟩
    by_cases hlt : i < gv.length
    · have qd : Qt w21 w21.drew := Qt.drew Qt.refl
      have h10 := qd.heap h10 (fun h => h)
      have h8 := qd.heap h8 (fun h => h)
      have a7 := a7.quiet qd
      have a9 := a9.quiet qd
      have a13 := a13.quiet qd
      have a20 := a20.quiet qd
      have q021 := q021.trans qd
      simp (maxSteps := 1000000) (disch := omega) only [genAll, decAll, tk_nil, st5]
      refine drawC (fun k => k = b8) w21.drew (Chg.refl _ _) ?_
      generalize w21.drew = wd at *
      have XR := fun w' (q : Chg (fun k => k = b8) wd w') => row_at (Reads.sep a13.1 q (rows_two a13.1 h10)) hlt
      obtain ⟨g, o, hA, _⟩ := XR wd (Chg.refl _ _)
      subst hA
      have hat := a13.get hlt
      have hok := pgv _ (getD_mem hlt)
      have hsn := fold_snoc (t := gv.map rowP) (l := rb.map rowP) (i := i) (by rw [List.length_map]; exact hlt)
      rw [rowP_getD, ← m9] at hsn
      have hup : UpR (rs9.map rowP) := by rw [m9]; exact fold_up (upR_of ub)
      have hlen : rs9.length ≤ rb.length + i := by
        have h1 := congrArg List.length m9
        have h2 := fold_len ((gv.map rowP).take i) (rb.map rowP)
        rw [List.length_take, List.length_map] at h2
        rw [List.length_map] at h1 h2
        omega
      generalize gv.getD i default = r at *
      obtain ⟨key, s, B, d, hs⟩ := r
      simp only at hat
      obtain ⟨⟨ok1, ok2⟩, ok3, ok4⟩ := hok
      simp only at ok1 ok2 ok3
      have Xa : ∀ w', Chs (fun k => k = b8) wd w' → w'.cell? ⟨g, o + i * 6, none⟩ = some (.string key) ∧ w'.cell? ⟨g, o + i * 6 + 1, none⟩ = some (.int .i64 s.1) ∧ w'.cell? ⟨g, o + i * 6 + 2, none⟩ = some (.int .i64 s.2.1) ∧ w'.cell? ⟨g, o + i * 6 + 3, none⟩ = some (.int .i64 s.2.2.1) ∧ w'.cell? ⟨g, o + i * 6 + 4, none⟩ = some (.string s.2.2.2) ∧ w'.cell? ⟨g, o + i * 6 + 5, none⟩ = some (.slice B hs.length d) := fun w' q => by
        obtain ⟨_, _, he, z⟩ := XR w' q
        cases he
        exact z
      obtain ⟨u0, u1⟩ := cell2 h10
      simp (maxSteps := 1000000) (disch := omega) only [genAll, decAll, tk_nil, st5, qkld65 Xa, u0, u1]
      refine ⟨⟨Chg.refl _ _, ?_, trivial⟩, trivial⟩
      refine ck28 (Pt.putT_any (hs := hs) a9 (by omega) l9 s9 (up_of hup) hat ok1 ok2 ok3 ok4 (.inr (by omega)) ?_)
      intro e A22 c22 rs22 w22 m22 a22 l22 s22 sub22 q22
      simp (maxSteps := 1000000) (disch := omega) only [genAll, decAll, tk_nil, st5, tk_ex0, tk_ex1]
      have h10 := q22.heap h10 (fun h => h)
      have h8 := q22.heap h8 (fun h => h)
      refine ⟨q22.mono (fun _ _ h => h.elim), ?_, trivial⟩
      refine aggStoreW (cs := [.int .i64 64, .slice A22 rs22.length c22]) h10 rfl (by kernel_rfl) (by intro u hu; simp at hu; rcases hu with rfl | rfl <;> rfl) ?_
      intro w23 h23 k23
      simp (maxSteps := 1000000) (disch := omega) only [genAll, decAll, tk_nil, st5]
      refine ⟨Chg.then (q22.mono (fun _ _ h => h.elim)) k23 (fun k hk => .inl hk), ⟨i + 1, A22, c22, rs22, by go_num, by omega, h23, m22.trans hsn.symm, rows_tab a22 h10 h23 k23, l22, s22, ?_, rows_tab (a13.quiet q22) h10 h23 k23, rows_tab (a20.quiet q22) h10 h23 k23, rows_tab (a7.quiet q22) h10 h23 k23, k23.heap h8 (fun e => by have e : b7 = b8 := e; omega), Chg.then (q021.trans q22) k23 (fun k hk => .inr (by have hk : k = b8 := hk; omega))⟩, by simp [rel, intOf]; omega⟩
      intro x hx
      rcases sub22 x hx with hx | rfl
      · exact p9 x hx
      · exact ⟨⟨ok1, ok2⟩, ok3, ok4⟩
    obtain rfl : i = gv.length := by omega
    rw [List.take_of_length_le (by rw [List.length_map]; omega)] at m9
    simp (maxSteps := 1000000) (disch := omega) only [genAll, decAll, tk_nil, st5]
    refine loopK1 (fun v w' => ∃ (i : Nat) (A' : Option Addr) (c' : Nat) (rs' : List RowH), v = .int .i64 i ∧ i ≤ gx.length ∧ w'.heap[b7]? = some (.cells #[.int .i64 64, .slice A' rs'.length c'] 60 (0, 0)) ∧ rs'.map rowP = ((gx.map rowP).take i).foldl putD (ra.map rowP) ∧ RowsAt w' A' rs' ∧ rs'.length ≤ c' ∧ ((A' = none ∧ c' = 0) ∨ ∃ g o, A' = some ⟨g, o, none⟩) ∧ (∀ x ∈ rs', PutOk x) ∧ RowsAt w' A20 gx ∧ RowsAt w' A9 rs9 ∧ w'.heap[b8]? = some (.cells #[.int .i64 64, .slice A9 rs9.length c9] 60 (0, 0)) ∧ Qt w w') (fun v _ => gx.length - (intOf v).toNat) ⟨0, A7, c7, rs7, rfl, by omega, h8, m7, a7, l7, s7, p7, a20, a9, h10, q021⟩ ?_
    clear h10 h8 a7 a9 a20 s7 l7
    have ly : rs9.length ≤ rb.length + gv.length := by
      have h1 := congrArg List.length m9
      have h2 := fold_len (gv.map rowP) (rb.map rowP)
      rw [List.length_map, List.length_map] at h2
      rw [List.length_map] at h1
      omega
    rintro _ _ w24 ⟨i, A7, c7, rs7, rfl, hi, h8, m7, a7, l7, s7, p7, a20, a9, h10, q024⟩
    by_cases hlt : i < gx.length
    · have qd : Qt w24 w24.drew := Qt.drew Qt.refl
      have h8 := qd.heap h8 (fun h => h)
      have h10 := qd.heap h10 (fun h => h)
      have a9 := a9.quiet qd
      have a7 := a7.quiet qd
      have a20 := a20.quiet qd
      have q024 := q024.trans qd
      simp (maxSteps := 1000000) (disch := omega) only [genAll, decAll, tk_nil, st5]
      refine drawC (fun k => k = b7) w24.drew (Chg.refl _ _) ?_
      generalize w24.drew = wd at *
      have XR := fun w' (q : Chg (fun k => k = b7) wd w') => row_at (Reads.sep a20.1 q (rows_two a20.1 h8)) hlt
      obtain ⟨g, o, hA, _⟩ := XR wd (Chg.refl _ _)
      subst hA
      have hat := a20.get hlt
      have hok := pgx _ (getD_mem hlt)
      have hsn := fold_snoc (t := gx.map rowP) (l := ra.map rowP) (i := i) (by rw [List.length_map]; exact hlt)
      rw [rowP_getD, ← m7] at hsn
      have hup : UpR (rs7.map rowP) := by rw [m7]; exact fold_up (upR_of ua)
      have hlen : rs7.length ≤ ra.length + i := by
        have h1 := congrArg List.length m7
        have h2 := fold_len ((gx.map rowP).take i) (ra.map rowP)
        rw [List.length_take, List.length_map] at h2
        rw [List.length_map] at h1 h2
        omega
      generalize gx.getD i default = r at *
      obtain ⟨key, s, B, d, hs⟩ := r
      simp only at hat
      obtain ⟨⟨ok1, ok2⟩, ok3, ok4⟩ := hok
      simp only at ok1 ok2 ok3
      have Xa : ∀ w', Chs (fun k => k = b7) wd w' → w'.cell? ⟨g, o + i * 6, none⟩ = some (.string key) ∧ w'.cell? ⟨g, o + i * 6 + 1, none⟩ = some (.int .i64 s.1) ∧ w'.cell? ⟨g, o + i * 6 + 2, none⟩ = some (.int .i64 s.2.1) ∧ w'.cell? ⟨g, o + i * 6 + 3, none⟩ = some (.int .i64 s.2.2.1) ∧ w'.cell? ⟨g, o + i * 6 + 4, none⟩ = some (.string s.2.2.2) ∧ w'.cell? ⟨g, o + i * 6 + 5, none⟩ = some (.slice B hs.length d) := fun w' q => by
        obtain ⟨_, _, he, z⟩ := XR w' q
        cases he
        exact z
      obtain ⟨u0, u1⟩ := cell2 h8
      simp (maxSteps := 1000000) (disch := omega) only [genAll, decAll, tk_nil, st5, qkld65 Xa, u0, u1]
      refine ⟨⟨Chg.refl _ _, ?_, trivial⟩, trivial⟩
      refine ck28 (Pt.putT_any (hs := hs) a7 (by omega) l7 s7 (up_of hup) hat ok1 ok2 ok3 ok4 (.inr (by omega)) ?_)
      intro e A25 c25 rs25 w25 m25 a25 l25 s25 sub25 q25
      simp (maxSteps := 1000000) (disch := omega) only [genAll, decAll, tk_nil, st5, tk_ex0, tk_ex1]
      have h8 := q25.heap h8 (fun h => h)
      have h10 := q25.heap h10 (fun h => h)
      refine ⟨q25.mono (fun _ _ h => h.elim), ?_, trivial⟩
      refine aggStoreW (cs := [.int .i64 64, .slice A25 rs25.length c25]) h8 rfl (by kernel_rfl) (by intro u hu; simp at hu; rcases hu with rfl | rfl <;> rfl) ?_
      intro w26 h26 k26
      simp (maxSteps := 1000000) (disch := omega) only [genAll, decAll, tk_nil, st5]
      refine ⟨Chg.then (q25.mono (fun _ _ h => h.elim)) k26 (fun k hk => .inl hk), ⟨i + 1, A25, c25, rs25, by go_num, by omega, h26, m25.trans hsn.symm, rows_tab a25 h8 h26 k26, l25, s25, ?_, rows_tab (a20.quiet q25) h8 h26 k26, rows_tab (a9.quiet q25) h8 h26 k26, k26.heap h10 (fun e => by have e : b8 = b7 := e; omega), Chg.then (q024.trans q25) k26 (fun k hk => .inr (by have hk : k = b7 := hk; omega))⟩, by simp [rel, intOf]; omega⟩
      intro x hx
      rcases sub25 x hx with hx | rfl
      · exact p7 x hx
      · exact ⟨⟨ok1, ok2⟩, ok3, ok4⟩
    obtain rfl : i = gx.length := by omega
    rw [List.take_of_length_le (by rw [List.length_map]; omega)] at m7
    have lx : rs7.length ≤ ra.length + gx.length := by
      have h1 := congrArg List.length m7
      have h2 := fold_len (gx.map rowP) (ra.map rowP)
      rw [List.length_map, List.length_map] at h2
      rw [List.length_map] at h1
      omega
    obtain ⟨x0, x1⟩ := cell2 h8
    obtain ⟨y0, y1⟩ := cell2 h10
    have e5 : ((([] : List RowH).length : Int) == 0) = true := rfl
    simp (maxSteps := 1000000) (disch := omega) only [genAll, decAll, tk_nil, st5, x0, x1, y0, y1, e5, guardK_u]
    refine ck29 (sameRows_any a7 a9 (fun r hr => (p7 r hr).1) (fun r hr => (p9 r hr).1) (by omega) (by omega) ?_)
    intro w27 q27
    rw [m7, m9, hmeet]
    simp (maxSteps := 1000000) (disch := omega) only [genAll, decAll, tk_nil, st5]
    exact hK _ (q024.trans q27)
end Go.Proofs.YtpjeohellehgjaaDoor

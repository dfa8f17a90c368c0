/- The document's table: a key's place, its row; without a key. Conditions: the rows read, and rise. -/
import Derived.Test.YtpjeohellehgjaaDoorMeetL
set_option linter.unusedVariables false
set_option linter.unusedSimpArgs false
set_option maxRecDepth 100000
namespace Go.Proofs.YtpjeohellehgjaaDoor
open Go.RowKit Go.Cn
abbrev tabV (most : Int) (A : Option Addr) (n c : Nat) : Value := .agg #[.int .i64 most, .slice A n c]
theorem cell2 {w : World} {b : Nat} {t : TypeId} {x y : Value} (h : w.heap[b]? = some (.cells #[x, y] t (0, 0))) : w.cell? ⟨b, 0, none⟩ = some x ∧ w.cell? ⟨b, 1, none⟩ = some y := by
  refine ⟨?_, ?_⟩ <;> rw [blk_cell h] <;> rfl
set_option maxHeartbeats 4000000 in
theorem at_any {rs : List RowH} {most : Int} {key : ByteArray} {A : Option Addr} {c : Nat} {w : World} {K : Value → World → Prop} (ha : Reads w A (rs.flatMap rowC)) (hl : rs.length ≤ 100000)
    (hK : ∀ (i : Nat) (b : Bool) w', Qt w w' → i ≤ rs.length → (∀ j, j < i → ltS (rs.getD j default).1 key = true) → (i < rs.length → ltS (rs.getD i default).1 key = false) → b = decide (i < rs.length ∧ (rs.getD i default).1 = key) → K (.tuple #[.int .i64 i, .bool b]) w') : CallK Tryd.prog 64 #[tabV most A rs.length c, .string key] K w := by
  refine F64_calls _ _ _ _ ?_; unfold F64
  obtain ⟨q1, h1, s1⟩ := newb w #[.int .i64 most, .slice A rs.length c] 60
  simp (maxSteps := 1000000) (disch := omega) only [genAll, decAll, tk_nil, st64]
  generalize (w.alloc (.cells #[.int .i64 most, .slice A rs.length c] 60)) = w1 at *
  generalize w.heap.size = bt at *
  obtain ⟨x0, x1⟩ := cell2 h1
  refine loopK1 (fun v w' => w' = w1 ∧ ∃ i : Nat, v = .int .i64 i ∧ i ≤ rs.length ∧ (∀ j, j < i → ltS (rs.getD j default).1 key = true)) (fun v _ => rs.length - (intOf v).toNat) ⟨rfl, 0, rfl, by omega, fun j h => by omega⟩ ?_
  rintro _ _ w2 ⟨hw, i, rfl, hi, hlo⟩
  obtain rfl : w2 = w1 := hw
  have qd : Qt w w2.drew := q1.trans (Qt.drew Qt.refl)
  by_cases hlt : i < rs.length
  · obtain ⟨g, o, rfl, z0, _⟩ := row_at (ha.quiet q1) hlt
    have hnext : ltS (rs.getD i default).1 key = true → ∀ j, j < i + 1 → ltS (rs.getD j default).1 key = true := fun h j hj => by
      by_cases e : j = i
      · subst e; exact h
      · exact hlo j (by omega)
    have hfin := fun b w' q => hK i b w' q hi hlo
    generalize (rs.getD i default).1 = rk at *
    cases hb : ltS rk key with
    | true =>
      simp (maxSteps := 1000000) (disch := omega) only [genAll, decAll, tk_nil, st64, x1, z0, less_lt, hb]
      exact ⟨⟨rfl, i + 1, by go_num, by omega, hnext hb⟩, by simp [rel, intOf]; omega⟩
    | false =>
      simp (maxSteps := 1000000) (disch := omega) only [genAll, decAll, tk_nil, st64, x1, z0, less_lt, hb]
      refine drawK_here ?_
      by_cases he : rk = key
      · have e := decide_eq_true he
        simp (maxSteps := 1000000) (disch := omega) only [genAll, decAll, tk_nil, st64, x1, z0, beq_ba, e]
        exact hfin true _ qd (fun _ => hb) (by rw [decide_eq_true ⟨hlt, he⟩])
      · have e := decide_eq_false he
        simp (maxSteps := 1000000) (disch := omega) only [genAll, decAll, tk_nil, st64, x1, z0, beq_ba, e]
        exact hfin false _ qd (fun _ => hb) (by rw [decide_eq_false (fun h => he h.2)])
  · simp (maxSteps := 1000000) (disch := omega) only [genAll, decAll, tk_nil, st64, x1, guardK_u]
    refine drawK_here ?_
    simp (maxSteps := 1000000) (disch := omega) only [genAll, decAll, tk_nil, st64, x1, takeG_u, guardK_u]
    exact hK i false _ qd hi hlo (fun h => absurd h hlt) (by rw [decide_eq_false (fun h => hlt h.1)])
theorem none_of {rs : List RowH} {key : ByteArray} {i : Nat} (hu : UpK (rs.map (·.1))) (hi : i ≤ rs.length) (h1 : ∀ j, j < i → ltS (rs.getD j default).1 key = true) (h2 : i < rs.length → ltS (rs.getD i default).1 key = false) (h3 : ¬ (i < rs.length ∧ (rs.getD i default).1 = key)) : ∀ r ∈ rs, r.1 ≠ key := fun r hr e => by
  obtain ⟨j, hj, rfl⟩ := List.mem_iff_getElem.1 hr
  have ej : rs.getD j default = rs[j] := by simp [hj]
  rw [← ej] at e
  rcases Nat.lt_trichotomy j i with h | h | h
  · have := h1 j h
    rw [e, ltS_self] at this; cases this
  · subst h; exact h3 ⟨hj, e⟩
  · have h4 := upK_at hu h hj
    rw [e, h2 (by omega)] at h4; cases h4
set_option maxHeartbeats 4000000 in
theorem getT_any {rs : List RowH} {most : Int} {key : ByteArray} {A : Option Addr} {c : Nat} {w : World} {K : Value → World → Prop} (ha : Reads w A (rs.flatMap rowC)) (hl : rs.length ≤ 100000) (hu : UpK (rs.map (·.1)))
    (hN : (∀ r ∈ rs, r.1 ≠ key) → ∀ w', Qt w w' → K (.tuple #[.agg #[.string ByteArray.empty, .int .i64 0, .int .i64 0, .int .i64 0, .string ByteArray.empty, .slice none 0 0], .bool false]) w')
    (hS : ∀ i, i < rs.length → (rs.getD i default).1 = key → ∀ w', Qt w w' → K (.tuple #[rowV (rs.getD i default).1 (rs.getD i default).2.1 (rs.getD i default).2.2.1 (rs.getD i default).2.2.2.2.length (rs.getD i default).2.2.2.1, .bool true]) w') : CallK Tryd.prog 61 #[tabV most A rs.length c, .string key] K w := by
  refine F61_calls _ _ _ _ ?_; unfold F61
  obtain ⟨q1, h1, s1⟩ := newb w #[.int .i64 most, .slice A rs.length c] 60
  simp (maxSteps := 1000000) (disch := omega) only [genAll, decAll, tk_nil, st61]
  generalize (w.alloc (.cells #[.int .i64 most, .slice A rs.length c] 60)) = w1 at *
  obtain ⟨q2, h2, s2⟩ := newb w1 #[.string ByteArray.empty, .int .i64 0, .int .i64 0, .int .i64 0, .string ByteArray.empty, .slice none 0 0] 65
  rw [s1] at h2 s2
  generalize (w1.alloc (.cells #[.string ByteArray.empty, .int .i64 0, .int .i64 0, .int .i64 0, .string ByteArray.empty, .slice none 0 0] 65)) = w2 at *
  have q02 := q1.trans q2
  generalize hb : w.heap.size = bt at *
  have h12 := q2.heap h1 (fun h => h)
  obtain ⟨x0, x1⟩ := cell2 h12
  simp (maxSteps := 1000000) (disch := omega) only [genAll, decAll, tk_nil, st61, x0, x1]
  refine ck64 (at_any (ha.quiet q02) hl ?_)
  intro i b w3 q3 hi hlo hge hbb
  have q03 := q02.trans q3
  have h23 := q3.heap h2 (fun h => h)
  obtain ⟨x0, x1⟩ := cell2 (q3.heap h12 (fun h => h))
  cases b with
  | false =>
    have hno := none_of hu hi hlo hge (of_decide_eq_false hbb.symm)
    simp (maxSteps := 1000000) (disch := omega) only [genAll, decAll, tk_nil, st61]
    refine aggStoreW (cs := [.string ByteArray.empty, .int .i64 0, .int .i64 0, .int .i64 0, .string ByteArray.empty, .slice none 0 0]) h23 rfl (by kernel_rfl) (rowC_one (ByteArray.empty, (0, 0, 0, ByteArray.empty), none, 0, [])) ?_
    intro w4 h4 k4
    obtain ⟨y0, y1, y2, y3, y4, y5⟩ := cell6 h4
    simp (maxSteps := 1000000) (disch := omega) only [genAll, decAll, tk_nil, st61, y0, y1, y2, y3, y4, y5]
    exact hN hno _ (Qt.then q03 k4 (fun k hk => by omega))
  | true =>
    obtain ⟨hlt, he⟩ := of_decide_eq_true hbb.symm
    have hfin := hS i hlt he
    obtain ⟨g, o, rfl, z0, z1, z2, z3, z4, z5⟩ := row_at (ha.quiet q03) hlt
    generalize rs.getD i default = r at *
    simp (maxSteps := 1000000) (disch := omega) only [genAll, decAll, tk_nil, st61, x1, z0, z1, z2, z3, z4, z5]
    refine aggStoreW (cs := rowC r) h23 rfl (by kernel_rfl) (rowC_one r) ?_
    intro w4 h4 k4
    obtain ⟨y0, y1, y2, y3, y4, y5⟩ := cell6 h4
    simp (maxSteps := 1000000) (disch := omega) only [genAll, decAll, tk_nil, st61, y0, y1, y2, y3, y4, y5]
    exact hfin _ (Qt.then q03 k4 (fun k hk => by omega))
set_option maxHeartbeats 8000000 in
theorem dropT_any {rs : List RowH} {most : Int} {key : ByteArray} {A : Option Addr} {c : Nat} {w : World} {K : Value → World → Prop} (ha : RowsAt w A rs) (hl : rs.length ≤ 100000)
    (hK : ∀ A' c' rs' w', rs'.map rowP = (rs.map rowP).filter (fun r => !decide (r.1 = key)) → (∀ r ∈ rs', r ∈ rs) → RowsAt w' A' rs' → rs'.length ≤ c' → ((A' = none ∧ c' = 0) ∨ ∃ g, A' = some ⟨g, 0, none⟩ ∧ w.heap.size ≤ g) → Qt w w' → K (tabV most A' rs'.length c') w') : CallK Tryd.prog 62 #[tabV most A rs.length c, .string key] K w := by
  refine F62_calls _ _ _ _ ?_; unfold F62
  obtain ⟨q1, h1, s1⟩ := newb w #[.int .i64 most, .slice A rs.length c] 60
  simp (maxSteps := 1000000) (disch := omega) only [genAll, decAll, tk_nil, st62]
  generalize (w.alloc (.cells #[.int .i64 most, .slice A rs.length c] 60)) = w1 at *
  obtain ⟨q2, h2, s2⟩ := newb w1 #[.int .i64 0, .slice none 0 0] 60
  rw [s1] at h2 s2
  generalize (w1.alloc (.cells #[.int .i64 0, .slice none 0 0] 60)) = w2 at *
  have q02 := q1.trans q2
  generalize hb : w.heap.size = bt at *
  have h12 := q2.heap h1 (fun h => h)
  obtain ⟨x0, x1⟩ := cell2 h12
  obtain ⟨q3, h3, s3⟩ := newb w2 #[.int .i64 most, .slice none 0 0] 60
  simp (maxSteps := 1000000) (disch := omega) only [genAll, decAll, tk_nil, st62, x0, x1]
  generalize (w2.alloc (.cells #[.int .i64 most, .slice none 0 0] 60)) = w3 at *
  have q03 := q02.trans q3
  have h13 := q3.heap h12 (fun h => h)
  have h23 := q3.heap h2 (fun h => h)
  obtain ⟨bu, hbu⟩ : ∃ bu, bu = w2.heap.size := ⟨_, rfl⟩
  rw [← hbu] at h3 s3 s2 ⊢
  refine loopK1 (fun v w' => ∃ (i : Nat) (A' : Option Addr) (c' : Nat) (F : Option Nat) (rs' : List RowH), v = .int .i64 i ∧ i ≤ rs.length ∧ w'.heap[bu]? = some (.cells #[.int .i64 most, .slice A' rs'.length c'] 60 (0, 0)) ∧ rs'.map rowP = ((rs.map rowP).take i).filter (fun r => !decide (r.1 = key)) ∧ (∀ r ∈ rs', r ∈ rs) ∧ Own w' 65 6 (.slice A' rs'.length c') rs'.length (rs'.flatMap rowC) F ∧ Chg (fun k => k = bu) w3 w' ∧ (∀ k, F = some k → w3.heap.size ≤ k)) (fun v _ => rs.length - (intOf v).toNat) ⟨0, none, 0, none, [], rfl, by omega, h3, rfl, fun _ h => (by cases h), Own.nil _ _ _, Chg.refl _ _, fun _ h => by cases h⟩ ?_
  rintro _ _ w4 ⟨i, A4, c4, F4, rs', rfl, hi, hu4, hmap, hsub, o4, k4, f4⟩
  have q04 : Qt w w4 := Qt.then q03 k4 (fun k hk => by omega)
  have h14 := k4.heap h13 (by omega)
  obtain ⟨x0, x1⟩ := cell2 h14
  have hlen := filter_take_len (rs.map rowP) (fun r => !decide (r.1 = key)) i
  rw [← hmap, List.length_map, List.length_map] at hlen
  by_cases hlt : i < rs.length
  · obtain ⟨g, o, rfl, z0, z1, z2, z3, z4, z5⟩ := row_at (ha.1.quiet q04) hlt
    have hmem := getD_mem hlt
    have hsn := filter_snoc (rs.map rowP) (fun r => !decide (r.1 = key)) (i := i) (by rw [List.length_map]; exact hlt)
    rw [rowP_getD, ← hmap] at hsn
    have hk4 : ∀ k, (k = bu ∨ F4 = some k) → w.heap.size ≤ k := fun k hk => by
      rcases hk with rfl | hk
      · omega
      · have := f4 k hk; omega
    have XR := fun w' (q : Chg (fun k => k = bu ∨ F4 = some k) w4 w') => row_at (ha.1.quiet (Qt.then q04 q hk4)) hlt
    generalize rs.getD i default = r at *
    obtain ⟨rk, s, B, d, hs⟩ := r
    simp only at z0 z1 z2 z3 z4 z5
    have hsn : ((rs.map rowP).take (i + 1)).filter (fun r => !decide (r.1 = key)) = rs'.map rowP ++ if (!decide (rk = key)) = true then [rowP (rk, s, B, d, hs)] else [] := hsn
    by_cases hrk : rk = key
    · have e3 := decide_eq_true hrk
      rw [e3, if_neg (by decide), List.append_nil] at hsn
      simp (maxSteps := 1000000) (disch := omega) only [genAll, decAll, tk_nil, st62, x1, z0, beq_ba, e3]
      exact ⟨⟨i + 1, A4, c4, F4, rs', by go_num, by omega, hu4, hsn.symm, hsub, o4, k4, f4⟩, by simp [rel, intOf]; omega⟩
    have e3 := decide_eq_false hrk
    rw [e3, if_pos (by decide)] at hsn
    simp (maxSteps := 1000000) (disch := omega) only [genAll, decAll, tk_nil, st62, x1, z0, beq_ba, e3]
    have qd : Qt w4 w4.drew := Qt.drew Qt.refl
    have kd : Chg (fun k => k = bu ∨ F4 = some k) w4 w4.drew := qd.mono (fun _ _ h => h.elim)
    have hT : ¬ (bt = bu ∨ F4 = some bt) := fun e => e.elim (fun e => by omega) (fun e => by have := f4 _ e; omega)
    have X1 : ∀ w', Chs (fun k => k = bu ∨ F4 = some k) w4 w' → w'.cell? ⟨bt, 1, none⟩ = some (.slice (some ⟨g, o, none⟩) rs.length c) := fun w' q => (cell2 (Chg.heap q h14 hT)).2
    have Xa : ∀ w', Chs (fun k => k = bu ∨ F4 = some k) w4 w' → w'.cell? ⟨g, o + i * 6, none⟩ = some (.string rk) ∧ w'.cell? ⟨g, o + i * 6 + 1, none⟩ = some (.int .i64 s.1) ∧ w'.cell? ⟨g, o + i * 6 + 2, none⟩ = some (.int .i64 s.2.1) ∧ w'.cell? ⟨g, o + i * 6 + 3, none⟩ = some (.int .i64 s.2.2.1) ∧ w'.cell? ⟨g, o + i * 6 + 4, none⟩ = some (.string s.2.2.2) ∧ w'.cell? ⟨g, o + i * 6 + 5, none⟩ = some (.slice B hs.length d) := fun w' q => by
      obtain ⟨_, _, he, z⟩ := XR w' q
      cases he
      exact z
    refine drawC (fun k => k = bu ∨ F4 = some k) w4 kd ?_
    have hu5 := qd.heap hu4 (fun h => h)
    have o5 := o4.chg qd (fun _ _ h => h)
    have hsz := qd.size
    generalize w4.drew = w5 at *
    obtain ⟨u0, u1⟩ := cell2 hu5
    obtain ⟨q6, h6, s6⟩ := newb w5 #[.string rk, .int .i64 s.1, .int .i64 s.2.1, .int .i64 s.2.2.1, .string s.2.2.2, .slice B hs.length d] 65
    obtain ⟨A7, c7, F7, w7, p7, o7, k7, f7⟩ := pushN_run (P := Tryd.prog) tyRR (o5.chg q6 (fun _ _ h => h)) [.string rk, .int .i64 s.1, .int .i64 s.2.1, .int .i64 s.2.2.1, .string s.2.2.2, .slice B hs.length d] rfl (rowC_one (rk, s, B, d, hs)) h6 (by omega) (by omega) 33
    have u1' := (cell2 (q6.heap hu5 (fun h => h))).2
    simp (maxSteps := 1000000) (disch := omega) only [genAll, decAll, tk_nil, st62, qkld33 X1, qkld65 Xa, u1, u1']
    generalize (w5.alloc (.cells #[.string rk, .int .i64 s.1, .int .i64 s.2.1, .int .i64 s.2.2.1, .string s.2.2.2, .slice B hs.length d] 65)) = w6 at *
    have k46 : Chg (fun k => k = bu ∨ F4 = some k) w4 w6 := kd.trans (q6.mono (fun _ _ h => h.elim))
    have hFu : ¬ F4 = some bu := fun e => by have := f4 _ e; omega
    refine ⟨⟨kd, ⟨k46, ?_, trivial⟩, trivial⟩, ⟨k46, ⟨k46, ?_, trivial⟩, trivial⟩, trivial⟩
    all_goals
      refine appK p7 ?_
      have hu7 := k7.heap (q6.heap hu5 (fun h => h)) hFu
      obtain ⟨v0, v1⟩ := cell2 hu7
      have fz := blk_frozen hu7 1
      have k47 := k46.trans (k7.mono (fun _ _ h => .inr h))
      simp (maxSteps := 1000000) (disch := omega) only [genAll, decAll, tk_nil, st62, v1, fz]
      have h8 : (w7.setCell ⟨bu, 1, none⟩ (.slice A7 (rs'.length + 1) c7)).heap[bu]? = some (.cells #[.int .i64 most, .slice A7 (rs'.length + 1) c7] 60 (0, 0)) := by rw [blk_set hu7]; rfl
      have k8 : Chg (fun k => k = bu) w7 (w7.setCell ⟨bu, 1, none⟩ (.slice A7 (rs'.length + 1) c7)) := (Chg.refl (fun k => k = bu) w7).setCell (p := ⟨bu, 1, none⟩) (.inl rfl) _
      generalize w7.setCell ⟨bu, 1, none⟩ (.slice A7 (rs'.length + 1) c7) = w8 at *
      have s46 := k46.size
      have s34 := k4.size
      have hF7 : ∀ k, F7 = some k → w3.heap.size ≤ k := fun k hk => by
        rcases f7 k hk with h | h
        · exact f4 k h
        · omega
      have k38 : Chg (fun k => k = bu) w3 w8 := ((k4.trans ((qd.mono (fun _ _ h => h.elim)))).trans (q6.mono (fun _ _ h => h.elim))).then k7 (fun k hk => .inr (f4 k hk)) |>.trans k8
      have hlen2 : (rs' ++ [(rk, s, B, d, hs)]).length = rs'.length + 1 := by simp
      refine ⟨k47, ⟨k47.trans (k8.mono (fun _ _ h => .inl h)), ⟨i + 1, A7, c7, F7, rs' ++ [(rk, s, B, d, hs)], by go_num, by omega, by rw [hlen2]; exact h8, ?_, ?_, ?_, k38, hF7⟩, by simp [rel, intOf]; omega⟩, trivial⟩
      · rw [hsn, List.map_append]; rfl
      · intro r hr
        rcases List.mem_append.1 hr with hr | hr
        · exact hsub r hr
        · have : r = (rk, s, B, d, hs) := by simpa using hr
          subst this; exact hmem
      · rw [hlen2, List.flatMap_append]
        have o8 := o7.chg k8 (fun k hk e => by have := hF7 k hk; omega)
        simpa [rowC] using o8
  · obtain rfl : i = rs.length := by omega
    rw [List.take_of_length_le (by rw [List.length_map]; omega)] at hmap
    obtain ⟨u0, u1⟩ := cell2 hu4
    simp (maxSteps := 1000000) (disch := omega) only [genAll, decAll, tk_nil, st62, x1, u0, u1]
    refine aggStoreW (cs := [.int .i64 most, .slice A4 rs'.length c4]) (k4.heap h23 (by omega)) rfl (by kernel_rfl) (by intro u hu; simp at hu; rcases hu with rfl | rfl <;> rfl) ?_
    intro w5 h5 k5
    obtain ⟨y0, y1⟩ := cell2 h5
    simp (maxSteps := 1000000) (disch := omega) only [genAll, decAll, tk_nil, st62, y0, y1]
    have hF : ¬ F4 = some (bt + 1) := fun e => by have := f4 _ e; omega
    have o5 := o4.chg k5 (fun k hk e => hF (by rw [hk, e]))
    have q05 : Qt w w5 := Qt.then q04 k5 (fun k hk => by omega)
    refine hK _ _ rs' _ hmap hsub ⟨reads_own o5, fun r hr => (ha.2 r (hsub r hr)).quiet q05⟩ ?_ ?_ q05
    · obtain ⟨_, _, e, h, _⟩ := o5.shape
      injection e with _ _ e; omega
    · rcases own_cases o5 with ⟨h1, _, h2, _⟩ | ⟨g8, h1, hF8, _⟩
      · exact .inl ⟨h1, h2⟩
      · exact .inr ⟨g8, h1, by have := f4 _ hF8; have := q03.size; omega⟩
end Go.Proofs.YtpjeohellehgjaaDoor

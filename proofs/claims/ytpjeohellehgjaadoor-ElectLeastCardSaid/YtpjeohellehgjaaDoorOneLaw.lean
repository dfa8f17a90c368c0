/- ElectOne: the walk. Conditions: rows read. -/
import Derived.Test.YtpjeohellehgjaaDoorKn15
set_option linter.unusedVariables false
set_option linter.unusedSimpArgs false
set_option maxRecDepth 100000
namespace Go.Proofs.YtpjeohellehgjaaDoor
open Go.RowKit Go.Cn
theorem chkAs_up : ∀ (l : List Att) (p : Option ByteArray), chkAs p l = 0 → (∀ q, p = some q → ∀ m ∈ l, ltS q m.1 = true) ∧ UpK (l.map (·.1))
  | [], p, _ => ⟨fun _ _ _ h => (by cases h), List.Pairwise.nil⟩
  | m :: r, p, h => by
    rw [chkAs] at h
    by_cases h1 : nameL m.1.data.toList = false
    · rw [if_pos h1] at h; exact absurd h (by decide)
    rw [if_neg h1] at h
    by_cases h2 : (p.all fun q => ltS q m.1) = false
    · rw [if_pos h2] at h; exact absurd h (by decide)
    rw [if_neg h2] at h
    by_cases h3 : checkV m.2 = 0
    case neg => rw [if_pos h3] at h; exact absurd h h3
    rw [if_neg (fun e => e h3)] at h
    obtain ⟨i1, i2⟩ := chkAs_up r (some m.1) h
    have hp : ∀ q, p = some q → ltS q m.1 = true := fun q e => by
      subst e
      simpa using h2
    refine ⟨fun q e x hx => ?_, ?_⟩
    · rcases List.mem_cons.1 hx with rfl | hx
      · exact hp q e
      · exact ltS_trans (hp q e) (i1 m.1 rfl x hx)
    · refine List.Pairwise.cons (fun k hk => ?_) i2
      obtain ⟨x, hx, rfl⟩ := List.mem_map.1 hk
      exact i1 m.1 rfl x hx
theorem checkR_up {r : RowD} (h : checkR r = 0) : UpK (r.2.2.map (·.1)) := by
  unfold checkR at h
  by_cases h1 : nameL r.1.data.toList = false
  · rw [if_pos h1] at h; exact absurd h (by decide)
  rw [if_neg h1] at h
  by_cases h2 : checkS r.2.1 = 0
  case neg => rw [if_pos h2] at h; exact absurd h h2
  rw [if_neg (fun e => e h2)] at h
  unfold checkAs at h
  by_cases h3 : 32 < r.2.2.length
  · rw [if_pos h3] at h; exact absurd h (by decide)
  rw [if_neg h3] at h
  exact (chkAs_up _ _ h).2
theorem riseH_el {rs : List RowH} (h : RiseH rs) : ∀ r ∈ rs, ElOk r := fun r hr => by
  obtain ⟨_, _, h3, h4⟩ := h.few r hr
  refine ⟨?_, by omega, fun x hx => ?_, fun x hx => ?_⟩
  · have := checkR_up (h.ok r hr)
    have e : (rowP r).2.2.map (·.1) = r.2.2.2.2.map (·.1) := by
      show (r.2.2.2.2.map attP).map (·.1) = _
      rw [List.map_map]; rfl
    rw [e] at this
    exact this
  · have := (h4 x hx).2.2; omega
  · have := (h4 x hx).2.1; omega
theorem ordL_filter (l : List ChoD) (f : ChoD → Bool) : ordL (l.filter f) = (ordL l).filter f :=
  pair_eq (ordL_pair _) ((ordL_pair l).filter f) ((ordL_perm _).trans ((ordL_perm l).symm.filter f))
/-- Without the rows of a key: those that stand of other keys. -/
theorem stand_without (l : List RowD) (key : ByteArray) : standL (l.filter fun r => !decide (r.1 = key)) = (standL l).filter fun c => !decide (c.1 = key) := by
  unfold standL
  rw [List.filter_map, List.filter_filter, List.filter_filter]
  congr 1
  apply List.filter_congr
  intro r _
  rw [Bool.and_comm]; rfl
theorem first_without {l : List ChoD} {f : ChoD → Bool} (h : l.isEmpty = false) (hf : f (firstC l) = true) : firstC (l.filter f) = firstC l ∧ (l.filter f).isEmpty = false := by
  cases l with
  | nil => cases h
  | cons x r =>
    have hx : f x = true := hf
    rw [List.filter_cons, if_pos hx]
    exact ⟨rfl, rfl⟩
theorem kbeqC (a : ChoD) (K : Value → World → Prop) (w : World) : BinK Tryd.prog .eql 73 (choV a) (choV a) K w = K (.bool true) w := by
  unfold BinK; (first | (go_simp; rfl) | (go_simp; done))
set_option maxHeartbeats 8000000 in
theorem electOne_any {rs : List RowH} {key : ByteArray} {A : Option Addr} {c : Nat} {w : World} {K : Value → World → Prop} (hm : MaxAt w) (ha : RowsAt w A rs) (hK : ∀ w', Qt w w' → K (.bool true) w') : CallK Tryd.prog 7 #[.slice A rs.length c, .string key] K w := by
  refine F7_calls _ _ _ _ ?_; unfold F7
  refine ck30 (known15_any hm ?_)
  intro w1 q1
  simp (maxSteps := 1000000) (disch := omega) only [genAll, decAll, tk_nil, st7]
  refine ck14 (rise_any (ha.quiet q1) ?_)
  intro b w2 q2 hr
  have q02 := q1.trans q2
  cases b with
  | false =>
    simp (maxSteps := 1000000) (disch := omega) only [genAll, decAll, tk_nil, st7, guardK_u]
    exact hK _ q02
  | true =>
  have hr := hr rfl
  have h64 := hr.len
  have elr := riseH_el hr
  by_cases h100 : 100 < key.size
  · simp (maxSteps := 1000000) (disch := omega) only [genAll, decAll, tk_nil, st7]
    exact hK _ q02
  simp (maxSteps := 1000000) (disch := omega) only [genAll, decAll, tk_nil, st7]
  refine ck33 (rep_any (hm.quiet q02) (ha.quiet q02) (by omega) elr ?_)
  intro w3 q3
  have q03 := q02.trans q3
  have hsw : ∀ rs' : List RowH, rs'.map rowP = (rs.map rowP).filter (fun r => !decide (r.1 = key)) → ordL (standL (rs'.map rowP)) = (ordL (standL (rs.map rowP))).filter fun c => !decide (c.1 = key) := fun rs' h => by
    rw [h, stand_without, ordL_filter]
  generalize ordL (standL (rs.map rowP)) = L at *
  obtain ⟨q4, h4, s4⟩ := newb w3 #[.string (firstC L).1, .string (firstC L).2.1, .int .i64 (firstC L).2.2] 73
  have hfw := first_without (l := L) (f := fun c => !decide (c.1 = key))
  generalize hfc : firstC L = cc at *
  simp (maxSteps := 1000000) (disch := omega) only [genAll, decAll, tk_nil, st7]
  generalize (w3.alloc (.cells #[.string cc.1, .string cc.2.1, .int .i64 cc.2.2] 73)) = w4 at *
  have q04 := q03.trans q4
  have hb3 := q03.size
  generalize w3.heap.size = b3 at *
  have X := fun w' (q : Qt w4 w') => cell3 (q.heap h4 (fun h => h))
  obtain ⟨x0, x1, x2⟩ := X w4 Qt.refl
  cases he : L.isEmpty with
  | true =>
    simp (maxSteps := 1000000) (disch := omega) only [genAll, decAll, tk_nil, st7, guardK_u]
    exact hK _ q04
  | false =>
  by_cases hk : cc.1 = key
  · have e := decide_eq_true hk
    simp (maxSteps := 1000000) (disch := omega) only [genAll, decAll, tk_nil, st7, x0, beq_ba, e]
    exact hK _ q04
  have e := decide_eq_false hk
  simp (maxSteps := 1000000) (disch := omega) only [genAll, decAll, tk_nil, st7, x0, beq_ba, e]
  obtain ⟨hf1, hf2⟩ := hfw he (by rw [e]; rfl)
  refine loopK2 (fun x v w' => ∃ (i : Nat) (A' : Option Addr) (c' : Nat) (F : Option Nat) (rs' : List RowH), v = .int .i64 i ∧ i ≤ rs.length ∧ x = .slice A' rs'.length c' ∧ rs'.map rowP = ((rs.map rowP).take i).filter (fun r => !decide (r.1 = key)) ∧ (∀ r ∈ rs', r ∈ rs) ∧ Own w' 55 6 (.slice A' rs'.length c') rs'.length (rs'.flatMap rowC) F ∧ Qt w4 w' ∧ (∀ k, F = some k → w4.heap.size ≤ k)) (fun _ v _ => rs.length - (intOf v).toNat) ⟨0, none, 0, none, [], rfl, by omega, rfl, rfl, fun _ h => (by cases h), Own.nil _ _ _, Qt.refl, fun _ h => by cases h⟩ ?_
  rintro _ _ _ w5 ⟨i, A5, c5, F5, rs', rfl, hi, rfl, hmap, hsub, o5, q5, f5⟩
  have q05 := q04.trans q5
  have hlen := filter_take_len (rs.map rowP) (fun r => !decide (r.1 = key)) i
  rw [← hmap, List.length_map, List.length_map] at hlen
  by_cases hlt : i < rs.length
  · obtain ⟨g, o, rfl, z0, z1, z2, z3, z4, z5⟩ := row_at (ha.1.quiet q05) hlt
    have hmem := getD_mem hlt
    have hsn := filter_snoc (rs.map rowP) (fun r => !decide (r.1 = key)) (i := i) (by rw [List.length_map]; exact hlt)
    rw [rowP_getD, ← hmap] at hsn
    generalize rs.getD i default = r at *
    obtain ⟨rk, s, B1, d1, hs⟩ := r
    simp only at z0 z1 z2 z3 z4 z5
    have hsn : ((rs.map rowP).take (i + 1)).filter (fun r => !decide (r.1 = key)) = rs'.map rowP ++ if (!decide (rk = key)) = true then [rowP (rk, s, B1, d1, hs)] else [] := hsn
    by_cases hrk : rk = key
    · have e3 := decide_eq_true hrk
      rw [e3, if_neg (by decide), List.append_nil] at hsn
      simp (maxSteps := 1000000) (disch := omega) only [genAll, decAll, tk_nil, st7, z0, beq_ba, e3]
      exact ⟨⟨i + 1, A5, c5, F5, rs', by go_num, by omega, rfl, hsn.symm, hsub, o5, q5, f5⟩, by simp [rel, intOf]; omega⟩
    · have e3 := decide_eq_false hrk
      rw [e3, if_pos (by decide)] at hsn
      obtain ⟨q6, h6, s6⟩ := newb w5 #[.string rk, .int .i64 s.1, .int .i64 s.2.1, .int .i64 s.2.2.1, .string s.2.2.2, .slice B1 hs.length d1] 55
      obtain ⟨A7, c7, F7, w7, p7, o7, k7, f7⟩ := pushN_run (P := Tryd.prog) tyR (o5.chg q6 (fun _ _ h => h)) [.string rk, .int .i64 s.1, .int .i64 s.2.1, .int .i64 s.2.2.1, .string s.2.2.2, .slice B1 hs.length d1] rfl (rowC_one (rk, s, B1, d1, hs)) h6 (by omega) (by omega) 22
      simp (maxSteps := 1000000) (disch := omega) only [genAll, decAll, tk_nil, st7, z0, z1, z2, z3, z4, z5, beq_ba, e3]
      generalize (w5.alloc (.cells #[.string rk, .int .i64 s.1, .int .i64 s.2.1, .int .i64 s.2.2.1, .string s.2.2.2, .slice B1 hs.length d1] 55)) = w6 at *
      refine appK p7 ?_
      simp (maxSteps := 1000000) (disch := omega) only [genAll, decAll, tk_nil, st7]
      have q07 := Qt.then (q5.trans q6) k7 f5
      have hlen2 : (rs' ++ [(rk, s, B1, d1, hs)]).length = rs'.length + 1 := by simp
      refine ⟨⟨i + 1, A7, c7, F7, rs' ++ [(rk, s, B1, d1, hs)], by go_num, by omega, by rw [hlen2], ?_, ?_, ?_, q07, fun k hk => ?_⟩, by simp [rel, intOf]; omega⟩
      · rw [hsn, List.map_append]; rfl
      · intro r hr
        rcases List.mem_append.1 hr with hr | hr
        · exact hsub r hr
        · have : r = (rk, s, B1, d1, hs) := by simpa using hr
          subst this; exact hmem
      · rw [hlen2, List.flatMap_append]
        simpa [rowC] using o7
      · rcases f7 k hk with h | h
        · exact f5 k h
        · have := (q5.trans q6).size; omega
  obtain rfl : i = rs.length := by omega
  rw [List.take_of_length_le (by rw [List.length_map]; omega)] at hmap
  simp (maxSteps := 1000000) (disch := omega) only [genAll, decAll, tk_nil, st7]
  refine ck33 (rep_any (hm.quiet q05) ⟨reads_own o5, fun r hr => (ha.2 r (hsub r hr)).quiet q05⟩ (by omega) (fun r hr => elr r (hsub r hr)) ?_)
  rw [hsw rs' hmap, hf1, hf2]
  intro w6 q6
  obtain ⟨q7, h7, s7⟩ := newb w6 #[.string cc.1, .string cc.2.1, .int .i64 cc.2.2] 73
  simp (maxSteps := 1000000) (disch := omega) only [genAll, decAll, tk_nil, st7]
  generalize (w6.alloc (.cells #[.string cc.1, .string cc.2.1, .int .i64 cc.2.2] 73)) = w7 at *
  generalize w6.heap.size = b6 at *
  obtain ⟨y0, y1, y2⟩ := cell3 h7
  obtain ⟨x0, x1, x2⟩ := X w7 ((q5.trans q6).trans q7)
  simp (maxSteps := 1000000) (disch := omega) only [genAll, decAll, tk_nil, st7, x0, x1, x2, y0, y1, y2, kbeqC]
  exact hK _ ((q05.trans q6).trans q7)
end Go.Proofs.YtpjeohellehgjaaDoor

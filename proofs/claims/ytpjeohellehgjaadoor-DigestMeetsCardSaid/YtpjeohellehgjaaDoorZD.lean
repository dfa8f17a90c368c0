import Derived.Test.YtpjeohellehgjaaDoorZC
section
/- digest.Send, digest.Want: what another one lacks. Conditions: rows and marks read, and rise by key. -/
set_option linter.unusedVariables false
set_option linter.unusedSimpArgs false
set_option maxRecDepth 100000
namespace Go.Proofs.YtpjeohellehgjaaDoor
open Go.RowKit Go.Cn
theorem newerS_any {a b : Stm} {w : World} {K : Value → World → Prop} (hK : ∀ w', Qt w w' → K (.bool (decide (0 < cmpStm a b))) w') : CallK Tryd.prog 50 #[stV a, stV b] K w := by
  refine F50_calls _ _ _ _ ?_; unfold F50
  obtain ⟨q1, h1, s1⟩ := newb w #[.int .i64 a.1, .int .i64 a.2.1, .int .i64 a.2.2.1, .string a.2.2.2] 52
  simp (maxSteps := 1000000) (disch := omega) only [genAll, decAll, tk_nil, st50]
  generalize (w.alloc (.cells #[.int .i64 a.1, .int .i64 a.2.1, .int .i64 a.2.2.1, .string a.2.2.2] 52)) = w1 at *
  obtain ⟨q2, h2, s2⟩ := newb w1 #[.int .i64 b.1, .int .i64 b.2.1, .int .i64 b.2.2.1, .string b.2.2.2] 52
  generalize (w1.alloc (.cells #[.int .i64 b.1, .int .i64 b.2.1, .int .i64 b.2.2.1, .string b.2.2.2] 52)) = w2 at *
  rw [s1] at h2
  generalize w.heap.size = g at *
  obtain ⟨x0, x1, x2, x3⟩ := cell4 (q2.heap h1 (fun h => h))
  obtain ⟨y0, y1, y2, y3⟩ := cell4 h2
  simp (maxSteps := 1000000) (disch := omega) only [genAll, decAll, tk_nil, st50, x0, x1, x2, x3, y0, y1, y2, y3]
  refine ck26 (cmpSt_any ?_)
  intro w3 q3
  have e : decide (cmpStm a b > 0) = decide (0 < cmpStm a b) := rfl
  by_cases h : 0 < cmpStm a b
  · rw [decide_eq_true h] at hK
    simp (maxSteps := 1000000) (disch := omega) only [genAll, decAll, tk_nil, st50]
    exact hK _ ((q1.trans q2).trans q3)
  · rw [decide_eq_false h] at hK
    simp (maxSteps := 1000000) (disch := omega) only [genAll, decAll, tk_nil, st50]
    exact hK _ ((q1.trans q2).trans q3)
theorem cell1 {w : World} {b : Nat} {t : TypeId} {x : Value} (h : w.heap[b]? = some (.cells #[x] t (0, 0))) : w.cell? ⟨b, 0, none⟩ = some x := by rw [blk_cell h]; rfl
theorem store1 {w : World} {b : Nat} {t : TypeId} {a x : Value} (h : w.heap[b]? = some (.cells #[a] t (0, 0))) : (w.setCell ⟨b, 0, none⟩ x).heap[b]? = some (.cells #[x] t (0, 0)) := by rw [blk_set h]; rfl
/-- Rows told so far: they lie in the closure's own cell, and in nothing else's. -/
structure OutR (w0 w : World) (p : Nat) (out : List RowD) : Prop where
  q : Qt w0 w
  p0 : w0.heap.size ≤ p
  ex : ∃ (A : Option Addr) (c : Nat) (F : Option Nat) (rs : List RowH), w.heap[p]? = some (.cells #[.slice A out.length c] 22 (0, 0)) ∧ rs.map rowP = out ∧ Own w 55 6 (.slice A out.length c) out.length (rs.flatMap rowC) F ∧ (∀ r ∈ rs, AttsAt w r.2.2.1 r.2.2.2.2 ∧ AttsSep (fun k => k = p ∨ F = some k) r.2.2.1 r.2.2.2.2) ∧ (∀ k, F = some k → w0.heap.size ≤ k ∧ k ≠ p)
theorem OutR.quiet {w0 w w' : World} {p : Nat} {out : List RowD} (h : OutR w0 w p out) (q : Qt w w') : OutR w0 w' p out := by
  obtain ⟨q0, p0, A, c, F, rs, h1, h2, h3, h4, h5⟩ := h
  exact ⟨q0.trans q, p0, A, c, F, rs, q.heap h1 (fun h => h), h2, h3.chg q (fun _ _ h => h), fun r hr => ⟨(h4 r hr).1.quiet q, (h4 r hr).2⟩, h5⟩
/-- A row of its own put behind what is told. -/
theorem outR_push {w0 w5 w6 : World} {p : Nat} {out : List RowD} {A A5 : Option Addr} {c : Nat} {F : Option Nat} {rs : List RowH} {key : ByteArray} {s : Stm} {hs hs5 : List AttH} (hqw : Qt w0 w5) (p0 : w0.heap.size ≤ p) (hp : w5.heap[p]? = some (.cells #[.slice A out.length c] 22 (0, 0))) (hmap : rs.map rowP = out) (o1 : Own w5 55 6 (.slice A out.length c) out.length (rs.flatMap rowC) F) (hr1 : ∀ r ∈ rs, AttsAt w5 r.2.2.1 r.2.2.2.2 ∧ AttsSep (fun k => k = p ∨ F = some k) r.2.2.1 r.2.2.2.2) (hF : ∀ k, F = some k → w0.heap.size ≤ k ∧ k ≠ p)
    (hl : out.length ≤ 100000) (m5 : hs5.map attP = hs.map attP) (a5 : AttsAt w5 A5 hs5) (p5 : AttsSep (fun k => k = p ∨ F = some k) A5 hs5) (q6 : Qt w5 w6) (h6 : w6.heap[w5.heap.size]? = some (.cells #[.string key, .int .i64 s.1, .int .i64 s.2.1, .int .i64 s.2.2.1, .string s.2.2.2, .slice A5 hs.length hs.length] 55 (0, 0))) (s6 : w6.heap.size = w5.heap.size + 1) :
    ∃ A7 c7 w7, (Builtin.append_ #[22, 22] 22 #[.slice A out.length c, .slice (some ⟨w5.heap.size, 0, none⟩) 1 1]).run Tryd.prog w6 = .ok (.slice A7 (out.length + 1) c7) w7 ∧ Chg (fun k => F = some k) w6 w7 ∧ w7.cell? ⟨p, 0, none⟩ = some (.slice A out.length c) ∧ w7.frozen? ⟨p, 0, none⟩ = false ∧
      ∀ w8, w8 = w7.setCell ⟨p, 0, none⟩ (.slice A7 (out.length + 1) c7) → OutR w0 w8 p (out ++ [(key, s, hs.map attP)]) ∧ Chg (fun k => k = p) w7 w8 := by
  have l5 : hs5.length = hs.length := by have := congrArg List.length m5; simpa using this
  have hpF : ¬ F = some p := fun e => (hF _ e).2 rfl
  have hpg := blk_lt hp
  have o6 := o1.chg q6 (fun _ _ h => h)
  obtain ⟨A7, c7, F7, w7, p7, o7, k7, f7⟩ := pushN_run (P := Tryd.prog) tyR o6 [.string key, .int .i64 s.1, .int .i64 s.2.1, .int .i64 s.2.2.1, .string s.2.2.2, .slice A5 hs.length hs.length] rfl (rowC_one (key, s, A5, hs.length, hs)) h6 (by omega) (by omega) 22
  have hp7 := k7.heap (q6.heap hp (fun h => h)) hpF
  refine ⟨A7, c7, w7, p7, k7, cell1 hp7, blk_frozen hp7 0, fun w8 hw => ?_⟩
  have h8 : w8.heap[p]? = some (.cells #[.slice A7 (out.length + 1) c7] 22 (0, 0)) := by rw [hw]; exact store1 (x := .slice A7 (out.length + 1) c7) hp7
  have k8 : Chg (fun k => k = p) w7 w8 := by rw [hw]; exact (Chg.refl (fun k => k = p) w7).setCell (p := ⟨p, 0, none⟩) (.inl rfl) _
  clear hw
  have q08 : Qt w0 w8 := Qt.then (Qt.then (hqw.trans q6) k7 (fun k hk => (hF k hk).1)) k8 (fun k hk => by omega)
  have f7' : ∀ k, F7 = some k → F = some k ∨ w6.heap.size ≤ k := fun k hk => (f7 k hk).elim .inl (fun h => .inr (by omega))
  have hp7n : ∀ k, F7 = some k → ¬ k = p := fun k hk e => (f7' k hk).elim (fun h => (hF k h).2 e) (fun h => by omega)
  have hlen : (out ++ [(key, s, hs.map attP)]).length = out.length + 1 := by simp
  refine ⟨⟨q08, p0, A7, c7, F7, rs ++ [(key, s, A5, hs.length, hs5)], by rw [hlen]; exact h8, ?_, ?_, ?_, fun k hk => ⟨?_, hp7n k hk⟩⟩, k8⟩
  · rw [List.map_append, hmap]; simp [rowP, m5]
  · rw [hlen, List.flatMap_append]
    have o8 := o7.chg k8 (fun k hk => hp7n k hk)
    simpa [rowC, l5] using o8
  · intro r hr
    have hx : AttsAt w5 r.2.2.1 r.2.2.2.2 ∧ AttsSep (fun k => k = p ∨ F = some k) r.2.2.1 r.2.2.2.2 := by
      rcases List.mem_append.1 hr with hr | hr
      · exact hr1 r hr
      · have : r = (key, s, A5, hs.length, hs5) := by simpa using hr
        subst this
        exact ⟨a5, p5⟩
    obtain ⟨y1, y2⟩ := hx
    have y3 := y1.quiet q6
    have y4 := y3.sep k7 (y2.mono (fun k hk => .inr hk))
    have y5 : AttsSep (fun k => k = p ∨ F7 = some k) r.2.2.1 r.2.2.2.2 := (y2.or (y3.low (S := fun k => w6.heap.size ≤ k) (fun _ h => h))).mono (fun k hk => hk.elim (fun h => .inl (.inl h)) (fun h => (f7' k h).elim (fun h => .inl (.inr h)) .inr))
    exact ⟨y4.sep k8 (y5.mono (fun k hk => .inl hk)), y5⟩
  · rcases f7 k hk with h | h
    · exact (hF k h).1
    · have := (hqw.trans q6).size; have := hqw.size; omega
set_option maxHeartbeats 4000000 in
theorem send1_any {r : RowH} {b : Value} {is : Bool} {m : MarkD} {p : Nat} {out : List RowD} {w0 w : World} {K : Value → World → Prop} (ho : OutR w0 w p out) (hl : out.length ≤ 100000) (ha : AttsAt w r.2.2.1 r.2.2.2.2) (hn : r.2.2.2.2.length ≤ 100000) (hv : ∀ h ∈ r.2.2.2.2, h.2.1.2.2.2.length ≤ 100000)
    (hb : b = markV m)
    (hK : ∀ w', OutR w0 w' p (out ++ if is = false ∨ 0 < cmpStm r.2.1 m.2 then [rowP r] else []) → K (.tuple #[]) w') : CallK Tryd.prog 49 #[rowV r.1 r.2.1 r.2.2.1 r.2.2.2.2.length r.2.2.2.1, b, .bool is, .pointer (some ⟨p, 0, none⟩)] K w := by
  refine F49_calls _ _ _ _ _ _ ?_; unfold F49
  subst hb
  obtain ⟨key, s, B, d, hs⟩ := r
  obtain ⟨mk, ms⟩ := m
  simp only at ha hn hv hK ⊢
  obtain ⟨q1, h1, s1⟩ := newb w #[.string key, .int .i64 s.1, .int .i64 s.2.1, .int .i64 s.2.2.1, .string s.2.2.2, .slice B hs.length d] 55
  simp (maxSteps := 1000000) (disch := omega) only [genAll, decAll, tk_nil, st49]
  generalize (w.alloc (.cells #[.string key, .int .i64 s.1, .int .i64 s.2.1, .int .i64 s.2.2.1, .string s.2.2.2, .slice B hs.length d] 55)) = w1 at *
  obtain ⟨q2, h2, s2⟩ := newb w1 #[.string mk, .int .i64 ms.1, .int .i64 ms.2.1, .int .i64 ms.2.2.1, .string ms.2.2.2] 85
  generalize (w1.alloc (.cells #[.string mk, .int .i64 ms.1, .int .i64 ms.2.1, .int .i64 ms.2.2.1, .string ms.2.2.2] 85)) = w2 at *
  rw [s1] at h2
  have h12 := q2.heap h1 (fun h => h)
  have q02 := q1.trans q2
  generalize hg : w.heap.size = g at *
  obtain ⟨x0, x1, x2, x3, x4, x5⟩ := cell6 h12
  obtain ⟨y0, y1, y2, y3, y4⟩ := cell5 h2
  have hno : ∀ w3, Qt w2 w3 → OutR w0 w3 p (out ++ []) := fun w3 q => by rw [List.append_nil]; exact (ho.quiet q02).quiet q
  by_cases hyes : is = false ∨ 0 < cmpStm s ms
  case neg =>
    have e1 : is = true := by cases is with
      | false => exact absurd (.inl rfl) hyes
      | true => rfl
    subst e1
    have e2 : ¬ 0 < cmpStm s ms := fun h => hyes (.inr h)
    rw [if_neg hyes] at hK
    simp (maxSteps := 1000000) (disch := omega) only [genAll, decAll, tk_nil, st49, x1, x2, x3, x4, y1, y2, y3, y4]
    refine ck50 (newerS_any ?_)
    intro w3 q3
    rw [decide_eq_false e2]
    simp (maxSteps := 1000000) (disch := omega) only [genAll, decAll, tk_nil, st49]
    exact hK _ (hno w3 q3)
  rw [if_pos hyes] at hK
  clear hno
  cases is
  case' false =>
    simp (maxSteps := 1000000) (disch := omega) only [genAll, decAll, tk_nil, st49, guardK_u]
    obtain ⟨w3, ew, q3⟩ : ∃ w3, w2 = w3 ∧ Qt w2 w3 := ⟨w2, rfl, Qt.refl⟩
    rw [ew]
  case' true =>
    have e2 : 0 < cmpStm s ms := hyes.elim (fun h => by cases h) (fun h => h)
    simp (maxSteps := 1000000) (disch := omega) only [genAll, decAll, tk_nil, st49, x1, x2, x3, x4, y1, y2, y3, y4]
    refine ck50 (newerS_any ?_)
    intro w3 q3
    rw [decide_eq_true e2]
    simp (maxSteps := 1000000) (disch := omega) only [genAll, decAll, tk_nil, st49]
  all_goals
    have q03 := q02.trans q3
    obtain ⟨hqw, p0, A, c, F, rs, hp, hmap, o1, hr1, hF⟩ := ho
    have hpg := blk_lt hp
    have hgF : ¬ F = some g := fun e => by have := o1.lt e; omega
    have hpF : ¬ F = some p := fun e => (hF _ e).2 rfl
    have hp3 := q03.heap hp (fun h => h)
    have h13 := q3.heap h12 (fun h => h)
    have hT : ¬ (g = p ∨ F = some g) := fun e => e.elim (fun e => by omega) hgF
    have Z : ∀ w', Chs (fun k => k = p ∨ F = some k) w3 w' → _ := fun w' q => cell6 (Chg.heap q h13 hT)
    have qd : Qt w3 w3.drew := Qt.drew Qt.refl
    refine drawC (fun k => k = p ∨ F = some k) w3 (qd.mono (fun _ _ h => h.elim)) ?_
    have xd := cell1 (qd.heap hp3 (fun h => h))
    generalize w3.drew = wd at *
    simp (maxSteps := 1000000) (disch := omega) only [genAll, decAll, tk_nil, st49, qkld55 Z]
    have kd : Chg (fun k => k = p ∨ F = some k) w3 wd := qd.mono (fun _ _ h => h.elim)
    refine ⟨?_, ?_, trivial⟩
    · simp (maxSteps := 1000000) (disch := omega) only [genAll, decAll, tk_nil, st49, xd]
      refine ⟨kd, ?_, trivial⟩
      refine ck51 (apartR_any (ha.quiet (q03.trans qd)) hn hv ?_)
      intro A5 hs5 w5 m5 a5 p5 q5
      have q35 := qd.trans q5
      have q05 := q03.trans q35
      have hd5 := (q03.trans qd).size
      obtain ⟨q6, h6, s6⟩ := newb w5 #[.string key, .int .i64 s.1, .int .i64 s.2.1, .int .i64 s.2.2.1, .string s.2.2.2, .slice A5 hs.length hs.length] 55
      have x5 := cell1 (q05.heap hp (fun h => h))
      have x6 := cell1 ((q05.trans q6).heap hp (fun h => h))
      have k35 : Chg (fun k => k = p ∨ F = some k) w3 w5 := q35.mono (fun _ _ h => h.elim)
      have k36 : Chg (fun k => k = p ∨ F = some k) w3 _ := (q35.trans q6).mono (fun _ _ h => h.elim)
      obtain ⟨A7, c7, w7, p7, k7, x7, fz, hout⟩ := outR_push (hqw.trans q05) p0 (q05.heap hp (fun h => h)) hmap (o1.chg q05 (fun _ _ h => h)) (fun r hr => ⟨(hr1 r hr).1.quiet q05, (hr1 r hr).2⟩) hF hl m5 a5 (p5.mono (fun k hk => by
        rcases hk with e | e
        · omega
        · have := o1.lt e; omega)) q6 h6 s6
      simp (maxSteps := 1000000) (disch := omega) only [genAll, decAll, tk_nil, st49]
      generalize (w5.alloc (.cells #[.string key, .int .i64 s.1, .int .i64 s.2.1, .int .i64 s.2.2.1, .string s.2.2.2, .slice A5 hs.length hs.length] 55)) = w6 at *
      refine ⟨k35, ⟨k36, ?_⟩, trivial⟩
      refine ⟨?_, trivial⟩
      refine appK p7 ?_
      simp (maxSteps := 1000000) (disch := omega) only [genAll, decAll, tk_nil, st49, x7, fz]
      obtain ⟨h8, k8⟩ := hout _ rfl
      have k37 := k36.trans (k7.mono (fun _ _ h => .inr h))
      exact ⟨k37, ⟨k37.trans (k8.mono (fun _ _ h => .inl h)), hK _ h8⟩, trivial⟩
    · refine ck51 (apartR_any (ha.quiet (q03.trans qd)) hn hv ?_)
      intro A5 hs5 w5 m5 a5 p5 q5
      have q35 := qd.trans q5
      have q05 := q03.trans q35
      have hd5 := (q03.trans qd).size
      obtain ⟨q6, h6, s6⟩ := newb w5 #[.string key, .int .i64 s.1, .int .i64 s.2.1, .int .i64 s.2.2.1, .string s.2.2.2, .slice A5 hs.length hs.length] 55
      have x5 := cell1 (q05.heap hp (fun h => h))
      have x6 := cell1 ((q05.trans q6).heap hp (fun h => h))
      have k35 : Chg (fun k => k = p ∨ F = some k) w3 w5 := q35.mono (fun _ _ h => h.elim)
      have k36 : Chg (fun k => k = p ∨ F = some k) w3 _ := (q35.trans q6).mono (fun _ _ h => h.elim)
      obtain ⟨A7, c7, w7, p7, k7, x7, fz, hout⟩ := outR_push (hqw.trans q05) p0 (q05.heap hp (fun h => h)) hmap (o1.chg q05 (fun _ _ h => h)) (fun r hr => ⟨(hr1 r hr).1.quiet q05, (hr1 r hr).2⟩) hF hl m5 a5 (p5.mono (fun k hk => by
        rcases hk with e | e
        · omega
        · have := o1.lt e; omega)) q6 h6 s6
      simp (maxSteps := 1000000) (disch := omega) only [genAll, decAll, tk_nil, st49, x5, x6]
      generalize (w5.alloc (.cells #[.string key, .int .i64 s.1, .int .i64 s.2.1, .int .i64 s.2.2.1, .string s.2.2.2, .slice A5 hs.length hs.length] 55)) = w6 at *
      refine ⟨k35, ⟨k35, ⟨k36, ?_⟩, trivial⟩, ?_, trivial⟩
      · refine ⟨?_, trivial⟩
        refine appK p7 ?_
        simp (maxSteps := 1000000) (disch := omega) only [genAll, decAll, tk_nil, st49, x7, fz]
        obtain ⟨h8, k8⟩ := hout _ rfl
        have k37 := k36.trans (k7.mono (fun _ _ h => .inr h))
        exact ⟨k37, ⟨k37.trans (k8.mono (fun _ _ h => .inl h)), hK _ h8⟩, trivial⟩
      · refine ⟨k36, ⟨k36, ?_⟩, trivial⟩
        refine ⟨?_, trivial⟩
        refine appK p7 ?_
        simp (maxSteps := 1000000) (disch := omega) only [genAll, decAll, tk_nil, st49, x7, fz]
        obtain ⟨h8, k8⟩ := hout _ rfl
        have k37 := k36.trans (k7.mono (fun _ _ h => .inr h))
        exact ⟨k37, ⟨k37.trans (k8.mono (fun _ _ h => .inl h)), hK _ h8⟩, trivial⟩
end Go.Proofs.YtpjeohellehgjaaDoor
end

section
/- digest.Send, digest.Pick: the rows themselves. Conditions: rows and marks read, and rise by key. -/
set_option linter.unusedVariables false
set_option linter.unusedSimpArgs false
set_option maxRecDepth 100000
namespace Go.Proofs.YtpjeohellehgjaaDoor
open Go.RowKit Go.Cn
theorem makeFuncK {P : Program} {n : FuncId} {p : Value} {K : Value → World → Prop} {w : World} (h : K (.func (.func n) #[] #[p]) w) : ValK P (Instr.makeFunc (.func n) #[] #[p]) K w := h
theorem upK_one {α : Type} [Inhabited α] {f : α → ByteArray} {l : List α} (h : UpK (l.map f)) {i j : Nat} (hi : i < l.length) (hj : j < l.length) (e : f (l.getD i default) = f (l.getD j default)) : i = j := by
  rcases Nat.lt_trichotomy i j with g | g | g
  · have := upK_at h g hj
    rw [e, ltS_self] at this; cases this
  · exact g
  · have := upK_at h g hi
    rw [e, ltS_self] at this; cases this
theorem newS_none {ms : List MarkD} {r : RowD} (h : ∀ y ∈ ms, y.1 ≠ r.1) : newS ms r = true := by
  unfold newS
  rw [Bool.not_eq_true', List.any_eq_false]
  intro m hm
  simp [h m hm]
theorem newS_one {ms : List MarkD} {r : RowD} (hu : UpK (ms.map (·.1))) {j : Nat} (hj : j < ms.length) (e : (ms.getD j default).1 = r.1) : newS ms r = decide (0 < cmpStm r.2.1 (ms.getD j default).2) := by
  unfold newS
  have ej : ms.getD j default = ms[j] := by simp [hj]
  by_cases h : 0 < cmpStm r.2.1 (ms.getD j default).2
  · rw [decide_eq_true h, Bool.not_eq_true', List.any_eq_false]
    intro m hm
    obtain ⟨k, hk, rfl⟩ := List.mem_iff_getElem.1 hm
    have ek : ms.getD k default = ms[k] := by simp [hk]
    by_cases e2 : ms[k].1 = r.1
    · have : k = j := upK_one hu hk hj (by rw [ek, e2, e])
      subst this
      rw [ej] at h
      simp; omega
    · simp [e2]
  · rw [decide_eq_false h, Bool.not_eq_false', List.any_eq_true]
    exact ⟨ms.getD j default, by rw [ej]; exact List.getElem_mem hj, by rw [decide_eq_true e, Bool.true_and]; exact decide_eq_true (by omega)⟩
theorem filter_snoc {α : Type} [Inhabited α] (l : List α) (f : α → Bool) {i : Nat} (hi : i < l.length) : (l.take (i + 1)).filter f = (l.take i).filter f ++ if f (l.getD i default) = true then [l.getD i default] else [] := by
  have e : l.getD i default = l[i] := by simp [hi]
  rw [e, List.take_succ_eq_append_getElem hi, List.filter_append]
  by_cases h : f l[i] = true
  · simp [h]
  · simp [h]
theorem filter_take_len {α : Type} (l : List α) (f : α → Bool) (i : Nat) : ((l.take i).filter f).length ≤ l.length := Nat.le_trans (List.length_filter_le ..) (by rw [List.length_take]; omega)
theorem OutR.start {w w1 : World} (q : Qt w w1) (h : w1.heap[w.heap.size]? = some (.cells #[.slice none 0 0] 22 (0, 0))) : OutR w w1 w.heap.size [] :=
  ⟨q, Nat.le_refl _, none, 0, none, [], h, rfl, Own.nil _ _ _, fun _ h => (by cases h), fun _ h => by cases h⟩
set_option maxHeartbeats 2000000 in
theorem send_any {rs : List RowH} {ms : List MarkD} {A B : Option Addr} {c d : Nat} {w : World} {K : Value → World → Prop} (ha : RowsAt w A rs) (hb : Reads w B (ms.flatMap markC)) (lr : rs.length ≤ 100000) (lm : ms.length ≤ 100000) (hn : ∀ r ∈ rs, r.2.2.2.2.length ≤ 100000) (hv : ∀ r ∈ rs, ∀ h ∈ r.2.2.2.2, h.2.1.2.2.2.length ≤ 100000) (ur : UpK (rs.map (·.1))) (um : UpK (ms.map (·.1)))
    (hK : ∀ A' rs' w', rs'.map rowP = sendL (rs.map rowP) ms → RowsAt w' A' rs' → Qt w w' → K (.slice A' rs'.length rs'.length) w') : CallK Tryd.prog 19 #[.slice A rs.length c, .slice B ms.length d] K w := by
  refine F19_calls _ _ _ _ ?_; unfold F19
  obtain ⟨q1, h1, s1⟩ := newb w #[.slice none 0 0] 22
  simp (maxSteps := 1000000) (disch := omega) only [genAll, decAll, tk_nil, st19]
  generalize (w.alloc (.cells #[.slice none 0 0] 22)) = w1 at *
  have o1 := OutR.start q1 h1
  generalize w.heap.size = p at *
  refine makeFuncK ?_
  have look : ∀ i (w' : World), OutR w w' p (((rs.map rowP).take i).filter (newS ms)) → Qt w w' := fun i w' h => h.q
  refine ck46 (besRM_any (fun i w' => OutR w w' p (((rs.map rowP).take i).filter (newS ms))) (fun i w' h => ha.1.quiet h.q) (fun i w' h => hb.quiet h.q) (fun i w' w'' h q => h.quiet q) lr lm ur um o1 ?_ ?_)
  · intro i w' is b K' hi hO hcase hK'
    have hat := (ha.get hi).quiet hO.q
    have hn' := hn _ (getD_mem hi)
    have hv' := hv _ (getD_mem hi)
    have hsn := filter_snoc (rs.map rowP) (newS ms) (i := i) (by rw [List.length_map]; exact hi)
    rw [rowP_getD] at hsn
    have hlen := filter_take_len (rs.map rowP) (newS ms) i
    rw [List.length_map] at hlen
    generalize rs.getD i default = r at *
    refine cb49 ?_
    have hb' : ∃ m, b = markV m ∧ (if newS ms (rowP r) = true then [rowP r] else []) = (if is = false ∨ 0 < cmpStm r.2.1 m.2 then [rowP r] else []) := by
      rcases hcase with ⟨rfl, j, hj, he, rfl⟩ | ⟨rfl, hne, rfl⟩
      · refine ⟨_, rfl, ?_⟩
        rw [newS_one (r := rowP r) um hj he]
        have e2 : (rowP r).2.1 = r.2.1 := rfl
        simp [e2]
      · refine ⟨(ByteArray.empty, 0, 0, 0, ByteArray.empty), rfl, ?_⟩
        rw [newS_none (r := rowP r) hne]
        simp
    obtain ⟨m, hbm, hif⟩ := hb'
    show CallK Tryd.prog 49 #[rowV r.1 r.2.1 r.2.2.1 r.2.2.2.2.length r.2.2.2.1, b, .bool is, .pointer (some ⟨p, 0, none⟩)] K' w'
    refine send1_any hO (by omega) hat hn' hv' hbm ?_
    intro w'' h''
    refine hK' _ w'' ?_
    rw [hsn, hif]
    exact h''
  · intro w2 h2
    rw [List.take_of_length_le (by rw [List.length_map]; omega)] at h2
    obtain ⟨q2, _, A2, c2, F2, rs2, hp2, hm2, o2, hr2, hF2⟩ := h2
    have x2 := cell1 hp2
    simp (maxSteps := 1000000) (disch := omega) only [genAll, decAll, tk_nil, st19, x2]
    refine ck52 (clipR_any o2 ?_)
    simp (maxSteps := 1000000) (disch := omega) only [genAll, decAll, tk_nil, st19]
    have e : ((rs.map rowP).filter (newS ms)).length = rs2.length := by rw [← hm2, List.length_map]
    rw [e]
    exact hK _ rs2 _ hm2 ⟨reads_own o2, fun r hr => (hr2 r hr).1⟩ q2
end Go.Proofs.YtpjeohellehgjaaDoor
end

section
/- digest.Want: the keys that another one has newer, or alone. Conditions: rows and marks read, and rise by key. -/
set_option linter.unusedVariables false
set_option linter.unusedSimpArgs false
set_option maxRecDepth 100000
namespace Go.Proofs.YtpjeohellehgjaaDoor
open Go.RowKit Go.Cn
theorem cmpI_anti (a b : Int) : cmpI b a = -cmpI a b := by
  unfold cmpI
  by_cases h : a < b
  · rw [if_neg (by omega), if_pos h, if_pos h]; rfl
  · by_cases h2 : b < a
    · rw [if_pos h2, if_neg h, if_pos h2]
    · rw [if_neg h2, if_neg h, if_neg h, if_neg h2]; rfl
theorem orI_anti (a b : Int) : orI (-a) (-b) = -orI a b := by
  unfold orI
  by_cases h : a = 0
  · subst h; simp
  · rw [if_pos h, if_pos (by omega)]
theorem cmpStm_anti (a b : Stm) : cmpStm b a = -cmpStm a b := by
  unfold cmpStm
  rw [cmpI_anti a.1 b.1, cmpI_anti a.2.1 b.2.1, cmpI_anti a.2.2.1 b.2.2.1, show cmpS b.2.2.2 a.2.2.2 = -cmpS a.2.2.2 b.2.2.2 from cmpL_anti _ _, orI_anti, orI_anti, orI_anti]
/-- Keys told so far. -/
structure OutS (w0 w : World) (p : Nat) (out : List ByteArray) : Prop where
  q : Qt w0 w
  p0 : w0.heap.size ≤ p
  ex : ∃ (A : Option Addr) (c : Nat) (F : Option Nat), w.heap[p]? = some (.cells #[.slice A out.length c] 24 (0, 0)) ∧ Own w 9 1 (.slice A out.length c) out.length (out.map Value.string) F ∧ (∀ k, F = some k → w0.heap.size ≤ k ∧ k ≠ p)
theorem OutS.quiet {w0 w w' : World} {p : Nat} {out : List ByteArray} (h : OutS w0 w p out) (q : Qt w w') : OutS w0 w' p out := by
  obtain ⟨q0, p0, A, c, F, h1, h3, h5⟩ := h
  exact ⟨q0.trans q, p0, A, c, F, q.heap h1 (fun h => h), h3.chg q (fun _ _ h => h), h5⟩
set_option maxHeartbeats 4000000 in
theorem want1_any {m : MarkD} {b : Value} {is : Bool} {k : ByteArray} {s : Stm} {B : Option Addr} {n d p : Nat} {out : List ByteArray} {w0 w : World} {K : Value → World → Prop} (ho : OutS w0 w p out) (hl : out.length ≤ 100000) (hb : b = rowV k s B n d)
    (hK : ∀ w', OutS w0 w' p (out ++ if is = false ∨ 0 < cmpStm m.2 s then [m.1] else []) → K (.tuple #[]) w') : CallK Tryd.prog 55 #[markV m, b, .bool is, .pointer (some ⟨p, 0, none⟩)] K w := by
  refine F55_calls _ _ _ _ _ _ ?_; unfold F55
  subst hb
  obtain ⟨mk, ms⟩ := m
  simp only at hK ⊢
  obtain ⟨q1, h1, s1⟩ := newb w #[.string mk, .int .i64 ms.1, .int .i64 ms.2.1, .int .i64 ms.2.2.1, .string ms.2.2.2] 85
  simp (maxSteps := 1000000) (disch := omega) only [genAll, decAll, tk_nil, st55]
  generalize (w.alloc (.cells #[.string mk, .int .i64 ms.1, .int .i64 ms.2.1, .int .i64 ms.2.2.1, .string ms.2.2.2] 85)) = w1 at *
  obtain ⟨q2, h2, s2⟩ := newb w1 #[.string k, .int .i64 s.1, .int .i64 s.2.1, .int .i64 s.2.2.1, .string s.2.2.2, .slice B n d] 55
  generalize (w1.alloc (.cells #[.string k, .int .i64 s.1, .int .i64 s.2.1, .int .i64 s.2.2.1, .string s.2.2.2, .slice B n d] 55)) = w2 at *
  rw [s1] at h2
  have h12 := q2.heap h1 (fun h => h)
  have q02 := q1.trans q2
  generalize hg : w.heap.size = g at *
  obtain ⟨x0, x1, x2, x3, x4⟩ := cell5 h12
  obtain ⟨y0, y1, y2, y3, y4, y5⟩ := cell6 h2
  by_cases hyes : is = false ∨ 0 < cmpStm ms s
  case neg =>
    have e1 : is = true := by cases is with
      | false => exact absurd (.inl rfl) hyes
      | true => rfl
    subst e1
    have e2 : ¬ 0 < cmpStm ms s := fun h => hyes (.inr h)
    rw [if_neg hyes] at hK
    simp (maxSteps := 1000000) (disch := omega) only [genAll, decAll, tk_nil, st55, x1, x2, x3, x4, y1, y2, y3, y4]
    refine ck50 (newerS_any ?_)
    intro w3 q3
    rw [decide_eq_false e2]
    simp (maxSteps := 1000000) (disch := omega) only [genAll, decAll, tk_nil, st55]
    exact hK _ (by rw [List.append_nil]; exact (ho.quiet q02).quiet q3)
  rw [if_pos hyes] at hK
  cases is
  case' false =>
    obtain ⟨w3, ew, q3⟩ : ∃ w3, w2 = w3 ∧ Qt w2 w3 := ⟨w2, rfl, Qt.refl⟩
    have hp3 : True := trivial
    rw [ew]
    rw [ew] at x0 x1 x2 x3 x4 y0 y1 y2 y3 y4 y5
  case' true =>
    have e2 : 0 < cmpStm ms s := hyes.elim (fun h => by cases h) (fun h => h)
    simp (maxSteps := 1000000) (disch := omega) only [genAll, decAll, tk_nil, st55, x1, x2, x3, x4, y1, y2, y3, y4]
    refine ck50 (newerS_any ?_)
    intro w3 q3
    rw [decide_eq_true e2]
    have hp3 : True := trivial
  all_goals
    obtain ⟨hqw, p0, A, c, F, hp, o1, hF⟩ := ho
    have hpg := blk_lt hp
    have q03 := q02.trans q3
    have hpF : ¬ F = some p := fun e => (hF _ e).2 rfl
    have hp3 := q03.heap hp (fun h => h)
    have z := cell1 hp3
    have x0 := (cell5 (q3.heap h12 (fun h => h))).1
    obtain ⟨q6, h6, s6⟩ := newb w3 #[.string mk] 9
    obtain ⟨A7, c7, F7, w7, p7, o7, k7, f7⟩ := pushN_run (P := Tryd.prog) tyS ((o1.chg q03 (fun _ _ h => h)).chg q6 (fun _ _ h => h)) [.string mk] rfl (oneCell_one rfl) h6 (by omega) (by omega) 24
    simp (maxSteps := 1000000) (disch := omega) only [genAll, decAll, tk_nil, st55, z, x0, guardK_u]
    generalize (w3.alloc (.cells #[.string mk] 9)) = w6 at *
    have hp7 := k7.heap (q6.heap hp3 (fun h => h)) hpF
    refine appK p7 ?_
    have x7 := cell1 hp7
    have fz := blk_frozen hp7 0
    simp (maxSteps := 1000000) (disch := omega) only [genAll, decAll, tk_nil, st55, x7, fz]
    have h8 := store1 (x := .slice A7 (out.length + 1) c7) hp7
    have k8 : Chg (fun k => k = p) w7 (w7.setCell ⟨p, 0, none⟩ (.slice A7 (out.length + 1) c7)) := (Chg.refl (fun k => k = p) w7).setCell (p := ⟨p, 0, none⟩) (.inl rfl) _
    generalize w7.setCell ⟨p, 0, none⟩ (.slice A7 (out.length + 1) c7) = w8 at *
    have q08 : Qt w0 w8 := Qt.then (Qt.then (hqw.trans (q03.trans q6)) k7 (fun k hk => (hF k hk).1)) k8 (fun k hk => by omega)
    have s03 := (q03.trans q6).size
    have s3 := q03.size
    have f7' : ∀ k, F7 = some k → F = some k ∨ w3.heap.size ≤ k := fun k hk => (f7 k hk).elim .inl (fun h => .inr (by have := q6.size; omega))
    have hlen : (out ++ [mk]).length = out.length + 1 := by simp
    refine hK _ ⟨q08, p0, A7, c7, F7, by rw [hlen]; exact h8, ?_, fun k hk => ⟨?_, fun e => (f7' k hk).elim (fun h => (hF k h).2 e) (fun h => by omega)⟩⟩
    · rw [hlen, List.map_append]
      exact o7.chg k8 (fun k hk e => (f7' k hk).elim (fun h => (hF k h).2 e) (fun h => by omega))
    · rcases f7' k hk with h | h
      · exact (hF k h).1
      · have := hqw.size; omega
theorem newW_none {l : List RowD} {m : MarkD} (h : ∀ y ∈ l, y.1 ≠ m.1) : newW l m = true := by
  unfold newW
  rw [Bool.not_eq_true', List.any_eq_false]
  intro r hr
  simp [Ne.symm (h r hr)]
theorem newW_one {l : List RowD} {m : MarkD} (hu : UpK (l.map (·.1))) {j : Nat} (hj : j < l.length) (e : (l.getD j default).1 = m.1) : newW l m = decide (0 < cmpStm m.2 (l.getD j default).2.1) := by
  unfold newW
  have ej : l.getD j default = l[j] := by simp [hj]
  rw [cmpStm_anti (l.getD j default).2.1 m.2]
  by_cases h : cmpStm (l.getD j default).2.1 m.2 < 0
  · rw [decide_eq_true (show 0 < -cmpStm (l.getD j default).2.1 m.2 by omega), Bool.not_eq_true', List.any_eq_false]
    intro r hr
    obtain ⟨k, hk, rfl⟩ := List.mem_iff_getElem.1 hr
    have ek : l.getD k default = l[k] := by simp [hk]
    by_cases e2 : l[k].1 = m.1
    · have : k = j := upK_one hu hk hj (by rw [ek, e2, e])
      subst this
      rw [ej] at h
      simp; omega
    · simp [Ne.symm e2]
  · rw [decide_eq_false (show ¬ 0 < -cmpStm (l.getD j default).2.1 m.2 by omega), Bool.not_eq_false', List.any_eq_true]
    exact ⟨l.getD j default, by rw [ej]; exact List.getElem_mem hj, by rw [decide_eq_true e.symm, Bool.true_and]; exact decide_eq_true (by omega)⟩
theorem OutS.start {w w1 : World} (q : Qt w w1) (h : w1.heap[w.heap.size]? = some (.cells #[.slice none 0 0] 24 (0, 0))) : OutS w w1 w.heap.size [] :=
  ⟨q, Nat.le_refl _, none, 0, none, h, Own.nil _ _ _, fun _ h => by cases h⟩
theorem mapKeys (rs : List RowH) : (rs.map rowP).map (·.1) = rs.map (·.1) := by rw [List.map_map]; rfl
set_option maxHeartbeats 2000000 in
theorem want_any {rs : List RowH} {ms : List MarkD} {A B : Option Addr} {c d : Nat} {w : World} {K : Value → World → Prop} (ha : Reads w A (rs.flatMap rowC)) (hb : Reads w B (ms.flatMap markC)) (lr : rs.length ≤ 100000) (lm : ms.length ≤ 100000) (ur : UpK (rs.map (·.1))) (um : UpK (ms.map (·.1)))
    (hK : ∀ A' w', Reads w' A' ((wantL (rs.map rowP) ms).map Value.string) → Qt w w' → K (.slice A' (wantL (rs.map rowP) ms).length (wantL (rs.map rowP) ms).length) w') : CallK Tryd.prog 22 #[.slice A rs.length c, .slice B ms.length d] K w := by
  refine F22_calls _ _ _ _ ?_; unfold F22
  obtain ⟨q1, h1, s1⟩ := newb w #[.slice none 0 0] 24
  simp (maxSteps := 1000000) (disch := omega) only [genAll, decAll, tk_nil, st22]
  generalize (w.alloc (.cells #[.slice none 0 0] 24)) = w1 at *
  have o1 := OutS.start q1 h1
  generalize w.heap.size = p at *
  refine makeFuncK ?_
  refine ck54 (besMR_any (fun i w' => OutS w w' p (((ms.take i).filter (newW (rs.map rowP))).map (fun m : MarkD => m.1))) (fun i w' h => hb.quiet h.q) (fun i w' h => ha.quiet h.q) (fun i w' w'' h q => h.quiet q) lm lr um ur o1 ?_ ?_)
  · intro i w' is b K' hi hO hcase hK'
    have hsn := filter_snoc ms (newW (rs.map rowP)) hi
    have hlen := filter_take_len ms (newW (rs.map rowP)) i
    generalize ms.getD i default = m at *
    refine cb55 ?_
    have hb' : ∃ k s B n d, b = rowV k s B n d ∧ (if newW (rs.map rowP) m = true then [m] else []).map (·.1) = (if is = false ∨ 0 < cmpStm m.2 s then [m.1] else []) := by
      rcases hcase with ⟨rfl, j, hj, he, rfl⟩ | ⟨rfl, hne, rfl⟩
      · refine ⟨_, _, _, _, _, rfl, ?_⟩
        rw [newW_one (m := m) (l := rs.map rowP) (by rw [mapKeys]; exact ur) (by rw [List.length_map]; exact hj) (by rw [rowP_getD]; exact he), rowP_getD]
        have e2 : (rowP (rs.getD j default)).2.1 = (rs.getD j default).2.1 := rfl
        rw [e2]
        by_cases h : 0 < cmpStm m.2 (rs.getD j default).2.1
        · rw [decide_eq_true h, if_pos rfl, if_pos (.inr h)]; rfl
        · rw [decide_eq_false h, if_neg (by decide), if_neg (by rintro (e | e); cases e; exact h e)]; rfl
      · refine ⟨ByteArray.empty, (0, 0, 0, ByteArray.empty), none, 0, 0, rfl, ?_⟩
        rw [newW_none (m := m) (fun y hy => by
          obtain ⟨r, hr, rfl⟩ := List.mem_map.1 hy
          exact hne r hr)]
        simp
    obtain ⟨k, s, B2, n2, d2, hbm, hif⟩ := hb'
    show CallK Tryd.prog 55 #[markV m, b, .bool is, .pointer (some ⟨p, 0, none⟩)] K' w'
    refine want1_any hO (by rw [List.length_map]; omega) hbm ?_
    intro w'' h''
    refine hK' _ w'' ?_
    rw [hsn, List.map_append, hif]
    exact h''
  · intro w2 h2
    rw [List.take_length] at h2
    obtain ⟨q2, _, A2, c2, F2, hp2, o2, hF2⟩ := h2
    have x2 := cell1 hp2
    simp (maxSteps := 1000000) (disch := omega) only [genAll, decAll, tk_nil, st22, x2]
    refine ck56 (clipS_any o2 ?_)
    simp (maxSteps := 1000000) (disch := omega) only [genAll, decAll, tk_nil, st22]
    exact hK _ _ (reads_own o2) q2
end Go.Proofs.YtpjeohellehgjaaDoor
end

section
/- digest.Pick: the rows of some keys. Conditions: rows and keys read. -/
set_option linter.unusedVariables false
set_option linter.unusedSimpArgs false
set_option maxRecDepth 100000
namespace Go.Proofs.YtpjeohellehgjaaDoor
open Go.RowKit Go.Cn
theorem key_at {w : World} {A : Option Addr} {ks : List ByteArray} (h : Reads w A (ks.map Value.string)) {i : Nat} (hi : i < ks.length) : ∃ g o, A = some ⟨g, o, none⟩ ∧ w.cell? ⟨g, o + i, none⟩ = some (.string (ks.getD i default)) := by
  rcases h with h | ⟨g, o, he, hc⟩
  · simp at h; subst h; simp at hi
  · refine ⟨g, o, he, ?_⟩
    rw [hc i (by rw [List.length_map]; exact hi)]
    simp [hi]
theorem any_at {ks : List ByteArray} {k : ByteArray} {i : Nat} (hi : i < ks.length) : ((ks.drop i).any fun x => decide (x = k)) = (decide (ks.getD i default = k) || ((ks.drop (i + 1)).any fun x => decide (x = k))) := by
  rw [List.drop_eq_getElem_cons hi, List.any_cons]
  have e : ks.getD i default = ks[i] := by simp [hi]
  rw [e]
set_option maxHeartbeats 1000000 in
theorem hasKey_any {ks : List ByteArray} {k : ByteArray} {A : Option Addr} {c : Nat} {w : World} {K : Value → World → Prop} (hr : Reads w A (ks.map Value.string)) (hl : ks.length ≤ 100000) (hK : K (.bool (ks.any fun x => decide (x = k))) w) : CallK Tryd.prog 57 #[.slice A ks.length c, .string k] K w := by
  have hidx : ∀ K : Value → World → Prop, (∀ n : Int, -1 ≤ n → n ≤ 100000 → (0 ≤ n ↔ (ks.any fun x => decide (x = k)) = true) → K (.int .i64 n) w) → CallK Tryd.prog 84 #[.slice A ks.length c, .string k] K w := fun K hK => by
    refine F84_calls _ _ _ _ ?_; unfold F84
    simp (maxSteps := 1000000) (disch := omega) only [genAll, decAll, tk_nil, st57, st84]
    refine loopK1 (fun v w' => ∃ i : Nat, v = .int .i64 i ∧ i ≤ ks.length ∧ (ks.any fun x => decide (x = k)) = ((ks.drop i).any fun x => decide (x = k)) ∧ w' = w) (fun v _ => ks.length - (intOf v).toNat) ⟨0, rfl, by omega, by rw [List.drop_zero], rfl⟩ ?_
    rintro _ _ _ ⟨i, rfl, hi, hlo, rfl⟩
    by_cases hlt : i < ks.length
    · obtain ⟨g, o, rfl, hc⟩ := key_at hr hlt
      rw [any_at hlt] at hlo
      generalize ks.getD i default = x at *
      by_cases e : x = k
      · have e2 : decide (k = x) = true := decide_eq_true e.symm
        rw [decide_eq_true e, Bool.true_or] at hlo
        simp (maxSteps := 1000000) (disch := omega) only [genAll, decAll, tk_nil, st57, st84, hc, beq_ba, e2]
        exact hK i (by omega) (by omega) ⟨fun _ => hlo, fun _ => by omega⟩
      · have e2 : decide (k = x) = false := decide_eq_false (fun h => e h.symm)
        rw [decide_eq_false e, Bool.false_or] at hlo
        simp (maxSteps := 1000000) (disch := omega) only [genAll, decAll, tk_nil, st57, st84, hc, beq_ba, e2]
        exact ⟨⟨i + 1, by go_num, by omega, hlo, rfl⟩, by simp [rel, intOf]; omega⟩
    · rw [List.drop_eq_nil_of_le (by omega)] at hlo
      simp (maxSteps := 1000000) (disch := omega) only [genAll, decAll, tk_nil, st57, st84]
      exact hK (-1) (by omega) (by omega) ⟨fun h => absurd h (by omega), fun h => by rw [hlo] at h; cases h⟩
  refine F57_calls _ _ _ _ ?_; unfold F57
  refine ck84 (hidx _ ?_)
  intro n h0 h1 hn
  cases h : (ks.any fun x => decide (x = k)) with
  | true =>
    rw [h] at hK
    have := hn.2 h
    simp (maxSteps := 1000000) (disch := omega) only [genAll, decAll, tk_nil, st57, st84]
    exact hK
  | false =>
    rw [h] at hK
    have : ¬ 0 ≤ n := fun e => by rw [hn.1 e] at h; cases h
    simp (maxSteps := 1000000) (disch := omega) only [genAll, decAll, tk_nil, st57, st84]
    exact hK
set_option maxHeartbeats 4000000 in
theorem pick_any {rs : List RowH} {ks : List ByteArray} {A B : Option Addr} {c d : Nat} {w : World} {K : Value → World → Prop} (ha : RowsAt w A rs) (hb : Reads w B (ks.map Value.string)) (lr : rs.length ≤ 100000) (lk : ks.length ≤ 100000) (hn : ∀ r ∈ rs, r.2.2.2.2.length ≤ 100000) (hv : ∀ r ∈ rs, ∀ h ∈ r.2.2.2.2, h.2.1.2.2.2.length ≤ 100000)
    (hK : ∀ A' rs' w', rs'.map rowP = pickL (rs.map rowP) ks → RowsAt w' A' rs' → Qt w w' → K (.slice A' rs'.length rs'.length) w') : CallK Tryd.prog 24 #[.slice A rs.length c, .slice B ks.length d] K w := by
  refine F24_calls _ _ _ _ ?_; unfold F24
  simp (maxSteps := 1000000) (disch := omega) only [genAll, decAll, tk_nil, st24]
  refine loopK2 (fun x v w' => ∃ (i : Nat) (A' : Option Addr) (c' : Nat) (F : Option Nat) (rs' : List RowH), v = .int .i64 i ∧ i ≤ rs.length ∧ x = .slice A' rs'.length c' ∧ rs'.map rowP = ((rs.map rowP).take i).filter (inK ks) ∧ Own w' 55 6 (.slice A' rs'.length c') rs'.length (rs'.flatMap rowC) F ∧ (∀ r ∈ rs', AttsAt w' r.2.2.1 r.2.2.2.2 ∧ AttsSep (fun k => F = some k) r.2.2.1 r.2.2.2.2) ∧ Qt w w' ∧ (∀ k, F = some k → w.heap.size ≤ k)) (fun _ v _ => rs.length - (intOf v).toNat) ⟨0, none, 0, none, [], rfl, by omega, rfl, rfl, Own.nil _ _ _, fun _ h => (by cases h), Qt.refl, fun _ h => by cases h⟩ ?_
  rintro _ _ _ w1 ⟨i, A1, c1, F1, rs', rfl, hi, rfl, hmap, o1, hr1, q1, f1⟩
  by_cases hlt : i < rs.length
  · obtain ⟨g, o, rfl, z0, z1, z2, z3, z4, z5⟩ := row_at (ha.1.quiet q1) hlt
    have hat := (ha.get hlt).quiet q1
    have hn' := hn _ (getD_mem hlt)
    have hv' := hv _ (getD_mem hlt)
    have hsn := filter_snoc (rs.map rowP) (inK ks) (i := i) (by rw [List.length_map]; exact hlt)
    rw [rowP_getD, ← hmap] at hsn
    have hlen := filter_take_len (rs.map rowP) (inK ks) i
    rw [← hmap, List.length_map, List.length_map] at hlen
    generalize rs.getD i default = r at *
    obtain ⟨key, s, B1, d1, hs⟩ := r
    simp only at z0 z1 z2 z3 z4 z5 hat hn' hv'
    obtain ⟨q2, h2, s2⟩ := newb w1 #[.string key, .int .i64 s.1, .int .i64 s.2.1, .int .i64 s.2.2.1, .string s.2.2.2, .slice B1 hs.length d1] 55
    simp (maxSteps := 1000000) (disch := omega) only [genAll, decAll, tk_nil, st24, z0, z1, z2, z3, z4, z5]
    generalize (w1.alloc (.cells #[.string key, .int .i64 s.1, .int .i64 s.2.1, .int .i64 s.2.2.1, .string s.2.2.2, .slice B1 hs.length d1] 55)) = w2 at *
    generalize w1.heap.size = b at *
    obtain ⟨x0, x1, x2, x3, x4, x5⟩ := cell6 h2
    have q02 := q1.trans q2
    simp (maxSteps := 1000000) (disch := omega) only [genAll, decAll, tk_nil, st24, x0]
    refine ck57 (hasKey_any (hb.quiet q02) lk ?_)
    have hin : inK ks (rowP (key, s, B1, d1, hs)) = ks.any fun x => decide (x = key) := rfl
    rw [← hin]
    cases hk : inK ks (rowP (key, s, B1, d1, hs)) with
    | false =>
      rw [hk, if_neg (by decide), List.append_nil] at hsn
      simp (maxSteps := 1000000) (disch := omega) only [genAll, decAll, tk_nil, st24]
      exact ⟨⟨i + 1, A1, c1, F1, rs', by go_num, by omega, rfl, hsn.symm, o1.chg q2 (fun _ _ h => h), fun r hr => ⟨(hr1 r hr).1.quiet q2, (hr1 r hr).2⟩, q02, f1⟩, by simp [rel, intOf]; omega⟩
    | true =>
      rw [hk, if_pos rfl] at hsn
      simp (maxSteps := 1000000) (disch := omega) only [genAll, decAll, tk_nil, st24, x0, x1, x2, x3, x4, x5]
      refine ck51 (apartR_any (hat.quiet q2) hn' hv' ?_)
      intro A5 hs5 w5 m5 a5 p5 q5
      have l5 : hs5.length = hs.length := by have := congrArg List.length m5; simpa using this
      have q25 := q2.trans q5
      obtain ⟨q6, h6, s6⟩ := newb w5 #[.string key, .int .i64 s.1, .int .i64 s.2.1, .int .i64 s.2.2.1, .string s.2.2.2, .slice A5 hs.length hs.length] 55
      obtain ⟨A7, c7, F7, w7, p7, o7, k7, f7⟩ := pushN_run (P := Tryd.prog) tyR ((o1.chg q25 (fun _ _ h => h)).chg q6 (fun _ _ h => h)) [.string key, .int .i64 s.1, .int .i64 s.2.1, .int .i64 s.2.2.1, .string s.2.2.2, .slice A5 hs.length hs.length] rfl (rowC_one (key, s, A5, hs.length, hs)) h6 (by omega) (by omega) 22
      simp (maxSteps := 1000000) (disch := omega) only [genAll, decAll, tk_nil, st24]
      generalize (w5.alloc (.cells #[.string key, .int .i64 s.1, .int .i64 s.2.1, .int .i64 s.2.2.1, .string s.2.2.2, .slice A5 hs.length hs.length] 55)) = w6 at *
      refine appK p7 ?_
      simp (maxSteps := 1000000) (disch := omega) only [genAll, decAll, tk_nil, st24]
      have q26 := q25.trans q6
      have q07 := Qt.then (q1.trans q26) k7 f1
      have f7' : ∀ k, F7 = some k → F1 = some k ∨ w6.heap.size ≤ k := fun k hk => (f7 k hk).elim .inl (fun h => .inr (by omega))
      have hlen2 : (rs' ++ [(key, s, A5, hs.length, hs5)]).length = rs'.length + 1 := by simp
      have hq2 := q2.size
      refine ⟨⟨i + 1, A7, c7, F7, rs' ++ [(key, s, A5, hs.length, hs5)], by go_num, by omega, by rw [hlen2], ?_, ?_, ?_, q07, fun k hk => ?_⟩, by simp [rel, intOf]; omega⟩
      · rw [hsn, List.map_append]; simp [rowP, m5]
      · rw [hlen2, List.flatMap_append]
        simpa [rowC, l5] using o7
      · intro r hr
        have hx : AttsAt w6 r.2.2.1 r.2.2.2.2 ∧ AttsSep (fun k => F1 = some k) r.2.2.1 r.2.2.2.2 := by
          rcases List.mem_append.1 hr with hr | hr
          · exact ⟨(hr1 r hr).1.quiet q26, (hr1 r hr).2⟩
          · have : r = (key, s, A5, hs.length, hs5) := by simpa using hr
            subst this
            exact ⟨a5.quiet q6, p5.mono (fun k hk => by have := o1.lt hk; omega)⟩
        exact ⟨hx.1.sep k7 hx.2, attsSep_push hx.2 hx.1 f7'⟩
      · rcases f7' k hk with h | h
        · exact f1 k h
        · have := (q1.trans q26).size; omega
  · obtain rfl : i = rs.length := by omega
    rw [List.take_of_length_le (by rw [List.length_map]; omega)] at hmap
    simp (maxSteps := 1000000) (disch := omega) only [genAll, decAll, tk_nil, st24]
    refine ck52 (clipR_any o1 ?_)
    simp (maxSteps := 1000000) (disch := omega) only [genAll, decAll, tk_nil, st24]
    exact hK _ rs' _ hmap ⟨reads_own o1, fun r hr => (hr1 r hr).1⟩ q1
end Go.Proofs.YtpjeohellehgjaaDoor
end

section
/- The document's Send, Want, Pick. Conditions: rows, marks, keys read. -/
set_option linter.unusedVariables false
set_option linter.unusedSimpArgs false
set_option maxRecDepth 100000
namespace Go.Proofs.YtpjeohellehgjaaDoor
open Go.RowKit Go.Cn
theorem anyD {α : Type} [Inhabited α] {l : List α} {f : α → Bool} {i : Nat} (hi : i < l.length) : (l.take (i + 1)).any f = ((l.take i).any f || f (l.getD i default)) := by
  have e : l.getD i default = l[i] := by simp [hi]
  rw [e, List.take_succ_eq_append_getElem hi, List.any_append]; simp
set_option maxHeartbeats 4000000 in
theorem sendR_any {rs : List RowH} {ms : List MarkD} {A B : Option Addr} {c d : Nat} {w : World} {K : Value → World → Prop} (ha : RowsAt w A rs) (hb : Reads w B (ms.flatMap markC)) (lr : rs.length ≤ 100000) (lm : ms.length ≤ 100000)
    (hK : ∀ A' c' rs' w', rs'.map rowP = sendL (rs.map rowP) ms → (∀ r ∈ rs', r ∈ rs) → RowsAt w' A' rs' → Qt w w' → K (.slice A' rs'.length c') w') : CallK Tryd.prog 20 #[.slice A rs.length c, .slice B ms.length d] K w := by
  refine F20_calls _ _ _ _ ?_; unfold F20
  refine loopK2 (fun x v w' => ∃ (i : Nat) (A' : Option Addr) (c' : Nat) (F : Option Nat) (rs' : List RowH), v = .int .i64 i ∧ i ≤ rs.length ∧ x = .slice A' rs'.length c' ∧ rs'.map rowP = ((rs.map rowP).take i).filter (newS ms) ∧ (∀ r ∈ rs', r ∈ rs) ∧ Own w' 65 6 (.slice A' rs'.length c') rs'.length (rs'.flatMap rowC) F ∧ Qt w w' ∧ (∀ k, F = some k → w.heap.size ≤ k)) (fun _ v _ => rs.length - (intOf v).toNat) ⟨0, none, 0, none, [], rfl, by omega, rfl, rfl, fun _ h => (by cases h), Own.nil _ _ _, Qt.refl, fun _ h => by cases h⟩ ?_
  rintro _ _ _ w1 ⟨i, A1, c1, F1, rs', rfl, hi, rfl, hmap, hsub, o1, q1, f1⟩
  by_cases hlt : i < rs.length
  · have XR := fun w' (q : Quiets w w') => row_at (Reads.quiet ha.1 q) hlt
    obtain ⟨g, o, hA, _⟩ := XR w Qt.refl
    subst hA
    have hmem := getD_mem hlt
    have hsn := filter_snoc (rs.map rowP) (newS ms) (i := i) (by rw [List.length_map]; exact hlt)
    rw [rowP_getD, ← hmap] at hsn
    have hlen := filter_take_len (rs.map rowP) (newS ms) i
    rw [← hmap, List.length_map, List.length_map] at hlen
    generalize rs.getD i default = r at *
    obtain ⟨key, s, B1, d1, hs⟩ := r
    have X0 : ∀ w', Quiets w w' → w'.cell? ⟨g, o + i * 6, none⟩ = some (.string key) := fun w' q => by obtain ⟨_, _, he, h, _⟩ := XR w' q; cases he; exact h
    have X1 : ∀ w', Quiets w w' → w'.cell? ⟨g, o + (i * 6 + 1), none⟩ = some (.int .i64 s.1) ∧ w'.cell? ⟨g, o + (i * 6 + 1) + 1, none⟩ = some (.int .i64 s.2.1) ∧ w'.cell? ⟨g, o + (i * 6 + 1) + 2, none⟩ = some (.int .i64 s.2.2.1) ∧ w'.cell? ⟨g, o + (i * 6 + 1) + 3, none⟩ = some (.string s.2.2.2) := fun w' q => by obtain ⟨_, _, he, _, h1, h2, h3, h4, _⟩ := XR w' q; cases he; exact ⟨h1, h2, h3, h4⟩
    simp (maxSteps := 1000000) (disch := omega) only [genAll, decAll, tk_nil, st20]
    refine loopK2 (fun a v w' => ∃ j : Nat, v = .int .i64 j ∧ j ≤ ms.length ∧ a = .bool ((ms.take j).any fun m => decide (m.1 = key) && decide (cmpStm s m.2 ≤ 0)) ∧ Qt w1 w') (fun _ v _ => ms.length - (intOf v).toNat) ⟨0, rfl, by omega, by rw [List.take_zero]; rfl, Qt.refl⟩ ?_
    rintro _ _ _ w2 ⟨j, rfl, hj, rfl, q2⟩
    have q02 := q1.trans q2
    by_cases hjl : j < ms.length
    · have XM := fun w' (q : Quiets w w') => mark_at (Reads.quiet hb q) hjl
      obtain ⟨g2, o2, hB, _⟩ := XM w Qt.refl
      subst hB
      have hany := anyD (f := fun m : MarkD => decide (m.1 = key) && decide (cmpStm s m.2 ≤ 0)) hjl
      generalize ms.getD j default = m at *
      obtain ⟨mk, mt⟩ := m
      have Y0 : ∀ w', Quiets w w' → w'.cell? ⟨g2, o2 + j * 5, none⟩ = some (.string mk) := fun w' q => by obtain ⟨_, _, he, h, _⟩ := XM w' q; cases he; exact h
      have Y1 : ∀ w', Quiets w w' → w'.cell? ⟨g2, o2 + (j * 5 + 1), none⟩ = some (.int .i64 mt.1) ∧ w'.cell? ⟨g2, o2 + (j * 5 + 1) + 1, none⟩ = some (.int .i64 mt.2.1) ∧ w'.cell? ⟨g2, o2 + (j * 5 + 1) + 2, none⟩ = some (.int .i64 mt.2.2.1) ∧ w'.cell? ⟨g2, o2 + (j * 5 + 1) + 3, none⟩ = some (.string mt.2.2.2) := fun w' q => by obtain ⟨_, _, he, _, h1, h2, h3, h4⟩ := XM w' q; cases he; exact ⟨h1, h2, h3, h4⟩
      have q2d : Qt w w2.drew := q02.trans (Qt.drew Qt.refl)
      have q12 : Qt w1 w2.drew := q2.trans (Qt.drew Qt.refl)
      have hany : ((ms.take (j + 1)).any fun m => decide (m.1 = key) && decide (cmpStm s m.2 ≤ 0)) = (((ms.take j).any fun m => decide (m.1 = key) && decide (cmpStm s m.2 ≤ 0)) || (decide (mk = key) && decide (cmpStm s mt ≤ 0))) := hany
      simp (maxSteps := 1000000) (disch := omega) only [genAll, decAll, tk_nil, st20]
      refine drawQ w q2d ?_
      generalize w2.drew = wd at *
      cases hskip : ((ms.take j).any fun m => decide (m.1 = key) && decide (cmpStm s m.2 ≤ 0)) with
      | true =>
        rw [hskip, Bool.true_or] at hany
        simp (maxSteps := 1000000) (disch := omega) only [genAll, decAll, tk_nil, st20, takeG_u, guardK_u]
        exact ⟨⟨q2d, ⟨j + 1, by go_num, by omega, by rw [hany], q12⟩, by simp [rel, intOf]; omega⟩, trivial⟩
      | false =>
      rw [hskip, Bool.false_or] at hany
      by_cases hk : mk = key
      case neg =>
        have e := decide_eq_false hk
        rw [e, Bool.false_and] at hany
        simp (maxSteps := 1000000) (disch := omega) only [genAll, decAll, tk_nil, st20, qkld9 X0, qkld9 Y0, beq_ba, e, takeG_u, guardK_u]
        exact ⟨⟨q2d, ⟨j + 1, by go_num, by omega, by rw [hany], q12⟩, by simp [rel, intOf]; omega⟩, trivial⟩
      have e := decide_eq_true hk
      rw [e, Bool.true_and] at hany
      simp (maxSteps := 1000000) (disch := omega) only [genAll, decAll, tk_nil, st20, qkld9 X0, qkld9 Y0, qkld38 X1, qkld38 Y1, beq_ba, e]
      refine ⟨?_, trivial⟩
      refine ck53 (cmpStR_any ?_)
      intro w3 q3
      by_cases hc : cmpStm s mt ≤ 0
      · rw [decide_eq_true hc] at hany
        simp (maxSteps := 1000000) (disch := omega) only [genAll, decAll, tk_nil, st20]
        exact ⟨q2d.trans q3, ⟨j + 1, by go_num, by omega, by rw [hany], q12.trans q3⟩, by simp [rel, intOf]; omega⟩
      · rw [decide_eq_false hc] at hany
        simp (maxSteps := 1000000) (disch := omega) only [genAll, decAll, tk_nil, st20]
        exact ⟨q2d.trans q3, ⟨j + 1, by go_num, by omega, by rw [hany], q12.trans q3⟩, by simp [rel, intOf]; omega⟩
    · obtain rfl : j = ms.length := by omega
      rw [List.take_length]
      have hnew : newS ms (rowP (key, s, B1, d1, hs)) = !(ms.any fun m => decide (m.1 = key) && decide (cmpStm s m.2 ≤ 0)) := rfl
      cases hskip : (ms.any fun m => decide (m.1 = key) && decide (cmpStm s m.2 ≤ 0)) with
      | true =>
        rw [hskip] at hnew
        rw [hnew, Bool.not_true, if_neg (by decide), List.append_nil] at hsn
        simp (maxSteps := 1000000) (disch := omega) only [genAll, decAll, tk_nil, st20]
        exact ⟨⟨i + 1, A1, c1, F1, rs', by go_num, by omega, rfl, hsn.symm, hsub, o1.chg q2 (fun _ _ h => h), q02, f1⟩, by simp [rel, intOf]; omega⟩
      | false =>
        rw [hskip] at hnew
        rw [hnew, Bool.not_false, if_pos rfl] at hsn
        obtain ⟨_, _, he, z0, z1, z2, z3, z4, z5⟩ := XR w2 q02
        cases he
        obtain ⟨q6, h6, s6⟩ := newb w2 #[.string key, .int .i64 s.1, .int .i64 s.2.1, .int .i64 s.2.2.1, .string s.2.2.2, .slice B1 hs.length d1] 65
        obtain ⟨A7, c7, F7, w7, p7, o7, k7, f7⟩ := pushN_run (P := Tryd.prog) tyRR ((o1.chg q2 (fun _ _ h => h)).chg q6 (fun _ _ h => h)) [.string key, .int .i64 s.1, .int .i64 s.2.1, .int .i64 s.2.2.1, .string s.2.2.2, .slice B1 hs.length d1] rfl (rowC_one (key, s, B1, d1, hs)) h6 (by omega) (by omega) 33
        simp (maxSteps := 1000000) (disch := omega) only [genAll, decAll, tk_nil, st20, z0, z1, z2, z3, z4, z5]
        generalize (w2.alloc (.cells #[.string key, .int .i64 s.1, .int .i64 s.2.1, .int .i64 s.2.2.1, .string s.2.2.2, .slice B1 hs.length d1] 65)) = w6 at *
        refine appK p7 ?_
        simp (maxSteps := 1000000) (disch := omega) only [genAll, decAll, tk_nil, st20]
        have q07 := Qt.then (q02.trans q6) k7 f1
        have f7' : ∀ k, F7 = some k → F1 = some k ∨ w6.heap.size ≤ k := fun k hk => (f7 k hk).elim .inl (fun h => .inr (by omega))
        have hlen2 : (rs' ++ [(key, s, B1, d1, hs)]).length = rs'.length + 1 := by simp
        refine ⟨⟨i + 1, A7, c7, F7, rs' ++ [(key, s, B1, d1, hs)], by go_num, by omega, by rw [hlen2], ?_, ?_, ?_, q07, fun k hk => ?_⟩, by simp [rel, intOf]; omega⟩
        · rw [hsn, List.map_append]; rfl
        · intro r hr
          rcases List.mem_append.1 hr with hr | hr
          · exact hsub r hr
          · have : r = (key, s, B1, d1, hs) := by simpa using hr
            subst this; exact hmem
        · rw [hlen2, List.flatMap_append]
          simpa [rowC] using o7
        · rcases f7' k hk with h | h
          · exact f1 k h
          · have := (q02.trans q6).size; omega
  · obtain rfl : i = rs.length := by omega
    rw [List.take_of_length_le (by rw [List.length_map]; omega)] at hmap
    simp (maxSteps := 1000000) (disch := omega) only [genAll, decAll, tk_nil, st20]
    exact hK _ _ rs' _ hmap hsub ⟨reads_own o1, fun r hr => (ha.2 r (hsub r hr)).quiet q1⟩ q1
end Go.Proofs.YtpjeohellehgjaaDoor
end

section
/- The document's Want, Pick, SameRows. Conditions: rows, marks, keys read. -/
set_option linter.unusedVariables false
set_option linter.unusedSimpArgs false
set_option maxRecDepth 100000
namespace Go.Proofs.YtpjeohellehgjaaDoor
open Go.RowKit Go.Cn
set_option maxHeartbeats 4000000 in
theorem wantR_any {rs : List RowH} {ms : List MarkD} {A B : Option Addr} {c d : Nat} {w : World} {K : Value → World → Prop} (ha : Reads w A (rs.flatMap rowC)) (hb : Reads w B (ms.flatMap markC)) (lr : rs.length ≤ 100000) (lm : ms.length ≤ 100000)
    (hK : ∀ A' c' w', Reads w' A' ((wantL (rs.map rowP) ms).map Value.string) → Qt w w' → K (.slice A' (wantL (rs.map rowP) ms).length c') w') : CallK Tryd.prog 23 #[.slice A rs.length c, .slice B ms.length d] K w := by
  refine F23_calls _ _ _ _ ?_; unfold F23
  refine loopK2 (fun x v w' => ∃ (i : Nat) (A' : Option Addr) (c' : Nat) (F : Option Nat) (out : List ByteArray), v = .int .i64 i ∧ i ≤ ms.length ∧ x = .slice A' out.length c' ∧ out = ((ms.take i).filter (newW (rs.map rowP))).map (fun m : MarkD => m.1) ∧ Own w' 9 1 (.slice A' out.length c') out.length (out.map Value.string) F ∧ Qt w w' ∧ (∀ k, F = some k → w.heap.size ≤ k)) (fun _ v _ => ms.length - (intOf v).toNat) ⟨0, none, 0, none, [], rfl, by omega, rfl, rfl, Own.nil _ _ _, Qt.refl, fun _ h => by cases h⟩ ?_
  rintro _ _ _ w1 ⟨i, A1, c1, F1, out, rfl, hi, rfl, hmap, o1, q1, f1⟩
  by_cases hlt : i < ms.length
  · have XM := fun w' (q : Quiets w w') => mark_at (Reads.quiet hb q) hlt
    obtain ⟨g2, o2, hB, _⟩ := XM w Qt.refl
    subst hB
    have hsn := filter_snoc ms (newW (rs.map rowP)) hlt
    have hlen := filter_take_len ms (newW (rs.map rowP)) i
    have hlen : out.length ≤ ms.length := by rw [hmap, List.length_map]; exact hlen
    generalize ms.getD i default = m at *
    obtain ⟨mk, mt⟩ := m
    have Y0 : ∀ w', Quiets w w' → w'.cell? ⟨g2, o2 + i * 5, none⟩ = some (.string mk) := fun w' q => by obtain ⟨_, _, he, h, _⟩ := XM w' q; cases he; exact h
    have Y1 : ∀ w', Quiets w w' → w'.cell? ⟨g2, o2 + (i * 5 + 1), none⟩ = some (.int .i64 mt.1) ∧ w'.cell? ⟨g2, o2 + (i * 5 + 1) + 1, none⟩ = some (.int .i64 mt.2.1) ∧ w'.cell? ⟨g2, o2 + (i * 5 + 1) + 2, none⟩ = some (.int .i64 mt.2.2.1) ∧ w'.cell? ⟨g2, o2 + (i * 5 + 1) + 3, none⟩ = some (.string mt.2.2.2) := fun w' q => by obtain ⟨_, _, he, _, h1, h2, h3, h4⟩ := XM w' q; cases he; exact ⟨h1, h2, h3, h4⟩
    simp (maxSteps := 1000000) (disch := omega) only [genAll, decAll, tk_nil, st23]
    refine loopK2 (fun a v w' => ∃ j : Nat, v = .int .i64 j ∧ j ≤ rs.length ∧ a = .bool (((rs.map rowP).take j).any fun r => decide (mk = r.1) && decide (0 ≤ cmpStm r.2.1 mt)) ∧ Qt w1 w') (fun _ v _ => rs.length - (intOf v).toNat) ⟨0, rfl, by omega, by rw [List.take_zero]; rfl, Qt.refl⟩ ?_
    rintro _ _ _ w2 ⟨j, rfl, hj, rfl, q2⟩
    have q02 := q1.trans q2
    by_cases hjl : j < rs.length
    · have XR := fun w' (q : Quiets w w') => row_at (Reads.quiet ha q) hjl
      obtain ⟨g, o, hA, _⟩ := XR w Qt.refl
      subst hA
      have hany := anyD (f := fun r : RowD => decide (mk = r.1) && decide (0 ≤ cmpStm r.2.1 mt)) (l := rs.map rowP) (i := j) (by rw [List.length_map]; exact hjl)
      rw [rowP_getD] at hany
      generalize rs.getD j default = r at *
      obtain ⟨key, s, B1, d1, hs⟩ := r
      have X0 : ∀ w', Quiets w w' → w'.cell? ⟨g, o + j * 6, none⟩ = some (.string key) := fun w' q => by obtain ⟨_, _, he, h, _⟩ := XR w' q; cases he; exact h
      have X1 : ∀ w', Quiets w w' → w'.cell? ⟨g, o + (j * 6 + 1), none⟩ = some (.int .i64 s.1) ∧ w'.cell? ⟨g, o + (j * 6 + 1) + 1, none⟩ = some (.int .i64 s.2.1) ∧ w'.cell? ⟨g, o + (j * 6 + 1) + 2, none⟩ = some (.int .i64 s.2.2.1) ∧ w'.cell? ⟨g, o + (j * 6 + 1) + 3, none⟩ = some (.string s.2.2.2) := fun w' q => by obtain ⟨_, _, he, _, h1, h2, h3, h4, _⟩ := XR w' q; cases he; exact ⟨h1, h2, h3, h4⟩
      have q2d : Qt w w2.drew := q02.trans (Qt.drew Qt.refl)
      have q12 : Qt w1 w2.drew := q2.trans (Qt.drew Qt.refl)
      have hany : (((rs.map rowP).take (j + 1)).any fun r => decide (mk = r.1) && decide (0 ≤ cmpStm r.2.1 mt)) = ((((rs.map rowP).take j).any fun r => decide (mk = r.1) && decide (0 ≤ cmpStm r.2.1 mt)) || (decide (mk = key) && decide (0 ≤ cmpStm s mt))) := hany
      simp (maxSteps := 1000000) (disch := omega) only [genAll, decAll, tk_nil, st23]
      refine drawQ w q2d ?_
      generalize w2.drew = wd at *
      cases hskip : (((rs.map rowP).take j).any fun r => decide (mk = r.1) && decide (0 ≤ cmpStm r.2.1 mt)) with
      | true =>
        rw [hskip, Bool.true_or] at hany
        simp (maxSteps := 1000000) (disch := omega) only [genAll, decAll, tk_nil, st23, takeG_u, guardK_u]
        exact ⟨⟨q2d, ⟨j + 1, by go_num, by omega, by rw [hany], q12⟩, by simp [rel, intOf]; omega⟩, trivial⟩
      | false =>
      rw [hskip, Bool.false_or] at hany
      by_cases hk : mk = key
      case neg =>
        have e := decide_eq_false hk
        rw [e, Bool.false_and] at hany
        simp (maxSteps := 1000000) (disch := omega) only [genAll, decAll, tk_nil, st23, qkld9 X0, qkld9 Y0, beq_ba, e, takeG_u, guardK_u]
        exact ⟨⟨q2d, ⟨j + 1, by go_num, by omega, by rw [hany], q12⟩, by simp [rel, intOf]; omega⟩, trivial⟩
      have e := decide_eq_true hk
      rw [e, Bool.true_and] at hany
      simp (maxSteps := 1000000) (disch := omega) only [genAll, decAll, tk_nil, st23, qkld9 X0, qkld9 Y0, qkld38 X1, qkld38 Y1, beq_ba, e]
      refine ⟨?_, trivial⟩
      refine ck53 (cmpStR_any ?_)
      intro w3 q3
      by_cases hc : 0 ≤ cmpStm s mt
      · rw [decide_eq_true hc] at hany
        simp (maxSteps := 1000000) (disch := omega) only [genAll, decAll, tk_nil, st23]
        exact ⟨q2d.trans q3, ⟨j + 1, by go_num, by omega, by rw [hany], q12.trans q3⟩, by simp [rel, intOf]; omega⟩
      · rw [decide_eq_false hc] at hany
        simp (maxSteps := 1000000) (disch := omega) only [genAll, decAll, tk_nil, st23]
        exact ⟨q2d.trans q3, ⟨j + 1, by go_num, by omega, by rw [hany], q12.trans q3⟩, by simp [rel, intOf]; omega⟩
    · obtain rfl : j = rs.length := by omega
      rw [List.take_of_length_le (by rw [List.length_map]; omega)]
      have hnew : newW (rs.map rowP) (mk, mt) = !((rs.map rowP).any fun r => decide (mk = r.1) && decide (0 ≤ cmpStm r.2.1 mt)) := rfl
      cases hskip : ((rs.map rowP).any fun r => decide (mk = r.1) && decide (0 ≤ cmpStm r.2.1 mt)) with
      | true =>
        rw [hskip] at hnew
        rw [hnew, Bool.not_true, if_neg (by decide), List.append_nil] at hsn
        simp (maxSteps := 1000000) (disch := omega) only [genAll, decAll, tk_nil, st23]
        exact ⟨⟨i + 1, A1, c1, F1, out, by go_num, by omega, rfl, by rw [hsn]; exact hmap, o1.chg q2 (fun _ _ h => h), q02, f1⟩, by simp [rel, intOf]; omega⟩
      | false =>
        rw [hskip] at hnew
        rw [hnew, Bool.not_false, if_pos rfl] at hsn
        have z0 := Y0 w2 q02
        obtain ⟨q6, h6, s6⟩ := newb w2 #[.string mk] 9
        obtain ⟨A7, c7, F7, w7, p7, o7, k7, f7⟩ := pushN_run (P := Tryd.prog) tyS ((o1.chg q2 (fun _ _ h => h)).chg q6 (fun _ _ h => h)) [.string mk] rfl (oneCell_one rfl) h6 (by omega) (by omega) 24
        simp (maxSteps := 1000000) (disch := omega) only [genAll, decAll, tk_nil, st23, z0]
        generalize (w2.alloc (.cells #[.string mk] 9)) = w6 at *
        refine appK p7 ?_
        simp (maxSteps := 1000000) (disch := omega) only [genAll, decAll, tk_nil, st23]
        have q07 := Qt.then (q02.trans q6) k7 f1
        have hlen2 : (out ++ [mk]).length = out.length + 1 := by simp
        refine ⟨⟨i + 1, A7, c7, F7, out ++ [mk], by go_num, by omega, by rw [hlen2], ?_, ?_, q07, fun k hk => ?_⟩, by simp [rel, intOf]; omega⟩
        · rw [hsn, List.map_append, ← hmap]; rfl
        · rw [hlen2, List.map_append]; exact o7
        · rcases f7 k hk with h | h
          · exact f1 k h
          · have := (q02.trans q6).size; omega
  · obtain rfl : i = ms.length := by omega
    rw [List.take_length] at hmap
    simp (maxSteps := 1000000) (disch := omega) only [genAll, decAll, tk_nil, st23]
    have e : out = wantL (rs.map rowP) ms := hmap
    rw [e] at o1 ⊢
    exact hK _ _ _ (reads_own o1) q1
set_option maxHeartbeats 4000000 in
theorem pickR_any {rs : List RowH} {ks : List ByteArray} {A B : Option Addr} {c d : Nat} {w : World} {K : Value → World → Prop} (ha : RowsAt w A rs) (hb : Reads w B (ks.map Value.string)) (lr : rs.length ≤ 100000) (lk : ks.length ≤ 100000)
    (hK : ∀ A' c' rs' w', rs'.map rowP = pickL (rs.map rowP) ks → (∀ r ∈ rs', r ∈ rs) → RowsAt w' A' rs' → Qt w w' → K (.slice A' rs'.length c') w') : CallK Tryd.prog 25 #[.slice A rs.length c, .slice B ks.length d] K w := by
  refine F25_calls _ _ _ _ ?_; unfold F25
  refine loopK2 (fun x v w' => ∃ (i : Nat) (A' : Option Addr) (c' : Nat) (F : Option Nat) (rs' : List RowH), v = .int .i64 i ∧ i ≤ rs.length ∧ x = .slice A' rs'.length c' ∧ rs'.map rowP = ((rs.map rowP).take i).filter (inK ks) ∧ (∀ r ∈ rs', r ∈ rs) ∧ Own w' 65 6 (.slice A' rs'.length c') rs'.length (rs'.flatMap rowC) F ∧ Qt w w' ∧ (∀ k, F = some k → w.heap.size ≤ k)) (fun _ v _ => rs.length - (intOf v).toNat) ⟨0, none, 0, none, [], rfl, by omega, rfl, rfl, fun _ h => (by cases h), Own.nil _ _ _, Qt.refl, fun _ h => by cases h⟩ ?_
  rintro _ _ _ w1 ⟨i, A1, c1, F1, rs', rfl, hi, rfl, hmap, hsub, o1, q1, f1⟩
  by_cases hlt : i < rs.length
  · have XR := fun w' (q : Quiets w w') => row_at (Reads.quiet ha.1 q) hlt
    obtain ⟨g, o, hA, _⟩ := XR w Qt.refl
    subst hA
    have hmem := getD_mem hlt
    have hsn := filter_snoc (rs.map rowP) (inK ks) (i := i) (by rw [List.length_map]; exact hlt)
    rw [rowP_getD, ← hmap] at hsn
    have hlen := filter_take_len (rs.map rowP) (inK ks) i
    rw [← hmap, List.length_map, List.length_map] at hlen
    generalize rs.getD i default = r at *
    obtain ⟨key, s, B1, d1, hs⟩ := r
    have X0 : ∀ w', Quiets w w' → w'.cell? ⟨g, o + i * 6, none⟩ = some (.string key) := fun w' q => by obtain ⟨_, _, he, h, _⟩ := XR w' q; cases he; exact h
    have hin : inK ks (rowP (key, s, B1, d1, hs)) = ks.any fun x => decide (x = key) := rfl
    simp (maxSteps := 1000000) (disch := omega) only [genAll, decAll, tk_nil, st25]
    refine loopK2 (fun a v w' => ∃ j : Nat, v = .int .i64 j ∧ j ≤ ks.length ∧ a = .slice A1 rs'.length c1 ∧ (ks.any fun x => decide (x = key)) = ((ks.drop j).any fun x => decide (x = key)) ∧ Qt w1 w') (fun _ v _ => ks.length - (intOf v).toNat) ⟨0, rfl, by omega, rfl, by rw [List.drop_zero], Qt.refl⟩ ?_
    rintro _ _ _ w2 ⟨j, rfl, hj, rfl, hlo, q2⟩
    have q02 := q1.trans q2
    by_cases hjl : j < ks.length
    · have XK := fun w' (q : Quiets w w') => key_at (Reads.quiet hb q) hjl
      obtain ⟨g2, o2, hB, _⟩ := XK w Qt.refl
      subst hB
      rw [any_at hjl] at hlo
      generalize ks.getD j default = k at *
      have Y0 : ∀ w', Quiets w w' → w'.cell? ⟨g2, o2 + j, none⟩ = some (.string k) := fun w' q => by obtain ⟨_, _, he, h⟩ := XK w' q; cases he; exact h
      have q2d : Qt w w2.drew := q02.trans (Qt.drew Qt.refl)
      have q12 : Qt w1 w2.drew := q2.trans (Qt.drew Qt.refl)
      simp (maxSteps := 1000000) (disch := omega) only [genAll, decAll, tk_nil, st25]
      refine drawQ w q2d ?_
      generalize w2.drew = wd at *
      by_cases hk : k = key
      case neg =>
        have e := decide_eq_false hk
        rw [e, Bool.false_or] at hlo
        simp (maxSteps := 1000000) (disch := omega) only [genAll, decAll, tk_nil, st25, qkld9 X0, qkld9 Y0, beq_ba, e]
        exact ⟨⟨j + 1, by go_num, by omega, rfl, hlo, q12⟩, by simp [rel, intOf]; omega⟩
      have e := decide_eq_true hk
      rw [e, Bool.true_or] at hlo
      rw [hin, hlo, if_pos rfl] at hsn
      obtain ⟨_, _, he, z0, z1, z2, z3, z4, z5⟩ := XR wd q2d
      cases he
      obtain ⟨q6, h6, s6⟩ := newb wd #[.string key, .int .i64 s.1, .int .i64 s.2.1, .int .i64 s.2.2.1, .string s.2.2.2, .slice B1 hs.length d1] 65
      obtain ⟨A7, c7, F7, w7, p7, o7, k7, f7⟩ := pushN_run (P := Tryd.prog) tyRR ((o1.chg q12 (fun _ _ h => h)).chg q6 (fun _ _ h => h)) [.string key, .int .i64 s.1, .int .i64 s.2.1, .int .i64 s.2.2.1, .string s.2.2.2, .slice B1 hs.length d1] rfl (rowC_one (key, s, B1, d1, hs)) h6 (by omega) (by omega) 33
      simp (maxSteps := 1000000) (disch := omega) only [genAll, decAll, tk_nil, st25, qkld9 X0, qkld9 Y0, beq_ba, e, z0, z1, z2, z3, z4, z5]
      generalize (wd.alloc (.cells #[.string key, .int .i64 s.1, .int .i64 s.2.1, .int .i64 s.2.2.1, .string s.2.2.2, .slice B1 hs.length d1] 65)) = w6 at *
      refine appK p7 ?_
      simp (maxSteps := 1000000) (disch := omega) only [genAll, decAll, tk_nil, st25]
      have q07 := Qt.then (q2d.trans q6) k7 f1
      have f7' : ∀ k, F7 = some k → F1 = some k ∨ w6.heap.size ≤ k := fun k hk => (f7 k hk).elim .inl (fun h => .inr (by omega))
      have hlen2 : (rs' ++ [(key, s, B1, d1, hs)]).length = rs'.length + 1 := by simp
      refine ⟨⟨i + 1, A7, c7, F7, rs' ++ [(key, s, B1, d1, hs)], by go_num, by omega, by rw [hlen2], ?_, ?_, ?_, q07, fun k hk => ?_⟩, by simp [rel, intOf]; omega⟩
      · rw [hsn, List.map_append]; rfl
      · intro r hr
        rcases List.mem_append.1 hr with hr | hr
        · exact hsub r hr
        · have : r = (key, s, B1, d1, hs) := by simpa using hr
          subst this; exact hmem
      · rw [hlen2, List.flatMap_append]
        simpa [rowC] using o7
      · rcases f7' k hk with h | h
        · exact f1 k h
        · have := (q2d.trans q6).size; omega
    · rw [List.drop_eq_nil_of_le (by omega)] at hlo
      have hlo : (ks.any fun x => decide (x = key)) = false := hlo
      rw [hin, hlo, if_neg (by decide), List.append_nil] at hsn
      simp (maxSteps := 1000000) (disch := omega) only [genAll, decAll, tk_nil, st25]
      exact ⟨⟨i + 1, A1, c1, F1, rs', by go_num, by omega, rfl, hsn.symm, hsub, o1.chg q2 (fun _ _ h => h), q02, f1⟩, by simp [rel, intOf]; omega⟩
  · obtain rfl : i = rs.length := by omega
    rw [List.take_of_length_le (by rw [List.length_map]; omega)] at hmap
    simp (maxSteps := 1000000) (disch := omega) only [genAll, decAll, tk_nil, st25]
    exact hK _ _ rs' _ hmap hsub ⟨reads_own o1, fun r hr => (ha.2 r (hsub r hr)).quiet q1⟩ q1
end Go.Proofs.YtpjeohellehgjaaDoor
end

section
/- SameRows of two rows of rows. Condition: rows that lie there. -/
set_option linter.unusedVariables false
set_option linter.unusedSimpArgs false
set_option maxRecDepth 100000
namespace Go.Proofs.YtpjeohellehgjaaDoor
open Go.RowKit Go.Cn Go.Cn.Num
theorem tk_not {P : Program} (b : Bool) {K : Value → Prop} {T : Nat → Prop} {w1 : World} : TakeS P (Chs T w1) (Op.unary .not (.bool b)) (@Cn.hid _ ⟨K⟩) = K (.bool !b) := tk_S (fun w' _ => (Eq.mpr (notK (P := P) b (fun v' w'' => v' = .bool (!b) ∧ w'' = w') w') ⟨rfl, rfl⟩))
def sameRs : List RowD → List RowD → Bool
  | [], [] => true
  | a :: r, b :: s => sameR a b && sameRs r s
  | _, _ => false
theorem sameRs_at {a b : List RowD} {i : Nat} (ha : i < a.length) (hb : i < b.length) : sameRs (a.drop i) (b.drop i) = (sameR (a.getD i default) (b.getD i default) && sameRs (a.drop (i + 1)) (b.drop (i + 1))) := by
  rw [List.drop_eq_getElem_cons ha, List.drop_eq_getElem_cons hb, sameRs]
  have e : a.getD i default = a[i] := by simp [ha]
  have e2 : b.getD i default = b[i] := by simp [hb]
  rw [e, e2]
theorem sameRs_len : ∀ {a b : List RowD}, a.length ≠ b.length → sameRs a b = false
  | [], [], h => absurd rfl h
  | [], _ :: _, _ => rfl
  | _ :: _, [], _ => rfl
  | a :: r, b :: s, h => by
    rw [sameRs, sameRs_len (a := r) (b := s) (fun e => h (by simp [e]))]; simp
/-- A row that same takes. -/
def OkS (r : RowH) : Prop := (∀ h ∈ r.2.2.2.2, AttSz h) ∧ r.2.2.2.2.length ≤ 100000
theorem OkS.good {w : World} {r : RowH} (h : OkS r) (ha : AttsAt w r.2.2.1 r.2.2.2.2) : RowGood w r.1 r.2.1 r.2.2.1 r.2.2.2.2 := ⟨ha, h.1, by have := h.2; omega⟩
theorem okS_same {x r : RowH} (e : rowP x = rowP r) (h : OkS x) : OkS r := by
  have he : x.2.2.2.2.map attP = r.2.2.2.2.map attP := congrArg (fun z : RowD => z.2.2) e
  have hl : x.2.2.2.2.length = r.2.2.2.2.length := by have := congrArg List.length he; simpa using this
  refine ⟨fun a ha => ?_, by have := h.2; omega⟩
  have h1 : attP a ∈ x.2.2.2.2.map attP := he ▸ List.mem_map_of_mem ha
  obtain ⟨y, hy, hya⟩ := List.mem_map.1 h1
  have h2 := h.1 y hy
  have e1 : y.1 = a.1 := congrArg (fun z : Att => z.1) hya
  have e2 : y.2.1 = a.2.1 := congrArg (fun z : Att => z.2) hya
  unfold AttSz at h2 ⊢
  rw [e1, e2] at h2
  exact h2
theorem attSz_map {hs : List AttH} (h : ∀ x ∈ hs, AttSz x) : ∀ a ∈ hs.map attP, a.1.size ≤ 9223372036854775807 ∧ a.2.2.2.1.size ≤ 9223372036854775807 ∧ a.2.2.2.2.length ≤ 9223372036854775807 := by
  intro a ha
  obtain ⟨x, hx, rfl⟩ := List.mem_map.1 ha
  exact h x hx
set_option maxHeartbeats 4000000 in
theorem sameRows_any {ra rb : List RowH} {A B : Option Addr} {c d : Nat} {w : World} {K : Value → World → Prop} (ha : RowsAt w A ra) (hb : RowsAt w B rb) (oa : ∀ r ∈ ra, OkS r) (ob : ∀ r ∈ rb, OkS r) (la : ra.length ≤ 9223372036854775807) (lb : rb.length ≤ 9223372036854775807)
    (hK : ∀ w', Qt w w' → K (.bool (sameRs (ra.map rowP) (rb.map rowP))) w') : CallK Tryd.prog 29 #[.slice A ra.length c, .slice B rb.length d] K w := by
  refine F29_calls _ _ _ _ ?_; unfold F29
  by_cases hl : ra.length = rb.length
  case neg =>
    have e : ((ra.length : Int) != (rb.length : Int)) = true := by rw [bne_iff_ne]; omega
    rw [sameRs_len (by simpa using hl)] at hK
    simp (maxSteps := 1000000) (disch := omega) only [genAll, decAll, tk_nil, st29, e]
    exact hK w Qt.refl
  have e : ((ra.length : Int) != (rb.length : Int)) = false := by rw [hl]; exact bne_self_eq_false _
  simp (maxSteps := 1000000) (disch := omega) only [genAll, decAll, tk_nil, st29, e]
  refine loopK1 (fun v w' => ∃ i : Nat, v = .int .i64 i ∧ i ≤ ra.length ∧ sameRs (ra.map rowP) (rb.map rowP) = sameRs ((ra.map rowP).drop i) ((rb.map rowP).drop i) ∧ Qt w w') (fun v _ => ra.length - (intOf v).toNat) ⟨0, rfl, by omega, rfl, Qt.refl⟩ ?_
  rintro _ _ w1 ⟨i, rfl, hi, hlo, q1⟩
  by_cases hlt : i < ra.length
  · have hlt2 : i < rb.length := by omega
    rw [sameRs_at (by rw [List.length_map]; exact hlt) (by rw [List.length_map]; exact hlt2), rowP_getD, rowP_getD] at hlo
    have Za := fun w' (q : Qt w w') => row_at (ha.1.quiet q) hlt
    have Zb := fun w' (q : Qt w w') => row_at (hb.1.quiet q) hlt2
    obtain ⟨g, o, hA, _⟩ := Za w1 q1
    obtain ⟨g2, o2, hB, _⟩ := Zb w1 q1
    subst hA hB
    have hta := ha.get hlt
    have htb := hb.get hlt2
    have hoa := oa _ (getD_mem hlt)
    have hob := ob _ (getD_mem hlt2)
    generalize ra.getD i default = x at *
    generalize rb.getD i default = y at *
    obtain ⟨k1, s1, A1, c1, h1⟩ := x
    obtain ⟨k2, s2, A2, c2, h2⟩ := y
    have Xa : ∀ w', Quiets w w' → w'.cell? ⟨g, o + i * 6, none⟩ = some (.string k1) ∧ w'.cell? ⟨g, o + i * 6 + 1, none⟩ = some (.int .i64 s1.1) ∧ w'.cell? ⟨g, o + i * 6 + 2, none⟩ = some (.int .i64 s1.2.1) ∧ w'.cell? ⟨g, o + i * 6 + 3, none⟩ = some (.int .i64 s1.2.2.1) ∧ w'.cell? ⟨g, o + i * 6 + 4, none⟩ = some (.string s1.2.2.2) ∧ w'.cell? ⟨g, o + i * 6 + 5, none⟩ = some (.slice A1 h1.length c1) := fun w' q => by
      obtain ⟨g', o', hA', z⟩ := Za w' q
      cases hA'
      exact z
    have Xb : ∀ w', Quiets w w' → w'.cell? ⟨g2, o2 + i * 6, none⟩ = some (.string k2) ∧ w'.cell? ⟨g2, o2 + i * 6 + 1, none⟩ = some (.int .i64 s2.1) ∧ w'.cell? ⟨g2, o2 + i * 6 + 2, none⟩ = some (.int .i64 s2.2.1) ∧ w'.cell? ⟨g2, o2 + i * 6 + 3, none⟩ = some (.int .i64 s2.2.2.1) ∧ w'.cell? ⟨g2, o2 + i * 6 + 4, none⟩ = some (.string s2.2.2.2) ∧ w'.cell? ⟨g2, o2 + i * 6 + 5, none⟩ = some (.slice A2 h2.length c2) := fun w' q => by
      obtain ⟨g', o', hA', z⟩ := Zb w' q
      cases hA'
      exact z
    simp (maxSteps := 1000000) (disch := omega) only [genAll, decAll, tk_nil, st29]
    have q1d : Qt w w1.drew := q1.trans (Qt.drew Qt.refl)
    refine drawQ w q1d ?_
    generalize w1.drew = wd at *
    simp (maxSteps := 1000000) (disch := omega) only [genAll, decAll, tk_nil, st29, qkld65 Xa, qkld65 Xb]
    refine ⟨?_, trivial⟩
    have ga : RowGood wd k1 s1 A1 h1 := (hoa.good hta).quiet q1d
    have gb : RowGood wd k2 s2 A2 h2 := (hob.good htb).quiet q1d
    refine ck65 (sameR_any ga gb ?_)
    intro w4 q4
    have q14 := q1d.trans q4
    have e : rowP (k1, s1, A1, c1, h1) = (k1, s1, h1.map attP) := rfl
    have e2 : rowP (k2, s2, A2, c2, h2) = (k2, s2, h2.map attP) := rfl
    rw [e, e2] at hlo
    generalize sameR (k1, s1, h1.map attP) (k2, s2, h2.map attP) = z at *
    simp (maxSteps := 1000000) (disch := omega) only [genAll, decAll, tk_nil, st29]
    cases z
    · rw [Bool.false_and] at hlo
      rw [hlo] at hK
      simp (maxSteps := 1000000) (disch := omega) only [genAll, decAll, tk_nil, st29, tk_not]
      exact ⟨q14, hK _ q14⟩
    · rw [Bool.true_and] at hlo
      simp (maxSteps := 1000000) (disch := omega) only [genAll, decAll, tk_nil, st29, tk_not]
      exact ⟨q14, ⟨i + 1, by go_num, by omega, hlo, q14⟩, by simp [rel, intOf]; omega⟩
  · obtain rfl : i = ra.length := by omega
    have e0 : (ra.map rowP).drop ra.length = [] := List.drop_eq_nil_of_le (by rw [List.length_map]; omega)
    have e1 : (rb.map rowP).drop ra.length = [] := List.drop_eq_nil_of_le (by rw [List.length_map]; omega)
    rw [e0, e1] at hlo
    rw [hlo] at hK
    simp (maxSteps := 1000000) (disch := omega) only [genAll, decAll, tk_nil, st29]
    exact hK _ q1
theorem sameRs_self : ∀ l : List RowD, sameRs l l = true
  | [] => rfl
  | r :: l => by rw [sameRs, sameR_self, sameRs_self l]; rfl
set_option maxHeartbeats 1000000 in
theorem rows14_any {ra rb : List RowH} {A B : Option Addr} {c d : Nat} {w : World} {K : Value → World → Prop} (ha : RowsAt w A ra) (hb : RowsAt w B rb) (oa : ∀ r ∈ ra, OkS r) (ob : ∀ r ∈ rb, OkS r) (la : ra.length ≤ 100000) (lb : rb.length ≤ 100000)
    (hK : ∀ w', Qt w w' → K (.bool (sameRs (ra.map rowP) (rb.map rowP))) w') : CallK Tryd.prog 18 #[.slice A ra.length c, .slice B rb.length d] K w := by
  refine F18_calls _ _ _ _ ?_; unfold F18
  refine ck15 (ofRows_any ha la (fun r hr => (oa r hr).2) ?_)
  intro A2 c2 rs2 w2 m2 a2 q2
  have l2 : ra.length = rs2.length := by have := congrArg List.length m2; simpa using this.symm
  rw [l2]
  have oa2 : ∀ r ∈ rs2, OkS r := fun r hr => by
    have h1 : rowP r ∈ ra.map rowP := m2 ▸ List.mem_map_of_mem hr
    obtain ⟨x, hx, he⟩ := List.mem_map.1 h1
    exact okS_same he (oa x hx)
  refine ck29 (sameRows_any a2 (hb.quiet q2) oa2 ob (by omega) (by omega) ?_)
  rw [m2]
  intro w3 q3
  simp (maxSteps := 1000000) (disch := omega) only [genAll, decAll, tk_nil]
  exact hK _ (q2.trans q3)
end Go.Proofs.YtpjeohellehgjaaDoor
end

section
/- The document's Check of rows. Conditions: the rows read. -/
set_option linter.unusedVariables false
set_option linter.unusedSimpArgs false
set_option maxRecDepth 100000
namespace Go.Proofs.YtpjeohellehgjaaDoor
open Go.RowKit Go.Cn
set_option maxHeartbeats 4000000 in
theorem checkRR_any {key : ByteArray} {s : Stm} {hs : List AttH} {A : Option Addr} {c : Nat} {w : World} {K : Value → World → Prop} (hg : RowGood w key s A hs) (ho : s.2.2.2.size ≤ 20000)
    (hK : ∀ w', Qt w w' → K (.int .i64 (checkR (key, s, hs.map attP))) w') : CallK Tryd.prog 43 #[rowV key s A hs.length c] K w := by
  refine F43_calls _ _ _ ?_; unfold F43
  unfold checkR at hK
  simp only at hK
  obtain ⟨q1, h1, s1⟩ := newb w #[.string key, .int .i64 s.1, .int .i64 s.2.1, .int .i64 s.2.2.1, .string s.2.2.2, .slice A hs.length c] 65
  simp (maxSteps := 1000000) (disch := omega) only [genAll, decAll, tk_nil, st43]
  generalize (w.alloc (.cells #[.string key, .int .i64 s.1, .int .i64 s.2.1, .int .i64 s.2.2.1, .string s.2.2.2, .slice A hs.length c] 65)) = w1 at *
  have X := fun w' (q : Qt w1 w') => cell6 (q.heap h1 (fun h => h))
  generalize w.heap.size = b at *
  obtain ⟨x0, x1, x2, x3, x4, x5⟩ := X w1 Qt.refl
  obtain ⟨l, hl, hd, hs'⟩ := txt_of key
  have x0' := x0
  rw [hl] at x0'
  simp (maxSteps := 1000000) (disch := omega) only [genAll, decAll, tk_nil, st43, x0']
  refine ck37 (nameR_any ?_)
  rw [← hd]
  cases hnm : nameL key.data.toList with
  | false =>
    simp only [hnm, if_true] at hK
    simp (maxSteps := 1000000) (disch := omega) only [genAll, decAll, tk_nil, st43]
    exact hK _ q1
  | true =>
  simp only [hnm, Bool.true_eq_false, if_false] at hK
  simp (maxSteps := 1000000) (disch := omega) only [genAll, decAll, tk_nil, st43, x1, x2, x3, x4]
  refine ck36 (checkSR_any ho ?_)
  intro w2 q2
  obtain ⟨x0, x1, x2, x3, x4, x5⟩ := X w2 q2
  by_cases hv : checkS s = 0
  case neg =>
    have e : (checkS s != 0) = true := by rw [bne_iff_ne]; exact hv
    rw [if_pos hv] at hK
    simp (maxSteps := 1000000) (disch := omega) only [genAll, decAll, tk_nil, st43, e]
    exact hK _ (q1.trans q2)
  have e : (checkS s != 0) = false := by rw [hv]; rfl
  rw [if_neg (fun h => h hv)] at hK
  unfold checkAs at hK
  rw [attP_len] at hK
  have hf := fun w' (q : Qt w1 w') => hK w' (q1.trans q)
  by_cases h32 : 32 < hs.length
  · rw [if_pos h32] at hf
    simp (maxSteps := 1000000) (disch := omega) only [genAll, decAll, tk_nil, st43, e, x5]
    exact hf _ q2
  rw [if_neg h32] at hf
  clear hK
  have ha := hg.atts.quiet q1
  have hz := hg.sz
  clear hg
  simp (maxSteps := 1000000) (disch := omega) only [genAll, decAll, tk_nil, st43, e, x5]
  refine loopK1 (fun v w' => ∃ i : Nat, v = .int .i64 i ∧ i ≤ hs.length ∧ chkAs none (hs.map attP) = chkAs (prevA (hs.map attP) i) ((hs.map attP).drop i) ∧ Qt w1 w') (fun v _ => hs.length - (intOf v).toNat) ⟨0, rfl, by omega, by simp [prevA], q2⟩ ?_
  clear x0 x1 x2 x3 x4 x5 x0'
  rintro _ _ w3 ⟨i, rfl, hi, hlo, q3⟩
  have x5 := (X w3 q3).2.2.2.2.2
  by_cases hlt : i < hs.length
  · rw [chkAs_at (by rw [attP_len]; exact hlt), attP_getD] at hlo
    obtain ⟨g, o, rfl, z0, z1, z2, z3, z4⟩ := att_at (ha.1.quiet q3) hlt
    have hL := (ha.2.get hlt).quiet q3
    obtain ⟨n1, n2, n3⟩ := hz _ (getD_mem hlt)
    have hn1 : ((i : Int) - 1).toNat = i - 1 := by omega
    have hpr : 0 < i → ∀ w', Qt w1 w' → prevA (hs.map attP) i = some (hs.getD (i - 1) default).1 ∧ w'.cell? ⟨g, o + (i - 1) * 5, none⟩ = some (.string (hs.getD (i - 1) default).1) := fun h0 w' q => by
      obtain ⟨g', o', he, y0, _⟩ := att_at (ha.1.quiet q) (show i - 1 < hs.length by omega)
      cases he
      refine ⟨?_, y0⟩
      unfold prevA
      rw [if_neg (by omega), attP_getD]; rfl
    have hcur : ∀ w', Qt w1 w' → w'.cell? ⟨g, o + i * 5, none⟩ = some (.string (hs.getD i default).1) := fun w' q => by
      obtain ⟨g', o', he, y0, _⟩ := att_at (ha.1.quiet q) hlt
      cases he; exact y0
    generalize (hs.getD (i - 1) default).1 = pn at *
    generalize hs.getD i default = h at *
    obtain ⟨nm, v, B, d⟩ := h
    have hlo : chkAs none (hs.map attP) = stepA (prevA (hs.map attP) i) (nm, v) (chkAs (prevA (hs.map attP) (i + 1)) ((hs.map attP).drop (i + 1))) := hlo
    simp only at n1 n2 n3 hL z0 z1 z2 z3 z4 hcur
    simp (maxSteps := 1000000) (disch := omega) only [genAll, decAll, tk_nil, st43, x5, z1, z2, z3, z4]
    refine ck79 (check11 (a := v) hL n3 n2 ?_)
    intro w4 q4
    have q04 := q3.trans q4
    have x5 := (X w4 q04).2.2.2.2.2
    obtain ⟨l, hl, hd, hs'⟩ := txt_of nm
    have z0' := hcur w4 q04
    rw [hl] at z0'
    simp (maxSteps := 1000000) (disch := omega) only [genAll, decAll, tk_nil, st43, x5, z0']
    refine ck37 (nameR_any ?_)
    rw [← hd]
    cases hnm : nameL nm.data.toList with
    | false =>
      rw [stepA_name hnm] at hlo
      rw [hlo] at hf
      simp (maxSteps := 1000000) (disch := omega) only [genAll, decAll, tk_nil, st43]
      exact hf _ q04
    | true =>
    simp (maxSteps := 1000000) (disch := omega) only [genAll, decAll, tk_nil, st43]
    have z0 := hcur w4 q04
    have q04d : Qt w1 w4.drew := q04.trans (Qt.drew Qt.refl)
    have hc : (prevA (hs.map attP) i).all (fun q => ltS q nm) = decide (i = 0 ∨ ltS pn nm = true) := by
      by_cases h0 : i = 0
      · subst h0; simp [prevA]
      · rw [(hpr (by omega) w4 q04).1]
        simp [h0]
    cases hall : (prevA (hs.map attP) i).all (fun q => ltS q nm) with
    | false =>
      rw [stepA_twice hnm hall] at hlo
      rw [hlo] at hf
      rw [hall] at hc
      have hno := of_decide_eq_false hc.symm
      have hi0 : ¬ i = 0 := fun h => hno (.inl h)
      have hlt' : ltS pn nm = false := by
        cases h : ltS pn nm with
        | false => rfl
        | true => exact absurd (.inr h) hno
      have y0 := (hpr (by omega) w4 q04).2
      refine drawK_here ?_
      simp (maxSteps := 1000000) (disch := omega) only [genAll, decAll, tk_nil, st43, hn1, y0, z0, x5, less_lt, hlt']
      exact hf _ q04d
    | true =>
    rw [stepA_val hnm hall] at hlo
    rw [hall] at hc
    have hyes := of_decide_eq_true hc.symm
    refine drawK_here ?_
    have ev : (checkV v != 0) = decide (checkV v ≠ 0) := by
      by_cases h : checkV v = 0
      · rw [h]; rfl
      · rw [decide_eq_true h, bne_iff_ne]; exact h
    by_cases hv : checkV v = 0
    · have e : (checkV v != 0) = false := by rw [hv]; rfl
      rw [if_neg (fun h => h hv)] at hlo
      by_cases hi0 : i = 0
      case' pos => simp (maxSteps := 1000000) (disch := omega) only [genAll, decAll, tk_nil, st43, e, takeG_u, guardK_u]
      case' neg =>
        have y0 := (hpr (by omega) w4 q04).2
        have hlt' : ltS pn nm = true := hyes.elim (fun h => absurd h hi0) (fun h => h)
        simp (maxSteps := 1000000) (disch := omega) only [genAll, decAll, tk_nil, st43, hn1, y0, z0, x5, less_lt, hlt', e]
      all_goals exact ⟨⟨i + 1, by go_num, by omega, hlo, q04d⟩, by simp [rel, intOf]; omega⟩
    · have e : (checkV v != 0) = true := by rw [bne_iff_ne]; exact hv
      rw [if_pos hv] at hlo
      rw [hlo] at hf
      by_cases hi0 : i = 0
      case' pos => simp (maxSteps := 1000000) (disch := omega) only [genAll, decAll, tk_nil, st43, e, takeG_u, guardK_u]
      case' neg =>
        have y0 := (hpr (by omega) w4 q04).2
        have hlt' : ltS pn nm = true := hyes.elim (fun h => absurd h hi0) (fun h => h)
        simp (maxSteps := 1000000) (disch := omega) only [genAll, decAll, tk_nil, st43, hn1, y0, z0, x5, less_lt, hlt', e]
      all_goals exact hf _ q04d
  · rw [chkAs_end (by rw [attP_len]; omega)] at hlo
    rw [hlo] at hf
    simp (maxSteps := 1000000) (disch := omega) only [genAll, decAll, tk_nil, st43, x5]
    exact hf _ q3
end Go.Proofs.YtpjeohellehgjaaDoor
end

section
/- What is wrong with marks: by the program and by the document. Conditions: the marks read, the names are short. -/
set_option linter.unusedVariables false
set_option linter.unusedSimpArgs false
set_option maxRecDepth 100000
namespace Go.Proofs.YtpjeohellehgjaaDoor
open Go.RowKit Go.Cn
set_option maxHeartbeats 4000000 in
theorem chkM_any {ms : List MarkD} {A : Option Addr} {c : Nat} {w : World} {K : Value → World → Prop} (hm : MaxAt w) (ha : Reads w A (ms.flatMap markC)) (hz : ∀ m ∈ ms, m.2.2.2.2.size ≤ 20000)
    (hK : ∀ w', Qt w w' → K (.int .i64 (checkMs ms)) w') : CallK Tryd.prog 13 #[.slice A ms.length c] K w := by
  refine F13_calls _ _ _ ?_; unfold F13
  unfold checkMs at hK
  by_cases h64 : 64 < ms.length
  · rw [if_pos h64] at hK
    simp (maxSteps := 1000000) (disch := omega) only [genAll, decAll, tk_nil, st13]
    exact hK w Qt.refl
  rw [if_neg h64] at hK
  simp (maxSteps := 1000000) (disch := omega) only [genAll, decAll, tk_nil, st13]
  refine loopK1 (fun v w' => ∃ i : Nat, v = .int .i64 i ∧ i ≤ ms.length ∧ chkM none ms = chkM (prevM ms i) (ms.drop i) ∧ Qt w w') (fun v _ => ms.length - (intOf v).toNat) ⟨0, rfl, by omega, by simp [prevM], Qt.refl⟩ ?_
  rintro _ _ w1 ⟨i, rfl, hi, hlo, q1⟩
  by_cases hlt : i < ms.length
  · rw [chkM_at hlt] at hlo
    obtain ⟨g, o, rfl, z0, z1, z2, z3, z4⟩ := mark_at (ha.quiet q1) hlt
    have hn1 : ((i : Int) - 1).toNat = i - 1 := by omega
    have hpr : 0 < i → ∀ w', Qt w w' → prevM ms i = some (ms.getD (i - 1) default).1 ∧ w'.cell? ⟨g, o + (i - 1) * 5, none⟩ = some (.string (ms.getD (i - 1) default).1) := fun h0 w' q => by
      obtain ⟨g', o', he, y0, _⟩ := mark_at (ha.quiet q) (show i - 1 < ms.length by omega)
      cases he
      refine ⟨?_, y0⟩
      unfold prevM
      rw [if_neg (by omega)]
    have hsz := hz _ (getD_mem hlt)
    generalize (ms.getD (i - 1) default).1 = pn at *
    generalize ms.getD i default = h at *
    obtain ⟨nm, v⟩ := h
    have hlo : chkM none ms = stepM (prevM ms i) (nm, v) (chkM (prevM ms (i + 1)) (ms.drop (i + 1))) := hlo
    simp only at hsz z0 z1 z2 z3 z4
    obtain ⟨q2, h2, s2⟩ := newb w1 #[.string nm, .int .i64 v.1, .int .i64 v.2.1, .int .i64 v.2.2.1, .string v.2.2.2] 85
    simp (maxSteps := 1000000) (disch := omega) only [genAll, decAll, tk_nil, st13, z0, z1, z2, z3, z4]
    generalize (w1.alloc (.cells #[.string nm, .int .i64 v.1, .int .i64 v.2.1, .int .i64 v.2.2.1, .string v.2.2.2] 85)) = w2 at *
    generalize w1.heap.size = b at *
    have Z := fun w' (q : Qt w2 w') => cell5 (q.heap h2 (fun h => h))
    obtain ⟨x0, x1, x2, x3, x4⟩ := Z w2 Qt.refl
    have q02 := q1.trans q2
    obtain ⟨l, hl, hd, hs'⟩ := txt_of nm
    have x0' := x0
    rw [hl] at x0'
    simp (maxSteps := 1000000) (disch := omega) only [genAll, decAll, tk_nil, st13, x0']
    refine ck39 (name_any ?_)
    rw [← hd]
    cases hnm : nameL nm.data.toList with
    | false =>
      rw [stepM_name hnm] at hlo
      rw [hlo] at hK
      simp (maxSteps := 1000000) (disch := omega) only [genAll, decAll, tk_nil, st13]
      exact hK _ q02
    | true =>
    simp (maxSteps := 1000000) (disch := omega) only [genAll, decAll, tk_nil, st13]
    have hc : (prevM ms i).all (fun q => ltS q nm) = decide (i = 0 ∨ ltS pn nm = true) := by
      by_cases h0 : i = 0
      · subst h0; simp [prevM]
      · rw [(hpr (by omega) w Qt.refl).1]
        simp [h0]
    have q02d : Qt w w2.drew := q02.trans (Qt.drew Qt.refl)
    have eab : Qt w2 w2.drew := Qt.drew Qt.refl
    cases hall : (prevM ms i).all (fun q => ltS q nm) with
    | false =>
      rw [stepM_twice hnm hall] at hlo
      rw [hlo] at hK
      rw [hall] at hc
      have hno := of_decide_eq_false hc.symm
      have hi0 : ¬ i = 0 := fun h => hno (.inl h)
      have hlt' : cmpS pn nm = 0 ∨ cmpS pn nm = 1 := by
        rcases less3 pn nm with h | h | h
        · exact absurd (.inr ((ltS_iff _ _).2 h.1)) hno
        · exact .inl h.1
        · exact .inr h.1
      have Y0 := fun w' (q : Quiets w2 w') => (hpr (by omega) w' (q02.trans q)).2
      refine drawQ w2 eab ?_
      generalize w2.drew = wd at *
      simp (maxSteps := 1000000) (disch := omega) only [genAll, decAll, tk_nil, st13, hn1, qkld9 Y0, qkld9 (fun w' q => (Z w' q).1)]
      refine ⟨?_, trivial⟩
      refine ck40 (cmp37 ?_)
      rcases hlt' with e | e
      all_goals
        rw [e]
        simp (maxSteps := 1000000) (disch := omega) only [genAll, decAll, tk_nil, st13]
        exact ⟨eab, hK _ q02d⟩
    | true =>
    rw [stepM_val hnm hall] at hlo
    rw [hall] at hc
    have hyes := of_decide_eq_true hc.symm
    by_cases hi0 : i = 0
    case' pos =>
      refine drawQ w2 eab ?_
      generalize w2.drew = wd at *
      simp (maxSteps := 1000000) (disch := omega) only [genAll, decAll, tk_nil, st13, takeG_u, guardK_u]
    case' neg =>
      have Y0 := fun w' (q : Quiets w2 w') => (hpr (by omega) w' (q02.trans q)).2
      have hlt' : cmpS pn nm = -1 := hyes.elim (fun h => absurd h hi0) (fun h => (ltS_iff _ _).1 h)
      refine drawQ w2 eab ?_
      generalize w2.drew = wd at *
      simp (maxSteps := 1000000) (disch := omega) only [genAll, decAll, tk_nil, st13, hn1, qkld9 Y0, qkld9 (fun w' q => (Z w' q).1)]
      refine ⟨?_, trivial⟩
      refine ck40 (cmp37 ?_)
      rw [hlt']
      simp (maxSteps := 1000000) (disch := omega) only [genAll, decAll, tk_nil, st13]
    case' pos => refine ⟨⟨eab, ?_⟩, trivial⟩
    case' neg => refine ⟨eab, ?_⟩
    all_goals
      obtain ⟨x0, x1, x2, x3, x4⟩ := Z wd eab
      simp (maxSteps := 1000000) (disch := omega) only [genAll, decAll, tk_nil, st13, x1, x2, x3, x4]
      refine ck41 (checkS_any hsz (hm.quiet q02d) ?_)
      intro w4 q4
      by_cases hv : checkS v = 0
      · have e : (checkS v != 0) = false := by rw [hv]; rfl
        rw [if_neg (fun h => h hv)] at hlo
        simp (maxSteps := 1000000) (disch := omega) only [genAll, decAll, tk_nil, st13, e]
        exact ⟨⟨i + 1, by go_num, by omega, hlo, q02d.trans q4⟩, by simp [rel, intOf]; omega⟩
      · have e : (checkS v != 0) = true := by rw [bne_iff_ne]; exact hv
        rw [if_pos hv] at hlo
        rw [hlo] at hK
        simp (maxSteps := 1000000) (disch := omega) only [genAll, decAll, tk_nil, st13, e]
        exact hK _ (q02d.trans q4)
  · rw [chkM_end (by omega)] at hlo
    rw [hlo] at hK
    simp (maxSteps := 1000000) (disch := omega) only [genAll, decAll, tk_nil, st13]
    exact hK _ q1
set_option maxHeartbeats 4000000 in
theorem chkMR_any {ms : List MarkD} {A : Option Addr} {c : Nat} {w : World} {K : Value → World → Prop} (ha : Reads w A (ms.flatMap markC)) (hz : ∀ m ∈ ms, m.2.2.2.2.size ≤ 20000)
    (hK : ∀ w', Qt w w' → K (.int .i64 (checkMs ms)) w') : CallK Tryd.prog 11 #[.slice A ms.length c] K w := by
  refine F11_calls _ _ _ ?_; unfold F11
  unfold checkMs at hK
  by_cases h64 : 64 < ms.length
  · rw [if_pos h64] at hK
    simp (maxSteps := 1000000) (disch := omega) only [genAll, decAll, tk_nil, st11]
    exact hK w Qt.refl
  rw [if_neg h64] at hK
  simp (maxSteps := 1000000) (disch := omega) only [genAll, decAll, tk_nil, st11]
  refine loopK1 (fun v w' => ∃ i : Nat, v = .int .i64 i ∧ i ≤ ms.length ∧ chkM none ms = chkM (prevM ms i) (ms.drop i) ∧ Qt w w') (fun v _ => ms.length - (intOf v).toNat) ⟨0, rfl, by omega, by simp [prevM], Qt.refl⟩ ?_
  rintro _ _ w1 ⟨i, rfl, hi, hlo, q1⟩
  by_cases hlt : i < ms.length
  · rw [chkM_at hlt] at hlo
    obtain ⟨g, o, rfl, z0, z1, z2, z3, z4⟩ := mark_at (ha.quiet q1) hlt
    have hn1 : ((i : Int) - 1).toNat = i - 1 := by omega
    have hpr : 0 < i → ∀ w', Qt w w' → prevM ms i = some (ms.getD (i - 1) default).1 ∧ w'.cell? ⟨g, o + (i - 1) * 5, none⟩ = some (.string (ms.getD (i - 1) default).1) := fun h0 w' q => by
      obtain ⟨g', o', he, y0, _⟩ := mark_at (ha.quiet q) (show i - 1 < ms.length by omega)
      cases he
      refine ⟨?_, y0⟩
      unfold prevM
      rw [if_neg (by omega)]
    have hcur : ∀ w', Qt w w' → w'.cell? ⟨g, o + i * 5, none⟩ = some (.string (ms.getD i default).1) := fun w' q => by
      obtain ⟨g', o', he, y0, _⟩ := mark_at (ha.quiet q) hlt
      cases he; exact y0
    have hsz := hz _ (getD_mem hlt)
    generalize (ms.getD (i - 1) default).1 = pn at *
    generalize ms.getD i default = h at *
    obtain ⟨nm, v⟩ := h
    have hlo : chkM none ms = stepM (prevM ms i) (nm, v) (chkM (prevM ms (i + 1)) (ms.drop (i + 1))) := hlo
    simp only at hsz z0 z1 z2 z3 z4 hcur
    simp (maxSteps := 1000000) (disch := omega) only [genAll, decAll, tk_nil, st11, z1, z2, z3, z4]
    refine ck36 (checkSR_any hsz ?_)
    intro w4 q4
    have q04 := q1.trans q4
    obtain ⟨l, hl, hd, hs'⟩ := txt_of nm
    have z0' := hcur w4 q04
    rw [hl] at z0'
    simp (maxSteps := 1000000) (disch := omega) only [genAll, decAll, tk_nil, st11, z0']
    refine ck37 (nameR_any ?_)
    rw [← hd]
    cases hnm : nameL nm.data.toList with
    | false =>
      rw [stepM_name hnm] at hlo
      rw [hlo] at hK
      simp (maxSteps := 1000000) (disch := omega) only [genAll, decAll, tk_nil, st11]
      exact hK _ q04
    | true =>
    simp (maxSteps := 1000000) (disch := omega) only [genAll, decAll, tk_nil, st11]
    have z0 := hcur w4 q04
    have q04d : Qt w w4.drew := q04.trans (Qt.drew Qt.refl)
    have hc : (prevM ms i).all (fun q => ltS q nm) = decide (i = 0 ∨ ltS pn nm = true) := by
      by_cases h0 : i = 0
      · subst h0; simp [prevM]
      · rw [(hpr (by omega) w4 q04).1]
        simp [h0]
    cases hall : (prevM ms i).all (fun q => ltS q nm) with
    | false =>
      rw [stepM_twice hnm hall] at hlo
      rw [hlo] at hK
      rw [hall] at hc
      have hno := of_decide_eq_false hc.symm
      have hi0 : ¬ i = 0 := fun h => hno (.inl h)
      have hlt' : ltS pn nm = false := by
        cases h : ltS pn nm with
        | false => rfl
        | true => exact absurd (.inr h) hno
      have y0 := (hpr (by omega) w4 q04).2
      refine drawK_here ?_
      simp (maxSteps := 1000000) (disch := omega) only [genAll, decAll, tk_nil, st11, hn1, y0, z0, less_lt, hlt']
      exact hK _ q04d
    | true =>
    rw [stepM_val hnm hall] at hlo
    rw [hall] at hc
    have hyes := of_decide_eq_true hc.symm
    refine drawK_here ?_
    by_cases hv : checkS v = 0
    · have e : (checkS v != 0) = false := by rw [hv]; rfl
      rw [if_neg (fun h => h hv)] at hlo
      by_cases hi0 : i = 0
      case' pos => simp (maxSteps := 1000000) (disch := omega) only [genAll, decAll, tk_nil, st11, e, takeG_u, guardK_u]
      case' neg =>
        have y0 := (hpr (by omega) w4 q04).2
        have hlt' : ltS pn nm = true := hyes.elim (fun h => absurd h hi0) (fun h => h)
        simp (maxSteps := 1000000) (disch := omega) only [genAll, decAll, tk_nil, st11, hn1, y0, z0, less_lt, hlt', e]
      all_goals exact ⟨⟨i + 1, by go_num, by omega, hlo, q04d⟩, by simp [rel, intOf]; omega⟩
    · have e : (checkS v != 0) = true := by rw [bne_iff_ne]; exact hv
      rw [if_pos hv] at hlo
      rw [hlo] at hK
      by_cases hi0 : i = 0
      case' pos => simp (maxSteps := 1000000) (disch := omega) only [genAll, decAll, tk_nil, st11, e, takeG_u, guardK_u]
      case' neg =>
        have y0 := (hpr (by omega) w4 q04).2
        have hlt' : ltS pn nm = true := hyes.elim (fun h => absurd h hi0) (fun h => h)
        simp (maxSteps := 1000000) (disch := omega) only [genAll, decAll, tk_nil, st11, hn1, y0, z0, less_lt, hlt', e]
      all_goals exact hK _ q04d
  · rw [chkM_end (by omega)] at hlo
    rw [hlo] at hK
    simp (maxSteps := 1000000) (disch := omega) only [genAll, decAll, tk_nil, st11]
    exact hK _ q1
end Go.Proofs.YtpjeohellehgjaaDoor
end

section
/- Texts alike; rows that rise, and may be. Conditions: rows and texts read. -/
set_option linter.unusedVariables false
set_option linter.unusedSimpArgs false
set_option maxRecDepth 100000
namespace Go.Proofs.YtpjeohellehgjaaDoor
open Go.RowKit Go.Cn
theorem texts_alike {l : List ByteArray} {A B : Option Addr} {c d : Nat} {w : World} {K : Value → World → Prop} (ha : Reads w A (l.map Value.string)) (hb : Reads w B (l.map Value.string)) (hl : l.length ≤ 100000)
    (hK : ∀ w', Qt w w' → K (.bool true) w') : CallK Tryd.prog 21 #[.slice A l.length c, .slice B l.length d] K w := by
  refine F21_calls _ _ _ _ ?_; unfold F21
  have e0 : ((l.length : Int) != (l.length : Int)) = false := bne_self_eq_false _
  simp (maxSteps := 1000000) (disch := omega) only [genAll, decAll, tk_nil, st21, e0]
  refine loopK1 (fun v w' => Qt w w' ∧ ∃ i : Nat, v = .int .i64 i ∧ i ≤ l.length) (fun v _ => l.length - (intOf v).toNat) ⟨Qt.refl, 0, rfl, by omega⟩ ?_
  rintro _ _ w' ⟨q, i, rfl, hi⟩
  by_cases hlt : i < l.length
  · obtain ⟨g, o, rfl, hc⟩ := key_at (ha.quiet q) hlt
    obtain ⟨g2, o2, rfl, hc2⟩ := key_at (hb.quiet q) hlt
    generalize l.getD i default = p at *
    have hd : (!(p.toList == p.toList)) = false := by rw [beq_self_eq_true]; rfl
    simp (maxSteps := 1000000) (disch := omega) only [genAll, decAll, tk_nil, st21]
    refine drawK_here ?_
    simp (maxSteps := 1000000) (disch := omega) only [genAll, decAll, tk_nil, st21, hc, hc2, hd]
    exact ⟨⟨q.drew, i + 1, by go_num, by omega⟩, by simp [rel, intOf]; omega⟩
  · simp (maxSteps := 1000000) (disch := omega) only [genAll, decAll, tk_nil, st21]
    exact hK w' q
theorem fewR_good {r : RowH} (h : FewR r) : (∀ x ∈ r.2.2.2.2, AttSz x) ∧ r.2.2.2.2.length ≤ 100000 ∧ r.2.1.2.2.2.size ≤ 20000 := by
  obtain ⟨_, h2, h3, h4⟩ := h
  refine ⟨fun x hx => ?_, by omega, by omega⟩
  obtain ⟨a, b, c⟩ := h4 x hx
  exact ⟨by omega, by omega, by omega⟩
theorem upK_of {α : Type} [Inhabited α] {f : α → ByteArray} {l : List α} (h : ∀ i, 0 < i → i < l.length → ltS (f (l.getD (i - 1) default)) (f (l.getD i default)) = true) : UpK (l.map f) := by
  have step : ∀ n i, i + n + 1 < l.length → ltS (f (l.getD i default)) (f (l.getD (i + n + 1) default)) = true := by
    intro n
    induction n with
    | zero => intro i hi; exact h (i + 1) (by omega) hi
    | succ n ih => intro i hi; exact ltS_trans (ih i (by omega)) (h (i + n + 1 + 1) (by omega) hi)
  refine List.pairwise_iff_getElem.2 fun i j hi hj hij => ?_
  rw [List.length_map] at hi hj
  have := step (j - i - 1) i (by omega)
  rw [show i + (j - i - 1) + 1 = j by omega] at this
  simpa [hi, hj] using this
/-- What rows that rise tell. -/
structure RiseH (rs : List RowH) : Prop where
  few : ∀ r ∈ rs, FewR r
  len : rs.length ≤ 64
  ok : ∀ r ∈ rs, checkR (rowP r) = 0
  up : UpK (rs.map (·.1))
theorem ge_not {a b : ByteArray} : (!(Op.bytesLess a.toList b.toList)) = !(ltS a b) := by rw [less_lt]
set_option maxHeartbeats 4000000 in
theorem rise_any {rs : List RowH} {A : Option Addr} {c : Nat} {w : World} {K : Value → World → Prop} (ha : RowsAt w A rs)
    (hK : ∀ (b : Bool) w', Qt w w' → (b = true → RiseH rs) → K (.bool b) w') : CallK Tryd.prog 14 #[.slice A rs.length c] K w := by
  refine F14_calls _ _ _ ?_; unfold F14
  refine ck42 (fewRows_any ha ?_)
  intro b w0 q0 hf
  cases b with
  | false =>
    simp (maxSteps := 1000000) (disch := omega) only [genAll, decAll, tk_nil, st14, guardK_u]
    exact hK false _ q0 (fun h => by cases h)
  | true =>
  obtain ⟨f1, f2⟩ := hf rfl
  clear hf
  by_cases h64 : 64 < rs.length
  · simp (maxSteps := 1000000) (disch := omega) only [genAll, decAll, tk_nil, st14]
    exact hK false _ q0 (fun h => by cases h)
  simp (maxSteps := 1000000) (disch := omega) only [genAll, decAll, tk_nil, st14]
  refine loopK1 (fun v w' => ∃ i : Nat, v = .int .i64 i ∧ i ≤ rs.length ∧ (∀ j, j < i → checkR (rowP (rs.getD j default)) = 0) ∧ (∀ j, 0 < j → j < i → ltS (rs.getD (j - 1) default).1 (rs.getD j default).1 = true) ∧ Qt w w') (fun v _ => rs.length - (intOf v).toNat) ⟨0, rfl, by omega, fun j h => by omega, fun j _ h => by omega, q0⟩ ?_
  rintro _ _ w1 ⟨i, rfl, hi, hok, hup, q1⟩
  by_cases hlt : i < rs.length
  · have XR := fun w' (q : Quiets w w') => row_at (Reads.quiet ha.1 q) hlt
    obtain ⟨g, o, hA, _⟩ := XR w Qt.refl
    have hn1 : ((i : Int) - 1).toNat = i - 1 := by omega
    have Y0 : 0 < i → ∀ w', Quiets w w' → w'.cell? ⟨g, o + (i - 1) * 6, none⟩ = some (.string (rs.getD (i - 1) default).1) := fun h0 w' q => by
      obtain ⟨g', o', he, y0, _⟩ := row_at (Reads.quiet ha.1 q) (show i - 1 < rs.length by omega)
      rw [hA] at he
      cases he
      exact y0
    subst hA
    have hat := ha.get hlt
    obtain ⟨g1, g2, g3⟩ := fewR_good (f2 _ (getD_mem hlt))
    have hok2 : checkR (rowP (rs.getD i default)) = 0 → ∀ j, j < i + 1 → checkR (rowP (rs.getD j default)) = 0 := fun h j hj => by
      by_cases e : j = i
      · subst e; exact h
      · exact hok j (by omega)
    have hup2 : (0 < i → ltS (rs.getD (i - 1) default).1 (rs.getD i default).1 = true) → ∀ j, 0 < j → j < i + 1 → ltS (rs.getD (j - 1) default).1 (rs.getD j default).1 = true := fun h j h0 hj => by
      by_cases e : j = i
      · subst e; exact h h0
      · exact hup j h0 (by omega)
    generalize (rs.getD (i - 1) default).1 = pn at *
    generalize rs.getD i default = r at *
    obtain ⟨key, s, B, d, hs⟩ := r
    simp only at hat g1 g2 g3 hup2
    have X0 : ∀ w', Quiets w w' → w'.cell? ⟨g, o + i * 6, none⟩ = some (.string key) := fun w' q => by obtain ⟨_, _, he, h, _⟩ := XR w' q; cases he; exact h
    have Xa : ∀ w', Quiets w w' → w'.cell? ⟨g, o + i * 6, none⟩ = some (.string key) ∧ w'.cell? ⟨g, o + i * 6 + 1, none⟩ = some (.int .i64 s.1) ∧ w'.cell? ⟨g, o + i * 6 + 2, none⟩ = some (.int .i64 s.2.1) ∧ w'.cell? ⟨g, o + i * 6 + 3, none⟩ = some (.int .i64 s.2.2.1) ∧ w'.cell? ⟨g, o + i * 6 + 4, none⟩ = some (.string s.2.2.2) ∧ w'.cell? ⟨g, o + i * 6 + 5, none⟩ = some (.slice B hs.length d) := fun w' q => by
      obtain ⟨_, _, he, z⟩ := XR w' q
      cases he
      exact z
    have q1d : Qt w w1.drew := q1.trans (Qt.drew Qt.refl)
    simp (maxSteps := 1000000) (disch := omega) only [genAll, decAll, tk_nil, st14]
    refine drawQ w q1d ?_
    generalize w1.drew = wd at *
    simp (maxSteps := 1000000) (disch := omega) only [genAll, decAll, tk_nil, st14, qkld55 Xa]
    refine ⟨?_, trivial⟩
    refine ck44 (ofR_any (hat.quiet q1d) g2 ?_)
    intro A2 c2 w2 a2 q2 _
    have q12 := q1d.trans q2
    simp (maxSteps := 1000000) (disch := omega) only [genAll, decAll, tk_nil, st14]
    refine ⟨q12, ?_, trivial⟩
    refine ck43 (checkRR_any (hs := hs) ⟨a2, g1, by omega⟩ g3 ?_)
    intro w3 q3
    have q13 := q12.trans q3
    have hrow : rowP (key, s, B, d, hs) = (key, s, hs.map attP) := rfl
    rw [hrow] at hok2
    generalize checkR (key, s, hs.map attP) = z at *
    by_cases hz : z = 0
    case neg =>
      have e : (z != 0) = true := by rw [bne_iff_ne]; exact hz
      simp (maxSteps := 1000000) (disch := omega) only [genAll, decAll, tk_nil, st14, e, takeG_u, guardK_u]
      exact ⟨q13, hK false _ q13 (fun h => by cases h)⟩
    have e : (z != 0) = false := by rw [hz]; rfl
    by_cases h0 : 0 < i
    case neg =>
      simp (maxSteps := 1000000) (disch := omega) only [genAll, decAll, tk_nil, st14, e, takeG_u, guardK_u]
      exact ⟨q13, ⟨i + 1, by go_num, by omega, hok2 hz, hup2 (fun h => absurd h h0), q13⟩, by simp [rel, intOf]; omega⟩
    have Y1 := Y0 h0
    cases hl : ltS pn key with
    | true =>
      simp (maxSteps := 1000000) (disch := omega) only [genAll, decAll, tk_nil, st14, e, hn1, qkld9 Y1, qkld9 X0, less_lt, hl]
      exact ⟨q13, ⟨i + 1, by go_num, by omega, hok2 hz, hup2 (fun _ => hl), q13⟩, by simp [rel, intOf]; omega⟩
    | false =>
      simp (maxSteps := 1000000) (disch := omega) only [genAll, decAll, tk_nil, st14, e, hn1, qkld9 Y1, qkld9 X0, less_lt, hl]
      exact ⟨q13, hK false _ q13 (fun h => by cases h)⟩
  · obtain rfl : i = rs.length := by omega
    simp (maxSteps := 1000000) (disch := omega) only [genAll, decAll, tk_nil, st14]
    refine hK true _ q1 (fun _ => ⟨f2, by omega, fun r hr => ?_, upK_of hup⟩)
    obtain ⟨j, hj, rfl⟩ := List.mem_iff_getElem.1 hr
    have := hok j hj
    simpa [hj] using this
end Go.Proofs.YtpjeohellehgjaaDoor
end

section
/- What the laws of chapter 14 ask first. -/
set_option linter.unusedVariables false
set_option linter.unusedSimpArgs false
set_option maxRecDepth 100000
namespace Go.Proofs.YtpjeohellehgjaaDoor
open Go.RowKit Go.Cn
theorem reads_blk {w : World} {b : Nat} {xs : List Value} {e : TypeId} (h : w.heap[b]? = some (.cells xs.toArray e (0, 0))) : Reads w (some ⟨b, 0, none⟩) xs := by
  refine .inr ⟨_, _, rfl, fun j hj => ?_⟩
  rw [blk_cell h]
  simp
def kA : ByteArray := ⟨#[97]⟩
def kB : ByteArray := ⟨#[98]⟩
def kC : ByteArray := ⟨#[99]⟩
def kX : ByteArray := ⟨#[120]⟩
def kZ : ByteArray := ⟨#[47, 122]⟩
def kU : ByteArray := ⟨#[65]⟩
def kRs : List RowH := [(kA, (5, 0, 0, kZ), none, 0, []), (kB, (2, 0, 0, kZ), none, 0, [])]
def kMs : List MarkD := [(kB, (3, 0, 0, kZ)), (kC, (1, 0, 0, kZ))]
def kM2 : List MarkD := [(kU, (0, 0, 0, ByteArray.empty))]
theorem kRs_at {w : World} {A : Option Addr} (h : Reads w A (kRs.flatMap rowC)) : RowsAt w A kRs := by
  refine ⟨h, fun r hr => ?_⟩
  have : r.2.2.2.2 = [] := by simp [kRs] at hr; rcases hr with rfl | rfl <;> rfl
  rw [this]
  exact ⟨.inl rfl, fun _ h => by cases h⟩
theorem kRs_nil {r : RowH} (hr : r ∈ kRs) : r.2.2.2.2 = [] := by simp [kRs] at hr; rcases hr with rfl | rfl <;> rfl
theorem ab_lt : ltS kA kB = true := by kernel_rfl
theorem bc_lt : ltS kB kC = true := by kernel_rfl
theorem kRs_up : UpK (kRs.map (·.1)) := by
  show List.Pairwise _ [kA, kB]
  simp [ab_lt]
theorem kMs_up : UpK (kMs.map (·.1)) := by
  show List.Pairwise _ [kB, kC]
  simp [bc_lt]
set_option maxHeartbeats 4000000 in
theorem known14_any {w : World} {K : Value → World → Prop} (hm : MaxAt w) (hK : ∀ w', Qt w w' → K (.bool true) w') : CallK Tryd.prog 9 #[] K w := by
  refine F9_calls _ _ ?_; unfold F9
  simp (maxSteps := 1000000) (disch := omega) only [genAll, decAll, tk_nil, st9]
  obtain ⟨q1, h1, s1⟩ := newb w #[.string kA, .int .i64 5, .int .i64 0, .int .i64 0, .string kZ, .slice none 0 0, .string kB, .int .i64 2, .int .i64 0, .int .i64 0, .string kZ, .slice none 0 0] 55
  change CallV _ _ _ _ ((w.alloc (.cells #[.string kA, .int .i64 5, .int .i64 0, .int .i64 0, .string kZ, .slice none 0 0, .string kB, .int .i64 2, .int .i64 0, .int .i64 0, .string kZ, .slice none 0 0] 55)).alloc (.cells #[.string kB, .int .i64 3, .int .i64 0, .int .i64 0, .string kZ, .string kC, .int .i64 1, .int .i64 0, .int .i64 0, .string kZ] 85))
  generalize (w.alloc (.cells #[.string kA, .int .i64 5, .int .i64 0, .int .i64 0, .string kZ, .slice none 0 0, .string kB, .int .i64 2, .int .i64 0, .int .i64 0, .string kZ, .slice none 0 0] 55)) = w1 at *
  obtain ⟨q2, h2, s2⟩ := newb w1 #[.string kB, .int .i64 3, .int .i64 0, .int .i64 0, .string kZ, .string kC, .int .i64 1, .int .i64 0, .int .i64 0, .string kZ] 85
  generalize (w1.alloc (.cells #[.string kB, .int .i64 3, .int .i64 0, .int .i64 0, .string kZ, .string kC, .int .i64 1, .int .i64 0, .int .i64 0, .string kZ] 85)) = w2 at *
  rw [s1] at h2
  have rR := kRs_at (reads_blk (xs := kRs.flatMap rowC) (q2.heap h1 (fun h => h)))
  have rM : Reads w2 (some ⟨w.heap.size + 1, 0, none⟩) (kMs.flatMap markC) := reads_blk (xs := kMs.flatMap markC) h2
  have q02 := q1.trans q2
  generalize w.heap.size = b at *
  refine ck16 (dOf_any (rs := kRs) (c := 2) rR.1 (by decide) ?_)
  intro A3 w3 r3 q3 f3
  have q03 := q02.trans q3
  simp (maxSteps := 1000000) (disch := omega) only [genAll, decAll, tk_nil, st9]
  refine ck19 (send_any (rs := kRs) (ms := kMs) (c := 2) (d := 2) (rR.quiet q3) (rM.quiet q3) (by decide) (by decide) (fun r hr => by rw [kRs_nil hr]; exact Nat.zero_le _) (fun r hr h hh => by rw [kRs_nil hr] at hh; cases hh) kRs_up kMs_up ?_)
  intro A4 rs4 w4 m4 r4 q4
  have q04 := q03.trans q4
  have e4 : sendL (kRs.map rowP) kMs = [(kA, (5, 0, 0, kZ), [])] := by kernel_rfl
  rw [e4] at m4
  simp (maxSteps := 1000000) (disch := omega) only [genAll, decAll, tk_nil, st9]
  refine ck22 (want_any (rs := kRs) (ms := kMs) (c := 2) (d := 2) (rR.quiet (q3.trans q4)).1 (rM.quiet (q3.trans q4)) (by decide) (by decide) kRs_up kMs_up ?_)
  have e5 : wantL (kRs.map rowP) kMs = [kB, kC] := by kernel_rfl
  rw [e5]
  intro A5 w5 r5 q5
  have q05 := q04.trans q5
  simp (maxSteps := 1000000) (disch := omega) only [genAll, decAll, tk_nil, st9]
  obtain ⟨q6, h6, s6⟩ := newb w5 #[.string kB, .string kX] 9
  change CallV _ _ _ _ (w5.alloc (.cells #[.string kB, .string kX] 9))
  generalize (w5.alloc (.cells #[.string kB, .string kX] 9)) = w6 at *
  generalize w5.heap.size = b5 at *
  have r6 : Reads w6 (some ⟨b5, 0, none⟩) ([kB, kX].map Value.string) := reads_blk (xs := [kB, kX].map Value.string) h6
  refine ck24 (pick_any (rs := kRs) (ks := [kB, kX]) (c := 2) (d := 2) (rR.quiet (((q3.trans q4).trans q5).trans q6)) r6 (by decide) (by decide) (fun r hr => by rw [kRs_nil hr]; exact Nat.zero_le _) (fun r hr h hh => by rw [kRs_nil hr] at hh; cases hh) ?_)
  intro A7 rs7 w7 m7 r7 q7
  have e7 : pickL (kRs.map rowP) [kB, kX] = [(kB, (2, 0, 0, kZ), [])] := by kernel_rfl
  rw [e7] at m7
  have q07 := (q05.trans q6).trans q7
  have l4 : rs4.length = 1 := by have := congrArg List.length m4; simpa using this
  have l7 : rs7.length = 1 := by have := congrArg List.length m7; simpa using this
  have k4 : (rs4.getD 0 default).1 = kA := by
    have := congrArg (fun l => (l.getD 0 default).1) m4
    rw [show ((rs4.map rowP).getD 0 default).1 = (rowP (rs4.getD 0 default)).1 from congrArg (fun z : RowD => z.1) (rowP_getD rs4 0)] at this
    exact this
  have k7 : (rs7.getD 0 default).1 = kB := by
    have := congrArg (fun l => (l.getD 0 default).1) m7
    rw [show ((rs7.map rowP).getD 0 default).1 = (rowP (rs7.getD 0 default)).1 from congrArg (fun z : RowD => z.1) (rowP_getD rs7 0)] at this
    exact this
  have q37 : Qt w3 w7 := ((q4.trans q5).trans q6).trans q7
  obtain ⟨g3, o3, rfl, y0, _⟩ := mark_at (r3.quiet q37) (i := 0) (by decide)
  obtain ⟨g4, o4, rfl, z0, _⟩ := row_at (r4.1.quiet ((q5.trans q6).trans q7)) (i := 0) (by omega)
  obtain ⟨g5, o5, e5, u0⟩ := key_at (r5.quiet (q6.trans q7)) (i := 0) (by decide)
  obtain ⟨g5', o5', e5', u1⟩ := key_at (r5.quiet (q6.trans q7)) (i := 1) (by decide)
  subst e5
  cases e5'
  obtain ⟨g7, o7, rfl, v0, _⟩ := row_at r7.1 (i := 0) (by omega)
  rw [k4] at z0
  rw [k7] at v0
  have y0 : w7.cell? ⟨g3, o3 + 0 * 5, none⟩ = some (.string kA) := y0
  have u0 : w7.cell? ⟨g5, o5 + 0, none⟩ = some (.string kB) := u0
  have u1 : w7.cell? ⟨g5, o5 + 1, none⟩ = some (.string kC) := u1
  rw [l4, l7]
  simp only [Nat.add_zero] at u0
  have eA : (kA.toList == (⟨#[97]⟩ : ByteArray).toList) = true := beq_self_eq_true _
  have eB : (kB.toList == (⟨#[98]⟩ : ByteArray).toList) = true := beq_self_eq_true _
  have eC : (kC.toList == (⟨#[99]⟩ : ByteArray).toList) = true := beq_self_eq_true _
  have l2 : kRs.length = 2 := rfl
  have l3 : ([kB, kC] : List ByteArray).length = 2 := rfl
  have t1 : Int.toNat 1 = 1 := rfl
  simp (maxSteps := 1000000) (disch := omega) only [genAll, decAll, tk_nil, st9, l2, l3, y0, z0, u0, u1, v0, eA, eB, eC, t1]
  have r2 := rM.quiet (((((q3.trans q4).trans q5).trans q6).trans q7))
  refine ck13 (chkM_any (ms := kMs) (c := 2) (hm.quiet q07) r2 (by decide) ?_)
  rw [show checkMs kMs = 0 by kernel_rfl]
  intro w8 q8
  simp (maxSteps := 1000000) (disch := omega) only [genAll, decAll, tk_nil, st9]
  obtain ⟨q9, h9, s9⟩ := newb w8 #[.string kU, .int .i64 0, .int .i64 0, .int .i64 0, .string ByteArray.empty] 85
  change CallV _ _ _ _ (w8.alloc (.cells #[.string kU, .int .i64 0, .int .i64 0, .int .i64 0, .string ByteArray.empty] 85))
  generalize (w8.alloc (.cells #[.string kU, .int .i64 0, .int .i64 0, .int .i64 0, .string ByteArray.empty] 85)) = w9 at *
  have r9 : Reads w9 (some ⟨w8.heap.size, 0, none⟩) (kM2.flatMap markC) := reads_blk (xs := kM2.flatMap markC) h9
  refine ck13 (chkM_any (ms := kM2) (c := 1) (hm.quiet ((q07.trans q8).trans q9)) r9 (by decide) ?_)
  rw [show checkMs kM2 = 5 by kernel_rfl]
  intro w10 q10
  simp (maxSteps := 1000000) (disch := omega) only [genAll, decAll, tk_nil, st9]
  exact hK _ (((q07.trans q8).trans q9).trans q10)
end Go.Proofs.YtpjeohellehgjaaDoor
end

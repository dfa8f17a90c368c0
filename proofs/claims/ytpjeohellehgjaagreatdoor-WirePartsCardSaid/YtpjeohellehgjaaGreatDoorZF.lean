import Derived.Test.YtpjeohellehgjaaGreatDoorZE
section
/- What is told of a value, a stamp, a row that was read, by the program: itself, or nothing where something went wrong. -/
set_option linter.unusedVariables false
set_option linter.unusedSimpArgs false
set_option maxRecDepth 100000
namespace Go.Proofs.YtpjeohellehgjaaGreatDoor
open Go.RowKit Go.Cn Go.Cn.Num
set_option maxHeartbeats 1000000 in
theorem wholeV_any {v : Val} {A : Option Addr} {c : Nat} {g : Nat} {e : Int} {r : List UInt8} {D : Option Nat} {w : World} {K : Value → World → Prop} (h : DecAt w g e r D)
    (h0 : e = 0 → ∀ w', Qt w w' → K (vv v A c) w') (h1 : e ≠ 0 → ∀ w', Qt w w' → K (vv v0 none 0) w') : CallK Tryz.prog 75 #[.pointer (some ⟨g, 0, none⟩), vv v A c] K w := by
  refine F75_calls _ _ _ _ ?_; unfold F75
  simp (maxSteps := 1000000) (disch := omega) only [genAll, decAll, tk_nil, st75]
  obtain ⟨q1, b1, e1⟩ := newb w #[.int .i64 v.1, .int .i64 v.2.1, .string v.2.2.1, .slice A v.2.2.2.length c] 61
  generalize (w.alloc (.cells #[.int .i64 v.1, .int .i64 v.2.1, .string v.2.2.1, .slice A v.2.2.2.length c] 61)) = w1 at *
  obtain ⟨q2, b2, e2⟩ := newb w1 #[.int .i64 0, .int .i64 0, .string ByteArray.empty, .slice none 0 0] 61
  generalize (w1.alloc (.cells #[.int .i64 0, .int .i64 0, .string ByteArray.empty, .slice none 0 0] 61)) = w2 at *
  rw [e1] at b2
  have q02 := q1.trans q2
  have h2 := h.chg q02 (fun h => h) (fun _ _ h => h)
  have b12 := q2.heap b1 (fun h => h)
  generalize hb : w.heap.size = b at *
  refine ck40 (err_any h2 ?_)
  by_cases hz : e = 0
  · have ez : (e != 0) = false := by rw [hz]; rfl
    obtain ⟨x0, x1, x2, x3⟩ := cell4 b12
    simp (maxSteps := 1000000) (disch := omega) only [genAll, decAll, tk_nil, st75, ez, x0, x1, x2, x3]
    refine retVal (v := v) (A := A) (c := c) b2 (fun w3 k3 => ?_)
    exact h0 hz _ (Qt.then q02 k3 (fun k hk => by omega))
  · have ez : (e != 0) = true := by rw [bne_iff_ne]; exact hz
    simp (maxSteps := 1000000) (disch := omega) only [genAll, decAll, tk_nil, st75, ez]
    obtain ⟨q3, b3, e3⟩ := newb w2 #[.int .i64 0, .int .i64 0, .string ByteArray.empty, .slice none 0 0] 61
    have b23 := q3.heap b2 (fun h => h)
    generalize (w2.alloc (.cells #[.int .i64 0, .int .i64 0, .string ByteArray.empty, .slice none 0 0] 61)) = w3 at *
    obtain ⟨x0, x1, x2, x3⟩ := cell4 b3
    simp (maxSteps := 1000000) (disch := omega) only [genAll, decAll, tk_nil, st75, x0, x1, x2, x3]
    refine retVal (v := v0) (A := none) (c := 0) b23 (fun w4 k4 => ?_)
    exact h1 hz _ (Qt.then (q02.trans q3) k4 (fun k hk => by omega))
set_option maxHeartbeats 1000000 in
theorem wholeS_any {s : Stm} {g : Nat} {e : Int} {r : List UInt8} {D : Option Nat} {w : World} {K : Value → World → Prop} (h : DecAt w g e r D)
    (h0 : e = 0 → ∀ w', Qt w w' → K (stV s) w') (h1 : e ≠ 0 → ∀ w', Qt w w' → K (stV s0) w') : CallK Tryz.prog 76 #[.pointer (some ⟨g, 0, none⟩), stV s] K w := by
  refine F76_calls _ _ _ _ ?_; unfold F76
  simp (maxSteps := 1000000) (disch := omega) only [genAll, decAll, tk_nil, st76]
  obtain ⟨q1, b1, e1⟩ := newb w #[.int .i64 s.1, .int .i64 s.2.1, .int .i64 s.2.2.1, .string s.2.2.2] 23
  generalize (w.alloc (.cells #[.int .i64 s.1, .int .i64 s.2.1, .int .i64 s.2.2.1, .string s.2.2.2] 23)) = w1 at *
  obtain ⟨q2, b2, e2⟩ := newb w1 #[.int .i64 0, .int .i64 0, .int .i64 0, .string ByteArray.empty] 23
  generalize (w1.alloc (.cells #[.int .i64 0, .int .i64 0, .int .i64 0, .string ByteArray.empty] 23)) = w2 at *
  rw [e1] at b2
  have q02 := q1.trans q2
  have h2 := h.chg q02 (fun h => h) (fun _ _ h => h)
  have b12 := q2.heap b1 (fun h => h)
  generalize hb : w.heap.size = b at *
  refine ck40 (err_any h2 ?_)
  by_cases hz : e = 0
  · have ez : (e != 0) = false := by rw [hz]; rfl
    obtain ⟨x0, x1, x2, x3⟩ := cell4 b12
    simp (maxSteps := 1000000) (disch := omega) only [genAll, decAll, tk_nil, st76, ez, x0, x1, x2, x3]
    refine retStm (s := s) b2 (fun w3 k3 => ?_)
    exact h0 hz _ (Qt.then q02 k3 (fun k hk => by omega))
  · have ez : (e != 0) = true := by rw [bne_iff_ne]; exact hz
    simp (maxSteps := 1000000) (disch := omega) only [genAll, decAll, tk_nil, st76, ez]
    obtain ⟨q3, b3, e3⟩ := newb w2 #[.int .i64 0, .int .i64 0, .int .i64 0, .string ByteArray.empty] 23
    have b23 := q3.heap b2 (fun h => h)
    generalize (w2.alloc (.cells #[.int .i64 0, .int .i64 0, .int .i64 0, .string ByteArray.empty] 23)) = w3 at *
    obtain ⟨x0, x1, x2, x3⟩ := cell4 b3
    simp (maxSteps := 1000000) (disch := omega) only [genAll, decAll, tk_nil, st76, x0, x1, x2, x3]
    refine retStm (s := s0) b23 (fun w4 k4 => ?_)
    exact h1 hz _ (Qt.then (q02.trans q3) k4 (fun k hk => by omega))
set_option maxHeartbeats 1000000 in
theorem wholeR_any {key : ByteArray} {s : Stm} {A : Option Addr} {n c : Nat} {g : Nat} {e : Int} {r : List UInt8} {D : Option Nat} {w : World} {K : Value → World → Prop} (h : DecAt w g e r D)
    (h0 : e = 0 → ∀ w', Qt w w' → K (rowV key s A n c) w') (h1 : e ≠ 0 → ∀ w', Qt w w' → K (rowV ByteArray.empty s0 none 0 0) w') : CallK Tryz.prog 77 #[.pointer (some ⟨g, 0, none⟩), rowV key s A n c] K w := by
  refine F77_calls _ _ _ _ ?_; unfold F77
  simp (maxSteps := 1000000) (disch := omega) only [genAll, decAll, tk_nil, st77]
  obtain ⟨q1, b1, e1⟩ := newb w #[.string key, .int .i64 s.1, .int .i64 s.2.1, .int .i64 s.2.2.1, .string s.2.2.2, .slice A n c] 26
  generalize (w.alloc (.cells #[.string key, .int .i64 s.1, .int .i64 s.2.1, .int .i64 s.2.2.1, .string s.2.2.2, .slice A n c] 26)) = w1 at *
  obtain ⟨q2, b2, e2⟩ := newb w1 #[.string ByteArray.empty, .int .i64 0, .int .i64 0, .int .i64 0, .string ByteArray.empty, .slice none 0 0] 26
  generalize (w1.alloc (.cells #[.string ByteArray.empty, .int .i64 0, .int .i64 0, .int .i64 0, .string ByteArray.empty, .slice none 0 0] 26)) = w2 at *
  rw [e1] at b2
  have q02 := q1.trans q2
  have h2 := h.chg q02 (fun h => h) (fun _ _ h => h)
  have b12 := q2.heap b1 (fun h => h)
  generalize hb : w.heap.size = b at *
  refine ck40 (err_any h2 ?_)
  by_cases hz : e = 0
  · have ez : (e != 0) = false := by rw [hz]; rfl
    obtain ⟨x0, x1, x2, x3, x4, x5⟩ := cell6 b12
    simp (maxSteps := 1000000) (disch := omega) only [genAll, decAll, tk_nil, st77, ez, x0, x1, x2, x3, x4, x5]
    refine retRow (key := key) (s := s) (A := A) (n := n) (c := c) b2 (fun w3 k3 => ?_)
    exact h0 hz _ (Qt.then q02 k3 (fun k hk => by omega))
  · have ez : (e != 0) = true := by rw [bne_iff_ne]; exact hz
    simp (maxSteps := 1000000) (disch := omega) only [genAll, decAll, tk_nil, st77, ez]
    obtain ⟨q3, b3, e3⟩ := newb w2 #[.string ByteArray.empty, .int .i64 0, .int .i64 0, .int .i64 0, .string ByteArray.empty, .slice none 0 0] 26
    have b23 := q3.heap b2 (fun h => h)
    generalize (w2.alloc (.cells #[.string ByteArray.empty, .int .i64 0, .int .i64 0, .int .i64 0, .string ByteArray.empty, .slice none 0 0] 26)) = w3 at *
    obtain ⟨x0, x1, x2, x3, x4, x5⟩ := cell6 b3
    simp (maxSteps := 1000000) (disch := omega) only [genAll, decAll, tk_nil, st77, x0, x1, x2, x3, x4, x5]
    refine retRow (key := ByteArray.empty) (s := s0) (A := none) (n := 0) (c := 0) b23 (fun w4 k4 => ?_)
    exact h1 hz _ (Qt.then (q02.trans q3) k4 (fun k hk => by omega))
end Go.Proofs.YtpjeohellehgjaaGreatDoor
end

section
/- Values and stamps out of bytes: the program's. Condition: the bytes lie there, at most a million. -/
set_option linter.unusedVariables false
set_option linter.unusedSimpArgs false
set_option maxRecDepth 100000
namespace Go.Proofs.YtpjeohellehgjaaGreatDoor
open Go.RowKit Go.Cn Go.Cn.Num
theorem DecAt.lt {w : World} {g : Nat} {e : Int} {r : List UInt8} {D : Option Nat} (h : DecAt w g e r D) : g < w.heap.size := by
  obtain ⟨A, c, h1, _⟩ := h
  exact blk_lt h1
theorem clipI_any {w : World} {n c : Nat} {A : Option Addr} {xs : List Value} {F : Option Nat} {K : Value → World → Prop} (o : Own w 2 1 (.slice A n c) n xs F) (hK : K (.slice A n n) w) : CallK Tryz.prog 99 #[.slice A n c] K w := by
  refine F99_calls _ _ _ ?_; unfold F99
  rcases own_cases o with ⟨rfl, rfl, rfl, _⟩ | ⟨g, rfl, _, h1, h2⟩
  · have e0 : ((0 : Nat) : Int) = 0 := rfl
    simp (maxSteps := 1000000) (disch := omega) only [genAll, decAll, tk_nil, st99, e0]
    exact hK
  · simp (maxSteps := 1000000) (disch := omega) only [genAll, decAll, tk_nil, st99]
    exact hK
theorem clipA_any {w : World} {n c : Nat} {A : Option Addr} {xs : List Value} {F : Option Nat} {K : Value → World → Prop} (o : Own w 64 5 (.slice A n c) n xs F) (hK : K (.slice A n n) w) : CallK Tryz.prog 100 #[.slice A n c] K w := by
  refine F100_calls _ _ _ ?_; unfold F100
  rcases own_cases o with ⟨rfl, rfl, rfl, _⟩ | ⟨g, rfl, _, h1, h2⟩
  · have e0 : ((0 : Nat) : Int) = 0 := rfl
    simp (maxSteps := 1000000) (disch := omega) only [genAll, decAll, tk_nil, st100, e0]
    exact hK
  · simp (maxSteps := 1000000) (disch := omega) only [genAll, decAll, tk_nil, st100]
    exact hK
theorem clipR_any {w : World} {n c : Nat} {A : Option Addr} {xs : List Value} {F : Option Nat} {K : Value → World → Prop} (o : Own w 26 6 (.slice A n c) n xs F) (hK : K (.slice A n n) w) : CallK Tryz.prog 93 #[.slice A n c] K w := by
  refine F93_calls _ _ _ ?_; unfold F93
  rcases own_cases o with ⟨rfl, rfl, rfl, _⟩ | ⟨g, rfl, _, h1, h2⟩
  · have e0 : ((0 : Nat) : Int) = 0 := rfl
    simp (maxSteps := 1000000) (disch := omega) only [genAll, decAll, tk_nil, st93, e0]
    exact hK
  · simp (maxSteps := 1000000) (disch := omega) only [genAll, decAll, tk_nil, st93]
    exact hK
set_option maxHeartbeats 4000000 in
theorem takenI_any {g : Nat} {e : Int} {r : List UInt8} {D : Option Nat} {w : World} {K : Value → World → Prop} (h : DecAt w g e r D) (hr : r.length ≤ 1000000) (hD : ∀ k, D = some k → k < w.heap.size)
    (hK : ∀ A w', DecAt w' g (manyF intD (manyD e r 16).1.toNat (manyD e r 16).2.1 (manyD e r 16).2.2).2.1 (manyF intD (manyD e r 16).1.toNat (manyD e r 16).2.1 (manyD e r 16).2.2).2.2 D → Reads w' A (ints (manyF intD (manyD e r 16).1.toNat (manyD e r 16).2.1 (manyD e r 16).2.2).1) → (∀ ad, A = some ad → w.heap.size ≤ ad.block) → Chg (fun k => k = g) w w' → K (.slice A (manyF intD (manyD e r 16).1.toNat (manyD e r 16).2.1 (manyD e r 16).2.2).1.length (manyF intD (manyD e r 16).1.toNat (manyD e r 16).2.1 (manyD e r 16).2.2).1.length) w') : CallK Tryz.prog 74 #[.pointer (some ⟨g, 0, none⟩), .int .i64 16, .func (.func 72) #[] #[]] K w := by
  refine F74_calls _ _ _ _ _ ?_; unfold F74
  have hgl := DecAt.lt h
  refine ck92 (many_any h (by omega) ?_)
  intro w1 h1 k1
  have hin := manyD_in e 16 r (by omega)
  have hml := manyD_len e 16 r
  generalize hm1 : (manyD e r 16).2.1 = e2 at *
  generalize hm2 : (manyD e r 16).2.2 = r2 at *
  obtain ⟨n, hn⟩ : ∃ n : Nat, (manyD e r 16).1 = n := ⟨_, (Int.toNat_of_nonneg hin.1).symm⟩
  rw [hn] at hin hK ⊢
  rw [Int.toNat_natCast] at hK
  clear hn hm1 hm2
  refine loopK2 (fun u v w' => ∃ (i : Nat) (A : Option Addr) (c : Nat) (F : Option Nat), v = .int .i64 i ∧ i ≤ n ∧ u = .slice A i c ∧ DecAt w' g (manyF intD i e2 r2).2.1 (manyF intD i e2 r2).2.2 D ∧ Own w' 2 1 (.slice A i c) i (ints (manyF intD i e2 r2).1) F ∧ (∀ k, F = some k → w.heap.size ≤ k) ∧ Chg (fun k => k = g) w w') (fun _ v _ => n - (intOf v).toNat) ⟨0, none, 0, none, rfl, by omega, rfl, h1, Own.nil _ _ _, fun _ h => (by cases h), k1⟩ ?_
  rintro _ _ _ w2 ⟨i, A, c, F, rfl, hi, rfl, h2, o2, hF, k2⟩
  have hrest := manyF_rest intD intD_len i e2 r2
  by_cases hlt : i < n
  · have hms : manyF intD (i + 1) e2 r2 = ((manyF intD i e2 r2).1 ++ [(intD (manyF intD i e2 r2).2.1 (manyF intD i e2 r2).2.2).1], (intD (manyF intD i e2 r2).2.1 (manyF intD i e2 r2).2.2).2.1, (intD (manyF intD i e2 r2).2.1 (manyF intD i e2 r2).2.2).2.2) := rfl
    generalize manyF intD i e2 r2 = m at *
    simp (maxSteps := 1000000) (disch := omega) only [genAll, decAll, tk_nil, st74]
    refine ck72 (int_any h2 (by omega) ?_)
    intro w3 h3 k3
    generalize intD m.2.1 m.2.2 = x at *
    have o3 := o2.chg k3 (fun k hk e => by have := hF k hk; omega)
    obtain ⟨q4, b4, e4⟩ := newb w3 #[.int .i64 x.1] 2
    obtain ⟨A5, c5, F5, w5, p5, o5, k5, f5⟩ := pushN_run (P := Tryz.prog) tyI (o3.chg q4 (fun _ _ h => h)) [.int .i64 x.1] rfl (oneCell_one rfl) b4 (by omega) (by omega) 59
    simp (maxSteps := 1000000) (disch := omega) only [genAll, decAll, tk_nil, st74]
    have h4 := h3.chg q4 (fun h => h) (fun _ _ h => h)
    generalize (w3.alloc (.cells #[.int .i64 x.1] 2)) = w4 at *
    refine appK p5 ?_
    have k4 := refUp (k2.trans k3) q4 (fun _ h => h.elim)
    have k05 := refUp k4 k5 hF
    have h5 := h4.chg k5 (fun e => by have := hF _ e; omega) (fun k hk e => by have := hD k hk; have := hF k e; omega)
    simp (maxSteps := 1000000) (disch := omega) only [genAll, decAll, tk_nil, st74]
    refine ⟨⟨i + 1, A5, c5, F5, by go_num, by omega, rfl, by rw [hms]; exact h5, ?_, fun k hk => (f5 k hk).elim (hF k) (fun e => by have := k4.size; omega), k05⟩, by simp [rel, intOf]; omega⟩
    rw [hms]
    have e : ints (m.1 ++ [x.1]) = ints m.1 ++ [.int .i64 x.1] := by unfold ints; rw [List.map_append]; rfl
    show Own _ 2 1 _ _ (ints (m.1 ++ [x.1])) _
    rw [e]; exact o5
  · obtain rfl : i = n := by omega
    simp (maxSteps := 1000000) (disch := omega) only [genAll, decAll, tk_nil, st74]
    refine ck99 (clipI_any o2 ?_)
    simp (maxSteps := 1000000) (disch := omega) only [genAll, decAll, tk_nil, st74]
    have := hK A w2 h2 (reads_own o2) (own_block o2 hF) k2
    rw [manyF_len] at this
    exact this
set_option maxHeartbeats 4000000 in
theorem takeV_any {g : Nat} {e : Int} {r : List UInt8} {D : Option Nat} {w : World} {K : Value → World → Prop} (h : DecAt w g e r D) (hr : r.length ≤ 1000000) (hD : ∀ k, D = some k → k < w.heap.size)
    (hK : ∀ A c w', DecAt w' g (valD e r).2.1 (valD e r).2.2 D → Reads w' A (ints (valD e r).1.2.2.2) → ((valD e r).1.2.2.2 ≠ [] → ∀ ad, A = some ad → w.heap.size ≤ ad.block) → Chg (fun k => k = g) w w' → K (vv (valD e r).1 A c) w') : CallK Tryz.prog 35 #[.pointer (some ⟨g, 0, none⟩)] K w := by
  refine F35_calls _ _ _ ?_; unfold F35
  have hgl := DecAt.lt h
  obtain ⟨q1, b1⟩ := raw4 w (.int .i64 0) (.int .i64 0) (.string ByteArray.empty) (.slice none 0 0) 61
  simp (maxSteps := 1000000) (disch := omega) only [genAll, decAll, tk_nil, st35]
  generalize (w.alloc (.cells #[.int .i64 0, .int .i64 0, .string ByteArray.empty, .slice none 0 0] 61)) = w1 at *
  have s1 := blk_lt b1
  have h1 := h.chg q1 (fun h => h) (fun _ _ h => h)
  have kk1 : Chg (fun k => k = g) w w1 := q1.mono (fun _ _ h => h.elim)
  have q1s := q1.size
  generalize hb : w.heap.size = b at *
  refine ck72 (int_any h1 (by omega) ?_)
  intro w2 h2 k2
  have b12 := k2.heap b1 (by omega)
  have kk2 := kk1.trans k2
  have hil := intD_len e r
  generalize he1 : (intD e r).2.1 = e1 at *
  generalize hr1 : (intD e r).2.2 = r1 at *
  generalize hkk : (intD e r).1 = kd at *
  obtain ⟨q3, b3⟩ := raw4 w2 (.int .i64 kd) (.int .i64 0) (.string ByteArray.empty) (.slice none 0 0) 61
  simp (maxSteps := 1000000) (disch := omega) only [genAll, decAll, tk_nil, st35]
  have b13 := q3.heap b12 (fun h => h)
  have h3 := h2.chg q3 (fun h => h) (fun _ _ h => h)
  have s2 := k2.size
  generalize (w2.alloc (.cells #[.int .i64 kd, .int .i64 0, .string ByteArray.empty, .slice none 0 0] 61)) = w3 at *
  have s3 := blk_lt b3
  have kk3 : Chg (fun k => k = g) w w3 := refUp kk2 q3 (fun _ h => h.elim)
  generalize hb3 : w2.heap.size = p at *
  have hDp : ∀ k, D = some k → ¬ k = p := fun k hk => by have := hD k hk; omega
  have hv0 : valD0 e r = (if kd = 1 then ((1, (intD e1 r1).1, ByteArray.empty, []), (intD e1 r1).2.1, (intD e1 r1).2.2) else if kd = 2 then ((2, 0, txt (textD e1 r1).1, []), (textD e1 r1).2.1, (textD e1 r1).2.2) else if kd = 3 then ((3, 0, ByteArray.empty, (manyF intD (manyD e1 r1 16).1.toNat (manyD e1 r1 16).2.1 (manyD e1 r1 16).2.2).1), (manyF intD (manyD e1 r1 16).1.toNat (manyD e1 r1 16).2.1 (manyD e1 r1 16).2.2).2.1, (manyF intD (manyD e1 r1 16).1.toNat (manyD e1 r1 16).2.1 (manyD e1 r1 16).2.2).2.2) else ((kd, 0, ByteArray.empty, []), e1, r1)) := by
    unfold valD0
    simp only [he1, hr1, hkk]
  refine cutK0 (fun w' => ∃ (A : Option Addr) (c : Nat), w'.heap[p]? = some (.cells #[.int .i64 (valD0 e r).1.1, .int .i64 (valD0 e r).1.2.1, .string (valD0 e r).1.2.2.1, .slice A (valD0 e r).1.2.2.2.length c] 61 (0, 0)) ∧ DecAt w' g (valD0 e r).2.1 (valD0 e r).2.2 D ∧ Reads w' A (ints (valD0 e r).1.2.2.2) ∧ (∀ ad, A = some ad → p < ad.block) ∧ w'.heap[b]? = some (.cells #[.int .i64 0, .int .i64 0, .string ByteArray.empty, .slice none 0 0] 61 (0, 0)) ∧ Chg (fun k => k = g) w w' ∧ p < w'.heap.size) ?_ ?_
  · obtain ⟨x0, x1, x2, x3⟩ := cell4 b3
    by_cases k1 : kd = 1
    · have g1 : (kd == 1) = true := by rw [k1]; rfl
      rw [if_pos k1] at hv0
      rw [hv0]
      simp (maxSteps := 1000000) (disch := omega) only [genAll, decAll, tk_nil, st35, x0, g1]
      refine ck72 (int_any h3 (by omega) ?_)
      intro w4 h4 k4
      have b4 := k4.heap b3 (by omega)
      have b14 := k4.heap b13 (by omega)
      obtain ⟨y0, y1, y2, y3⟩ := cell4 b4
      have z4 := blk_frozen b4 1
      obtain ⟨b5, k5⟩ := setTo (i := 1) (v := .int .i64 (intD e1 r1).1) (C' := #[.int .i64 kd, .int .i64 (intD e1 r1).1, .string ByteArray.empty, .slice none 0 0]) b4 rfl
      simp (maxSteps := 1000000) (disch := omega) only [genAll, decAll, tk_nil, st35, y1, z4]
      rw [k1] at b5
      exact ⟨none, 0, b5, h4.chg k5 (by omega) hDp, .inl rfl, fun _ h => (by cases h), k5.heap b14 (by omega), refUp (kk3.trans k4) k5 (fun k hk => by omega), by have := k4.size; have := k5.size; omega⟩
    · have g1 : (kd == 1) = false := beq_eq_false_iff_ne.2 k1
      rw [if_neg k1] at hv0
      by_cases k2' : kd = 2
      · have g2 : (kd == 2) = true := by rw [k2']; rfl
        rw [if_pos k2'] at hv0
        rw [hv0]
        simp (maxSteps := 1000000) (disch := omega) only [genAll, decAll, tk_nil, st35, x0, g1, g2]
        refine ck73 (text_any h3 (by omega) ?_)
        intro w4 h4 k4
        have b4 := k4.heap b3 (by omega)
        have b14 := k4.heap b13 (by omega)
        obtain ⟨y0, y1, y2, y3⟩ := cell4 b4
        have z4 := blk_frozen b4 2
        obtain ⟨b5, k5⟩ := setTo (i := 2) (v := .string (txt (textD e1 r1).1)) (C' := #[.int .i64 kd, .int .i64 0, .string (txt (textD e1 r1).1), .slice none 0 0]) b4 rfl
        simp (maxSteps := 1000000) (disch := omega) only [genAll, decAll, tk_nil, st35, y2, z4]
        rw [k2'] at b5
        exact ⟨none, 0, b5, h4.chg k5 (by omega) hDp, .inl rfl, fun _ h => (by cases h), k5.heap b14 (by omega), refUp (kk3.trans k4) k5 (fun k hk => by omega), by have := k4.size; have := k5.size; omega⟩
      · have g2 : (kd == 2) = false := beq_eq_false_iff_ne.2 k2'
        rw [if_neg k2'] at hv0
        by_cases k3' : kd = 3
        · have g3 : (kd == 3) = true := by rw [k3']; rfl
          rw [if_pos k3'] at hv0
          rw [hv0]
          simp (maxSteps := 1000000) (disch := omega) only [genAll, decAll, tk_nil, st35, x0, g1, g2, g3]
          refine ck74 (takenI_any h3 (by omega) (fun k hk => by have := hD k hk; omega) ?_)
          intro A w4 h4 r4 f4 k4
          generalize manyF intD (manyD e1 r1 16).1.toNat (manyD e1 r1 16).2.1 (manyD e1 r1 16).2.2 = m at *
          have b4 := k4.heap b3 (by omega)
          have b14 := k4.heap b13 (by omega)
          obtain ⟨y0, y1, y2, y3⟩ := cell4 b4
          have z4 := blk_frozen b4 3
          obtain ⟨b5, k5⟩ := setTo (i := 3) (v := .slice A m.1.length m.1.length) (C' := #[.int .i64 kd, .int .i64 0, .string ByteArray.empty, .slice A m.1.length m.1.length]) b4 rfl
          simp (maxSteps := 1000000) (disch := omega) only [genAll, decAll, tk_nil, st35, y3, z4]
          rw [k3'] at b5
          exact ⟨A, m.1.length, b5, h4.chg k5 (by omega) hDp, r4.chg k5 (fun ad h e => by have := f4 ad h; omega), fun ad h => (by have := f4 ad h; omega), k5.heap b14 (by omega), refUp (kk3.trans k4) k5 (fun k hk => by omega), by have := k4.size; have := k5.size; omega⟩
        · have g3 : (kd == 3) = false := beq_eq_false_iff_ne.2 k3'
          rw [if_neg k3'] at hv0
          rw [hv0]
          simp (maxSteps := 1000000) (disch := omega) only [genAll, decAll, tk_nil, st35, x0, g1, g2, g3]
          exact ⟨none, 0, b3, h3, .inl rfl, fun _ h => (by cases h), b13, kk3, s3⟩
  · rintro _ w4 ⟨A, c, b4, h4, r4, f4, b14, kk4, s4⟩
    have hvd : valD e r = (if (valD0 e r).2.1 = 0 then (valD0 e r).1 else v0, (valD0 e r).2.1, (valD0 e r).2.2) := rfl
    rw [hvd] at hK
    clear hv0 hvd
    generalize valD0 e r = v at *
    simp only at hK
    obtain ⟨x0, x1, x2, x3⟩ := cell4 b4
    simp (maxSteps := 1000000) (disch := omega) only [genAll, decAll, tk_nil, st35, x0, x1, x2, x3]
    refine ck75 (wholeV_any (v := v.1) (A := A) (c := c) h4 (fun hz w5 q5 => ?_) (fun hz w5 q5 => ?_))
    · rw [if_pos hz] at hK
      refine retVal (v := v.1) (A := A) (c := c) (q5.heap b14 (fun h => h)) (fun w6 k6 => ?_)
      have h5 := h4.chg q5 (fun h => h) (fun _ _ h => h)
      exact hK A c _ (h5.chg k6 (by omega) (fun k hk => by have := hD k hk; omega)) ((r4.quiet q5).chg k6 (fun ad h e => by have := f4 ad h; omega)) (fun _ ad h => by have := f4 ad h; omega) (refUp (refUp kk4 q5 (fun _ h => h.elim)) k6 (fun k hk => by omega))
    · rw [if_neg hz] at hK
      refine retVal (v := v0) (A := none) (c := 0) (q5.heap b14 (fun h => h)) (fun w6 k6 => ?_)
      have h5 := h4.chg q5 (fun h => h) (fun _ _ h => h)
      exact hK none 0 _ (h5.chg k6 (by omega) (fun k hk => by have := hD k hk; omega)) (.inl rfl) (fun h => absurd rfl h) (refUp (refUp kk4 q5 (fun _ h => h.elim)) k6 (fun k hk => by omega))
set_option maxHeartbeats 4000000 in
theorem takeS_any {g : Nat} {e : Int} {r : List UInt8} {D : Option Nat} {w : World} {K : Value → World → Prop} (h : DecAt w g e r D) (hr : r.length ≤ 1000000) (hD : ∀ k, D = some k → k < w.heap.size)
    (hK : ∀ w', DecAt w' g (stmD e r).2.1 (stmD e r).2.2 D → Chg (fun k => k = g) w w' → K (stV (stmD e r).1) w') : CallK Tryz.prog 36 #[.pointer (some ⟨g, 0, none⟩)] K w := by
  refine F36_calls _ _ _ ?_; unfold F36
  have hgl := DecAt.lt h
  obtain ⟨q1, b1⟩ := raw4 w (.int .i64 0) (.int .i64 0) (.int .i64 0) (.string ByteArray.empty) 23
  simp (maxSteps := 1000000) (disch := omega) only [genAll, decAll, tk_nil, st36]
  generalize (w.alloc (.cells #[.int .i64 0, .int .i64 0, .int .i64 0, .string ByteArray.empty] 23)) = w1 at *
  have h1 := h.chg q1 (fun h => h) (fun _ _ h => h)
  have kk1 : Chg (fun k => k = g) w w1 := q1.mono (fun _ _ h => h.elim)
  generalize hb : w.heap.size = b at *
  have hst : stmD0 e r = ((((intD e r).1, (intD (intD e r).2.1 (intD e r).2.2).1, (intD (intD (intD e r).2.1 (intD e r).2.2).2.1 (intD (intD e r).2.1 (intD e r).2.2).2.2).1, txt (textD (intD (intD (intD e r).2.1 (intD e r).2.2).2.1 (intD (intD e r).2.1 (intD e r).2.2).2.2).2.1 (intD (intD (intD e r).2.1 (intD e r).2.2).2.1 (intD (intD e r).2.1 (intD e r).2.2).2.2).2.2).1)), (textD (intD (intD (intD e r).2.1 (intD e r).2.2).2.1 (intD (intD e r).2.1 (intD e r).2.2).2.2).2.1 (intD (intD (intD e r).2.1 (intD e r).2.2).2.1 (intD (intD e r).2.1 (intD e r).2.2).2.2).2.2).2.1, (textD (intD (intD (intD e r).2.1 (intD e r).2.2).2.1 (intD (intD e r).2.1 (intD e r).2.2).2.2).2.1 (intD (intD (intD e r).2.1 (intD e r).2.2).2.1 (intD (intD e r).2.1 (intD e r).2.2).2.2).2.2).2.2) := rfl
  have hvd : stmD e r = (if (stmD0 e r).2.1 = 0 then (stmD0 e r).1 else s0, (stmD0 e r).2.1, (stmD0 e r).2.2) := rfl
  rw [hvd, hst] at hK
  clear hvd hst
  simp only at hK
  refine ck72 (int_any h1 (by omega) ?_)
  intro w2 h2 k2
  have l2 := intD_len e r
  generalize intD e r = x at *
  simp (maxSteps := 1000000) (disch := omega) only [genAll, decAll, tk_nil, st36]
  refine ck72 (int_any h2 (by omega) ?_)
  intro w3 h3 k3
  have l3 := intD_len x.2.1 x.2.2
  generalize intD x.2.1 x.2.2 = y at *
  simp (maxSteps := 1000000) (disch := omega) only [genAll, decAll, tk_nil, st36]
  refine ck72 (int_any h3 (by omega) ?_)
  intro w4 h4 k4
  have l4 := intD_len y.2.1 y.2.2
  generalize intD y.2.1 y.2.2 = z at *
  simp (maxSteps := 1000000) (disch := omega) only [genAll, decAll, tk_nil, st36]
  refine ck73 (text_any h4 (by omega) ?_)
  intro w5 h5 k5
  generalize textD z.2.1 z.2.2 = u at *
  have k25 := ((k2.trans k3).trans k4).trans k5
  have b5 := k25.heap b1 (by omega)
  have kk5 := kk1.trans k25
  simp (maxSteps := 1000000) (disch := omega) only [genAll, decAll, tk_nil, st36]
  refine ck76 (wholeS_any (s := (x.1, y.1, z.1, txt u.1)) h5 (fun hz w6 q6 => ?_) (fun hz w6 q6 => ?_))
  · rw [if_pos hz] at hK
    refine retStm (s := (x.1, y.1, z.1, txt u.1)) (q6.heap b5 (fun h => h)) (fun w7 k7 => ?_)
    exact hK _ ((h5.chg q6 (fun h => h) (fun _ _ h => h)).chg k7 (by omega) (fun k hk => by have := hD k hk; omega)) (refUp (refUp kk5 q6 (fun _ h => h.elim)) k7 (fun k hk => by omega))
  · rw [if_neg hz] at hK
    refine retStm (s := s0) (q6.heap b5 (fun h => h)) (fun w7 k7 => ?_)
    exact hK _ ((h5.chg q6 (fun h => h) (fun _ _ h => h)).chg k7 (by omega) (fun k hk => by have := hD k hk; omega)) (refUp (refUp kk5 q6 (fun _ h => h.elim)) k7 (fun k hk => by omega))
end Go.Proofs.YtpjeohellehgjaaGreatDoor
end

section
/- Rows out of bytes: the program's. Condition: the bytes lie there, at most a million. -/
set_option linter.unusedVariables false
set_option linter.unusedSimpArgs false
set_option maxRecDepth 100000
namespace Go.Proofs.YtpjeohellehgjaaGreatDoor
open Go.RowKit Go.Cn Go.Cn.Num
theorem infoAW : (Tryz.prog.info? 64).map (fun i => (i.zero, i.size, i.bytes)) = some (some (.agg #[.string ByteArray.empty, .int .i64 0, .int .i64 0, .string ByteArray.empty, .slice none 0 0]), 5, 72) := by kernel_rfl
theorem tyAW : ElemTy Tryz.prog 24 64 (.agg #[.string ByteArray.empty, .int .i64 0, .int .i64 0, .string ByteArray.empty, .slice none 0 0]) 5 72 := ElemTy.mk' Tryz.underlying24 infoAW rfl (by decide)
theorem infoRW : (Tryz.prog.info? 26).map (fun i => (i.zero, i.size, i.bytes)) = some (some (.agg #[.string ByteArray.empty, .int .i64 0, .int .i64 0, .int .i64 0, .string ByteArray.empty, .slice none 0 0]), 6, 80) := by kernel_rfl
theorem tyRW : ElemTy Tryz.prog 43 26 (.agg #[.string ByteArray.empty, .int .i64 0, .int .i64 0, .int .i64 0, .string ByteArray.empty, .slice none 0 0]) 6 80 := ElemTy.mk' Tryz.underlying43 infoRW rfl (by decide)
theorem att_one {h : AttH} : ∀ v ∈ ([.string h.1, .int .i64 h.2.1.1, .int .i64 h.2.1.2.1, .string h.2.1.2.2.1, .slice h.2.2.1 h.2.1.2.2.2.length h.2.2.2] : List Value), v.oneCell' = true := by
  intro u hu; simp at hu; rcases hu with rfl | rfl | rfl | rfl | rfl <;> rfl
theorem retAtt {b : Nat} {h : AttH} {a1 a2 a3 a4 a5 : Value} {t : TypeId} {w : World} {K : Value → World → Prop} (hb : w.heap[b]? = some (.cells #[a1, a2, a3, a4, a5] t (0, 0)))
    (hK : ∀ w', Chg (fun k => k = b) w w' → K (attV h) w') :
    StoreK Tryz.prog 64 (.pointer (some ⟨b, 0, none⟩)) (attV h) (@Cn.hid _ ⟨fun _ w2 => LoadK Tryz.prog 64 (.pointer (some ⟨b, 0, none⟩)) (@Cn.hid _ ⟨fun c3 w3 => w3 = w2 ∧ K c3 w2⟩) w2⟩) w := by
  refine aggStore5 hb rfl (by kernel_rfl) att_one (fun w' b8 k8 => ?_)
  obtain ⟨y0, y1, y2, y3, y4⟩ := cell5 b8
  simp only [genAll, kld64, y0, y1, y2, y3, y4]
  exact hK _ k8
set_option maxHeartbeats 2000000 in
theorem takeA_any {g : Nat} {e : Int} {r : List UInt8} {D : Option Nat} {w : World} {K : Value → World → Prop} (h : DecAt w g e r D) (hr : r.length ≤ 1000000) (hD : ∀ k, D = some k → k < w.heap.size)
    (hK : ∀ B d w', DecAt w' g (attD e r).2.1 (attD e r).2.2 D → Reads w' B (ints (attD e r).1.2.2.2.2) → ((attD e r).1.2.2.2.2 ≠ [] → ∀ ad, B = some ad → w.heap.size ≤ ad.block) → Chg (fun k => k = g) w w' → K (attV ((attD e r).1.1, (attD e r).1.2, B, d)) w') : CallK Tryz.prog 79 #[.pointer (some ⟨g, 0, none⟩)] K w := by
  refine F79_calls _ _ _ ?_; unfold F79
  have hgl := DecAt.lt h
  obtain ⟨q1, b1, e1⟩ := newb w #[.string ByteArray.empty, .int .i64 0, .int .i64 0, .string ByteArray.empty, .slice none 0 0] 64
  simp (maxSteps := 1000000) (disch := omega) only [genAll, decAll, tk_nil, st79]
  generalize (w.alloc (.cells #[.string ByteArray.empty, .int .i64 0, .int .i64 0, .string ByteArray.empty, .slice none 0 0] 64)) = w1 at *
  have s1 := blk_lt b1
  have h1 := h.chg q1 (fun h => h) (fun _ _ h => h)
  have kk1 : Chg (fun k => k = g) w w1 := q1.mono (fun _ _ h => h.elim)
  generalize hb : w.heap.size = b at *
  have hatt : attD e r = ((txt (textD e r).1, (valD (textD e r).2.1 (textD e r).2.2).1), (valD (textD e r).2.1 (textD e r).2.2).2.1, (valD (textD e r).2.1 (textD e r).2.2).2.2) := rfl
  rw [hatt] at hK
  clear hatt
  refine ck73 (text_any h1 (by omega) ?_)
  intro w2 h2 k2
  have l2 := textD_len e r
  generalize textD e r = t at *
  have s2 := k2.size
  simp (maxSteps := 1000000) (disch := omega) only [genAll, decAll, tk_nil, st79]
  refine ck35 (takeV_any h2 (by omega) (fun k hk => by have := hD k hk; omega) ?_)
  intro B d w3 h3 r3 f3 k3
  generalize valD t.2.1 t.2.2 = v at *
  have b3 := k3.heap (k2.heap b1 (by omega)) (by omega)
  have kk3 := (kk1.trans k2).trans k3
  simp (maxSteps := 1000000) (disch := omega) only [genAll, decAll, tk_nil, st79]
  refine retAtt (h := (txt t.1, v.1, B, d)) b3 (fun w4 k4 => ?_)
  exact hK B d _ (h3.chg k4 (by omega) (fun k hk => by have := hD k hk; omega)) (r3.sep k4 (fun hx ad ha e => by
    have hx' : v.1.2.2.2 ≠ [] := fun e => hx (by rw [e]; rfl)
    have := f3 hx' ad ha
    omega)) (fun hx ad ha => by have := f3 hx ad ha; omega) (refUp kk3 k4 (fun k hk => by omega))
set_option maxHeartbeats 4000000 in
theorem takenA_any {g : Nat} {e : Int} {r : List UInt8} {D : Option Nat} {w : World} {K : Value → World → Prop} (h : DecAt w g e r D) (hr : r.length ≤ 1000000) (hD : ∀ k, D = some k → k < w.heap.size)
    (hK : ∀ hs A w', hs.map attP = (manyF attD (manyD e r 32).1.toNat (manyD e r 32).2.1 (manyD e r 32).2.2).1 → DecAt w' g (manyF attD (manyD e r 32).1.toNat (manyD e r 32).2.1 (manyD e r 32).2.2).2.1 (manyF attD (manyD e r 32).1.toNat (manyD e r 32).2.1 (manyD e r 32).2.2).2.2 D → AttsAt w' A hs → AttsSep (fun k => k < w.heap.size) A hs → Chg (fun k => k = g) w w' → K (.slice A hs.length hs.length) w') : CallK Tryz.prog 78 #[.pointer (some ⟨g, 0, none⟩), .int .i64 32, .func (.func 79) #[] #[]] K w := by
  refine F78_calls _ _ _ _ _ ?_; unfold F78
  have hgl := DecAt.lt h
  refine ck92 (many_any h (by omega) ?_)
  intro w1 h1 k1
  have hin := manyD_in e 32 r (by omega)
  have hml := manyD_len e 32 r
  generalize hm1 : (manyD e r 32).2.1 = e2 at *
  generalize hm2 : (manyD e r 32).2.2 = r2 at *
  obtain ⟨n, hn⟩ : ∃ n : Nat, (manyD e r 32).1 = n := ⟨_, (Int.toNat_of_nonneg hin.1).symm⟩
  rw [hn] at hin hK ⊢
  rw [Int.toNat_natCast] at hK
  clear hn hm1 hm2
  generalize hb : w.heap.size = b at *
  refine loopK2 (fun u v w' => ∃ (i : Nat) (A : Option Addr) (c : Nat) (F : Option Nat) (hs : List AttH), v = .int .i64 i ∧ i ≤ n ∧ u = .slice A i c ∧ hs.map attP = (manyF attD i e2 r2).1 ∧ hs.length = i ∧ DecAt w' g (manyF attD i e2 r2).2.1 (manyF attD i e2 r2).2.2 D ∧ Own w' 64 5 (.slice A i c) i (hs.flatMap attC) F ∧ ListsAt w' hs ∧ ListsSep (fun k => k < b ∨ F = some k) hs ∧ (∀ k, F = some k → b ≤ k) ∧ Chg (fun k => k = g) w w') (fun _ v _ => n - (intOf v).toNat) ⟨0, none, 0, none, [], rfl, by omega, rfl, rfl, rfl, h1, Own.nil _ _ _, fun _ h => (by cases h), fun _ h => (by cases h), fun _ h => (by cases h), k1⟩ ?_
  rintro _ _ _ w2 ⟨i, A, c, F, hs, rfl, hi, rfl, hmap, hlen, h2, o2, l2, ls2, hF, k2⟩
  have hrest := manyF_rest attD attD_len i e2 r2
  have s2 := k2.size
  by_cases hlt : i < n
  · have hms : manyF attD (i + 1) e2 r2 = ((manyF attD i e2 r2).1 ++ [(attD (manyF attD i e2 r2).2.1 (manyF attD i e2 r2).2.2).1], (attD (manyF attD i e2 r2).2.1 (manyF attD i e2 r2).2.2).2.1, (attD (manyF attD i e2 r2).2.1 (manyF attD i e2 r2).2.2).2.2) := rfl
    generalize manyF attD i e2 r2 = m at *
    simp (maxSteps := 1000000) (disch := omega) only [genAll, decAll, tk_nil, st78]
    refine ck79 (takeA_any h2 (by omega) (fun k hk => by have := hD k hk; omega) ?_)
    intro B d w3 h3 r3 f3 k3
    generalize attD m.2.1 m.2.2 = x at *
    have o3 := o2.chg k3 (fun k hk e => by have := hF k hk; omega)
    have l3 := l2.sep k3 (ls2.mono (fun k hk => .inl (by omega)))
    have F2 : ∀ k, F = some k → k < w2.heap.size := fun k hk => o2.lt hk
    obtain ⟨q4, b4, e4⟩ := newb w3 #[.string x.1.1, .int .i64 x.1.2.1, .int .i64 x.1.2.2.1, .string x.1.2.2.2.1, .slice B x.1.2.2.2.2.length d] 64
    obtain ⟨A5, c5, F5, w5, p5, o5, k5, f5⟩ := pushN_run (P := Tryz.prog) tyAW (o3.chg q4 (fun _ _ h => h)) (attC ((x.1.1, x.1.2, B, d) : AttH)) rfl (attC_one _) b4 (by omega) (by omega) 24
    simp (maxSteps := 1000000) (disch := omega) only [genAll, decAll, tk_nil, st78]
    have h4 := h3.chg q4 (fun h => h) (fun _ _ h => h)
    have l4 := l3.quiet q4
    have r4 := r3.quiet q4
    have s3 := k3.size
    have s4 := q4.size
    generalize (w3.alloc (.cells #[.string x.1.1, .int .i64 x.1.2.1, .int .i64 x.1.2.2.1, .string x.1.2.2.2.1, .slice B x.1.2.2.2.2.length d] 64)) = w4 at *
    refine appK p5 ?_
    have k04 := refUp (k2.trans k3) q4 (fun _ h => h.elim)
    have k05 := refUp k04 k5 (fun k hk => by have := hF k hk; omega)
    have h5 := h4.chg k5 (fun e => by have := hF _ e; omega) (fun k hk e => by have := hD k hk; have := hF k e; omega)
    have l5 := l4.sep k5 (ls2.mono (fun k hk => .inr hk))
    have r5 := r4.sep k5 (fun hx ad ha e => by
      have hx' : x.1.2.2.2.2 ≠ [] := fun e => hx (by rw [e]; rfl)
      have := f3 hx' ad ha
      have := F2 _ e
      omega)
    have f5' : ∀ k, F5 = some k → F = some k ∨ w4.heap.size ≤ k := fun k hk => (f5 k hk).elim .inl (fun e => .inr (by omega))
    have hF5 : ∀ k, F5 = some k → b ≤ k := fun k hk => (f5 k hk).elim (hF k) (fun e => by omega)
    have ls5 : ListsSep (fun k => k < b ∨ F5 = some k) (hs ++ [((x.1.1, x.1.2, B, d) : AttH)]) := by
      refine ListsSep.app ((ls2.or (l4.low (S := fun k => w4.heap.size ≤ k) (fun _ h => h))).mono (fun k hk => hk.elim (fun e => .inl (.inl e)) (fun e => (f5' k e).elim (fun e => .inl (.inr e)) .inr))) ?_
      intro a ha
      have : a = (x.1.1, x.1.2, B, d) := by simpa using ha
      subst this
      intro hx ad had e
      have hx' : x.1.2.2.2.2 ≠ [] := fun e => hx (by rw [e]; rfl)
      have h1 := f3 hx' ad had
      have h2 := r4.low ad had hx
      rcases e with e | e
      · omega
      · rcases f5' _ e with e | e
        · have := F2 _ e; omega
        · omega
    simp (maxSteps := 1000000) (disch := omega) only [genAll, decAll, tk_nil, st78]
    refine ⟨⟨i + 1, A5, c5, F5, hs ++ [(x.1.1, x.1.2, B, d)], by go_num, by omega, rfl, ?_, by simp [hlen], by rw [hms]; exact h5, ?_, ?_, ls5, hF5, k05⟩, by simp [rel, intOf]; omega⟩
    · rw [hms, List.map_append, hmap]; rfl
    · rw [List.flatMap_append]; simpa using o5
    · exact l5.app (fun a ha => by
        have : a = (x.1.1, x.1.2, B, d) := by simpa using ha
        subst this; exact r5)
  · obtain rfl : i = n := by omega
    simp (maxSteps := 1000000) (disch := omega) only [genAll, decAll, tk_nil, st78]
    refine ck100 (clipA_any o2 ?_)
    simp (maxSteps := 1000000) (disch := omega) only [genAll, decAll, tk_nil, st78]
    subst hlen
    have hfr := own_block o2 hF
    exact hK hs A w2 hmap h2 ⟨reads_own o2, l2⟩ ⟨fun _ ad ha e => by have := hfr ad ha; omega, ls2.mono (fun k hk => .inl hk)⟩ k2
set_option maxHeartbeats 4000000 in
theorem takeR_any {g : Nat} {e : Int} {r : List UInt8} {D : Option Nat} {w : World} {K : Value → World → Prop} (h : DecAt w g e r D) (hr : r.length ≤ 1000000) (hD : ∀ k, D = some k → k < w.heap.size)
    (hK : ∀ hs A c w', hs.map attP = (rowD e r).1.2.2 → DecAt w' g (rowD e r).2.1 (rowD e r).2.2 D → AttsAt w' A hs → AttsSep (fun k => k < w.heap.size) A hs → Chg (fun k => k = g) w w' → K (rowV (rowD e r).1.1 (rowD e r).1.2.1 A hs.length c) w') : CallK Tryz.prog 37 #[.pointer (some ⟨g, 0, none⟩)] K w := by
  refine F37_calls _ _ _ ?_; unfold F37
  have hgl := DecAt.lt h
  obtain ⟨q1, b1, e1⟩ := newb w #[.string ByteArray.empty, .int .i64 0, .int .i64 0, .int .i64 0, .string ByteArray.empty, .slice none 0 0] 26
  simp (maxSteps := 1000000) (disch := omega) only [genAll, decAll, tk_nil, st37]
  generalize (w.alloc (.cells #[.string ByteArray.empty, .int .i64 0, .int .i64 0, .int .i64 0, .string ByteArray.empty, .slice none 0 0] 26)) = w1 at *
  have s1 := blk_lt b1
  have h1 := h.chg q1 (fun h => h) (fun _ _ h => h)
  have kk1 : Chg (fun k => k = g) w w1 := q1.mono (fun _ _ h => h.elim)
  generalize hb : w.heap.size = b at *
  have hrow : rowD0 e r = ((txt (textD e r).1, (stmD (textD e r).2.1 (textD e r).2.2).1, (manyF attD (manyD (stmD (textD e r).2.1 (textD e r).2.2).2.1 (stmD (textD e r).2.1 (textD e r).2.2).2.2 32).1.toNat (manyD (stmD (textD e r).2.1 (textD e r).2.2).2.1 (stmD (textD e r).2.1 (textD e r).2.2).2.2 32).2.1 (manyD (stmD (textD e r).2.1 (textD e r).2.2).2.1 (stmD (textD e r).2.1 (textD e r).2.2).2.2 32).2.2).1), (manyF attD (manyD (stmD (textD e r).2.1 (textD e r).2.2).2.1 (stmD (textD e r).2.1 (textD e r).2.2).2.2 32).1.toNat (manyD (stmD (textD e r).2.1 (textD e r).2.2).2.1 (stmD (textD e r).2.1 (textD e r).2.2).2.2 32).2.1 (manyD (stmD (textD e r).2.1 (textD e r).2.2).2.1 (stmD (textD e r).2.1 (textD e r).2.2).2.2 32).2.2).2.1, (manyF attD (manyD (stmD (textD e r).2.1 (textD e r).2.2).2.1 (stmD (textD e r).2.1 (textD e r).2.2).2.2 32).1.toNat (manyD (stmD (textD e r).2.1 (textD e r).2.2).2.1 (stmD (textD e r).2.1 (textD e r).2.2).2.2 32).2.1 (manyD (stmD (textD e r).2.1 (textD e r).2.2).2.1 (stmD (textD e r).2.1 (textD e r).2.2).2.2 32).2.2).2.2) := rfl
  have hvd : rowD e r = (if (rowD0 e r).2.1 = 0 then (rowD0 e r).1 else r0, (rowD0 e r).2.1, (rowD0 e r).2.2) := rfl
  rw [hvd, hrow] at hK
  clear hvd hrow
  simp only at hK
  refine ck73 (text_any h1 (by omega) ?_)
  intro w2 h2 k2
  have l2 := textD_len e r
  generalize textD e r = x at *
  have s2 := k2.size
  simp (maxSteps := 1000000) (disch := omega) only [genAll, decAll, tk_nil, st37]
  refine ck36 (takeS_any h2 (by omega) (fun k hk => by have := hD k hk; omega) ?_)
  intro w3 h3 k3
  have l3 := stmD_len x.2.1 x.2.2
  generalize stmD x.2.1 x.2.2 = y at *
  have s3 := k3.size
  simp (maxSteps := 1000000) (disch := omega) only [genAll, decAll, tk_nil, st37]
  refine ck78 (takenA_any h3 (by omega) (fun k hk => by have := hD k hk; omega) ?_)
  intro hs A w4 hmap h4 a4 as4 k4
  generalize manyF attD (manyD y.2.1 y.2.2 32).1.toNat (manyD y.2.1 y.2.2 32).2.1 (manyD y.2.1 y.2.2 32).2.2 = m at *
  have k24 := (k2.trans k3).trans k4
  have b4 := k24.heap b1 (by omega)
  have kk4 := kk1.trans k24
  have asb : AttsSep (fun k => k < b) A hs := as4.mono (fun k hk => by omega)
  have ase : AttsSep (fun k => k = b) A hs := as4.mono (fun k hk => by omega)
  simp (maxSteps := 1000000) (disch := omega) only [genAll, decAll, tk_nil, st37]
  refine ck77 (wholeR_any (key := txt x.1) (s := y.1) (A := A) (n := hs.length) (c := hs.length) h4 (fun hz w5 q5 => ?_) (fun hz w5 q5 => ?_))
  · rw [if_pos hz] at hK
    refine retRow (key := txt x.1) (s := y.1) (q5.heap b4 (fun h => h)) (fun w6 k6 => ?_)
    exact hK hs A _ _ hmap ((h4.chg q5 (fun h => h) (fun _ _ h => h)).chg k6 (by omega) (fun k hk => by have := hD k hk; omega)) ((a4.quiet q5).sep k6 ase) asb (refUp (refUp kk4 q5 (fun _ h => h.elim)) k6 (fun k hk => by omega))
  · rw [if_neg hz] at hK
    refine retRow (key := ByteArray.empty) (s := s0) (q5.heap b4 (fun h => h)) (fun w6 k6 => ?_)
    exact hK [] none 0 _ rfl ((h4.chg q5 (fun h => h) (fun _ _ h => h)).chg k6 (by omega) (fun k hk => by have := hD k hk; omega)) ⟨.inl rfl, fun _ h => by cases h⟩ ⟨fun h => absurd rfl h, fun _ h => by cases h⟩ (refUp (refUp kk4 q5 (fun _ h => h.elim)) k6 (fun k hk => by omega))
end Go.Proofs.YtpjeohellehgjaaGreatDoor
end

section
/- A decoder made of bytes. -/
set_option linter.unusedVariables false
set_option linter.unusedSimpArgs false
set_option maxRecDepth 100000
namespace Go.Proofs.YtpjeohellehgjaaGreatDoor
open Go.RowKit Go.Cn Go.Cn.Num
theorem of_any2 {l : List UInt8} {A : Option Addr} {c : Nat} {w : World} {K : Value → World → Prop} (hr : Reads w A (l.map vb)) (hl : l.length ≤ 10000000)
    (hK : ∀ g D w', DecAt w' g 0 l D → Qt w w' → w.heap.size ≤ g → (∀ k, D = some k → w.heap.size ≤ k ∧ k < w'.heap.size) → K (.pointer (some ⟨g, 0, none⟩)) w') : CallK Tryz.prog 34 #[.slice A l.length c] K w := by
  refine F34_calls _ _ _ ?_; unfold F34
  refine ck71 (clone_any hr hl ?_)
  intro A1 c1 F1 w1 o1 q1 f1
  simp (maxSteps := 1000000) (disch := omega) only [genAll, decAll, tk_nil, st34]
  obtain ⟨A', c', hv, hc1, hc2⟩ := o1.shape
  cases hv
  have hc := (Chg.refl (fun _ => False) w1).alloc (.cells #[.slice A1 l.length c1, .int .i64 0] 125)
  refine hK _ F1 _ ⟨A1, c1, blk_new _ _, Reads.of_own (o1.chg hc (fun _ _ h => h)), hc1, hc2, fun ad e => ?_, fun e => ?_, fun e => ?_⟩ (q1.trans hc) q1.size (fun k hk => ⟨f1 k hk, by have := o1.lt hk; simp; omega⟩)
  · subst e
    rcases o1 with ⟨hv, _⟩ | ⟨g, cap, hv, hF, _⟩
    · cases hv
    · injection hv with e1 e2 e3
      injection e1 with e1
      subst e1
      exact ⟨hF, rfl⟩
  · obtain ⟨h1, h2⟩ := (own_clip o1).1 e
    exact ⟨List.eq_nil_of_length_eq_zero h1, h2⟩
  · have := o1.lt e
    omega
end Go.Proofs.YtpjeohellehgjaaGreatDoor
end

section
/- A row, rows out of sealed bytes: the program's. Condition: the bytes lie there, at most a hundred thousand... -/
set_option linter.unusedVariables false
set_option linter.unusedSimpArgs false
set_option maxRecDepth 100000
namespace Go.Proofs.YtpjeohellehgjaaGreatDoor
open Go.RowKit Go.Cn Go.Cn.Num
theorem rowsSep_push {S : Nat → Prop} {F F4 : Option Nat} {w3 : World} {A : Option Addr} {hs : List AttH} (h : AttsSep (fun k => S k ∨ F = some k) A hs) (ha : AttsAt w3 A hs) (f4 : ∀ k, F4 = some k → F = some k ∨ w3.heap.size ≤ k) : AttsSep (fun k => S k ∨ F4 = some k) A hs :=
  (h.or (ha.low (S := fun k => w3.heap.size ≤ k) (fun _ h => h))).mono (fun k hk => hk.elim (fun e => .inl (.inl e)) (fun e => (f4 k e).elim (fun e => .inl (.inr e)) .inr))
set_option maxHeartbeats 4000000 in
theorem takenR_any {g : Nat} {e : Int} {r : List UInt8} {D : Option Nat} {w : World} {K : Value → World → Prop} (h : DecAt w g e r D) (hr : r.length ≤ 1000000) (hD : ∀ k, D = some k → k < w.heap.size)
    (hK : ∀ rs A w', rs.map rowP = (rowsD e r).1 → DecAt w' g (rowsD e r).2.1 (rowsD e r).2.2 D → RowsAt w' A rs → Chg (fun k => k = g) w w' → K (.slice A rs.length rs.length) w') : CallK Tryz.prog 57 #[.pointer (some ⟨g, 0, none⟩), .int .i64 64, .func (.func 37) #[] #[]] K w := by
  refine F57_calls _ _ _ _ _ ?_; unfold F57
  have hgl := DecAt.lt h
  refine ck92 (many_any h (by omega) ?_)
  intro w1 h1 k1
  have hrows : rowsD e r = manyF rowD (manyD e r 64).1.toNat (manyD e r 64).2.1 (manyD e r 64).2.2 := rfl
  rw [hrows] at hK
  clear hrows
  have hin := manyD_in e 64 r (by omega)
  have hml := manyD_len e 64 r
  generalize hm1 : (manyD e r 64).2.1 = e2 at *
  generalize hm2 : (manyD e r 64).2.2 = r2 at *
  obtain ⟨n, hn⟩ : ∃ n : Nat, (manyD e r 64).1 = n := ⟨_, (Int.toNat_of_nonneg hin.1).symm⟩
  rw [hn] at hin hK ⊢
  rw [Int.toNat_natCast] at hK
  clear hn hm1 hm2
  generalize hb : w.heap.size = b at *
  refine loopK2 (fun u v w' => ∃ (i : Nat) (A : Option Addr) (c : Nat) (F : Option Nat) (rs : List RowH), v = .int .i64 i ∧ i ≤ n ∧ u = .slice A i c ∧ rs.map rowP = (manyF rowD i e2 r2).1 ∧ rs.length = i ∧ DecAt w' g (manyF rowD i e2 r2).2.1 (manyF rowD i e2 r2).2.2 D ∧ Own w' 26 6 (.slice A i c) i (rs.flatMap rowC) F ∧ (∀ x ∈ rs, AttsAt w' x.2.2.1 x.2.2.2.2 ∧ AttsSep (fun k => k < b ∨ F = some k) x.2.2.1 x.2.2.2.2) ∧ (∀ k, F = some k → b ≤ k) ∧ Chg (fun k => k = g) w w') (fun _ v _ => n - (intOf v).toNat) ⟨0, none, 0, none, [], rfl, by omega, rfl, rfl, rfl, h1, Own.nil _ _ _, fun _ h => (by cases h), fun _ h => (by cases h), k1⟩ ?_
  rintro _ _ _ w2 ⟨i, A, c, F, rs, rfl, hi, rfl, hmap, hlen, h2, o2, l2, hF, k2⟩
  have hrest := manyF_rest rowD rowD_len i e2 r2
  have s2 := k2.size
  by_cases hlt : i < n
  · have hms : manyF rowD (i + 1) e2 r2 = ((manyF rowD i e2 r2).1 ++ [(rowD (manyF rowD i e2 r2).2.1 (manyF rowD i e2 r2).2.2).1], (rowD (manyF rowD i e2 r2).2.1 (manyF rowD i e2 r2).2.2).2.1, (rowD (manyF rowD i e2 r2).2.1 (manyF rowD i e2 r2).2.2).2.2) := rfl
    generalize manyF rowD i e2 r2 = m at *
    simp (maxSteps := 1000000) (disch := omega) only [genAll, decAll, tk_nil, st57]
    refine ck37 (takeR_any h2 (by omega) (fun k hk => by have := hD k hk; omega) ?_)
    intro hs B d w3 hm3 h3 a3 as3 k3
    generalize rowD m.2.1 m.2.2 = x at *
    have o3 := o2.chg k3 (fun k hk e => by have := hF k hk; omega)
    have F2 : ∀ k, F = some k → k < w2.heap.size := fun k hk => o2.lt hk
    obtain ⟨q4, b4, e4⟩ := newb w3 #[.string x.1.1, .int .i64 x.1.2.1.1, .int .i64 x.1.2.1.2.1, .int .i64 x.1.2.1.2.2.1, .string x.1.2.1.2.2.2, .slice B hs.length d] 26
    obtain ⟨A5, c5, F5, w5, p5, o5, k5, f5⟩ := pushN_run (P := Tryz.prog) tyRW (o3.chg q4 (fun _ _ h => h)) (rowC ((x.1.1, x.1.2.1, B, d, hs) : RowH)) rfl (rowC_one _) b4 (by omega) (by omega) 43
    simp (maxSteps := 1000000) (disch := omega) only [genAll, decAll, tk_nil, st57]
    have h4 := h3.chg q4 (fun h => h) (fun _ _ h => h)
    have a4 := a3.quiet q4
    have s3 := k3.size
    have s4 := q4.size
    generalize (w3.alloc (.cells #[.string x.1.1, .int .i64 x.1.2.1.1, .int .i64 x.1.2.1.2.1, .int .i64 x.1.2.1.2.2.1, .string x.1.2.1.2.2.2, .slice B hs.length d] 26)) = w4 at *
    refine appK p5 ?_
    have k04 := refUp (k2.trans k3) q4 (fun _ h => h.elim)
    have k05 := refUp k04 k5 (fun k hk => by have := hF k hk; omega)
    have h5 := h4.chg k5 (fun e => by have := hF _ e; omega) (fun k hk e => by have := hD k hk; have := hF k e; omega)
    have f5' : ∀ k, F5 = some k → F = some k ∨ w4.heap.size ≤ k := fun k hk => (f5 k hk).elim .inl (fun e => .inr (by omega))
    have hF5 : ∀ k, F5 = some k → b ≤ k := fun k hk => (f5 k hk).elim (hF k) (fun e => by omega)
    have hall : ∀ y ∈ rs ++ [((x.1.1, x.1.2.1, B, d, hs) : RowH)], AttsAt w5 y.2.2.1 y.2.2.2.2 ∧ AttsSep (fun k => k < b ∨ F5 = some k) y.2.2.1 y.2.2.2.2 := by
      intro y hy
      rcases List.mem_append.1 hy with hy | hy
      · obtain ⟨y1, y2⟩ := l2 y hy
        have y3 := (y1.sep k3 (y2.mono (fun k hk => .inl (by omega)))).quiet q4
        exact ⟨y3.sep k5 (y2.mono (fun k hk => .inr hk)), rowsSep_push y2 y3 f5'⟩
      · have : y = (x.1.1, x.1.2.1, B, d, hs) := by simpa using hy
        subst this
        have y2 : AttsSep (fun k => k < b ∨ F = some k) B hs := as3.mono (fun k hk => hk.elim (fun e => by omega) (fun e => F2 k e))
        exact ⟨a4.sep k5 (y2.mono (fun k hk => .inr hk)), rowsSep_push y2 a4 f5'⟩
    simp (maxSteps := 1000000) (disch := omega) only [genAll, decAll, tk_nil, st57]
    refine ⟨⟨i + 1, A5, c5, F5, rs ++ [(x.1.1, x.1.2.1, B, d, hs)], by go_num, by omega, rfl, ?_, by simp [hlen], by rw [hms]; exact h5, ?_, hall, hF5, k05⟩, by simp [rel, intOf]; omega⟩
    · rw [hms, List.map_append, hmap]
      show _ ++ [(x.1.1, x.1.2.1, hs.map attP)] = _
      rw [hm3]
    · rw [List.flatMap_append]; simpa using o5
  · obtain rfl : i = n := by omega
    simp (maxSteps := 1000000) (disch := omega) only [genAll, decAll, tk_nil, st57]
    refine ck93 (clipR_any o2 ?_)
    simp (maxSteps := 1000000) (disch := omega) only [genAll, decAll, tk_nil, st57]
    subst hlen
    exact hK rs A w2 hmap h2 ⟨reads_own o2, fun x hx => (l2 x hx).1⟩ k2
/-- A row out of sealed bytes, whatever Check tells of it. -/
def openRowL (b : List UInt8) : RowD × Int :=
  if (openL b).1 ≠ 0 then (r0, (openL b).1) else if (rowD 0 (openL b).2).2.1 ≠ 0 then (r0, (rowD 0 (openL b).2).2.1)
  else if (rowD 0 (openL b).2).2.2 ≠ [] then (r0, 2) else ((rowD 0 (openL b).2).1, 0)
theorem decode_open (b : List UInt8) : decodeL b = if (openRowL b).2 ≠ 0 then (r0, (openRowL b).2) else if checkR (openRowL b).1 ≠ 0 then (r0, checkR (openRowL b).1) else ((openRowL b).1, 0) := by
  unfold decodeL openRowL
  by_cases h1 : (openL b).1 ≠ 0
  · rw [if_pos h1, if_pos h1, if_pos h1]
  · rw [if_neg h1, if_neg h1]
    by_cases h2 : (rowD 0 (openL b).2).2.1 ≠ 0
    · rw [if_pos h2, if_pos h2, if_pos h2]
    · rw [if_neg h2, if_neg h2]
      by_cases h3 : (rowD 0 (openL b).2).2.2 ≠ []
      · rw [if_pos h3, if_pos h3]; rfl
      · rw [if_neg h3, if_neg h3, if_neg (show ¬ ((0 : Int) ≠ 0) by simp)]
theorem openRow_small {b : List UInt8} {N : Nat} (hb : b.length ≤ N) : SmallD N (openRowL b).1 := by
  unfold openRowL
  have := openL_len b
  split
  · exact r0_small N
  · split
    · exact r0_small N
    · split
      · exact r0_small N
      · exact rowD_small (by omega)
theorem good_small {w : World} {key : ByteArray} {s : Stm} {A : Option Addr} {hs : List AttH} {N : Nat} (ha : AttsAt w A hs) (hN : N ≤ 1000000) (h : SmallD N (key, s, hs.map attP)) : RowGood w key s A hs := by
  obtain ⟨h1, h2, h3, h4⟩ := h
  refine ⟨ha, fun x hx => ?_, by simp at h3; omega⟩
  obtain ⟨g1, g2, g3⟩ := h4 (attP x) (List.mem_map_of_mem hx)
  have g1 : x.1.size ≤ N := g1
  have g2 : x.2.1.2.2.1.size ≤ N := g2
  have g3 : x.2.1.2.2.2.length ≤ 16 := g3
  exact ⟨by omega, by omega, by omega⟩
set_option maxHeartbeats 4000000 in
theorem opened_any {l : List UInt8} {A : Option Addr} {c : Nat} {w : World} {K : Value → World → Prop} (hr : Reads w A (l.map vb)) (hl : l.length ≤ 1000000) (hc : l.length ≤ c)
    (hK : ∀ hs A' c' w', hs.map attP = (openRowL l).1.2.2 → AttsAt w' A' hs → AttsSep (fun k => k < w.heap.size) A' hs → Qt w w' → K (.tuple #[rowV (openRowL l).1.1 (openRowL l).1.2.1 A' hs.length c', .int .i64 (openRowL l).2]) w') : CallK Tryz.prog 47 #[.slice A l.length c, .func (.func 37) #[] #[]] K w := by
  refine F47_calls _ _ _ _ ?_; unfold F47
  obtain ⟨q1, b1, e1⟩ := newb w #[.string ByteArray.empty, .int .i64 0, .int .i64 0, .int .i64 0, .string ByteArray.empty, .slice none 0 0] 26
  simp (maxSteps := 1000000) (disch := omega) only [genAll, decAll, tk_nil, st47]
  generalize (w.alloc (.cells #[.string ByteArray.empty, .int .i64 0, .int .i64 0, .int .i64 0, .string ByteArray.empty, .slice none 0 0] 26)) = w1 at *
  obtain ⟨q2, b2, e2⟩ := newb w1 #[.string ByteArray.empty, .int .i64 0, .int .i64 0, .int .i64 0, .string ByteArray.empty, .slice none 0 0] 26
  rw [e1] at b2
  have b12 := q2.heap b1 (fun h => h)
  generalize (w1.alloc (.cells #[.string ByteArray.empty, .int .i64 0, .int .i64 0, .int .i64 0, .string ByteArray.empty, .slice none 0 0] 26)) = w2 at *
  have q02 := q1.trans q2
  have s2 := blk_lt b2
  generalize hb : w.heap.size = b at *
  refine ck91 (open_any (hr.quiet q02) (by omega) hc ?_)
  intro A3 n3 c3 w3 hn3 r3 q3
  subst hn3
  have q03 := q02.trans q3
  have b13 := q3.heap b12 (fun h => h)
  have b23 := q3.heap b2 (fun h => h)
  have s3 := q3.size
  have hol := openL_len l
  unfold openRowL at hK
  generalize openL l = x at *
  by_cases h1 : x.1 = 0
  case neg =>
    have ez : (x.1 != 0) = true := by rw [bne_iff_ne]; exact h1
    rw [if_pos h1] at hK
    obtain ⟨x0, x1, x2, x3, x4, x5⟩ := cell6 b23
    simp (maxSteps := 1000000) (disch := omega) only [genAll, decAll, tk_nil, st47, ez, x0, x1, x2, x3, x4, x5]
    refine retRow (key := ByteArray.empty) (s := s0) (A := none) (n := 0) (c := 0) (K := fun c w => K (.tuple #[c, .int .i64 x.1]) w) b13 (fun w4 k4 => ?_)
    exact hK [] none 0 _ rfl ⟨.inl rfl, fun _ h => by cases h⟩ ⟨fun h => absurd rfl h, fun _ h => by cases h⟩ (Qt.then q03 k4 (fun k hk => by omega))
  have ez : (x.1 != 0) = false := by rw [h1]; rfl
  rw [if_neg (fun h => h h1)] at hK
  simp (maxSteps := 1000000) (disch := omega) only [genAll, decAll, tk_nil, st47, ez]
  refine ck34 (of_any2 r3 (by omega) ?_)
  intro g D w4 h4 q4 hg hD
  have q04 := q03.trans q4
  have b14 := q4.heap b13 (fun h => h)
  have b24 := q4.heap b23 (fun h => h)
  have s4 := q4.size
  simp (maxSteps := 1000000) (disch := omega) only [genAll, decAll, tk_nil, st47]
  refine ck37 (takeR_any h4 (by omega) (fun k hk => (hD k hk).2) ?_)
  intro hs B d w5 hm5 h5 a5 as5 k5
  have q05 : Qt w w5 := Qt.then q04 k5 (fun k hk => by omega)
  have b15 := k5.heap b14 (by omega)
  have b25 := k5.heap b24 (by omega)
  have s5 := k5.size
  generalize rowD 0 x.2 = m at *
  obtain ⟨q6, b6, e6⟩ := newb w5 #[.string m.1.1, .int .i64 m.1.2.1.1, .int .i64 m.1.2.1.2.1, .int .i64 m.1.2.1.2.2.1, .string m.1.2.1.2.2.2, .slice B hs.length d] 26
  simp (maxSteps := 1000000) (disch := omega) only [genAll, decAll, tk_nil, st47]
  have h6 := h5.chg q6 (fun h => h) (fun _ _ h => h)
  have a6 := a5.quiet q6
  have b16 := q6.heap b15 (fun h => h)
  have b26 := q6.heap b25 (fun h => h)
  have q06 := q05.trans q6
  generalize (w5.alloc (.cells #[.string m.1.1, .int .i64 m.1.2.1.1, .int .i64 m.1.2.1.2.1, .int .i64 m.1.2.1.2.2.1, .string m.1.2.1.2.2.2, .slice B hs.length d] 26)) = w6 at *
  refine ck40 (err_any h6 ?_)
  by_cases h2 : m.2.1 = 0
  case neg =>
    have ez : (m.2.1 != 0) = true := by rw [bne_iff_ne]; exact h2
    rw [if_pos h2] at hK
    simp (maxSteps := 1000000) (disch := omega) only [genAll, decAll, tk_nil, st47, ez]
    have qd : Qt w6 w6.drew := Qt.drew Qt.refl
    have h6d := h6.chg qd (fun h => h) (fun _ _ h => h)
    have b16d := qd.heap b16 (fun h => h)
    refine drawC (fun k => k = b) w6 (qd.mono (fun _ _ h => h.elim)) ?_
    have q0d := q06.trans qd
    have hXd : Chg (fun k => k = b) w6 w6.drew := qd.mono (fun _ _ h => h.elim)
    generalize w6.drew = wd at *
    have X : ∀ w', Chs (fun k => k = b) w6 w' → w'.cell? ⟨b + 1, 0, none⟩ = some (.string ByteArray.empty) ∧ w'.cell? ⟨b + 1, 0 + 1, none⟩ = some (.int .i64 0) ∧ w'.cell? ⟨b + 1, 0 + 2, none⟩ = some (.int .i64 0) ∧ w'.cell? ⟨b + 1, 0 + 3, none⟩ = some (.int .i64 0) ∧ w'.cell? ⟨b + 1, 0 + 4, none⟩ = some (.string ByteArray.empty) ∧ w'.cell? ⟨b + 1, 0 + 5, none⟩ = some (.slice none 0 0) := fun w' q => cell6 (Chg.heap q b26 (by omega))
    simp (maxSteps := 1000000) (disch := omega) only [genAll, decAll, tk_nil, st47, qkld26 X]
    refine ⟨?_, trivial⟩
    refine ck40 (err_any h6d ?_)
    simp (maxSteps := 1000000) (disch := omega) only [genAll, decAll, tk_nil, st47]
    refine ⟨hXd, ?_, trivial⟩
    refine aggStore6 b16d rfl (by kernel_rfl) (row_one (key := ByteArray.empty) (s := s0) (A := none) (n := 0) (c := 0)) (fun w7 b7 k7 => ?_)
    obtain ⟨y0, y1, y2, y3, y4, y5⟩ := cell6 b7
    simp (maxSteps := 1000000) (disch := omega) only [genAll, decAll, tk_nil, st47, y0, y1, y2, y3, y4, y5]
    refine ⟨hXd.trans k7, ?_⟩
    exact hK [] none 0 _ rfl ⟨.inl rfl, fun _ h => by cases h⟩ ⟨fun h => absurd rfl h, fun _ h => by cases h⟩ (Qt.then q0d k7 (fun k hk => by omega))
  have ez : (m.2.1 != 0) = false := by rw [h2]; rfl
  rw [if_neg (fun h => h h2)] at hK
  simp (maxSteps := 1000000) (disch := omega) only [genAll, decAll, tk_nil, st47, ez]
  refine ck39 (left_any h6 ?_)
  by_cases h3 : m.2.2 = []
  · rw [if_neg (fun h => h h3)] at hK
    have hlf : ¬ (0 < leftD m.2.1 m.2.2) := fun h => (left_pos h2).1 h h3
    obtain ⟨x0, x1, x2, x3, x4, x5⟩ := cell6 b6
    simp (maxSteps := 1000000) (disch := omega) only [genAll, decAll, tk_nil, st47, x0, x1, x2, x3, x4, x5]
    refine retRow (key := m.1.1) (s := m.1.2.1) (A := B) (n := hs.length) (c := d) (K := fun c w => K (.tuple #[c, .int .i64 0]) w) b16 (fun w7 k7 => ?_)
    exact hK hs B d _ hm5 (a6.sep k7 (as5.mono (fun k hk => by omega))) (as5.mono (fun k hk => by omega)) (Qt.then q06 k7 (fun k hk => by omega))
  · rw [if_pos h3] at hK
    have hlf : 0 < leftD m.2.1 m.2.2 := (left_pos h2).2 h3
    obtain ⟨x0, x1, x2, x3, x4, x5⟩ := cell6 b26
    simp (maxSteps := 1000000) (disch := omega) only [genAll, decAll, tk_nil, st47, x0, x1, x2, x3, x4, x5]
    refine retRow (key := ByteArray.empty) (s := s0) (A := none) (n := 0) (c := 0) (K := fun c w => K (.tuple #[c, .int .i64 2]) w) b16 (fun w7 k7 => ?_)
    exact hK [] none 0 _ rfl ⟨.inl rfl, fun _ h => by cases h⟩ ⟨fun h => absurd rfl h, fun _ h => by cases h⟩ (Qt.then q06 k7 (fun k hk => by omega))
end Go.Proofs.YtpjeohellehgjaaGreatDoor
end

section
/- Rows out of sealed bytes and what tells of them: the program's. Conditions: the bytes lie there, at most twenty thousand. -/
set_option linter.unusedVariables false
set_option linter.unusedSimpArgs false
set_option maxRecDepth 100000
namespace Go.Proofs.YtpjeohellehgjaaGreatDoor
open Go.RowKit Go.Cn Go.Cn.Num
/-- A row that Check takes. -/
def OkH (r : RowH) : Prop := (∀ h ∈ r.2.2.2.2, AttSz h) ∧ r.2.2.2.2.length ≤ 9223372036854775807 ∧ r.2.1.2.2.2.size ≤ 20000
theorem OkH.good {w : World} {r : RowH} (h : OkH r) (ha : AttsAt w r.2.2.1 r.2.2.2.2) : RowGood w r.1 r.2.1 r.2.2.1 r.2.2.2.2 := ⟨ha, h.1, h.2.1⟩
theorem okH_owner {r : RowH} (h : SmallD 1000000 (rowP r)) (ho : (rowP r).2.1.2.2.2.size ≤ 20000) : OkH r := by
  obtain ⟨h1, h2, h3, h4⟩ := h
  refine ⟨fun x hx => ?_, ?_, ho⟩
  · obtain ⟨g1, g2, g3⟩ := h4 (attP x) (List.mem_map_of_mem hx)
    have g1 : x.1.size ≤ 1000000 := g1
    have g2 : x.2.1.2.2.1.size ≤ 1000000 := g2
    have g3 : x.2.1.2.2.2.length ≤ 16 := g3
    exact ⟨by omega, by omega, by omega⟩
  · have h3 : (r.2.2.2.2.map attP).length ≤ 32 := h3
    rw [List.length_map] at h3
    omega
theorem okH_of {r : RowH} {N : Nat} (hN : N ≤ 20000) (h : SmallD N (rowP r)) : OkH r := by
  obtain ⟨h1, h2, h3, h4⟩ := h
  refine ⟨fun x hx => ?_, ?_, ?_⟩
  · obtain ⟨g1, g2, g3⟩ := h4 (attP x) (List.mem_map_of_mem hx)
    have g1 : x.1.size ≤ N := g1
    have g2 : x.2.1.2.2.1.size ≤ N := g2
    have g3 : x.2.1.2.2.2.length ≤ 16 := g3
    exact ⟨by omega, by omega, by omega⟩
  · have h3 : (r.2.2.2.2.map attP).length ≤ 32 := h3
    rw [List.length_map] at h3
    omega
  · have h2 : r.2.1.2.2.2.size ≤ N := h2
    omega
set_option maxHeartbeats 1000000 in
theorem rightG_any {rs : List RowH} {A : Option Addr} {c : Nat} {w : World} {K : Value → World → Prop} (ha : RowsAt w A rs) (hs : ∀ r ∈ rs, OkH r) (hm : MaxAt w)
    (hK : ∀ w', Qt w w' → K (.int .i64 (rightR (rs.map rowP))) w') : CallK Tryz.prog 50 #[.slice A rs.length c] K w := by
  refine F50_calls _ _ _ ?_; unfold F50
  unfold rightR at hK
  rw [List.length_map] at hK
  by_cases h64 : 64 < rs.length
  · rw [if_pos h64] at hK
    simp (maxSteps := 1000000) (disch := omega) only [genAll, decAll, tk_nil, st50]
    exact hK w Qt.refl
  rw [if_neg h64] at hK
  simp (maxSteps := 1000000) (disch := omega) only [genAll, decAll, tk_nil, st50]
  refine loopK1 (fun v w' => ∃ i : Nat, v = .int .i64 i ∧ i ≤ rs.length ∧ badR (rs.map rowP) = badR ((rs.map rowP).drop i) ∧ Qt w w') (fun v _ => rs.length - (intOf v).toNat) ⟨0, rfl, by omega, rfl, Qt.refl⟩ ?_
  rintro _ _ w1 ⟨i, rfl, hi, hlo, q1⟩
  by_cases hlt : i < rs.length
  · rw [badR_at (by rw [List.length_map]; exact hlt), rowP_getD] at hlo
    obtain ⟨g, o, rfl, z0, z1, z2, z3, z4, z5⟩ := row_at (ha.1.quiet q1) hlt
    have hsm := hs _ (getD_mem hlt)
    have hg := (hsm.good (ha.get hlt)).quiet q1
    generalize rs.getD i default = r at *
    obtain ⟨key, s, B, d, hs'⟩ := r
    simp only at z0 z1 z2 z3 z4 z5 hg
    obtain ⟨q2, h2, s2⟩ := newb w1 #[.string key, .int .i64 s.1, .int .i64 s.2.1, .int .i64 s.2.2.1, .string s.2.2.2, .slice B hs'.length d] 26
    simp (maxSteps := 1000000) (disch := omega) only [genAll, decAll, tk_nil, st50, z0, z1, z2, z3, z4, z5]
    generalize (w1.alloc (.cells #[.string key, .int .i64 s.1, .int .i64 s.2.1, .int .i64 s.2.2.1, .string s.2.2.2, .slice B hs'.length d] 26)) = w2 at *
    obtain ⟨x0, x1, x2, x3, x4, x5⟩ := cell6 h2
    have q02 := q1.trans q2
    simp (maxSteps := 1000000) (disch := omega) only [genAll, decAll, tk_nil, st50, x0, x1, x2, x3, x4, x5]
    have ho : s.2.2.2.size ≤ 20000 := hsm.2.2
    refine ck44 (checkR_any (hg.quiet q2) ho (hm.quiet q02) ?_)
    intro w3 q3
    have e : rowP (key, s, B, d, hs') = (key, s, hs'.map attP) := rfl
    rw [e] at hlo
    generalize checkR (key, s, hs'.map attP) = x at *
    by_cases hv : x = 0
    · have e : (x != 0) = false := by rw [hv]; rfl
      rw [if_neg (fun h => h hv)] at hlo
      simp (maxSteps := 1000000) (disch := omega) only [genAll, decAll, tk_nil, st50, e]
      exact ⟨⟨i + 1, by go_num, by omega, hlo, q02.trans q3⟩, by simp [rel, intOf]; omega⟩
    · have e : (x != 0) = true := by rw [bne_iff_ne]; exact hv
      rw [if_pos hv] at hlo
      rw [hlo] at hK
      simp (maxSteps := 1000000) (disch := omega) only [genAll, decAll, tk_nil, st50, e]
      exact hK _ (q02.trans q3)
  · have e0 : (rs.map rowP).drop i = [] := List.drop_eq_nil_of_le (by rw [List.length_map]; omega)
    rw [e0] at hlo
    rw [hlo] at hK
    simp (maxSteps := 1000000) (disch := omega) only [genAll, decAll, tk_nil, st50]
    exact hK _ q1

set_option maxHeartbeats 2000000 in
theorem decode_any {l : List UInt8} {A : Option Addr} {c : Nat} {w : World} {K : Value → World → Prop} (hr : Reads w A (l.map vb)) (hl : l.length ≤ 20000) (hc : l.length ≤ c) (hm : MaxAt w)
    (hK : ∀ hs A' c' w', hs.map attP = (decodeL l).1.2.2 → AttsAt w' A' hs → Qt w w' → K (.tuple #[rowV (decodeL l).1.1 (decodeL l).1.2.1 A' hs.length c', .int .i64 (decodeL l).2]) w') : CallK Tryz.prog 13 #[.slice A l.length c] K w := by
  refine F13_calls _ _ _ ?_; unfold F13
  obtain ⟨q1, b1, e1⟩ := newb w #[.string ByteArray.empty, .int .i64 0, .int .i64 0, .int .i64 0, .string ByteArray.empty, .slice none 0 0] 26
  simp (maxSteps := 1000000) (disch := omega) only [genAll, decAll, tk_nil, st13]
  generalize (w.alloc (.cells #[.string ByteArray.empty, .int .i64 0, .int .i64 0, .int .i64 0, .string ByteArray.empty, .slice none 0 0] 26)) = w1 at *
  refine ck47 (opened_any (hr.quiet q1) (by omega) hc ?_)
  intro hs B d w2 hp a2 as2 q2
  have q02 := q1.trans q2
  have b12 := q2.heap b1 (fun h => h)
  have hsmall := openRow_small hl
  have hds := decode_open l
  generalize openRowL l = x at *
  obtain ⟨⟨key, s, ats⟩, e⟩ := x
  simp only at hp hsmall hds ⊢
  subst hp
  obtain ⟨q3, b3, e3⟩ := newb w2 #[.string key, .int .i64 s.1, .int .i64 s.2.1, .int .i64 s.2.2.1, .string s.2.2.2, .slice B hs.length d] 26
  simp (maxSteps := 1000000) (disch := omega) only [genAll, decAll, tk_nil, st13]
  generalize (w2.alloc (.cells #[.string key, .int .i64 s.1, .int .i64 s.2.1, .int .i64 s.2.2.1, .string s.2.2.2, .slice B hs.length d] 26)) = w3 at *
  have q03 := q02.trans q3
  have a3 := a2.quiet q3
  have b13 := q3.heap b12 (fun h => h)
  have hb := blk_lt b12
  obtain ⟨x0, x1, x2, x3, x4, x5⟩ := cell6 b3
  have ok : OkH (key, s, B, d, hs) := okH_of (by omega) hsmall
  refine cutK1 (fun v w' => v = .int .i64 (if e ≠ 0 then e else checkR (key, s, hs.map attP)) ∧ Qt w3 w') ?_ ?_
  · by_cases h1 : e = 0
    · have ez : (e == 0) = true := by rw [h1]; rfl
      rw [if_neg (fun h => h h1)]
      simp (maxSteps := 1000000) (disch := omega) only [genAll, decAll, tk_nil, st13, ez, x0, x1, x2, x3, x4, x5]
      exact ck44 (checkR_any (ok.good a3) ok.2.2 (hm.quiet q03) fun w4 q4 => ⟨rfl, q4⟩)
    · have ez : (e == 0) = false := by rw [beq_eq_false_iff_ne]; exact h1
      rw [if_pos h1]
      simp (maxSteps := 1000000) (disch := omega) only [genAll, decAll, tk_nil, st13, ez]
      exact ⟨rfl, Qt.refl⟩
  rintro _ _ w4 ⟨rfl, q4⟩
  have q04 := q03.trans q4
  have a4 := a3.quiet q4
  have b14 := q4.heap b13 (fun h => h)
  have b34 := q4.heap b3 (fun h => h)
  have hz : decodeL l = if (if e ≠ 0 then e else checkR (key, s, hs.map attP)) ≠ 0 then (r0, (if e ≠ 0 then e else checkR (key, s, hs.map attP))) else ((key, s, hs.map attP), 0) := by
    rw [hds]
    by_cases h1 : e = 0
    · simp [h1]
    · simp [h1]
  clear hds
  generalize (if e ≠ 0 then e else checkR (key, s, hs.map attP)) = z at *
  by_cases h2 : z = 0
  case neg =>
    have en : (z != 0) = true := by rw [bne_iff_ne]; exact h2
    rw [if_pos h2] at hz
    rw [hz] at hK
    simp (maxSteps := 1000000) (disch := omega) only [genAll, decAll, tk_nil, st13, en]
    refine retRow (key := ByteArray.empty) (s := s0) (A := none) (n := 0) (c := 0) (K := fun c w => K (.tuple #[c, .int .i64 z]) w) b14 (fun w5 k5 => ?_)
    exact hK [] none 0 _ rfl ⟨.inl rfl, fun _ h => by cases h⟩ (Qt.then q04 k5 (fun k hk => by omega))
  have en : (z != 0) = false := by rw [h2]; rfl
  rw [if_neg (fun h => h h2)] at hz
  rw [hz] at hK
  obtain ⟨y0, y1, y2, y3, y4, y5⟩ := cell6 b34
  simp (maxSteps := 1000000) (disch := omega) only [genAll, decAll, tk_nil, st13, en, y0, y1, y2, y3, y4, y5]
  refine retRow (key := key) (s := s) (A := B) (n := hs.length) (c := d) (K := fun c w => K (.tuple #[c, .int .i64 0]) w) b14 (fun w5 k5 => ?_)
  exact hK hs B d _ rfl (a4.sep k5 (as2.mono (fun k hk => by omega))) (Qt.then q04 k5 (fun k hk => by omega))
/-- Rows out of sealed bytes, whatever Check tells of them. -/
def openRowsL (b : List UInt8) : List RowD × Int :=
  if (openL b).1 ≠ 0 then ([], (openL b).1) else if (rowsD 0 (openL b).2).2.1 ≠ 0 then ([], (rowsD 0 (openL b).2).2.1)
  else if (rowsD 0 (openL b).2).2.2 ≠ [] then ([], 2) else ((rowsD 0 (openL b).2).1, 0)
theorem rows_open (b : List UInt8) : rowsL b = if (openRowsL b).2 ≠ 0 then ([], (openRowsL b).2) else if rightR (openRowsL b).1 ≠ 0 then ([], rightR (openRowsL b).1) else ((openRowsL b).1, 0) := by
  unfold rowsL openRowsL
  by_cases h1 : (openL b).1 ≠ 0
  · rw [if_pos h1, if_pos h1, if_pos h1]
  · rw [if_neg h1, if_neg h1]
    by_cases h2 : (rowsD 0 (openL b).2).2.1 ≠ 0
    · rw [if_pos h2, if_pos h2, if_pos h2]
    · rw [if_neg h2, if_neg h2]
      by_cases h3 : (rowsD 0 (openL b).2).2.2 ≠ []
      · rw [if_pos h3, if_pos h3]; rfl
      · rw [if_neg h3, if_neg h3, if_neg (show ¬ ((0 : Int) ≠ 0) by simp)]
theorem openRows_small {b : List UInt8} {N : Nat} (hb : b.length ≤ N) : ∀ x ∈ (openRowsL b).1, SmallD N x := by
  unfold openRowsL
  have := openL_len b
  split
  · exact fun _ h => by cases h
  · split
    · exact fun _ h => by cases h
    · split
      · exact fun _ h => by cases h
      · exact rowsD_small (by omega)
set_option maxHeartbeats 2000000 in
theorem openedRows_any {l : List UInt8} {A : Option Addr} {c : Nat} {w : World} {K : Value → World → Prop} (hr : Reads w A (l.map vb)) (hl : l.length ≤ 1000000) (hc : l.length ≤ c)
    (hK : ∀ rs A' w', rs.map rowP = (openRowsL l).1 → RowsAt w' A' rs → Qt w w' → K (.tuple #[.slice A' rs.length rs.length, .int .i64 (openRowsL l).2]) w') : CallK Tryz.prog 55 #[.slice A l.length c, .func (.func 56) #[] #[]] K w := by
  refine F55_calls _ _ _ _ ?_; unfold F55
  refine ck91 (open_any hr (by omega) hc ?_)
  intro A3 n3 c3 w3 hn3 r3 q3
  subst hn3
  have hol := openL_len l
  unfold openRowsL at hK
  generalize openL l = x at *
  by_cases h1 : x.1 = 0
  case neg =>
    have ez : (x.1 != 0) = true := by rw [bne_iff_ne]; exact h1
    rw [if_pos h1] at hK
    simp (maxSteps := 1000000) (disch := omega) only [genAll, decAll, tk_nil, st55, ez]
    exact hK [] none _ rfl ⟨.inl rfl, fun _ h => by cases h⟩ q3
  have ez : (x.1 != 0) = false := by rw [h1]; rfl
  rw [if_neg (fun h => h h1)] at hK
  simp (maxSteps := 1000000) (disch := omega) only [genAll, decAll, tk_nil, st55, ez]
  refine ck34 (of_any2 r3 (by omega) ?_)
  intro g D w4 h4 q4 hg hD
  have q04 := q3.trans q4
  have s3 := q3.size
  simp (maxSteps := 1000000) (disch := omega) only [genAll, decAll, tk_nil, st55]
  refine ck56 ?_
  refine F56_calls _ _ _ ?_; unfold F56
  refine ck57 (takenR_any h4 (by omega) (fun k hk => (hD k hk).2) ?_)
  intro rs B w5 hm5 h5 a5 k5
  have q05 : Qt w w5 := Qt.then q04 k5 (fun k hk => by omega)
  generalize rowsD 0 x.2 = m at *
  simp (maxSteps := 1000000) (disch := omega) only [genAll, decAll, tk_nil, st55]
  refine ck40 (err_any h5 ?_)
  by_cases h2 : m.2.1 = 0
  case neg =>
    have ez : (m.2.1 != 0) = true := by rw [bne_iff_ne]; exact h2
    rw [if_pos h2] at hK
    simp (maxSteps := 1000000) (disch := omega) only [genAll, decAll, tk_nil, st55, ez]
    refine ck40 (err_any h5 ?_)
    simp (maxSteps := 1000000) (disch := omega) only [genAll, decAll, tk_nil, st55]
    exact hK [] none _ rfl ⟨.inl rfl, fun _ h => by cases h⟩ q05
  have ez : (m.2.1 != 0) = false := by rw [h2]; rfl
  rw [if_neg (fun h => h h2)] at hK
  simp (maxSteps := 1000000) (disch := omega) only [genAll, decAll, tk_nil, st55, ez]
  refine ck39 (left_any h5 ?_)
  by_cases h3 : m.2.2 = []
  · rw [if_neg (fun h => h h3)] at hK
    have hlf : ¬ (0 < leftD m.2.1 m.2.2) := fun h => (left_pos h2).1 h h3
    simp (maxSteps := 1000000) (disch := omega) only [genAll, decAll, tk_nil, st55]
    exact hK rs B _ hm5 a5 q05
  · rw [if_pos h3] at hK
    have hlf : 0 < leftD m.2.1 m.2.2 := (left_pos h2).2 h3
    simp (maxSteps := 1000000) (disch := omega) only [genAll, decAll, tk_nil, st55]
    exact hK [] none _ rfl ⟨.inl rfl, fun _ h => by cases h⟩ q05
set_option maxHeartbeats 2000000 in
theorem rowsO_any {l : List UInt8} {A : Option Addr} {c : Nat} {w : World} {K : Value → World → Prop} (hr : Reads w A (l.map vb)) (hl : l.length ≤ 1000000) (ho : ∀ x ∈ (openRowsL l).1, x.2.1.2.2.2.size ≤ 20000) (hc : l.length ≤ c) (hm : MaxAt w)
    (hK : ∀ rs A' w', rs.map rowP = (rowsL l).1 → RowsAt w' A' rs → Qt w w' → K (.tuple #[.slice A' rs.length rs.length, .int .i64 (rowsL l).2]) w') : CallK Tryz.prog 19 #[.slice A l.length c] K w := by
  refine F19_calls _ _ _ ?_; unfold F19
  refine ck55 (openedRows_any hr (by omega) hc ?_)
  intro rs B w2 hp a2 q2
  have hsmall := openRows_small hl
  have hds := rows_open l
  generalize openRowsL l = x at *
  obtain ⟨ds, e⟩ := x
  simp only at hp hsmall hds ho ⊢
  subst hp
  have ok : ∀ r ∈ rs, OkH r := fun r hr => okH_owner (hsmall _ (List.mem_map_of_mem hr)) (ho _ (List.mem_map_of_mem hr))
  simp (maxSteps := 1000000) (disch := omega) only [genAll, decAll, tk_nil, st19]
  refine cutK1 (fun v w' => v = .int .i64 (if e ≠ 0 then e else rightR (rs.map rowP)) ∧ Qt w2 w') ?_ ?_
  · by_cases h1 : e = 0
    · have ez : (e == 0) = true := by rw [h1]; rfl
      rw [if_neg (fun h => h h1)]
      simp (maxSteps := 1000000) (disch := omega) only [genAll, decAll, tk_nil, st19, ez]
      exact ck50 (rightG_any a2 ok (hm.quiet q2) fun w4 q4 => ⟨rfl, q4⟩)
    · have ez : (e == 0) = false := by rw [beq_eq_false_iff_ne]; exact h1
      rw [if_pos h1]
      simp (maxSteps := 1000000) (disch := omega) only [genAll, decAll, tk_nil, st19, ez]
      exact ⟨rfl, Qt.refl⟩
  rintro _ _ w4 ⟨rfl, q4⟩
  have q04 := q2.trans q4
  have a4 := a2.quiet q4
  have hz : rowsL l = if (if e ≠ 0 then e else rightR (rs.map rowP)) ≠ 0 then ([], (if e ≠ 0 then e else rightR (rs.map rowP))) else (rs.map rowP, 0) := by
    rw [hds]
    by_cases h1 : e = 0
    · simp [h1]
    · simp [h1]
  clear hds
  generalize (if e ≠ 0 then e else rightR (rs.map rowP)) = z at *
  by_cases h2 : z = 0
  case neg =>
    have en : (z != 0) = true := by rw [bne_iff_ne]; exact h2
    rw [if_pos h2] at hz
    rw [hz] at hK
    simp (maxSteps := 1000000) (disch := omega) only [genAll, decAll, tk_nil, st19, en]
    exact hK [] none _ rfl ⟨.inl rfl, fun _ h => by cases h⟩ q04
  have en : (z != 0) = false := by rw [h2]; rfl
  rw [if_neg (fun h => h h2)] at hz
  rw [hz] at hK
  simp (maxSteps := 1000000) (disch := omega) only [genAll, decAll, tk_nil, st19, en]
  exact hK rs B _ rfl a4 q04
theorem rows_any {l : List UInt8} {A : Option Addr} {c : Nat} {w : World} {K : Value → World → Prop} (hr : Reads w A (l.map vb)) (hl : l.length ≤ 20000) (hc : l.length ≤ c) (hm : MaxAt w)
    (hK : ∀ rs A' w', rs.map rowP = (rowsL l).1 → RowsAt w' A' rs → Qt w w' → K (.tuple #[.slice A' rs.length rs.length, .int .i64 (rowsL l).2]) w') : CallK Tryz.prog 19 #[.slice A l.length c] K w :=
  rowsO_any hr (by omega) (fun x hx => by have := (openRows_small hl x hx).2.1; omega) hc hm hK
end Go.Proofs.YtpjeohellehgjaaGreatDoor
end

section
/- The document's Seal and Open, with their capacities. -/
set_option maxRecDepth 10000000
set_option linter.unusedVariables false
set_option linter.unusedSimpArgs false
namespace Go.Proofs.YtpjeohellehgjaaGreatDoor
open Go.RowKit Go.Cn
theorem openR2_any {b : List UInt8} {A : Option Addr} {c : Nat} {w : World} {K : Value → World → Prop} (hr : Reads w A (b.map vb)) (hl : b.length ≤ 10000000) (hc : b.length ≤ c)
    (hK : ∀ A' n' c' w', n' = (openL b).2.length → n' ≤ c' → Reads w' A' ((openL b).2.map vb) → Qt w w' → K (.tuple #[.slice A' n' c', .int .i64 (openL b).1]) w') : CallK Tryz.prog 59 #[.slice A b.length c] K w := by
  refine F59_calls _ _ _ ?_; unfold F59
  by_cases h4 : b.length < 4
  · rw [openL_short h4] at hK
    simp (maxSteps := 1000000) (disch := omega) only [genAll, decAll, tk_nil, st59]
    exact hK none 0 0 w rfl (Nat.le_refl _) (.inl rfl) Qt.refl
  obtain ⟨g, o, rfl, _⟩ := hr.all (by omega)
  have ht : ((b.length : Int) - 4).toNat = b.length - 4 := by omega
  have hlt : (b.take (b.length - 4)).length = b.length - 4 := by simp
  have hrt := reads_take hr (b.length - 4)
  simp (maxSteps := 1000000) (disch := omega) only [genAll, decAll, tk_nil, st59, ht]
  refine drawK_by (fun w' => Qt w w') (Qt.drew Qt.refl) ?_
  refine take_slice (.slice (some ⟨g, o, none⟩) (b.length - 4) c) (fun w' hq => by (simp (maxSteps := 1000000) (disch := omega) only [genAll, decAll, tk_nil, st59, ht]; try (exact ⟨trivial, trivial⟩))) ?_
  refine take_of (.string (txt b)) (fun w' hq => conv_run Tryz.underlying29 Tryz.underlying5 Tryz.underlying9 (hr.quiet hq)) ?_
  refine ⟨?_, trivial⟩
  rw [← hlt]
  refine ck21 (sealR_any (hrt.quiet (Qt.drew Qt.refl)) (by omega) ?_)
  intro A2 c2 w2 r2 q2
  have q2' : Qt w w2 := (Qt.drew Qt.refl).trans q2
  simp (maxSteps := 1000000) (disch := omega) only [genAll, decAll, tk_nil, st59]
  refine ⟨q2', ?_, trivial⟩
  refine convK Tryz.underlying29 Tryz.underlying5 Tryz.underlying9 r2 ?_
  simp (maxSteps := 1000000) (disch := omega) only [genAll, decAll, tk_nil, st59]
  refine ⟨q2', ?_⟩
  by_cases he : sealed (b.take (b.length - 4)) = b
  · rw [openL_ok h4 he] at hK
    rw [he]
    refine take_txt .neq (.bool false) (fun w' _ => by simp (maxSteps := 1000000) (disch := omega) only [genAll, decAll, tk_nil, st59, beq_self_eq_true, Bool.not_true, here_rfl]; try (exact ⟨trivial, trivial⟩)) ?_
    simp (maxSteps := 1000000) (disch := omega) only [genAll, decAll, tk_nil, st59, ht]
    have hrt2 := hrt.quiet q2'
    obtain ⟨A3, c3, F3, w3, p3, o3, k3, f3⟩ := apart_run (P := Tryz.prog) (w := w2) tyU8 (some ⟨g, o, none⟩) (b.length - 4) c ((b.take (b.length - 4)).map vb) (by simp) hrt2.src (vb_one _) (by omega) (by omega) 29
    refine appK p3 ?_
    simp (maxSteps := 1000000) (disch := omega) only [genAll, decAll, tk_nil, st59]
    refine hK A3 _ _ w3 hlt.symm ?_ (Reads.of_own o3) (q2'.trans k3)
    obtain ⟨_, _, e, h, _⟩ := o3.shape
    injection e with _ _ e
    omega
  · rw [openL_bad h4 he] at hK
    have hb : ((txt (sealed (b.take (b.length - 4)))).toList == (txt b).toList) = false := by
      rw [txt_toList, txt_toList]; exact beq_eq_false_iff_ne.2 he
    refine take_txt .neq (.bool true) (fun w' _ => by simp (maxSteps := 1000000) (disch := omega) only [genAll, decAll, tk_nil, st59, hb, Bool.not_false, here_rfl]; try (exact ⟨trivial, trivial⟩)) ?_
    simp (maxSteps := 1000000) (disch := omega) only [genAll, decAll, tk_nil, st59]
    exact hK none 0 0 w2 rfl (Nat.le_refl _) (.inl rfl) q2'
theorem sealR2_any {l : List UInt8} {A : Option Addr} {c : Nat} {w : World} {K : Value → World → Prop} (hr : Reads w A (l.map vb)) (hl : l.length ≤ 10000000)
    (hK : ∀ A' c' w', (sealed l).length ≤ c' → Reads w' A' ((sealed l).map vb) → Qt w w' → K (.slice A' (sealed l).length c') w') : CallK Tryz.prog 21 #[.slice A l.length c] K w := by
  refine F21_calls _ _ _ ?_; unfold F21
  refine ck58 (sumR_any hr hl ?_)
  have hsl : sealed l = l ++ le4 (Crc.sum l) := rfl
  generalize Crc.sum l = s at *
  simp (maxSteps := 1000000) (disch := omega) only [genAll, decAll, tk_nil, st21]
  obtain ⟨A2, c2, F2, w2, p2, o2, k2, f2⟩ := apart_run (P := Tryz.prog) (w := w) tyU8 A l.length c (l.map vb) (by simp) hr.src (vb_one l) (by omega) (by omega) 29
  refine appK p2 ?_
  simp (maxSteps := 1000000) (disch := omega) only [genAll, decAll, tk_nil, st21, leB_val0, leB_val1, leB_val2, leB_val3]
  have hc := (Chg.refl (fun _ => False) w2).alloc (.cells #[.int .u8 (leB s 0).toNat, .int .u8 (leB s 1).toNat, .int .u8 (leB s 2).toNat, .int .u8 (leB s 3).toNat] 5)
  obtain ⟨A3, c3, F3, w3, p3, o3, k3, f3⟩ := app_run (P := Tryz.prog) tyU8 (o2.chg hc (fun _ _ h => h)) (some ⟨w2.heap.size, 0, none⟩) 4 4 ((le4 s).map vb) (by simp [le4]) (by
    intro j u hj
    refine ⟨_, rfl, ?_⟩
    rw [Addr.add_lit, Nat.zero_add, blk_cell (blk_new _ _), ← hj]
    simp [le4, List.range_succ, vb]) (vb_one _) (by omega) (by omega) 29
  refine appK p3 ?_
  simp (maxSteps := 1000000) (disch := omega) only [genAll, decAll, tk_nil, st21]
  have q3 : Qt w w3 := (k2.trans hc).then k3 (fun k hk => .inr (f2 k hk))
  have hll : l.length + 4 = (sealed l).length := (seal_len l).symm
  have := Reads.of_own o3
  have hcc : (sealed l).length ≤ c3 := by
    obtain ⟨_, _, e, h, _⟩ := o3.shape
    injection e with _ _ e
    rw [← hll]; omega
  rw [hll]
  exact hK A3 c3 w3 hcc (by rw [hsl, List.map_append]; exact this) q3
end Go.Proofs.YtpjeohellehgjaaGreatDoor
end

section
/- A row, rows out of sealed bytes, and rows and a row into them: the reference's. Conditions: at most twenty thousand bytes. -/
set_option linter.unusedVariables false
set_option linter.unusedSimpArgs false
set_option maxRecDepth 100000
namespace Go.Proofs.YtpjeohellehgjaaGreatDoor
open Go.RowKit Go.Cn Go.Cn.Num
theorem ref_new {w : World} {A : Option Addr} {c : Nat} {b : List UInt8} (hr : Reads w A (b.map vb)) (hl : b.length ≤ 10000000) (hc : b.length ≤ c) :
    ∃ D, (∀ k, D = some k → k < w.heap.size) ∧ RefAt (w.alloc (.cells #[.slice A b.length c, .int .i64 0, .int .i64 0] 112)) w.heap.size 0 b D := by
  have q2 : Qt w (w.alloc (.cells #[.slice A b.length c, .int .i64 0, .int .i64 0] 112)) := Chg.alloc Qt.refl _
  by_cases hb : 0 < b.length
  · obtain ⟨g, o, rfl, hcell⟩ := hr.all hb
    have hlt := World.block_lt_of_cell? w _ (hcell 0 hb)
    refine ⟨some g, fun k hk => (by cases hk; exact hlt), _, _, b, 0, blk_new _ _, hr.quiet q2, by omega, hc, by omega, rfl, fun ad e _ => (by cases e; rfl), fun e => ?_⟩
    injection e with e
    have hlt' : g < w.heap.size := hlt
    omega
  · obtain rfl : b = [] := List.eq_nil_of_length_eq_zero (by omega)
    exact ⟨none, fun k hk => (by cases hk), _, _, [], 0, blk_new _ _, .inl rfl, by simp, by simp, by simp, rfl, fun _ _ h => absurd rfl h, fun h => (by cases h)⟩
set_option maxHeartbeats 4000000 in
theorem decodeR_any {l : List UInt8} {A : Option Addr} {c : Nat} {w : World} {K : Value → World → Prop} (hr : Reads w A (l.map vb)) (hl : l.length ≤ 20000) (hc : l.length ≤ c)
    (hK : ∀ hs A' c' w', hs.map attP = (decodeL l).1.2.2 → AttsAt w' A' hs → Qt w w' → K (.tuple #[rowV (decodeL l).1.1 (decodeL l).1.2.1 A' hs.length c', .int .i64 (decodeL l).2]) w') : CallK Tryz.prog 22 #[.slice A l.length c] K w := by
  refine F22_calls _ _ _ ?_; unfold F22
  obtain ⟨q1, b1, e1⟩ := newb w #[.string ByteArray.empty, .int .i64 0, .int .i64 0, .int .i64 0, .string ByteArray.empty, .slice none 0 0] 38
  simp (maxSteps := 1000000) (disch := omega) only [genAll, decAll, tk_nil, st22]
  generalize (w.alloc (.cells #[.string ByteArray.empty, .int .i64 0, .int .i64 0, .int .i64 0, .string ByteArray.empty, .slice none 0 0] 38)) = w1 at *
  have hb1 := blk_lt b1
  generalize hb : w.heap.size = b at *
  refine ck59 (openR2_any (hr.quiet q1) (by omega) hc ?_)
  intro A3 n3 c3 w3 hn3 hc3 r3 q3
  subst hn3
  have q03 := q1.trans q3
  have b13 := q3.heap b1 (fun h => h)
  have hol := openL_len l
  unfold decodeL at hK
  generalize openL l = x at *
  by_cases h1 : x.1 = 0
  case neg =>
    have ez : (x.1 != 0) = true := by rw [bne_iff_ne]; exact h1
    rw [if_pos h1] at hK
    simp (maxSteps := 1000000) (disch := omega) only [genAll, decAll, tk_nil, st22, ez]
    refine retRowR (key := ByteArray.empty) (s := s0) (A := none) (n := 0) (c := 0) (K := fun c w => K (.tuple #[c, .int .i64 x.1]) w) b13 (fun w4 k4 => ?_)
    exact hK [] none 0 _ rfl ⟨.inl rfl, fun _ h => by cases h⟩ (Qt.then q03 k4 (fun k hk => by omega))
  have ez : (x.1 != 0) = false := by rw [h1]; rfl
  rw [if_neg (fun h => h h1)] at hK
  obtain ⟨D, hD, h4⟩ := ref_new r3 (by omega) hc3
  obtain ⟨q4, b4, e4⟩ := newb w3 #[.slice A3 x.2.length c3, .int .i64 0, .int .i64 0] 112
  simp (maxSteps := 1000000) (disch := omega) only [genAll, decAll, tk_nil, st22, ez]
  have s3 := q3.size
  have s4 := blk_lt b4
  have b14 := q4.heap b13 (fun h => h)
  generalize (w3.alloc (.cells #[.slice A3 x.2.length c3, .int .i64 0, .int .i64 0] 112)) = w4 at *
  have q04 := q03.trans q4
  generalize hg : w3.heap.size = g at *
  refine ck60 (row_ref h4 (fun k hk => by have := hD k hk; omega) ?_)
  intro hs B d w5 hm5 h5 a5 as5 k5
  have q05 : Qt w w5 := Qt.then q04 k5 (fun k hk => by omega)
  have b15 := k5.heap b14 (by omega)
  have s5 := k5.size
  have hsm : SmallD 20000 (rowD 0 x.2).1 := rowD_small (by omega)
  generalize rowD 0 x.2 = m at *
  obtain ⟨q6, b6, e6⟩ := newb w5 #[.string m.1.1, .int .i64 m.1.2.1.1, .int .i64 m.1.2.1.2.1, .int .i64 m.1.2.1.2.2.1, .string m.1.2.1.2.2.2, .slice B hs.length d] 38
  have h6 := h5.chg q6 (fun h => h) (fun _ _ h => h)
  obtain ⟨z6, f6⟩ := ref_err h6
  simp (maxSteps := 1000000) (disch := omega) only [genAll, decAll, tk_nil, st22]
  have a6 := a5.quiet q6
  have b16 := q6.heap b15 (fun h => h)
  have q06 := q05.trans q6
  generalize (w5.alloc (.cells #[.string m.1.1, .int .i64 m.1.2.1.1, .int .i64 m.1.2.1.2.1, .int .i64 m.1.2.1.2.2.1, .string m.1.2.1.2.2.2, .slice B hs.length d] 38)) = w6 at *
  have hgl := RefAt.lt h6
  simp (maxSteps := 1000000) (disch := omega) only [genAll, decAll, tk_nil, st22, z6]
  by_cases h2 : m.2.1 = 0
  case neg =>
    have ez : (m.2.1 != 0) = true := by rw [bne_iff_ne]; exact h2
    rw [if_pos h2] at hK
    simp (maxSteps := 1000000) (disch := omega) only [genAll, decAll, tk_nil, st22, ez]
    have qd : Qt w6 w6.drew := Qt.drew Qt.refl
    have b16d := qd.heap b16 (fun h => h)
    refine drawC (fun k => k = b) w6 (qd.mono (fun _ _ h => h.elim)) ?_
    have q0d := q06.trans qd
    have hXd : Chg (fun k => k = b) w6 w6.drew := qd.mono (fun _ _ h => h.elim)
    generalize w6.drew = wd at *
    obtain ⟨Ax, cx, bx, ax, hgx, _⟩ := h6
    have X : ∀ w', Chs (fun k => k = b) w6 w' → w'.cell? ⟨g, 0 + 2, none⟩ = some (.int .i64 m.2.1) := fun w' q => by rw [blk_cell (Chg.heap q hgx (by omega))]; rfl
    simp (maxSteps := 1000000) (disch := omega) only [genAll, decAll, tk_nil, st22, qkld3 X]
    refine ⟨⟨hXd, ?_, trivial⟩, trivial⟩
    refine aggStore6 b16d rfl (by kernel_rfl) (row_one (key := ByteArray.empty) (s := s0) (A := none) (n := 0) (c := 0)) (fun w7 b7 k7 => ?_)
    obtain ⟨y0, y1, y2, y3, y4, y5⟩ := cell6 b7
    simp (maxSteps := 1000000) (disch := omega) only [genAll, decAll, tk_nil, st22, y0, y1, y2, y3, y4, y5]
    refine ⟨hXd.trans k7, ?_⟩
    exact hK [] none 0 _ rfl ⟨.inl rfl, fun _ h => by cases h⟩ (Qt.then q0d k7 (fun k hk => by omega))
  have ez : (m.2.1 != 0) = false := by rw [h2]; rfl
  rw [if_neg (fun h => h h2)] at hK
  simp (maxSteps := 1000000) (disch := omega) only [genAll, decAll, tk_nil, st22, ez]
  refine ck61 (left_ref h6 ?_)
  intro w7 q7
  have q07 := q06.trans q7
  have b17 := q7.heap b16 (fun h => h)
  have b67 := q7.heap b6 (fun h => h)
  have a7 := a6.quiet q7
  by_cases h3 : m.2.2 = []
  case neg =>
    rw [if_pos h3] at hK
    have hlf : 0 < leftD m.2.1 m.2.2 := (left_pos h2).2 h3
    simp (maxSteps := 1000000) (disch := omega) only [genAll, decAll, tk_nil, st22]
    refine retRowR (key := ByteArray.empty) (s := s0) (A := none) (n := 0) (c := 0) (K := fun c w => K (.tuple #[c, .int .i64 2]) w) b17 (fun w8 k8 => ?_)
    exact hK [] none 0 _ rfl ⟨.inl rfl, fun _ h => by cases h⟩ (Qt.then q07 k8 (fun k hk => by omega))
  rw [if_neg (fun h => h h3)] at hK
  have hlf : ¬ (0 < leftD m.2.1 m.2.2) := fun h => (left_pos h2).1 h h3
  obtain ⟨⟨key, s, ats⟩, e9, r9⟩ := m
  simp only at *
  subst hm5
  obtain ⟨x0, x1, x2, x3, x4, x5⟩ := cell6 b67
  simp (maxSteps := 1000000) (disch := omega) only [genAll, decAll, tk_nil, st22, x0, x1, x2, x3, x4, x5]
  have ok : OkH (key, s, B, d, hs) := okH_of (by omega) hsm
  refine ck41 (checkRR_any (ok.good a7) ok.2.2 ?_)
  intro w8 q8
  have q08 := q07.trans q8
  have a8 := a7.quiet q8
  have b18 := q8.heap b17 (fun h => h)
  have b68 := q8.heap b67 (fun h => h)
  generalize checkR (key, s, hs.map attP) = z at *
  by_cases h2 : z = 0
  case neg =>
    have en : (z != 0) = true := by rw [bne_iff_ne]; exact h2
    rw [if_pos h2] at hK
    simp (maxSteps := 1000000) (disch := omega) only [genAll, decAll, tk_nil, st22, en]
    refine retRowR (key := ByteArray.empty) (s := s0) (A := none) (n := 0) (c := 0) (K := fun c w => K (.tuple #[c, .int .i64 z]) w) b18 (fun w5 k5 => ?_)
    exact hK [] none 0 _ rfl ⟨.inl rfl, fun _ h => by cases h⟩ (Qt.then q08 k5 (fun k hk => by omega))
  have en : (z != 0) = false := by rw [h2]; rfl
  rw [if_neg (fun h => h h2)] at hK
  obtain ⟨y0, y1, y2, y3, y4, y5⟩ := cell6 b68
  simp (maxSteps := 1000000) (disch := omega) only [genAll, decAll, tk_nil, st22, en, y0, y1, y2, y3, y4, y5]
  refine retRowR (key := key) (s := s) (A := B) (n := hs.length) (c := d) (K := fun c w => K (.tuple #[c, .int .i64 0]) w) b18 (fun w9 k9 => ?_)
  exact hK hs B d _ rfl (a8.sep k9 (as5.mono (fun k hk => by omega))) (Qt.then q08 k9 (fun k hk => by omega))
set_option maxHeartbeats 4000000 in
theorem rowsR_any {l : List UInt8} {A : Option Addr} {c : Nat} {w : World} {K : Value → World → Prop} (hr : Reads w A (l.map vb)) (hl : l.length ≤ 20000) (hc : l.length ≤ c)
    (hK : ∀ rs A' c' w', rs.map rowP = (rowsL l).1 → RowsAt w' A' rs → Qt w w' → K (.tuple #[.slice A' rs.length c', .int .i64 (rowsL l).2]) w') : CallK Tryz.prog 23 #[.slice A l.length c] K w := by
  refine F23_calls _ _ _ ?_; unfold F23
  refine ck59 (openR2_any hr (by omega) hc ?_)
  intro A3 n3 c3 w3 hn3 hc3 r3 q3
  subst hn3
  have hol := openL_len l
  unfold rowsL at hK
  generalize openL l = x at *
  by_cases h1 : x.1 = 0
  case neg =>
    have ez : (x.1 != 0) = true := by rw [bne_iff_ne]; exact h1
    rw [if_pos h1] at hK
    simp (maxSteps := 1000000) (disch := omega) only [genAll, decAll, tk_nil, st23, ez]
    exact hK [] none 0 _ rfl ⟨.inl rfl, fun _ h => by cases h⟩ q3
  have ez : (x.1 != 0) = false := by rw [h1]; rfl
  rw [if_neg (fun h => h h1)] at hK
  obtain ⟨D, hD, h4⟩ := ref_new r3 (by omega) hc3
  obtain ⟨q4, b4, e4⟩ := newb w3 #[.slice A3 x.2.length c3, .int .i64 0, .int .i64 0] 112
  simp (maxSteps := 1000000) (disch := omega) only [genAll, decAll, tk_nil, st23, ez]
  have s3 := q3.size
  have s4 := blk_lt b4
  generalize (w3.alloc (.cells #[.slice A3 x.2.length c3, .int .i64 0, .int .i64 0] 112)) = w4 at *
  have q04 := q3.trans q4
  generalize hg : w3.heap.size = g at *
  have hgl : g < w4.heap.size := s4
  have hDg : ∀ k, D = some k → k < g := fun k hk => by have := hD k hk; omega
  generalize hr2 : x.2 = r at *
  refine ck62 (many_ref h4 ?_)
  intro w5 h5 k5
  have hrows : rowsD 0 r = manyF rowD (manyD 0 r 64).1.toNat (manyD 0 r 64).2.1 (manyD 0 r 64).2.2 := rfl
  have hcnt := rowsD_count 0 r
  have hsm : ∀ y ∈ (rowsD 0 r).1, SmallD 20000 y := rowsD_small (by omega)
  rw [hrows] at hK hcnt hsm
  clear hrows
  have hin := manyD_in 0 64 r (by omega)
  have hml := manyD_len 0 64 r
  generalize hm1 : (manyD 0 r 64).2.1 = e2 at *
  generalize hm2 : (manyD 0 r 64).2.2 = r2 at *
  obtain ⟨n, hn⟩ : ∃ n : Nat, (manyD 0 r 64).1 = n := ⟨_, (Int.toNat_of_nonneg hin.1).symm⟩
  rw [hn] at hin hK hcnt hsm ⊢
  rw [Int.toNat_natCast] at hK hcnt hsm
  clear hn hm1 hm2
  generalize hb : w4.heap.size = b at *
  have k5' : Chg (fun k => k = g) w4 w5 := k5
  refine loopK2 (fun u v w' => ∃ (i : Nat) (A : Option Addr) (c : Nat) (F : Option Nat) (rs : List RowH), v = .int .i64 i ∧ i ≤ n ∧ u = .slice A i c ∧ rs.map rowP = (manyF rowD i e2 r2).1 ∧ rs.length = i ∧ RefAt w' g (manyF rowD i e2 r2).2.1 (manyF rowD i e2 r2).2.2 D ∧ Own w' 38 6 (.slice A i c) i (rs.flatMap rowC) F ∧ (∀ x ∈ rs, AttsAt w' x.2.2.1 x.2.2.2.2 ∧ AttsSep (fun k => k < b ∨ F = some k) x.2.2.1 x.2.2.2.2) ∧ (∀ k, F = some k → b ≤ k) ∧ Chg (fun k => k = g) w4 w') (fun _ v _ => n - (intOf v).toNat) ⟨0, none, 0, none, [], rfl, by omega, rfl, rfl, rfl, h5, Own.nil _ _ _, fun _ h => (by cases h), fun _ h => (by cases h), k5⟩ ?_
  rintro _ _ _ w6 ⟨i, A, c, F, rs, rfl, hi, rfl, hmap, hlen, h6, o6, l6, hF, k6⟩
  have s6 := k6.size
  by_cases hlt : i < n
  · have hms : manyF rowD (i + 1) e2 r2 = ((manyF rowD i e2 r2).1 ++ [(rowD (manyF rowD i e2 r2).2.1 (manyF rowD i e2 r2).2.2).1], (rowD (manyF rowD i e2 r2).2.1 (manyF rowD i e2 r2).2.2).2.1, (rowD (manyF rowD i e2 r2).2.1 (manyF rowD i e2 r2).2.2).2.2) := rfl
    generalize manyF rowD i e2 r2 = m at *
    simp (maxSteps := 1000000) (disch := omega) only [genAll, decAll, tk_nil, st23]
    refine ck60 (row_ref h6 (fun k hk => by have := hDg k hk; omega) ?_)
    intro hs B d w7 hm7 h7 a7 as7 k7
    generalize rowD m.2.1 m.2.2 = x at *
    have o7 := o6.chg k7 (fun k hk e => by have := hF k hk; omega)
    have F6 : ∀ k, F = some k → k < w6.heap.size := fun k hk => o6.lt hk
    obtain ⟨q8, b8, e8⟩ := newb w7 #[.string x.1.1, .int .i64 x.1.2.1.1, .int .i64 x.1.2.1.2.1, .int .i64 x.1.2.1.2.2.1, .string x.1.2.1.2.2.2, .slice B hs.length d] 38
    obtain ⟨A9, c9, F9, w9, p9, o9, k9, f9⟩ := pushN_run (P := Tryz.prog) tyRR (o7.chg q8 (fun _ _ h => h)) (rowC ((x.1.1, x.1.2.1, B, d, hs) : RowH)) rfl (rowC_one _) b8 (by omega) (by omega) 47
    simp (maxSteps := 1000000) (disch := omega) only [genAll, decAll, tk_nil, st23]
    have h8 := h7.chg q8 (fun h => h) (fun _ _ h => h)
    have a8 := a7.quiet q8
    have s7 := k7.size
    have s8 := q8.size
    generalize (w7.alloc (.cells #[.string x.1.1, .int .i64 x.1.2.1.1, .int .i64 x.1.2.1.2.1, .int .i64 x.1.2.1.2.2.1, .string x.1.2.1.2.2.2, .slice B hs.length d] 38)) = w8 at *
    refine appK p9 ?_
    have k48 := refUp (k6.trans k7) q8 (fun _ h => h.elim)
    have k49 := refUp k48 k9 (fun k hk => by have := hF k hk; omega)
    have h9 := h8.chg k9 (fun e => by have := hF _ e; omega) (fun k hk e => by have := hDg k hk; have := hF k e; omega)
    have f9' : ∀ k, F9 = some k → F = some k ∨ w8.heap.size ≤ k := fun k hk => (f9 k hk).elim .inl (fun e => .inr (by omega))
    have hF9 : ∀ k, F9 = some k → b ≤ k := fun k hk => (f9 k hk).elim (hF k) (fun e => by omega)
    have hall : ∀ y ∈ rs ++ [((x.1.1, x.1.2.1, B, d, hs) : RowH)], AttsAt w9 y.2.2.1 y.2.2.2.2 ∧ AttsSep (fun k => k < b ∨ F9 = some k) y.2.2.1 y.2.2.2.2 := by
      intro y hy
      rcases List.mem_append.1 hy with hy | hy
      · obtain ⟨y1, y2⟩ := l6 y hy
        have y3 := (y1.sep k7 (y2.mono (fun k hk => .inl (by omega)))).quiet q8
        exact ⟨y3.sep k9 (y2.mono (fun k hk => .inr hk)), rowsSep_push y2 y3 f9'⟩
      · have : y = (x.1.1, x.1.2.1, B, d, hs) := by simpa using hy
        subst this
        have y2 : AttsSep (fun k => k < b ∨ F = some k) B hs := as7.mono (fun k hk => hk.elim (fun e => by omega) (fun e => F6 k e))
        exact ⟨a8.sep k9 (y2.mono (fun k hk => .inr hk)), rowsSep_push y2 a8 f9'⟩
    simp (maxSteps := 1000000) (disch := omega) only [genAll, decAll, tk_nil, st23]
    refine ⟨⟨i + 1, A9, c9, F9, rs ++ [(x.1.1, x.1.2.1, B, d, hs)], by go_num, by omega, rfl, ?_, by simp [hlen], by rw [hms]; exact h9, ?_, hall, hF9, k49⟩, by simp [rel, intOf]; omega⟩
    · rw [hms, List.map_append, hmap]
      show _ ++ [(x.1.1, x.1.2.1, hs.map attP)] = _
      rw [hm7]
    · rw [List.flatMap_append]; simpa using o9
  obtain rfl : i = n := by omega
  have q06 : Qt w w6 := Qt.then q04 k6 (fun k hk => by omega)
  have ra : RowsAt w6 A rs := ⟨reads_own o6, fun x hx => (l6 x hx).1⟩
  generalize manyF rowD i e2 r2 = m at *
  obtain ⟨z6, f6⟩ := ref_err h6
  simp (maxSteps := 1000000) (disch := omega) only [genAll, decAll, tk_nil, st23, z6]
  by_cases h2 : m.2.1 = 0
  case neg =>
    have ez : (m.2.1 != 0) = true := by rw [bne_iff_ne]; exact h2
    rw [if_pos h2] at hK
    simp (maxSteps := 1000000) (disch := omega) only [genAll, decAll, tk_nil, st23, ez]
    have qd : Qt w6 w6.drew := Qt.drew Qt.refl
    refine drawQ w6 qd ?_
    obtain ⟨Ax, cx, bx, ax, hgx, _⟩ := h6
    have X : ∀ w', Chs (fun _ => False) w6 w' → w'.cell? ⟨g, 0 + 2, none⟩ = some (.int .i64 m.2.1) := fun w' q => by rw [blk_cell (Chg.heap q hgx (fun h => h))]; rfl
    simp (maxSteps := 1000000) (disch := omega) only [genAll, decAll, tk_nil, st23, qkld3 X]
    exact hK [] none 0 _ rfl ⟨.inl rfl, fun _ h => by cases h⟩ (q06.trans qd)
  have ez : (m.2.1 != 0) = false := by rw [h2]; rfl
  rw [if_neg (fun h => h h2)] at hK
  simp (maxSteps := 1000000) (disch := omega) only [genAll, decAll, tk_nil, st23, ez]
  refine ck61 (left_ref h6 ?_)
  intro w7 q7
  have q07 := q06.trans q7
  have a7 := ra.quiet q7
  by_cases h3 : m.2.2 = []
  case neg =>
    rw [if_pos h3] at hK
    have hlf : 0 < leftD m.2.1 m.2.2 := (left_pos h2).2 h3
    simp (maxSteps := 1000000) (disch := omega) only [genAll, decAll, tk_nil, st23]
    exact hK [] none 0 _ rfl ⟨.inl rfl, fun _ h => by cases h⟩ q07
  rw [if_neg (fun h => h h3)] at hK
  have hlf : ¬ (0 < leftD m.2.1 m.2.2) := fun h => (left_pos h2).1 h h3
  rw [right_few hcnt, ← hmap] at hK
  have ok : ∀ r ∈ rs, OkH r := fun r hr => okH_of (by omega) (hsm _ (hmap ▸ List.mem_map_of_mem hr))
  subst hlen
  simp (maxSteps := 1000000) (disch := omega) only [genAll, decAll, tk_nil, st23]
  refine loopK1 (fun v w' => ∃ i : Nat, v = .int .i64 i ∧ i ≤ rs.length ∧ badR (rs.map rowP) = badR ((rs.map rowP).drop i) ∧ Qt w7 w') (fun v _ => rs.length - (intOf v).toNat) ⟨0, rfl, by omega, rfl, Qt.refl⟩ ?_
  rintro _ _ w1 ⟨i, rfl, hi, hlo, q1⟩
  by_cases hlt : i < rs.length
  · rw [badR_at (by rw [List.length_map]; exact hlt), rowP_getD] at hlo
    obtain ⟨g, o, rfl, z0, z1, z2, z3, z4, z5⟩ := row_at (a7.1.quiet q1) hlt
    have hsm := ok _ (getD_mem hlt)
    have hg := (hsm.good (a7.get hlt)).quiet q1
    generalize rs.getD i default = r at *
    obtain ⟨key, s, B, d, hs'⟩ := r
    simp only at z0 z1 z2 z3 z4 z5 hg
    simp (maxSteps := 1000000) (disch := omega) only [genAll, decAll, tk_nil, st23, z0, z1, z2, z3, z4, z5]
    refine ck41 (checkRR_any hg hsm.2.2 ?_)
    intro w3 q3
    have e : rowP (key, s, B, d, hs') = (key, s, hs'.map attP) := rfl
    rw [e] at hlo
    generalize checkR (key, s, hs'.map attP) = x at *
    by_cases hv : x = 0
    · have e : (x != 0) = false := by rw [hv]; rfl
      rw [if_neg (fun h => h hv)] at hlo
      simp (maxSteps := 1000000) (disch := omega) only [genAll, decAll, tk_nil, st23, e]
      exact ⟨⟨i + 1, by go_num, by omega, hlo, q1.trans q3⟩, by simp [rel, intOf]; omega⟩
    · have e : (x != 0) = true := by rw [bne_iff_ne]; exact hv
      rw [if_pos hv] at hlo
      rw [hlo, if_pos hv] at hK
      simp (maxSteps := 1000000) (disch := omega) only [genAll, decAll, tk_nil, st23, e]
      exact hK [] none 0 _ rfl ⟨.inl rfl, fun _ h => by cases h⟩ (q07.trans (q1.trans q3))
  · have e0 : (rs.map rowP).drop i = [] := List.drop_eq_nil_of_le (by rw [List.length_map]; omega)
    rw [e0] at hlo
    rw [hlo, if_neg (show ¬ (badR [] ≠ 0) from fun h => h rfl)] at hK
    simp (maxSteps := 1000000) (disch := omega) only [genAll, decAll, tk_nil, st23]
    exact hK rs A c _ rfl (a7.quiet q1) (q07.trans q1)
end Go.Proofs.YtpjeohellehgjaaGreatDoor
end

section
/- A row, rows into sealed bytes: the reference's; and the law's same of two. Conditions: small rows. -/
set_option linter.unusedVariables false
set_option linter.unusedSimpArgs false
set_option maxRecDepth 100000
namespace Go.Proofs.YtpjeohellehgjaaGreatDoor
open Go.RowKit Go.Cn Go.Cn.Num
set_option maxHeartbeats 2000000 in
theorem encodeR_any {key : ByteArray} {s : Stm} {hs : List AttH} {A : Option Addr} {c : Nat} {w : World} {K : Value → World → Prop} (ha : AttsAt w A hs) (hsm : SmallR key s hs)
    (hK : ∀ A' c' w', Reads w' A' ((encL (key, s, hs.map attP)).1.map vb) → (encL (key, s, hs.map attP)).1.length ≤ c' → Qt w w' → K (.tuple #[.slice A' (encL (key, s, hs.map attP)).1.length c', .int .i64 (encL (key, s, hs.map attP)).2]) w') : CallK Tryz.prog 11 #[rowV key s A hs.length c] K w := by
  refine F11_calls _ _ _ ?_; unfold F11
  simp (maxSteps := 1000000) (disch := omega) only [genAll, decAll, tk_nil, st11]
  obtain ⟨q1, h1, e1⟩ := newb w #[.string key, .int .i64 s.1, .int .i64 s.2.1, .int .i64 s.2.2.1, .string s.2.2.2, .slice A hs.length c] 38
  generalize (w.alloc (.cells #[.string key, .int .i64 s.1, .int .i64 s.2.1, .int .i64 s.2.2.1, .string s.2.2.2, .slice A hs.length c] 38)) = w1 at *
  have X := fun w' (q : Qt w1 w') => cell6 (q.heap h1 (fun h => h))
  obtain ⟨x0, x1, x2, x3, x4, x5⟩ := X w1 Qt.refl
  simp (maxSteps := 1000000) (disch := omega) only [genAll, decAll, tk_nil, st11, x0, x1, x2, x3, x4, x5]
  have hg := good_of (r := (key, s, A, c, hs)) ha hsm
  have ho : s.2.2.2.size ≤ 100 := hsm.2.1
  refine ck41 (checkRR_any (hg.quiet q1) (by omega) ?_)
  intro w2 q2
  have q02 := q1.trans q2
  obtain ⟨x0, x1, x2, x3, x4, x5⟩ := X w2 q2
  have hle := rowB_len hsm
  unfold encL at hK
  generalize checkR (key, s, hs.map attP) = z at *
  by_cases hv : z = 0
  · have e : (z != 0) = false := by rw [hv]; rfl
    rw [if_neg (fun h => h hv)] at hK
    simp (maxSteps := 1000000) (disch := omega) only [genAll, decAll, tk_nil, st11, e, x0, x1, x2, x3, x4, x5]
    refine ck32 (putRR_any (ha.quiet q02) hsm ?_)
    intro A3 c3 F3 w3 o3 q3 f3
    simp (maxSteps := 1000000) (disch := omega) only [genAll, decAll, tk_nil, st11]
    refine ck21 (sealR2_any (reads_own o3) (by omega) ?_)
    intro A4 c4 w4 hc4 r4 q4
    simp (maxSteps := 1000000) (disch := omega) only [genAll, decAll, tk_nil, st11]
    exact hK A4 c4 w4 r4 hc4 ((q02.trans q3).trans q4)
  · have e : (z != 0) = true := by rw [bne_iff_ne]; exact hv
    rw [if_pos hv] at hK
    simp (maxSteps := 1000000) (disch := omega) only [genAll, decAll, tk_nil, st11, e]
    exact hK none 0 w2 (.inl rfl) (Nat.le_refl _) q02
set_option maxHeartbeats 4000000 in
theorem allR_any {rs : List RowH} {A : Option Addr} {c : Nat} {w : World} {K : Value → World → Prop} (ha : RowsAt w A rs) (hs : ∀ r ∈ rs, SmallH r)
    (hK : ∀ A' c' w', Reads w' A' ((allL (rs.map rowP)).1.map vb) → (allL (rs.map rowP)).1.length ≤ c' → Qt w w' → K (.tuple #[.slice A' (allL (rs.map rowP)).1.length c', .int .i64 (allL (rs.map rowP)).2]) w') : CallK Tryz.prog 17 #[.slice A rs.length c] K w := by
  refine F17_calls _ _ _ ?_; unfold F17
  unfold allL rightR rowsB at hK
  rw [List.length_map] at hK
  by_cases h64 : 64 < rs.length
  · rw [if_pos h64] at hK
    simp (maxSteps := 1000000) (disch := omega) only [genAll, decAll, tk_nil, st17]
    exact hK none 0 w (.inl rfl) (Nat.le_refl _) Qt.refl
  rw [if_neg h64] at hK
  simp (maxSteps := 1000000) (disch := omega) only [genAll, decAll, tk_nil, st17]
  refine ck54 (putInt_any (by omega) (by omega) ?_)
  intro A2 c2 F2 w2 o2 q2 f2
  have hpl : (putInt (rs.length : Int)).length ≤ 10 := (putInt_len (rs.length : Int) (by omega) (by omega)).2
  generalize putInt (rs.length : Int) = pre at *
  simp (maxSteps := 1000000) (disch := omega) only [genAll, decAll, tk_nil, st17]
  refine loopK2 (fun x u w' => ∃ (i : Nat) (A' : Option Addr) (c' : Nat) (F : Option Nat), u = .int .i64 i ∧ i ≤ rs.length ∧ x = .slice A' (pre ++ ((rs.take i).map rowP).flatMap rowB).length c' ∧ OwnB w' (pre ++ ((rs.take i).map rowP).flatMap rowB) A' c' F ∧ (∀ r ∈ rs.take i, checkR (rowP r) = 0) ∧ badR (rs.map rowP) = badR ((rs.map rowP).drop i) ∧ Qt w w' ∧ (∀ k, F = some k → w.heap.size ≤ k)) (fun _ u _ => rs.length - (intOf u).toNat) ⟨0, A2, c2, F2, rfl, by omega, by simp, by simpa using o2, fun r hr => (by cases hr), rfl, q2, f2⟩ ?_
  rintro _ _ _ w3 ⟨i, A3, c3, F3, rfl, hi, rfl, o3, hck, hlo, q3, f3⟩
  have hbl := rowsB_ok (rs.take i) (fun r hr => ⟨hs r (List.mem_of_mem_take hr), hck r hr⟩)
  rw [List.length_take, Nat.min_eq_left hi] at hbl
  by_cases hlt : i < rs.length
  · rw [badR_at (by rw [List.length_map]; exact hlt), rowP_getD] at hlo
    have Z := fun w' (q : Qt w w') => row_at (ha.1.quiet q) hlt
    obtain ⟨g, o, hA, z0, z1, z2, z3, z4, z5⟩ := Z w3 q3
    have Z' : ∀ w', Qt w w' → _ := fun w' (q : Qt w w') => row_at (ha.1.quiet q) hlt
    have hsm := hs _ (getD_mem hlt)
    have hat := ha.get hlt
    have hsn := rowP_snoc rs i hlt
    have hmt : ∀ r ∈ rs.take (i + 1), r ∈ rs.take i ∨ r = rs.getD i default := fun r hr => by
      rw [List.take_succ_eq_append_getElem hlt] at hr
      rcases List.mem_append.1 hr with hr | hr
      · exact .inl hr
      · exact .inr (by simpa [hlt] using hr)
    generalize rs.getD i default = r at *
    obtain ⟨key, s, B, d, hs'⟩ := r
    have hg := good_of hat hsm
    have ho : s.2.2.2.size ≤ 100 := hsm.2.1
    subst hA
    simp only at z0 z1 z2 z3 z4 z5 hg
    simp (maxSteps := 1000000) (disch := omega) only [genAll, decAll, tk_nil, st17, z0, z1, z2, z3, z4, z5]
    refine ck41 (checkRR_any (hg.quiet q3) (by omega) ?_)
    intro w4 q4
    have e : rowP (key, s, B, d, hs') = (key, s, hs'.map attP) := rfl
    rw [e] at hlo hsn
    by_cases hv : checkR (key, s, hs'.map attP) = 0
    · have ev : (checkR (key, s, hs'.map attP) != 0) = false := by rw [hv]; rfl
      rw [if_neg (fun h => h hv)] at hlo
      have q04 := q3.trans q4
      obtain ⟨g', o', hA', z0, z1, z2, z3, z4, z5⟩ := Z w4 q04
      cases hA'
      have hle := rowB_len (key := key) (s := s) (hs := hs') hsm
      simp (maxSteps := 1000000) (disch := omega) only [genAll, decAll, tk_nil, st17, ev, z0, z1, z2, z3, z4, z5]
      refine ck32 (putRR_any (hat.quiet q04) hsm ?_)
      intro A5 c5 F5 w5 o5 q5 f5
      simp (maxSteps := 1000000) (disch := omega) only [genAll, decAll, tk_nil, st17]
      refine appB (ownB_quiet o3 (q4.trans q5)) (reads_own o5) (by simp only [List.length_append]; omega) ?_
      intro A6 c6 F6 w6 o6 k6 f6
      obtain ⟨q16, g6⟩ := up_qt (q04.trans q5) k6 f3 f6
      simp (maxSteps := 1000000) (disch := omega) only [genAll, decAll, tk_nil, st17]
      rw [List.append_assoc, ← hsn] at o6
      have hln : (pre ++ List.flatMap rowB (List.map rowP (List.take i rs)) ++ rowB (key, s, List.map attP hs')).length = (pre ++ List.flatMap rowB (List.map rowP (List.take (i + 1) rs))).length := by rw [List.append_assoc, ← hsn]
      refine ⟨⟨i + 1, A6, c6, F6, by go_num, by omega, by rw [hln], o6, fun r hr => ?_, hlo, q16, g6⟩, by simp [rel, intOf]; omega⟩
      rcases hmt r hr with hr | rfl
      · exact hck r hr
      · exact hv
    · have ev : (checkR (key, s, hs'.map attP) != 0) = true := by rw [bne_iff_ne]; exact hv
      rw [if_pos hv] at hlo
      rw [hlo, if_pos hv] at hK
      simp (maxSteps := 1000000) (disch := omega) only [genAll, decAll, tk_nil, st17, ev]
      exact hK none 0 _ (.inl rfl) (Nat.le_refl _) (q3.trans q4)
  · obtain rfl : i = rs.length := by omega
    have e0 : (rs.map rowP).drop rs.length = [] := List.drop_eq_nil_of_le (by rw [List.length_map]; omega)
    rw [e0] at hlo
    rw [List.take_length] at o3 hbl
    rw [hlo, if_neg (show ¬ (badR [] ≠ 0) from fun h => h rfl)] at hK
    simp (maxSteps := 1000000) (disch := omega) only [genAll, decAll, tk_nil, st17]
    rw [List.take_length]
    refine ck21 (sealR2_any (reads_own o3) (by simp only [List.length_append]; omega) ?_)
    intro A4 c4 w4 hc4 r4 q4
    simp (maxSteps := 1000000) (disch := omega) only [genAll, decAll, tk_nil, st17]
    exact hK A4 c4 w4 r4 hc4 (q3.trans q4)
end Go.Proofs.YtpjeohellehgjaaGreatDoor
end

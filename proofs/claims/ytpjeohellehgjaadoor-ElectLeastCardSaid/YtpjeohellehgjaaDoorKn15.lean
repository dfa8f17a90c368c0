/- What the laws of chapter 15 ask first. -/
import Derived.Test.YtpjeohellehgjaaDoorOrd
import Derived.Test.YtpjeohellehgjaaDoorAnyLaw
set_option linter.unusedVariables false
set_option linter.unusedSimpArgs false
set_option maxRecDepth 100000
namespace Go.Proofs.YtpjeohellehgjaaDoor
open Go.RowKit Go.Cn
def st0 : Stm := (0, 0, 0, ByteArray.empty)
def whoA (rp : ByteArray) (ld : Int) : List AttH := [(kLoad, (1, ld, ByteArray.empty, []), none, 0), (kRep, (2, 0, rp, []), none, 0)]
theorem whoA_at {w : World} {b : Nat} {rp : ByteArray} {ld : Int} (h : w.heap[b]? = some (.cells ((whoA rp ld).flatMap attC).toArray 128 (0, 0))) : AttsAt w (some ⟨b, 0, none⟩) (whoA rp ld) := by
  refine ⟨reads_blk h, fun x hx => ?_⟩
  simp only [whoA, List.mem_cons, List.mem_nil_iff, or_false] at hx
  rcases hx with rfl | rfl <;> exact .inl rfl
theorem whoA_up (rp : ByteArray) (ld : Int) : UpK ((whoA rp ld).map (·.1)) := by
  show List.Pairwise _ [kLoad, kRep]
  have : ltS kLoad kRep = true := by kernel_rfl
  simp [this]
theorem who_ok {k rp : ByteArray} {ld : Int} {A : Option Addr} {c : Nat} (h : rp.size ≤ 20000) : ElOk (k, st0, A, c, whoA rp ld) := by
  refine ⟨whoA_up rp ld, by show 2 ≤ 100000; omega, fun x hx => ?_, fun x hx => ?_⟩
  · simp only [whoA, List.mem_cons, List.mem_nil_iff, or_false] at hx
    rcases hx with rfl | rfl <;> exact Nat.zero_le _
  · simp only [whoA, List.mem_cons, List.mem_nil_iff, or_false] at hx
    rcases hx with rfl | rfl
    · exact Nat.zero_le _
    · exact h
set_option maxHeartbeats 1000000 in
theorem who_any {k rp : ByteArray} {ld : Int} {w : World} {K : Value → World → Prop} (hK : ∀ b w', AttsAt w' (some ⟨b, 0, none⟩) (whoA rp ld) → Qt w w' → w.heap.size ≤ b → K (rowV k st0 (some ⟨b, 0, none⟩) 2 2) w') : CallK Tryd.prog 35 #[.string k, .string rp, .int .i64 ld] K w := by
  refine F35_calls _ _ _ _ _ ?_; unfold F35
  obtain ⟨q1, h1, s1⟩ := newb w #[.string ByteArray.empty, .int .i64 0, .int .i64 0, .int .i64 0, .string ByteArray.empty, .slice none 0 0] 55
  simp (maxSteps := 1000000) (disch := omega) only [genAll, decAll, tk_nil, st35]
  generalize (w.alloc (.cells #[.string ByteArray.empty, .int .i64 0, .int .i64 0, .int .i64 0, .string ByteArray.empty, .slice none 0 0] 55)) = w1 at *
  obtain ⟨q2, h2, s2⟩ := newb w1 #[.string kLoad, .int .i64 1, .int .i64 ld, .string ByteArray.empty, .slice none 0 0, .string kRep, .int .i64 2, .int .i64 0, .string rp, .slice none 0 0] 128
  change StoreK _ _ _ _ _ (w1.alloc (.cells #[.string kLoad, .int .i64 1, .int .i64 ld, .string ByteArray.empty, .slice none 0 0, .string kRep, .int .i64 2, .int .i64 0, .string rp, .slice none 0 0] 128))
  generalize (w1.alloc (.cells #[.string kLoad, .int .i64 1, .int .i64 ld, .string ByteArray.empty, .slice none 0 0, .string kRep, .int .i64 2, .int .i64 0, .string rp, .slice none 0 0] 128)) = w2 at *
  rw [s1] at h2
  have h12 := q2.heap h1 (fun h => h)
  generalize hb : w.heap.size = b at *
  refine aggStoreW (cs := [.string k, .int .i64 0, .int .i64 0, .int .i64 0, .string ByteArray.empty, .slice (some ⟨b + 1, 0, none⟩) 2 2]) h12 rfl (by kernel_rfl) (by intro u hu; simp at hu; rcases hu with rfl | rfl | rfl | rfl <;> rfl) ?_
  intro w3 h3 k3
  have h23 := k3.heap h2 (by omega)
  obtain ⟨x0, x1, x2, x3, x4, x5⟩ := cell6 h3
  simp (maxSteps := 1000000) (disch := omega) only [genAll, decAll, tk_nil, st35, x0, x1, x2, x3, x4, x5]
  exact hK (b + 1) _ (whoA_at (rp := rp) (ld := ld) h23) (Qt.then (q1.trans q2) k3 (fun k hk => by omega)) (by omega)
def pA : ByteArray := ⟨#[47, 97, 47, 120]⟩
def pB : ByteArray := ⟨#[47, 98, 47, 121]⟩
def k3 (b1 b2 : Nat) : List RowH := [(kA, st0, some ⟨b1, 0, none⟩, 2, whoA pA 5), (kB, st0, some ⟨b2, 0, none⟩, 2, whoA pB 2), (kC, st0, none, 0, [])]
theorem k3_at {w : World} {b1 b2 : Nat} {A : Option Addr} (h : Reads w A ((k3 b1 b2).flatMap rowC)) (h1 : AttsAt w (some ⟨b1, 0, none⟩) (whoA pA 5)) (h2 : AttsAt w (some ⟨b2, 0, none⟩) (whoA pB 2)) : RowsAt w A (k3 b1 b2) := by
  refine ⟨h, fun r hr => ?_⟩
  simp only [k3, List.mem_cons, List.mem_nil_iff, or_false] at hr
  rcases hr with rfl | rfl | rfl
  · exact h1
  · exact h2
  · exact ⟨.inl rfl, fun _ h => by cases h⟩
theorem c_ok : ElOk (kC, st0, none, 0, []) := ⟨List.Pairwise.nil, Nat.zero_le _, fun _ h => (by cases h), fun _ h => by cases h⟩
theorem k3_ok {b1 b2 : Nat} : ∀ r ∈ k3 b1 b2, ElOk r := fun r hr => by
  simp only [k3, List.mem_cons, List.mem_nil_iff, or_false] at hr
  rcases hr with rfl | rfl | rfl
  · exact who_ok (by decide)
  · exact who_ok (by decide)
  · exact c_ok
theorem k3_ord (b1 b2 : Nat) : ordL (standL ((k3 b1 b2).map rowP)) = [(kB, pB, 2), (kA, pA, 5)] := by
  have e : standL ((k3 b1 b2).map rowP) = [(kA, pA, 5), (kB, pB, 2)] := by kernel_rfl
  rw [e]
  refine (ord_eq (ys := [(kB, pB, 2), (kA, pA, 5)]) ?_ (List.Perm.swap _ _ _)).symm
  intro p q h1 h2 h3
  have h3 : q < 2 := h3
  obtain rfl : p = 0 := by omega
  obtain rfl : q = 1 := by omega
  have : cmpC (kB, pB, 2) (kA, pA, 5) = -1 := by kernel_rfl
  show cmpC (kB, pB, 2) (kA, pA, 5) ≤ 0
  omega
theorem c_ord : ordL (standL ([((kC, st0, none, 0, []) : RowH)].map rowP)) = [] := by
  have e : standL ([((kC, st0, none, 0, []) : RowH)].map rowP) = [] := by kernel_rfl
  rw [e]; simp [ordL]
theorem kbs3 (a0 : ByteArray) (b0 c0 d0 : Int) (e0 : ByteArray) (A0 : Option Addr) (n0 m0 : Nat) (a1 : ByteArray) (b1 c1 d1 : Int) (e1 : ByteArray) (A1 : Option Addr) (n1 m1 : Nat) (a2 : ByteArray) (b2 c2 d2 : Int) (e2 : ByteArray) (A2 : Option Addr) (n2 m2 : Nat) (K : Value → World → Prop) (w : World) : BuildSliceK Tryd.prog 22 3 #[(0, .agg #[(.string a0), (.int .i64 b0), (.int .i64 c0), (.int .i64 d0), (.string e0), (.slice A0 n0 m0)]), (1, .agg #[(.string a1), (.int .i64 b1), (.int .i64 c1), (.int .i64 d1), (.string e1), (.slice A1 n1 m1)]), (2, .agg #[(.string a2), (.int .i64 b2), (.int .i64 c2), (.int .i64 d2), (.string e2), (.slice A2 n2 m2)])] K w = K (.slice (some ⟨w.heap.size, 0, none⟩) 3 3) (w.alloc (.cells #[(.string a0), (.int .i64 b0), (.int .i64 c0), (.int .i64 d0), (.string e0), (.slice A0 n0 m0), (.string a1), (.int .i64 b1), (.int .i64 c1), (.int .i64 d1), (.string e1), (.slice A1 n1 m1), (.string a2), (.int .i64 b2), (.int .i64 c2), (.int .i64 d2), (.string e2), (.slice A2 n2 m2)] 55)) := by
  unfold BuildSliceK; (first | (go_simp; rfl) | (go_simp; done))
set_option maxHeartbeats 4000000 in
theorem known15_any {w : World} {K : Value → World → Prop} (hm : MaxAt w) (hK : ∀ w', Qt w w' → K (.bool true) w') : CallK Tryd.prog 30 #[] K w := by
  refine F30_calls _ _ ?_; unfold F30
  refine ck35 (who_any (k := kA) (rp := pA) (ld := 5) ?_)
  intro b1 w1 a1 q1 _
  simp (maxSteps := 1000000) (disch := omega) only [genAll, decAll, tk_nil, st30]
  refine ck35 (who_any (k := kB) (rp := pB) (ld := 2) ?_)
  intro b2 w2 a2 q2 _
  have q02 := q1.trans q2
  obtain ⟨q3, h3, s3⟩ := newb w2 #[.string kA, .int .i64 0, .int .i64 0, .int .i64 0, .string ByteArray.empty, .slice (some ⟨b1, 0, none⟩) 2 2, .string kB, .int .i64 0, .int .i64 0, .int .i64 0, .string ByteArray.empty, .slice (some ⟨b2, 0, none⟩) 2 2, .string kC, .int .i64 0, .int .i64 0, .int .i64 0, .string ByteArray.empty, .slice none 0 0] 55
  simp (maxSteps := 1000000) (disch := omega) only [genAll, decAll, tk_nil, st30, kbs3]
  change CallV _ _ _ _ (w2.alloc (.cells #[.string kA, .int .i64 0, .int .i64 0, .int .i64 0, .string ByteArray.empty, .slice (some ⟨b1, 0, none⟩) 2 2, .string kB, .int .i64 0, .int .i64 0, .int .i64 0, .string ByteArray.empty, .slice (some ⟨b2, 0, none⟩) 2 2, .string kC, .int .i64 0, .int .i64 0, .int .i64 0, .string ByteArray.empty, .slice none 0 0] 55))
  generalize (w2.alloc (.cells #[.string kA, .int .i64 0, .int .i64 0, .int .i64 0, .string ByteArray.empty, .slice (some ⟨b1, 0, none⟩) 2 2, .string kB, .int .i64 0, .int .i64 0, .int .i64 0, .string ByteArray.empty, .slice (some ⟨b2, 0, none⟩) 2 2, .string kC, .int .i64 0, .int .i64 0, .int .i64 0, .string ByteArray.empty, .slice none 0 0] 55)) = w3 at *
  have r3 : Reads w3 (some ⟨w2.heap.size, 0, none⟩) ((k3 b1 b2).flatMap rowC) := reads_blk (xs := (k3 b1 b2).flatMap rowC) h3
  have R3 := k3_at r3 ((a1.quiet q2).quiet q3) (a2.quiet q3)
  have q03 := q02.trans q3
  generalize w2.heap.size = b at *
  refine ck33 (rep_any (rs := k3 b1 b2) (c := 3) (hm.quiet q03) R3 (by show 3 ≤ 100000; omega) k3_ok ?_)
  rw [k3_ord]
  intro w4 q4
  have q04 := q03.trans q4
  obtain ⟨q5, h5, s5⟩ := newb w4 #[.string kB, .string pB, .int .i64 2] 73
  have ef : firstC [(kB, pB, 2), (kA, pA, 5)] = (kB, pB, 2) := rfl
  rw [ef]
  simp (maxSteps := 1000000) (disch := omega) only [genAll, decAll, tk_nil, st30]
  generalize (w4.alloc (.cells #[.string kB, .string pB, .int .i64 2] 73)) = w5 at *
  generalize w4.heap.size = b5 at *
  have q05 := q04.trans q5
  refine ck31 (order_any (rs := k3 b1 b2) (c := 3) (hm.quiet q05) (R3.quiet (q4.trans q5)) (by show 3 ≤ 100000; omega) k3_ok ?_)
  rw [k3_ord]
  intro A6 w6 r6 q6
  have q06 := q05.trans q6
  have l2 : [((kB, pB, 2) : ChoD), (kA, pA, 5)].length = 2 := rfl
  rw [l2]
  simp (maxSteps := 1000000) (disch := omega) only [genAll, decAll, tk_nil, st30]
  change CallV _ _ #[.slice (some ⟨b, 12, none⟩) 1 1] _ _
  have h36 := ((q4.trans q5).trans q6).heap h3 (fun h => h)
  have r6c : Reads w6 (some ⟨b, 12, none⟩) ([((kC, st0, none, 0, []) : RowH)].flatMap rowC) := by
    refine .inr ⟨b, 12, rfl, fun j hj => ?_⟩
    rw [blk_cell h36]
    have hj : j < 6 := hj
    match j, hj with
    | 0, _ => rfl
    | 1, _ => rfl
    | 2, _ => rfl
    | 3, _ => rfl
    | 4, _ => rfl
    | 5, _ => rfl
  have R6 : RowsAt w6 (some ⟨b, 12, none⟩) [((kC, st0, none, 0, []) : RowH)] := ⟨r6c, fun r hr => by
    have : r = (kC, st0, none, 0, []) := by simpa using hr
    subst this
    exact ⟨.inl rfl, fun _ h => by cases h⟩⟩
  refine ck33 (rep_any (rs := [((kC, st0, none, 0, []) : RowH)]) (c := 1) (hm.quiet q06) R6 (by show 1 ≤ 100000; omega) (fun r hr => by
    have : r = (kC, st0, none, 0, []) := by simpa using hr
    subst this
    exact c_ok) ?_)
  rw [c_ord]
  intro w7 q7
  have q07 := q06.trans q7
  obtain ⟨q8, h8, s8⟩ := newb w7 #[.string cho0.1, .string cho0.2.1, .int .i64 cho0.2.2] 73
  have ef : firstC [] = cho0 := rfl
  rw [ef]
  simp (maxSteps := 1000000) (disch := omega) only [genAll, decAll, tk_nil, st30]
  generalize (w7.alloc (.cells #[.string cho0.1, .string cho0.2.1, .int .i64 cho0.2.2] 73)) = w8 at *
  have q58 := (q6.trans q7).trans q8
  obtain ⟨x0, x1, x2⟩ := cell3 (q58.heap h5 (fun h => h))
  obtain ⟨g, o, rfl, y0, _⟩ := cho_at (r6.quiet (q7.trans q8)) (i := 1) (by decide)
  have y0 : w8.cell? ⟨g, o + 1 * 3, none⟩ = some (.string kA) := y0
  have eA : (kA.toList == (⟨#[97]⟩ : ByteArray).toList) = true := beq_self_eq_true _
  have eB : (kB.toList == (⟨#[98]⟩ : ByteArray).toList) = true := beq_self_eq_true _
  have ep : (pB.toList == (⟨#[47, 98, 47, 121]⟩ : ByteArray).toList) = true := beq_self_eq_true _
  have e2 : ((2 : Int) == 2) = true := rfl
  have t1 : Int.toNat 1 = 1 := rfl
  have em : ([((kB, pB, 2) : ChoD), (kA, pA, 5)].isEmpty) = false := rfl
  have em2 : (([] : List ChoD).isEmpty) = true := rfl
  simp (maxSteps := 1000000) (disch := omega) only [genAll, decAll, tk_nil, st30, x0, x1, x2, y0, eA, eB, ep, e2, t1, em, em2]
  exact hK _ (q07.trans q8)
end Go.Proofs.YtpjeohellehgjaaDoor

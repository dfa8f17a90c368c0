/- ElectLeast: the walk. Condition: the numbers read. -/
import Derived.Test.YtpjeohellehgjaaDoorOneLaw
set_option linter.unusedVariables false
set_option linter.unusedSimpArgs false
set_option maxRecDepth 100000
namespace Go.Proofs.YtpjeohellehgjaaDoor
open Go.RowKit Go.Cn
theorem kbadd9 {x y : ByteArray} (h : x.size + y.size ≤ 9223372036854775807) (K : Value → World → Prop) (w : World) : BinK Tryd.prog .add 9 (.string x) (.string y) K w = K (.string (x ++ y)) w := by
  have hn : ¬ 9223372036854775807 < x.size + y.size := by omega
  unfold BinK
  go_simp
  first
    | rfl
    | (rw [if_neg hn]; rfl)
    | (simp only [hn, if_false]; rfl)
theorem qkbadd9 {x y : ByteArray} (h : x.size + y.size ≤ 9223372036854775807) {K : Value → Prop} {T : Nat → Prop} {w1 : World} : BinT Tryd.prog (Chs T w1) .add 9 (.string x) (.string y) (@Cn.hid _ ⟨K⟩) = K (.string (x ++ y)) := tk_B (fun w' => (kbadd9 h (fun v' w'' => v' = (.string (x ++ y)) ∧ w'' = w') w').mpr ⟨rfl, rfl⟩)
theorem addK (b : UInt8) : (⟨#[107]⟩ : ByteArray).size + (txt [b]).size ≤ 9223372036854775807 := by
  rw [txt_size]; show (1 + 1 : Nat) ≤ 9223372036854775807; omega
theorem addR (b : UInt8) : (⟨#[47, 122, 47, 109]⟩ : ByteArray).size + (txt [b]).size ≤ 9223372036854775807 := by
  rw [txt_size]; show (4 + 1 : Nat) ≤ 9223372036854775807; omega
def keyI (i : Nat) : ByteArray := (⟨#[107]⟩ : ByteArray) ++ txt [UInt8.ofNat (97 + i)]
def repI (i : Nat) : ByteArray := (⟨#[47, 122, 47, 109]⟩ : ByteArray) ++ txt [UInt8.ofNat (122 - i)]
theorem repI_node : ∀ i, i < 20 → nodeB (repI i).data.toList = true := by
  have h : ((List.range 20).all fun i => nodeB (repI i).data.toList) = true := by kernel_rfl
  intro i hi
  exact List.all_eq_true.1 h i (List.mem_range.2 hi)
theorem repI_cmp : ∀ i j, i < 20 → j < 20 → cmpS (repI i) (repI j) = cmpI ((j : Int)) (i : Int) := by
  have h : ((List.range 20).all fun i => (List.range 20).all fun j => decide (cmpS (repI i) (repI j) = cmpI ((j : Int)) (i : Int))) = true := by kernel_rfl
  intro i j hi hj
  exact of_decide_eq_true (List.all_eq_true.1 (List.all_eq_true.1 h i (List.mem_range.2 hi)) j (List.mem_range.2 hj))
theorem repI_size : ∀ i, i < 20 → (repI i).size ≤ 20000 := by
  have h : ((List.range 20).all fun i => decide ((repI i).size ≤ 20000)) = true := by kernel_rfl
  intro i hi
  exact of_decide_eq_true (List.all_eq_true.1 h i (List.mem_range.2 hi))
def choI (l : List Int) (i : Nat) : ChoD := (keyI i, repI i, l.getD i 0)
/-- The row of one. -/
def rowI (l : List Int) (i : Nat) : RowD := (keyI i, st0, (whoA (repI i) (l.getD i 0)).map attP)
theorem whoA_cho (key rp : ByteArray) (ld : Int) (h : nodeB rp.data.toList = true) : standsP (key, st0, (whoA rp ld).map attP) = true ∧ choOf (key, st0, (whoA rp ld).map attP) = (key, rp, ld) := by
  have e1 : getB ((whoA rp ld).map attP) kRep = ((2, 0, rp, []), true) := by
    have : decide (kLoad = kRep) = false := by kernel_rfl
    unfold getB whoA
    simp [attP, this]
  have e2 : getB ((whoA rp ld).map attP) kLoad = ((1, ld, ByteArray.empty, []), true) := by
    unfold getB whoA
    simp [attP]
  refine ⟨?_, ?_⟩
  · unfold standsP
    simp only [e1, h]; rfl
  · unfold choOf loadOf
    simp only [e1, e2]; rfl
theorem rowI_cho (l : List Int) {i : Nat} (hi : i < 20) : standsP (rowI l i) = true ∧ choOf (rowI l i) = choI l i := whoA_cho _ _ _ (repI_node i hi)
theorem standI (l : List Int) : ∀ n, n ≤ 20 → standL ((List.range n).map (rowI l)) = (List.range n).map (choI l) := by
  intro n
  induction n with
  | zero => intro _; rfl
  | succ n ih =>
    intro hn
    have ih := ih (by omega)
    obtain ⟨h1, h2⟩ := rowI_cho l (show n < 20 by omega)
    unfold standL at ih ⊢
    rw [List.range_succ, List.map_append, List.filter_append, List.map_append, ih]
    simp [h1, h2]
theorem cvK : ∀ i : Nat, i < 20 → IntKind.u8.wrap (97 + (i : Int)) = ((UInt8.ofNat (97 + i)).toNat : Int) := by
  have h : ((List.range 20).all fun i => decide (IntKind.u8.wrap (97 + (i : Int)) = ((UInt8.ofNat (97 + i)).toNat : Int))) = true := by kernel_rfl
  intro i hi
  exact of_decide_eq_true (List.all_eq_true.1 h i (List.mem_range.2 hi))
theorem cvR : ∀ i : Nat, i < 20 → IntKind.u8.wrap (122 - (i : Int)) = ((UInt8.ofNat (122 - i)).toNat : Int) := by
  have h : ((List.range 20).all fun i => decide (IntKind.u8.wrap (122 - (i : Int)) = ((UInt8.ofNat (122 - i)).toNat : Int))) = true := by kernel_rfl
  intro i hi
  exact of_decide_eq_true (List.all_eq_true.1 h i (List.mem_range.2 hi))
/-- Which is the last of the least. -/
def BestAt (l : List Int) (n b : Nat) : Prop := b < n ∧ ∀ j, j < n → l.getD b 0 ≤ l.getD j 0 ∧ (l.getD j 0 = l.getD b 0 → j ≤ b)
theorem cmpC_I {l : List Int} {i j : Nat} (hi : i < 20) (hj : j < 20) : cmpC (choI l i) (choI l j) ≤ 0 ↔ (l.getD i 0 < l.getD j 0 ∨ (l.getD i 0 = l.getD j 0 ∧ j ≤ i)) := by
  unfold cmpC choI
  simp only [repI_cmp i j hi hj]
  generalize l.getD i 0 = p at *
  generalize l.getD j 0 = q at *
  by_cases h1 : p < q
  · have e : cmpI p q = -1 := by unfold cmpI; rw [if_pos h1]
    rw [e, orI_1 (by decide)]
    exact ⟨fun _ => .inl h1, fun _ => by decide⟩
  · by_cases h2 : q < p
    · have e : cmpI p q = 1 := by unfold cmpI; rw [if_neg h1, if_pos h2]
      rw [e, orI_1 (by decide)]
      exact ⟨fun h => absurd h (by decide), fun h => by omega⟩
    · have e0 : p = q := by omega
      rw [cmpI_zero.2 e0, orI_0 rfl]
      by_cases e : j = i
      · subst e
        rw [cmpI_zero.2 rfl, orI_0 rfl, show cmpS (keyI j) (keyI j) = 0 from cmpL_self _]
        exact ⟨fun _ => .inr ⟨e0, Nat.le_refl _⟩, fun _ => by decide⟩
      · have hne : cmpI (j : Int) (i : Int) ≠ 0 := fun h => e (by have := cmpI_zero.1 h; omega)
        rw [orI_1 hne]
        unfold cmpI
        by_cases h3 : (j : Int) < (i : Int)
        · rw [if_pos h3]; exact ⟨fun _ => .inr ⟨e0, by omega⟩, fun _ => by decide⟩
        · rw [if_neg h3, if_pos (by omega)]; exact ⟨fun h => absurd h (by decide), fun h => by omega⟩
theorem best_first {l : List Int} {n b : Nat} (hn : n ≤ 20) (hb : BestAt l n b) : firstC (ordL ((List.range n).map (choI l))) = choI l b := by
  have hp := ordL_perm ((List.range n).map (choI l))
  have hs := ordL_pair ((List.range n).map (choI l))
  generalize ordL ((List.range n).map (choI l)) = o at *
  obtain ⟨hbn, hmin⟩ := hb
  have hmem : choI l b ∈ o := hp.symm.subset (List.mem_map_of_mem (List.mem_range.2 hbn))
  cases o with
  | nil => cases hmem
  | cons x r =>
    have hx : x ∈ (List.range n).map (choI l) := hp.subset List.mem_cons_self
    obtain ⟨j, hj, rfl⟩ := List.mem_map.1 hx
    have hj := List.mem_range.1 hj
    show choI l j = choI l b
    have h1 : cmpC (choI l b) (choI l j) ≤ 0 := (cmpC_I (by omega) (by omega)).2 (by
      have := hmin j hj; omega)
    have h2 : cmpC (choI l j) (choI l b) ≤ 0 := by
      rcases List.mem_cons.1 hmem with h | h
      · rw [h, cmpC_self]; omega
      · exact (List.pairwise_cons.1 hs).1 _ h
    have := cmpC_anti (choI l j) (choI l b)
    exact cmpC_zero (by omega)
/-- Each two of them that stand side by side. -/
theorem ord_strict {l : List Int} {n i : Nat} (hn : n ≤ 20) (hi : 0 < i) (hin : i < n) : (el (ordL ((List.range n).map (choI l))) (i - 1)).2.2 ≤ (el (ordL ((List.range n).map (choI l))) i).2.2 ∧ ((el (ordL ((List.range n).map (choI l))) (i - 1)).2.2 = (el (ordL ((List.range n).map (choI l))) i).2.2 → ltS (el (ordL ((List.range n).map (choI l))) (i - 1)).2.1 (el (ordL ((List.range n).map (choI l))) i).2.1 = true) := by
  have hp := ordL_perm ((List.range n).map (choI l))
  have hs := ordL_pair ((List.range n).map (choI l))
  generalize ordL ((List.range n).map (choI l)) = o at *
  have hl : o.length = n := by have := hp.length_eq; simpa using this
  have hinj : ∀ a b, a < n → b < n → choI l a = choI l b → a = b := fun a b ha hb h => by
    have h1 : repI a = repI b := congrArg (fun c : ChoD => c.2.1) h
    have h2 := repI_cmp a b (by omega) (by omega)
    rw [cmpS_zero.2 h1] at h2
    have := cmpI_zero.1 h2.symm
    omega
  have hnd : o.Nodup := by
    refine hp.symm.nodup (List.pairwise_map.2 (List.Pairwise.imp_of_mem (fun ha hb hne h => ?_) List.nodup_range))
    exact hne (hinj _ _ (List.mem_range.1 ha) (List.mem_range.1 hb) h)
  have e1 : el o (i - 1) = o[i - 1] := by simp [el, show i - 1 < o.length by omega]
  have e2 : el o i = o[i] := by simp [el, show i < o.length by omega]
  have hle := List.pairwise_iff_getElem.1 hs (i - 1) i (by omega) (by omega) (by omega)
  have hne := List.pairwise_iff_getElem.1 hnd (i - 1) i (by omega) (by omega) (by omega)
  obtain ⟨a, ha, hea⟩ := List.mem_map.1 (hp.subset (List.getElem_mem (show i - 1 < o.length by omega)))
  obtain ⟨b, hb, heb⟩ := List.mem_map.1 (hp.subset (List.getElem_mem (show i < o.length by omega)))
  have ha := List.mem_range.1 ha
  have hb := List.mem_range.1 hb
  rw [e1, e2, ← hea, ← heb]
  rw [← hea, ← heb] at hle hne
  have hc := (cmpC_I (l := l) (i := a) (j := b) (by omega) (by omega)).1 hle
  have hab : a ≠ b := fun e => hne (by rw [e])
  show l.getD a 0 ≤ l.getD b 0 ∧ (l.getD a 0 = l.getD b 0 → ltS (repI a) (repI b) = true)
  refine ⟨by omega, fun h => ?_⟩
  have hlt : (b : Int) < (a : Int) := by omega
  rw [ltS_iff, repI_cmp a b (by omega) (by omega)]
  unfold cmpI
  rw [if_pos hlt]
theorem best_step {l : List Int} {i b : Nat} (h : (i = 0 ∧ b = 0) ∨ BestAt l i b) (hi : i < l.length) : (l.getD i 0 ≤ l.getD b 0 → BestAt l (i + 1) i) ∧ (¬ l.getD i 0 ≤ l.getD b 0 → BestAt l (i + 1) b) := by
  rcases h with ⟨rfl, rfl⟩ | ⟨h1, h2⟩
  · refine ⟨fun _ => ⟨by omega, fun j hj => ?_⟩, fun h => absurd (Int.le_refl _) h⟩
    obtain rfl : j = 0 := by omega
    exact ⟨Int.le_refl _, fun _ => Nat.le_refl _⟩
  · refine ⟨fun h => ⟨by omega, fun j hj => ?_⟩, fun h => ⟨by omega, fun j hj => ?_⟩⟩
    · by_cases e : j = i
      · subst e; exact ⟨Int.le_refl _, fun _ => Nat.le_refl _⟩
      · have := h2 j (by omega)
        exact ⟨by omega, fun _ => by omega⟩
    · by_cases e : j = i
      · subst e; exact ⟨by omega, fun e => by omega⟩
      · exact h2 j (by omega)
set_option maxHeartbeats 8000000 in
theorem electLeast_any {l : List Int} {A : Option Addr} {c : Nat} {w : World} {K : Value → World → Prop} (hm : MaxAt w) (ha : Reads w A (ints l)) (hK : ∀ w', Qt w w' → K (.bool true) w') : CallK Tryd.prog 8 #[.slice A l.length c] K w := by
  refine F8_calls _ _ _ ?_; unfold F8
  refine ck30 (known15_any hm ?_)
  intro w1 q1
  by_cases h0 : l.length = 0
  · have e : ((l.length : Int) == 0) = true := by rw [h0]; rfl
    simp (maxSteps := 1000000) (disch := omega) only [genAll, decAll, tk_nil, st8, e, guardK_u]
    exact hK _ q1
  have e0 : ((l.length : Int) == 0) = false := beq_eq_false_iff_ne.2 (by omega)
  by_cases h20 : 20 < l.length
  · simp (maxSteps := 1000000) (disch := omega) only [genAll, decAll, tk_nil, st8, e0, guardK_u]
    exact hK _ q1
  simp (maxSteps := 1000000) (disch := omega) only [genAll, decAll, tk_nil, st8, e0]
  refine loopK3 (fun x y v w' => ∃ (i b : Nat) (A' : Option Addr) (c' : Nat) (F : Option Nat) (rs' : List RowH), v = .int .i64 i ∧ y = .int .i64 b ∧ i ≤ l.length ∧ rs'.length = i ∧ x = .slice A' i c' ∧ rs'.map rowP = (List.range i).map (rowI l) ∧ (∀ r ∈ rs', ElOk r) ∧ Own w' 55 6 (.slice A' i c') i (rs'.flatMap rowC) F ∧ (∀ r ∈ rs', AttsAt w' r.2.2.1 r.2.2.2.2 ∧ AttsSep (fun k => F = some k) r.2.2.1 r.2.2.2.2) ∧ ((i = 0 ∧ b = 0) ∨ BestAt l i b) ∧ Qt w1 w' ∧ (∀ k, F = some k → w1.heap.size ≤ k)) (fun _ _ v _ => l.length - (intOf v).toNat) ⟨0, 0, none, 0, none, [], rfl, rfl, by omega, rfl, rfl, rfl, fun _ h => (by cases h), Own.nil _ _ _, fun _ h => (by cases h), .inl ⟨rfl, rfl⟩, Qt.refl, fun _ h => by cases h⟩ ?_
  rintro _ _ _ _ w2 ⟨i, b, A2, c2, F2, rs', rfl, rfl, hi, hln, rfl, hmap, hel, o2, hr2, hbest, q2, f2⟩
  have q02 := q1.trans q2
  by_cases hlt : i < l.length
  · have hi20 : i < 20 := by omega
    have XL := fun w' (q : Quiets w w') => int_at (Reads.quiet ha q) hlt
    obtain ⟨g, o, hA, _⟩ := XL w Qt.refl
    subst hA
    have L0 : ∀ w', Quiets w w' → w'.cell? ⟨g, o + i, none⟩ = some (.int .i64 (l.getD i 0)) := fun w' q => by obtain ⟨_, _, he, z⟩ := XL w' q; cases he; exact z
    simp (maxSteps := 1000000) (disch := omega) only [genAll, decAll, tk_nil, st8]
    have fin : ∀ (w5 : World) (bw : Nat), Qt w2 w5 → w2.heap.size ≤ bw → AttsAt w5 (some ⟨bw, 0, none⟩) (whoA (repI i) (l.getD i 0)) → ∃ A7 c7 w7, (Builtin.append_ #[22, 22] 22 #[.slice A2 i c2, .slice (some ⟨w5.heap.size, 0, none⟩) 1 1]).run Tryd.prog (w5.alloc (.cells #[.string (keyI i), .int .i64 st0.1, .int .i64 st0.2.1, .int .i64 st0.2.2.1, .string st0.2.2.2, .slice (some ⟨bw, 0, none⟩) 2 2] 55)) = .ok (.slice A7 (i + 1) c7) w7 ∧ Qt w1 w7 ∧ ∀ (u : Value) (w' : World), u = .slice A7 (i + 1) c7 → w' = w7 → (∃ (A' : Option Addr) (c' : Nat) (F : Option Nat) (rs2 : List RowH), u = .slice A' (i + 1) c' ∧ rs2.length = i + 1 ∧ rs2.map rowP = (List.range (i + 1)).map (rowI l) ∧ (∀ r ∈ rs2, ElOk r) ∧ Own w' 55 6 (.slice A' (i + 1) c') (i + 1) (rs2.flatMap rowC) F ∧ (∀ r ∈ rs2, AttsAt w' r.2.2.1 r.2.2.2.2 ∧ AttsSep (fun k => F = some k) r.2.2.1 r.2.2.2.2) ∧ Qt w1 w' ∧ (∀ k, F = some k → w1.heap.size ≤ k)) := by
      intro w5 bw q5 hbw a5
      obtain ⟨q6, h6, s6⟩ := newb w5 #[.string (keyI i), .int .i64 st0.1, .int .i64 st0.2.1, .int .i64 st0.2.2.1, .string st0.2.2.2, .slice (some ⟨bw, 0, none⟩) 2 2] 55
      obtain ⟨A7, c7, F7, w7, p7, o7, k7, f7⟩ := pushN_run (P := Tryd.prog) tyR ((o2.chg q5 (fun _ _ h => h)).chg q6 (fun _ _ h => h)) [.string (keyI i), .int .i64 st0.1, .int .i64 st0.2.1, .int .i64 st0.2.2.1, .string st0.2.2.2, .slice (some ⟨bw, 0, none⟩) 2 2] rfl (rowC_one (keyI i, st0, some ⟨bw, 0, none⟩, 2, whoA (repI i) (l.getD i 0))) h6 (by omega) (by omega) 22
      have q56 := q5.trans q6
      have q17 : Qt w1 w7 := Qt.then (q2.trans q56) k7 f2
      have s56 := q56.size
      have f7' : ∀ k, F7 = some k → F2 = some k ∨ (w5.alloc (.cells #[.string (keyI i), .int .i64 st0.1, .int .i64 st0.2.1, .int .i64 st0.2.2.1, .string st0.2.2.2, .slice (some ⟨bw, 0, none⟩) 2 2] 55)).heap.size ≤ k := fun k hk => (f7 k hk).elim .inl (fun h => .inr (by omega))
      refine ⟨A7, c7, w7, p7, q17, fun u w' hu hw => ?_⟩
      subst hu hw
      refine ⟨A7, c7, F7, rs' ++ [(keyI i, st0, some ⟨bw, 0, none⟩, 2, whoA (repI i) (l.getD i 0))], rfl, by simp [hln], ?_, ?_, ?_, ?_, q17, fun k hk => ?_⟩
      · rw [List.range_succ, List.map_append, List.map_append, hmap]; rfl
      · intro r hr
        rcases List.mem_append.1 hr with hr | hr
        · exact hel r hr
        · have : r = (keyI i, st0, some ⟨bw, 0, none⟩, 2, whoA (repI i) (l.getD i 0)) := by simpa using hr
          subst this
          exact who_ok (repI_size i hi20)
      · rw [List.flatMap_append]
        simpa [rowC, whoA] using o7
      · intro r hr
        have hx : AttsAt (w5.alloc (.cells #[.string (keyI i), .int .i64 st0.1, .int .i64 st0.2.1, .int .i64 st0.2.2.1, .string st0.2.2.2, .slice (some ⟨bw, 0, none⟩) 2 2] 55)) r.2.2.1 r.2.2.2.2 ∧ AttsSep (fun k => F2 = some k) r.2.2.1 r.2.2.2.2 := by
          rcases List.mem_append.1 hr with hr | hr
          · exact ⟨(hr2 r hr).1.quiet q56, (hr2 r hr).2⟩
          · have : r = (keyI i, st0, some ⟨bw, 0, none⟩, 2, whoA (repI i) (l.getD i 0)) := by simpa using hr
            subst this
            refine ⟨a5.quiet q6, fun _ ad hA e => ?_, fun x hx => ?_⟩
            · cases hA
              have hlt2 : bw < w2.heap.size := o2.lt e
              omega
            · simp only [whoA, List.mem_cons, List.mem_nil_iff, or_false] at hx
              rcases hx with rfl | rfl <;> exact Sep.nil
        exact ⟨hx.1.sep k7 hx.2, attsSep_push hx.2 hx.1 f7'⟩
      · rcases f7' k hk with h | h
        · exact f2 k h
        · have := q2.size; omega
    refine cutK1 (fun u w' => ∃ (A' : Option Addr) (c' : Nat) (F : Option Nat) (rs2 : List RowH), u = .slice A' (i + 1) c' ∧ rs2.length = i + 1 ∧ rs2.map rowP = (List.range (i + 1)).map (rowI l) ∧ (∀ r ∈ rs2, ElOk r) ∧ Own w' 55 6 (.slice A' (i + 1) c') (i + 1) (rs2.flatMap rowC) F ∧ (∀ r ∈ rs2, AttsAt w' r.2.2.1 r.2.2.2.2 ∧ AttsSep (fun k => F = some k) r.2.2.1 r.2.2.2.2) ∧ Qt w1 w' ∧ (∀ k, F = some k → w1.heap.size ≤ k)) ?_ ?_
    · have q2d : Qt w w2.drew := q02.trans (Qt.drew Qt.refl)
      refine drawC (fun _ => False) w q2d ?_
      have q22 : Qt w2 w2.drew := Qt.drew Qt.refl
      generalize w2.drew = wd at *
      have qa : Qt wd (wd.alloc (.cells #[.int .u8 ((UInt8.ofNat (97 + i)).toNat : Int)] 5)) := Chg.alloc Qt.refl _
      have qb : Qt wd (wd.alloc (.cells #[.int .u8 ((UInt8.ofNat (122 - i)).toNat : Int)] 5)) := Chg.alloc Qt.refl _
      have qab : Qt wd ((wd.alloc (.cells #[.int .u8 ((UInt8.ofNat (97 + i)).toNat : Int)] 5)).alloc (.cells #[.int .u8 ((UInt8.ofNat (122 - i)).toNat : Int)] 5)) := qa.trans (Chg.alloc Qt.refl _)
      have qba : Qt wd ((wd.alloc (.cells #[.int .u8 ((UInt8.ofNat (122 - i)).toNat : Int)] 5)).alloc (.cells #[.int .u8 ((UInt8.ofNat (97 + i)).toNat : Int)] 5)) := qb.trans (Chg.alloc Qt.refl _)
      have rka : Reads (wd.alloc (.cells #[.int .u8 ((UInt8.ofNat (97 + i)).toNat : Int)] 5)) (some ⟨wd.heap.size, 0, none⟩) ([UInt8.ofNat (97 + i)].map vb) := reads_blk (xs := [UInt8.ofNat (97 + i)].map vb) (blk_new _ _)
      have rrb : Reads (wd.alloc (.cells #[.int .u8 ((UInt8.ofNat (122 - i)).toNat : Int)] 5)) (some ⟨wd.heap.size, 0, none⟩) ([UInt8.ofNat (122 - i)].map vb) := reads_blk (xs := [UInt8.ofNat (122 - i)].map vb) (blk_new _ _)
      have rkab := rka.quiet (show Qt (wd.alloc (.cells #[.int .u8 ((UInt8.ofNat (97 + i)).toNat : Int)] 5)) ((wd.alloc (.cells #[.int .u8 ((UInt8.ofNat (97 + i)).toNat : Int)] 5)).alloc (.cells #[.int .u8 ((UInt8.ofNat (122 - i)).toNat : Int)] 5)) from Chg.alloc Qt.refl _)
      have rrba := rrb.quiet (show Qt (wd.alloc (.cells #[.int .u8 ((UInt8.ofNat (122 - i)).toNat : Int)] 5)) ((wd.alloc (.cells #[.int .u8 ((UInt8.ofNat (122 - i)).toNat : Int)] 5)).alloc (.cells #[.int .u8 ((UInt8.ofNat (97 + i)).toNat : Int)] 5)) from Chg.alloc Qt.refl _)
      have rrab : Reads ((wd.alloc (.cells #[.int .u8 ((UInt8.ofNat (97 + i)).toNat : Int)] 5)).alloc (.cells #[.int .u8 ((UInt8.ofNat (122 - i)).toNat : Int)] 5)) (some ⟨wd.heap.size + 1, 0, none⟩) ([UInt8.ofNat (122 - i)].map vb) := reads_blk (xs := [UInt8.ofNat (122 - i)].map vb) (by
        have : (wd.alloc (.cells #[.int .u8 ((UInt8.ofNat (97 + i)).toNat : Int)] 5)).heap.size = wd.heap.size + 1 := size_alloc _ _
        rw [← this]; exact blk_new _ _)
      have rkba : Reads ((wd.alloc (.cells #[.int .u8 ((UInt8.ofNat (122 - i)).toNat : Int)] 5)).alloc (.cells #[.int .u8 ((UInt8.ofNat (97 + i)).toNat : Int)] 5)) (some ⟨wd.heap.size + 1, 0, none⟩) ([UInt8.ofNat (97 + i)].map vb) := reads_blk (xs := [UInt8.ofNat (97 + i)].map vb) (by
        have : (wd.alloc (.cells #[.int .u8 ((UInt8.ofNat (122 - i)).toNat : Int)] 5)).heap.size = wd.heap.size + 1 := size_alloc _ _
        rw [← this]; exact blk_new _ _)
      simp (maxSteps := 1000000) (disch := omega) only [genAll, decAll, tk_nil, st8, qkld2 L0, cvK i hi20, cvR i hi20]
      refine ⟨⟨q2d.trans qa, ?_, ⟨q2d.trans qab, ?_, ?_, trivial⟩, trivial⟩, ⟨q2d.trans qb, ⟨q2d.trans qba, ?_, ?_, trivial⟩, ?_, trivial⟩, trivial⟩
      · refine convK Tryd.underlying82 Tryd.underlying5 Tryd.underlying9 rka ?_
        simp (maxSteps := 1000000) (disch := omega) only [genAll, decAll, tk_nil, st8, qkbadd9 (addK _), cvK i hi20, cvR i hi20]
        refine ⟨q2d.trans qa, ⟨q2d.trans qab, ?_, trivial⟩, trivial⟩
        refine convK Tryd.underlying82 Tryd.underlying5 Tryd.underlying9 rrab ?_
        simp (maxSteps := 1000000) (disch := omega) only [genAll, decAll, tk_nil, st8, qkbadd9 (addR _)]
        refine ⟨q2d.trans qab, ?_, trivial⟩
        refine ck35 (who_any (k := keyI i) (rp := repI i) (ld := l.getD i 0) ?_)
        intro bw w5 a5 q5 hbw
        have qX := q22.trans qab
        have hqX := qX.size
        obtain ⟨A7, c7, w7, p7, q7, hrel⟩ := fin w5 bw (qX.trans q5) (by omega) a5
        have q5x := (q2d.trans qab).trans q5
        have q6x : ∀ o, Qt w (w5.alloc o) := fun o => q5x.trans (Chg.alloc Qt.refl o)
        simp (maxSteps := 1000000) (disch := omega) only [genAll, decAll, tk_nil, st8]
        refine ⟨q5x, ⟨q6x _, appK p7 ?_, trivial⟩, trivial⟩
        simp (maxSteps := 1000000) (disch := omega) only [genAll, decAll, tk_nil, st8]
        exact ⟨q1.trans q7, hrel _ _ rfl rfl⟩
      · refine convK Tryd.underlying82 Tryd.underlying5 Tryd.underlying9 rkab ?_
        simp (maxSteps := 1000000) (disch := omega) only [genAll, decAll, tk_nil, st8, qkbadd9 (addK _), cvK i hi20, cvR i hi20]
        refine ⟨q2d.trans qab, ?_, trivial⟩
        refine convK Tryd.underlying82 Tryd.underlying5 Tryd.underlying9 rrab ?_
        simp (maxSteps := 1000000) (disch := omega) only [genAll, decAll, tk_nil, st8, qkbadd9 (addR _)]
        refine ⟨q2d.trans qab, ?_, trivial⟩
        refine ck35 (who_any (k := keyI i) (rp := repI i) (ld := l.getD i 0) ?_)
        intro bw w5 a5 q5 hbw
        have qX := q22.trans qab
        have hqX := qX.size
        obtain ⟨A7, c7, w7, p7, q7, hrel⟩ := fin w5 bw (qX.trans q5) (by omega) a5
        have q5x := (q2d.trans qab).trans q5
        have q6x : ∀ o, Qt w (w5.alloc o) := fun o => q5x.trans (Chg.alloc Qt.refl o)
        simp (maxSteps := 1000000) (disch := omega) only [genAll, decAll, tk_nil, st8]
        refine ⟨q5x, ⟨q6x _, appK p7 ?_, trivial⟩, trivial⟩
        simp (maxSteps := 1000000) (disch := omega) only [genAll, decAll, tk_nil, st8]
        exact ⟨q1.trans q7, hrel _ _ rfl rfl⟩
      · refine convK Tryd.underlying82 Tryd.underlying5 Tryd.underlying9 rrab ?_
        simp (maxSteps := 1000000) (disch := omega) only [genAll, decAll, tk_nil, st8, qkbadd9 (addR _), cvK i hi20, cvR i hi20]
        refine ⟨q2d.trans qab, ?_, trivial⟩
        refine convK Tryd.underlying82 Tryd.underlying5 Tryd.underlying9 rkab ?_
        simp (maxSteps := 1000000) (disch := omega) only [genAll, decAll, tk_nil, st8, qkbadd9 (addK _)]
        refine ⟨q2d.trans qab, ?_, trivial⟩
        refine ck35 (who_any (k := keyI i) (rp := repI i) (ld := l.getD i 0) ?_)
        intro bw w5 a5 q5 hbw
        have qX := q22.trans qab
        have hqX := qX.size
        obtain ⟨A7, c7, w7, p7, q7, hrel⟩ := fin w5 bw (qX.trans q5) (by omega) a5
        have q5x := (q2d.trans qab).trans q5
        have q6x : ∀ o, Qt w (w5.alloc o) := fun o => q5x.trans (Chg.alloc Qt.refl o)
        simp (maxSteps := 1000000) (disch := omega) only [genAll, decAll, tk_nil, st8]
        refine ⟨q5x, ⟨q6x _, appK p7 ?_, trivial⟩, trivial⟩
        simp (maxSteps := 1000000) (disch := omega) only [genAll, decAll, tk_nil, st8]
        exact ⟨q1.trans q7, hrel _ _ rfl rfl⟩
      · refine convK Tryd.underlying82 Tryd.underlying5 Tryd.underlying9 rkba ?_
        simp (maxSteps := 1000000) (disch := omega) only [genAll, decAll, tk_nil, st8, qkbadd9 (addK _), cvK i hi20, cvR i hi20]
        refine ⟨q2d.trans qba, ?_, trivial⟩
        refine convK Tryd.underlying82 Tryd.underlying5 Tryd.underlying9 rrba ?_
        simp (maxSteps := 1000000) (disch := omega) only [genAll, decAll, tk_nil, st8, qkbadd9 (addR _)]
        refine ⟨q2d.trans qba, ?_, trivial⟩
        refine ck35 (who_any (k := keyI i) (rp := repI i) (ld := l.getD i 0) ?_)
        intro bw w5 a5 q5 hbw
        have qX := q22.trans qba
        have hqX := qX.size
        obtain ⟨A7, c7, w7, p7, q7, hrel⟩ := fin w5 bw (qX.trans q5) (by omega) a5
        have q5x := (q2d.trans qba).trans q5
        have q6x : ∀ o, Qt w (w5.alloc o) := fun o => q5x.trans (Chg.alloc Qt.refl o)
        simp (maxSteps := 1000000) (disch := omega) only [genAll, decAll, tk_nil, st8]
        refine ⟨q5x, ⟨q6x _, appK p7 ?_, trivial⟩, trivial⟩
        simp (maxSteps := 1000000) (disch := omega) only [genAll, decAll, tk_nil, st8]
        exact ⟨q1.trans q7, hrel _ _ rfl rfl⟩
      · refine convK Tryd.underlying82 Tryd.underlying5 Tryd.underlying9 rrba ?_
        simp (maxSteps := 1000000) (disch := omega) only [genAll, decAll, tk_nil, st8, qkbadd9 (addR _), cvK i hi20, cvR i hi20]
        refine ⟨q2d.trans qba, ?_, trivial⟩
        refine convK Tryd.underlying82 Tryd.underlying5 Tryd.underlying9 rkba ?_
        simp (maxSteps := 1000000) (disch := omega) only [genAll, decAll, tk_nil, st8, qkbadd9 (addK _)]
        refine ⟨q2d.trans qba, ?_, trivial⟩
        refine ck35 (who_any (k := keyI i) (rp := repI i) (ld := l.getD i 0) ?_)
        intro bw w5 a5 q5 hbw
        have qX := q22.trans qba
        have hqX := qX.size
        obtain ⟨A7, c7, w7, p7, q7, hrel⟩ := fin w5 bw (qX.trans q5) (by omega) a5
        have q5x := (q2d.trans qba).trans q5
        have q6x : ∀ o, Qt w (w5.alloc o) := fun o => q5x.trans (Chg.alloc Qt.refl o)
        simp (maxSteps := 1000000) (disch := omega) only [genAll, decAll, tk_nil, st8]
        refine ⟨q5x, ⟨q6x _, appK p7 ?_, trivial⟩, trivial⟩
        simp (maxSteps := 1000000) (disch := omega) only [genAll, decAll, tk_nil, st8]
        exact ⟨q1.trans q7, hrel _ _ rfl rfl⟩
      · refine convK Tryd.underlying82 Tryd.underlying5 Tryd.underlying9 rrb ?_
        simp (maxSteps := 1000000) (disch := omega) only [genAll, decAll, tk_nil, st8, qkbadd9 (addR _), cvK i hi20, cvR i hi20]
        refine ⟨q2d.trans qb, ⟨q2d.trans qba, ?_, trivial⟩, trivial⟩
        refine convK Tryd.underlying82 Tryd.underlying5 Tryd.underlying9 rkba ?_
        simp (maxSteps := 1000000) (disch := omega) only [genAll, decAll, tk_nil, st8, qkbadd9 (addK _)]
        refine ⟨q2d.trans qba, ?_, trivial⟩
        refine ck35 (who_any (k := keyI i) (rp := repI i) (ld := l.getD i 0) ?_)
        intro bw w5 a5 q5 hbw
        have qX := q22.trans qba
        have hqX := qX.size
        obtain ⟨A7, c7, w7, p7, q7, hrel⟩ := fin w5 bw (qX.trans q5) (by omega) a5
        have q5x := (q2d.trans qba).trans q5
        have q6x : ∀ o, Qt w (w5.alloc o) := fun o => q5x.trans (Chg.alloc Qt.refl o)
        simp (maxSteps := 1000000) (disch := omega) only [genAll, decAll, tk_nil, st8]
        refine ⟨q5x, ⟨q6x _, appK p7 ?_, trivial⟩, trivial⟩
        simp (maxSteps := 1000000) (disch := omega) only [genAll, decAll, tk_nil, st8]
        exact ⟨q1.trans q7, hrel _ _ rfl rfl⟩
    rintro _ u w5 ⟨A5, c5, F5, rs5, rfl, hln5, hmap5, hel5, o5, hr5, q5, f5⟩
    clear fin
    have q05 := q1.trans q5
    have hbl : b < l.length := by
      rcases hbest with ⟨_, h⟩ | ⟨h, _⟩
      · omega
      · omega
    have XB := fun w' (q : Quiets w w') => int_at (Reads.quiet ha q) hbl
    have L1 : ∀ w', Quiets w w' → w'.cell? ⟨g, o + b, none⟩ = some (.int .i64 (l.getD b 0)) := fun w' q => by obtain ⟨_, _, he, z⟩ := XB w' q; cases he; exact z
    obtain ⟨hb1, hb2⟩ := best_step hbest hlt
    have q5d : Qt w w5.drew := q05.trans (Qt.drew Qt.refl)
    have k5 : Qt w5 w5.drew := Qt.drew Qt.refl
    refine drawQ w q5d ?_
    generalize w5.drew = wd at *
    by_cases hle : l.getD i 0 ≤ l.getD b 0
    · simp (maxSteps := 1000000) (disch := omega) only [genAll, decAll, tk_nil, st8, qkld2 L0, qkld2 L1]
      exact ⟨⟨i + 1, i, A5, c5, F5, rs5, by go_num, rfl, by omega, hln5, rfl, hmap5, hel5, o5.chg k5 (fun _ _ h => h), fun r hr => ⟨(hr5 r hr).1.quiet k5, (hr5 r hr).2⟩, .inr (hb1 hle), q5.trans k5, f5⟩, by simp [rel, intOf]; omega⟩
    · simp (maxSteps := 1000000) (disch := omega) only [genAll, decAll, tk_nil, st8, qkld2 L0, qkld2 L1]
      exact ⟨⟨i + 1, b, A5, c5, F5, rs5, by go_num, rfl, by omega, hln5, rfl, hmap5, hel5, o5.chg k5 (fun _ _ h => h), fun r hr => ⟨(hr5 r hr).1.quiet k5, (hr5 r hr).2⟩, .inr (hb2 hle), q5.trans k5, f5⟩, by simp [rel, intOf]; omega⟩
  obtain rfl : i = l.length := by omega
  have hbest : BestAt l l.length b := hbest.elim (fun h => absurd h.1 h0) (fun h => h)
  have hRows : RowsAt w2 A2 rs' := ⟨reads_own o2, fun r hr => (hr2 r hr).1⟩
  have hstd : standL (rs'.map rowP) = (List.range l.length).map (choI l) := by rw [hmap]; exact standI l _ (by omega)
  have hfirst := best_first (l := l) (n := l.length) (b := b) (by omega) hbest
  have hstr := fun i => ord_strict (l := l) (n := l.length) (i := i) (by omega)
  have hlo := ordL_len ((List.range l.length).map (choI l))
  rw [List.length_map, List.length_range] at hlo
  have hemp : (ordL ((List.range l.length).map (choI l))).isEmpty = false := by
    cases h : ordL ((List.range l.length).map (choI l)) with
    | nil => rw [h] at hlo; exact absurd hlo.symm h0
    | cons _ _ => rfl
  have hbk : (rs'.getD b default).1 = keyI b := by
    have hbr : b < rs'.length := by rw [hln]; exact hbest.1
    have h1 : rowP (rs'.getD b default) = rowI l b := by
      rw [← rowP_getD, hmap]
      simp [hbest.1]
    exact congrArg (fun r : RowD => r.1) h1
  have hlen' : (.slice A2 l.length c2 : Value) = .slice A2 rs'.length c2 := by rw [hln]
  rw [hlen']
  simp (maxSteps := 1000000) (disch := omega) only [genAll, decAll, tk_nil, st8]
  refine ck33 (rep_any (hm.quiet q02) hRows (by omega) hel ?_)
  rw [hstd, hfirst, hemp]
  intro w3 q3
  have q03 := q02.trans q3
  obtain ⟨cc, hcc⟩ : ∃ cc, cc = choI l b := ⟨_, rfl⟩
  have hc1 : cc.1 = keyI b := by rw [hcc]; rfl
  have hc2 : cc.2.2 = l.getD b 0 := by rw [hcc]; rfl
  rw [← hcc]
  obtain ⟨q4, h4, s4⟩ := newb w3 #[.string cc.1, .string cc.2.1, .int .i64 cc.2.2] 73
  simp (maxSteps := 1000000) (disch := omega) only [genAll, decAll, tk_nil, st8]
  generalize (w3.alloc (.cells #[.string cc.1, .string cc.2.1, .int .i64 cc.2.2] 73)) = w4 at *
  generalize w3.heap.size = b4 at *
  have q04 := q03.trans q4
  refine ck31 (order_any (hm.quiet q04) (hRows.quiet (q3.trans q4)) (by omega) hel ?_)
  rw [hstd]
  intro A5 w5 r5 q5
  have q05 := q04.trans q5
  generalize ordL ((List.range l.length).map (choI l)) = L at *
  have hbr : b < rs'.length := by rw [hln]; exact hbest.1
  have XB := fun w' (q : Quiets w5 w') => int_at (Reads.quiet ha (q05.trans q)) hbest.1
  have XR := fun w' (q : Quiets w5 w') => row_at (Reads.quiet hRows.1 (((q3.trans q4).trans q5).trans q)) hbr
  obtain ⟨g, o, hA, _⟩ := XB w5 Qt.refl
  obtain ⟨g2, o2', hB, _⟩ := XR w5 Qt.refl
  subst hA hB
  have B1 : ∀ w', Quiets w5 w' → w'.cell? ⟨g, o + b, none⟩ = some (.int .i64 (l.getD b 0)) := fun w' q => by obtain ⟨_, _, he, z⟩ := XB w' q; cases he; exact z
  have R1 : ∀ w', Quiets w5 w' → w'.cell? ⟨g2, o2' + b * 6, none⟩ = some (.string (keyI b)) := fun w' q => by obtain ⟨_, _, he, z, _⟩ := XR w' q; cases he; rw [← hbk]; exact z
  have C1 := fun w' (q : Quiets w5 w') => cell3 (Chg.heap (q5.trans q) h4 (fun h => h))
  have q5d : Qt w5 w5.drew := Qt.drew Qt.refl
  have en : ((L.length : Int) != (rs'.length : Int)) = false := by rw [hlo, hln]; exact bne_self_eq_false _
  have ek : (!(cc.1.toList == (keyI b).toList)) = false := by rw [hc1, beq_self_eq_true]; rfl
  have el2 : (cc.2.2 != l.getD b 0) = false := by rw [hc2]; exact bne_self_eq_false _
  refine drawQ w5 q5d ?_
  generalize w5.drew = w6 at *
  simp (maxSteps := 1000000) (disch := omega) only [genAll, decAll, tk_nil, st8, tk_not, en, qkld9 (fun w' q => (C1 w' q).1), qkld9 R1, ek, qkld2 (fun w' q => (C1 w' q).2.2), qkld2 B1, el2]
  refine loopK1 (fun v w' => ∃ i : Nat, v = .int .i64 i ∧ 1 ≤ i ∧ i ≤ L.length ∧ Qt w5 w') (fun v _ => L.length - (intOf v).toNat) ⟨1, rfl, by omega, by omega, q5d⟩ ?_
  rintro _ _ w7 ⟨i, rfl, hi1, hiL, q7⟩
  by_cases hlt : i < L.length
  · obtain ⟨hs1, hs2⟩ := hstr i (by omega) (by omega)
    have hn1 : ((i : Int) - 1).toNat = i - 1 := by omega
    have X := fun w' (q : Quiets w5 w') => cho_at (Reads.quiet r5 q) (show i - 1 < L.length by omega)
    have Y := fun w' (q : Quiets w5 w') => cho_at (Reads.quiet r5 q) hlt
    obtain ⟨g3, o3, hA3, _⟩ := X w5 Qt.refl
    subst hA3
    have X1 : ∀ w', Quiets w5 w' → w'.cell? ⟨g3, o3 + ((i - 1) * 3 + 1), none⟩ = some (.string (el L (i - 1)).2.1) := fun w' q => by obtain ⟨_, _, he, _, z, _⟩ := X w' q; cases he; exact z
    have X2 : ∀ w', Quiets w5 w' → w'.cell? ⟨g3, o3 + ((i - 1) * 3 + 2), none⟩ = some (.int .i64 (el L (i - 1)).2.2) := fun w' q => by obtain ⟨_, _, he, _, _, z⟩ := X w' q; cases he; exact z
    have Y1 : ∀ w', Quiets w5 w' → w'.cell? ⟨g3, o3 + (i * 3 + 1), none⟩ = some (.string (el L i).2.1) := fun w' q => by obtain ⟨_, _, he, _, z, _⟩ := Y w' q; cases he; exact z
    have Y2 : ∀ w', Quiets w5 w' → w'.cell? ⟨g3, o3 + (i * 3 + 2), none⟩ = some (.int .i64 (el L i).2.2) := fun w' q => by obtain ⟨_, _, he, _, _, z⟩ := Y w' q; cases he; exact z
    clear X Y
    generalize el L (i - 1) = x at *
    generalize el L i = y at *
    have q7d : Qt w5 w7.drew := q7.trans (Qt.drew Qt.refl)
    simp (maxSteps := 1000000) (disch := omega) only [genAll, decAll, tk_nil, st8]
    refine drawQ w5 q7d ?_
    generalize w7.drew = wd at *
    by_cases heq : x.2.2 = y.2.2
    · have e1 : (x.2.2 == y.2.2) = true := beq_iff_eq.2 heq
      have hl := hs2 heq
      simp (maxSteps := 1000000) (disch := omega) only [genAll, decAll, tk_nil, st8, hn1, qkld2 X2, qkld2 Y2, e1, qkld9 X1, qkld9 Y1, less_lt, hl]
      exact ⟨⟨i + 1, by go_num, by omega, by omega, q7d⟩, by simp [rel, intOf]; omega⟩
    · have e1 : (x.2.2 == y.2.2) = false := beq_eq_false_iff_ne.2 heq
      simp (maxSteps := 1000000) (disch := omega) only [genAll, decAll, tk_nil, st8, hn1, qkld2 X2, qkld2 Y2, e1, takeG_u, guardK_u]
      exact ⟨⟨i + 1, by go_num, by omega, by omega, q7d⟩, by simp [rel, intOf]; omega⟩
  · simp (maxSteps := 1000000) (disch := omega) only [genAll, decAll, tk_nil, st8]
    exact hK _ (q05.trans q7)
end Go.Proofs.YtpjeohellehgjaaDoor

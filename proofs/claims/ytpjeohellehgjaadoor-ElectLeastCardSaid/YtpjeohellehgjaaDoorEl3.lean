/- Whether a row stands; a row that stands. Conditions: the attributes read, and rise. -/
import Derived.Test.YtpjeohellehgjaaDoorEl2
set_option linter.unusedVariables false
set_option linter.unusedSimpArgs false
set_option maxRecDepth 100000
namespace Go.Proofs.YtpjeohellehgjaaDoor
open Go.RowKit Go.Cn
theorem getB_cases (l : List Att) (nm : ByteArray) : getB l nm = (v0, false) ∨ ∃ a ∈ l, getB l nm = (a.2, true) := by
  unfold getB
  cases hf : l.find? (fun a => decide (a.1 = nm)) with
  | none => exact .inl rfl
  | some a => exact .inr ⟨a, List.mem_of_find?_eq_some hf, rfl⟩
theorem depthB (l : List UInt8) : (depthL l < 1 ∧ nodeB l = false) ∨ (¬ depthL l < 1 ∧ nodeB l = true) := by
  have h : nodeB l = true ↔ 1 ≤ depthL l := node_depth l
  cases hn : nodeB l with
  | true => exact .inr ⟨by have := h.1 hn; omega, rfl⟩
  | false => exact .inl ⟨by
      have : ¬ 1 ≤ depthL l := fun e => by rw [h.2 e] at hn; cases hn
      omega, rfl⟩
set_option maxHeartbeats 4000000 in
theorem stands_any {key : ByteArray} {s : Stm} {hs : List AttH} {A : Option Addr} {c : Nat} {w : World} {K : Value → World → Prop} (hm : MaxAt w) (ha : AttsAt w A hs) (hu : UpK (hs.map (·.1))) (hl : hs.length ≤ 100000) (hv : ∀ h ∈ hs, h.2.1.2.2.2.length ≤ 100000) (hz : ∀ h ∈ hs, h.2.1.2.2.1.size ≤ 20000)
    (hK : ∀ w', Qt w w' → K (.tuple #[choV (if standsP (key, s, hs.map attP) = true then choOf (key, s, hs.map attP) else cho0), .bool (standsP (key, s, hs.map attP))]) w') : CallK Tryd.prog 66 #[rowV key s A hs.length c] K w := by
  refine F66_calls _ _ _ ?_; unfold F66
  obtain ⟨q1, h1, s1⟩ := newb w #[.string key, .int .i64 s.1, .int .i64 s.2.1, .int .i64 s.2.2.1, .string s.2.2.2, .slice A hs.length c] 55
  simp (maxSteps := 1000000) (disch := omega) only [genAll, decAll, tk_nil, st66]
  generalize (w.alloc (.cells #[.string key, .int .i64 s.1, .int .i64 s.2.1, .int .i64 s.2.2.1, .string s.2.2.2, .slice A hs.length c] 55)) = w1 at *
  obtain ⟨q2, h2, s2⟩ := newb w1 #[.string ByteArray.empty, .string ByteArray.empty, .int .i64 0] 73
  rw [s1] at h2 s2
  generalize (w1.alloc (.cells #[.string ByteArray.empty, .string ByteArray.empty, .int .i64 0] 73)) = w2 at *
  have X := fun w' (q : Qt w2 w') => cell6 ((q2.trans q).heap h1 (fun h => h))
  have q02 := q1.trans q2
  generalize hb : w.heap.size = b at *
  obtain ⟨x0, x1, x2, x3, x4, x5⟩ := X w2 Qt.refl
  simp (maxSteps := 1000000) (disch := omega) only [genAll, decAll, tk_nil, st66, x5]
  refine ck90 (getA_any (nm := kRep) (ha.quiet q02) hu hl hv ?_)
  intro A3 w3 q3
  have q03 := q02.trans q3
  have q23 : Qt w2 w3 := q3
  have hsz : (getB (hs.map attP) kRep).1.2.2.1.size ≤ 20000 := by
    rcases getB_cases (hs.map attP) kRep with e | ⟨a, ha', e⟩
    · rw [e]; exact Nat.zero_le _
    · obtain ⟨h, hh, rfl⟩ := List.mem_map.1 ha'
      rw [e]; exact hz h hh
  have hst : standsP (key, s, hs.map attP) = ((getB (hs.map attP) kRep).2 && decide ((getB (hs.map attP) kRep).1.1 = 2) && nodeB (getB (hs.map attP) kRep).1.2.2.1.data.toList) := rfl
  have hch : choOf (key, s, hs.map attP) = (key, (getB (hs.map attP) kRep).1.2.2.1, loadOf (hs.map attP)) := rfl
  generalize hgb : getB (hs.map attP) kRep = p at *
  obtain ⟨v, ok⟩ := p
  simp only at hst hch hsz ⊢
  obtain ⟨q4, h4, s4⟩ := newb w3 #[.int .i64 v.1, .int .i64 v.2.1, .string v.2.2.1, .slice A3 v.2.2.2.length v.2.2.2.length] 126
  simp (maxSteps := 1000000) (disch := omega) only [genAll, decAll, tk_nil, st66]
  generalize (w3.alloc (.cells #[.int .i64 v.1, .int .i64 v.2.1, .string v.2.2.1, .slice A3 v.2.2.2.length v.2.2.2.length] 126)) = w4 at *
  have hq3 := q23.size
  generalize hb4 : w3.heap.size = b4 at *
  have q04 := q03.trans q4
  have q24 := q23.trans q4
  have Y := fun w' (q : Qt w4 w') => cell4 (q.heap h4 (fun h => h))
  have Z := fun w' (q : Qt w2 w') => q.heap h2 (fun h => h)
  obtain ⟨y0, y1, y2, y3⟩ := Y w4 Qt.refl
  have hno : standsP (key, s, hs.map attP) = false → ∀ w5, Qt w4 w5 → ∀ K2 : Value → World → Prop, (∀ w', w'.heap[b + 1]? = some (.cells #[.string ByteArray.empty, .string ByteArray.empty, .int .i64 0] 73 (0, 0)) → Qt w w' → K2 undef w') → StoreK Tryd.prog 73 (.pointer (some ⟨b + 1, 0, none⟩)) (.agg #[.string ByteArray.empty, .string ByteArray.empty, .int .i64 0]) K2 w5 := fun hf w5 q5 K2 hk => by
    refine aggStoreW (cs := choC cho0) (Z w5 (q24.trans q5)) rfl (by kernel_rfl) (choC_one cho0) ?_
    intro w6 h6 k6
    exact hk w6 h6 (Qt.then (q04.trans q5) k6 (fun k hk => by omega))
  have hfin0 : standsP (key, s, hs.map attP) = false → ∀ w', Qt w w' → K (.tuple #[choV cho0, .bool false]) w' := fun hf w' q => by
    have := hK w' q
    rw [hf, if_neg (by decide)] at this
    exact this
  cases ok with
  | false =>
    have hf : standsP (key, s, hs.map attP) = false := by rw [hst]; rfl
    simp (maxSteps := 1000000) (disch := omega) only [genAll, decAll, tk_nil, st66, guardK_u]
    refine hno hf _ Qt.refl _ ?_
    intro w6 h6 q6
    obtain ⟨z0, z1, z2⟩ := cell3 h6
    simp (maxSteps := 1000000) (disch := omega) only [genAll, decAll, tk_nil, st66, z0, z1, z2]
    exact hfin0 hf _ q6
  | true =>
  by_cases hk : v.1 = 2
  case neg =>
    have e : (v.1 != 2) = true := by rw [bne_iff_ne]; exact hk
    have hf : standsP (key, s, hs.map attP) = false := by rw [hst, decide_eq_false hk]; rfl
    simp (maxSteps := 1000000) (disch := omega) only [genAll, decAll, tk_nil, st66, y0, e, guardK_u]
    refine hno hf _ Qt.refl _ ?_
    intro w6 h6 q6
    obtain ⟨z0, z1, z2⟩ := cell3 h6
    simp (maxSteps := 1000000) (disch := omega) only [genAll, decAll, tk_nil, st66, z0, z1, z2]
    exact hfin0 hf _ q6
  have e : (v.1 != 2) = false := by rw [hk]; rfl
  obtain ⟨l, hl', hd, hs'⟩ := txt_of v.2.2.1
  have y2' := y2
  rw [hl'] at y2'
  simp (maxSteps := 1000000) (disch := omega) only [genAll, decAll, tk_nil, st66, y0, e, y2']
  refine ck91 (depth_any (l := l) (by omega) (hm.quiet q04) ?_)
  intro w5 q5
  have q05 := q04.trans q5
  obtain ⟨y0, y1, y2, y3⟩ := Y w5 q5
  rw [decide_eq_true hk, hd] at hst
  rcases depthB l with ⟨d1, d2⟩ | ⟨d1, d2⟩
  · rw [d2] at hst
    simp (maxSteps := 1000000) (disch := omega) only [genAll, decAll, tk_nil, st66]
    refine hno hst _ q5 _ ?_
    intro w6 h6 q6
    obtain ⟨z0, z1, z2⟩ := cell3 h6
    simp (maxSteps := 1000000) (disch := omega) only [genAll, decAll, tk_nil, st66, z0, z1, z2]
    exact hfin0 hst _ q6
  have hst : standsP (key, s, hs.map attP) = true := by rw [hst, d2]; rfl
  clear hno hfin0
  have hK : ∀ w', Qt w w' → K (.tuple #[choV (key, v.2.2.1, loadOf (hs.map attP)), .bool true]) w' := fun w' q => by
    have := hK w' q
    rw [hst, if_pos rfl, hch] at this
    exact this
  obtain ⟨x0, x1, x2, x3, x4, x5⟩ := X w5 (q24.trans q5)
  obtain ⟨q6, h6, s6⟩ := newb w5 #[.string key, .string v.2.2.1, .int .i64 0] 73
  simp (maxSteps := 1000000) (disch := omega) only [genAll, decAll, tk_nil, st66, x0, y2]
  generalize (w5.alloc (.cells #[.string key, .string v.2.2.1, .int .i64 0] 73)) = w6 at *
  have hq5 := q5.size
  generalize hb6 : w5.heap.size = b6 at *
  have q06 := q05.trans q6
  obtain ⟨x0, x1, x2, x3, x4, x5⟩ := X w6 ((q24.trans q5).trans q6)
  simp (maxSteps := 1000000) (disch := omega) only [genAll, decAll, tk_nil, st66, x5]
  refine ck90 (getA_any (nm := kLoad) (ha.quiet q06) hu hl hv ?_)
  intro A7 w7 q7
  have q07 := q06.trans q7
  have hlo : loadOf (hs.map attP) = if (getB (hs.map attP) kLoad).2 = true ∧ (getB (hs.map attP) kLoad).1.1 = 1 then (getB (hs.map attP) kLoad).1.2.1 else 0 := rfl
  rw [hlo] at hK
  generalize getB (hs.map attP) kLoad = p at *
  obtain ⟨u, ok⟩ := p
  simp only at hK ⊢
  obtain ⟨q8, h8, s8⟩ := newb w7 #[.int .i64 u.1, .int .i64 u.2.1, .string u.2.2.1, .slice A7 u.2.2.2.length u.2.2.2.length] 126
  simp (maxSteps := 1000000) (disch := omega) only [genAll, decAll, tk_nil, st66]
  generalize (w7.alloc (.cells #[.int .i64 u.1, .int .i64 u.2.1, .string u.2.2.1, .slice A7 u.2.2.2.length u.2.2.2.length] 126)) = w8 at *
  have hq7 := q7.size
  generalize w7.heap.size = b8 at *
  have q08 := q07.trans q8
  have h68 := (q7.trans q8).heap h6 (fun h => h)
  have h28 := Z w8 ((((q24.trans q5).trans q6).trans q7).trans q8)
  obtain ⟨u0, u1, u2, u3⟩ := cell4 h8
  obtain ⟨c0', c1', c2'⟩ := cell3 h68
  by_cases hyes : ok = true ∧ u.1 = 1
  case neg =>
    rw [if_neg hyes] at hK
    have hstep : (ok = false) ∨ (ok = true ∧ (u.1 == 1) = false) := by
      cases ok with
      | false => exact .inl rfl
      | true => exact .inr ⟨rfl, beq_eq_false_iff_ne.2 (fun e => hyes ⟨rfl, e⟩)⟩
    rcases hstep with rfl | ⟨rfl, e1⟩
    case' inl => simp (maxSteps := 1000000) (disch := omega) only [genAll, decAll, tk_nil, st66, guardK_u, c0', c1', c2']
    case' inr => simp (maxSteps := 1000000) (disch := omega) only [genAll, decAll, tk_nil, st66, u0, e1, c0', c1', c2']
    all_goals
      refine aggStoreW (cs := choC (key, v.2.2.1, 0)) h28 rfl (by kernel_rfl) (choC_one _) ?_
      intro w9 h9 k9
      obtain ⟨z0, z1, z2⟩ := cell3 h9
      simp (maxSteps := 1000000) (disch := omega) only [genAll, decAll, tk_nil, st66, z0, z1, z2]
      exact hK _ (Qt.then q08 k9 (fun k hk => by omega))
  obtain ⟨rfl, hu1⟩ := hyes
  rw [if_pos ⟨rfl, hu1⟩] at hK
  have e1 : (u.1 == 1) = true := by rw [hu1]; rfl
  have fz := blk_frozen h68 2
  simp (maxSteps := 1000000) (disch := omega) only [genAll, decAll, tk_nil, st66, u0, e1, u1, c2', fz]
  have h9 : (w8.setCell ⟨b6, 2, none⟩ (.int .i64 u.2.1)).heap[b6]? = some (.cells #[.string key, .string v.2.2.1, .int .i64 u.2.1] 73 (0, 0)) := by rw [blk_set h68]; rfl
  have h29 := blk_far (p := ⟨b6, 2, none⟩) h28 (show b + 1 ≠ b6 by omega) (.int .i64 u.2.1)
  have k9 : Chg (fun k => k = b6) w8 (w8.setCell ⟨b6, 2, none⟩ (.int .i64 u.2.1)) := (Chg.refl (fun k => k = b6) w8).setCell (p := ⟨b6, 2, none⟩) (.inl rfl) _
  generalize w8.setCell ⟨b6, 2, none⟩ (.int .i64 u.2.1) = w9 at *
  have q09 : Qt w w9 := Qt.then q08 k9 (fun k hk => by omega)
  obtain ⟨c0', c1', c2'⟩ := cell3 h9
  simp (maxSteps := 1000000) (disch := omega) only [genAll, decAll, tk_nil, st66, c0', c1', c2']
  refine aggStoreW (cs := choC (key, v.2.2.1, u.2.1)) h29 rfl (by kernel_rfl) (choC_one _) ?_
  intro w10 h10 k10
  obtain ⟨z0, z1, z2⟩ := cell3 h10
  simp (maxSteps := 1000000) (disch := omega) only [genAll, decAll, tk_nil, st66, z0, z1, z2]
  exact hK _ (Qt.then q09 k10 (fun k hk => by omega))
end Go.Proofs.YtpjeohellehgjaaDoor

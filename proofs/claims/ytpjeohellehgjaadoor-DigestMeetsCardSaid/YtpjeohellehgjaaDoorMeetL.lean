/- Two that tell each other what the other lacks: plain. Conditions: both rise; one stamp is one row. -/
import Derived.Test.YtpjeohellehgjaaDoorSelfLaw
set_option linter.unusedVariables false
set_option linter.unusedSimpArgs false
set_option maxRecDepth 100000
namespace Go.Proofs.YtpjeohellehgjaaDoor
open Go.RowKit Go.Cn
def getR (l : List RowD) (k : ByteArray) : Option RowD := l.find? (fun r => decide (r.1 = k))
def UpR (l : List RowD) : Prop := UpK (l.map (·.1))
theorem getR_cons (r : RowD) (l : List RowD) (k : ByteArray) : getR (r :: l) k = if r.1 = k then some r else getR l k := by
  unfold getR
  rw [List.find?_cons]
  by_cases h : r.1 = k
  · simp [h]
  · simp [h]
theorem getR_mem {l : List RowD} {k : ByteArray} {r : RowD} (h : getR l k = some r) : r ∈ l ∧ r.1 = k := by
  unfold getR at h
  exact ⟨List.mem_of_find?_eq_some h, of_decide_eq_true (List.find?_some (p := fun r : RowD => decide (r.1 = k)) h)⟩
theorem getR_none {l : List RowD} {k : ByteArray} : getR l k = none ↔ ∀ r ∈ l, r.1 ≠ k := by
  unfold getR
  rw [List.find?_eq_none]
  constructor
  · intro h r hr e; exact h r hr (decide_eq_true e)
  · intro h r hr e; exact h r hr (of_decide_eq_true e)
theorem UpR.tail {r : RowD} {l : List RowD} (h : UpR (r :: l)) : UpR l := (List.pairwise_cons.1 h).2
theorem UpR.head {r : RowD} {l : List RowD} (h : UpR (r :: l)) : ∀ x ∈ l, ltS r.1 x.1 = true := fun x hx => (List.pairwise_cons.1 h).1 x.1 (List.mem_map_of_mem hx)
theorem ltS_irr {a b : ByteArray} (h : ltS a b = true) : a ≠ b := fun e => by rw [e, ltS_self] at h; cases h
theorem ltS_asym {a b : ByteArray} (h : ltS a b = true) (h2 : ltS b a = true) : False := by
  have := ltS_trans h h2
  rw [ltS_self] at this; cases this
theorem ltS_tri (a b : ByteArray) : ltS a b = true ∨ a = b ∨ ltS b a = true := by
  rcases cmpL_three (bts a.data.toList) (bts b.data.toList) with e | e | e
  · exact .inl ((ltS_iff _ _).2 e)
  · exact .inr (.inl (cmpS_zero.1 e))
  · have : cmpS b a = -cmpS a b := cmpL_anti _ _
    have e : cmpS a b = 1 := e
    exact .inr (.inr ((ltS_iff _ _).2 (by omega)))
theorem getR_at {l : List RowD} (h : UpR l) {r : RowD} (hr : r ∈ l) : getR l r.1 = some r := by
  induction l with
  | nil => cases hr
  | cons x l ih =>
    rw [getR_cons]
    rcases List.mem_cons.1 hr with rfl | hr
    · rw [if_pos rfl]
    · rw [if_neg (ltS_irr (h.head r hr)), ih h.tail hr]
/-- Two rows that rise and tell the same of each key. -/
theorem sameRs_get : ∀ {x y : List RowD}, UpR x → UpR y → (∀ k, (getR x k = none ∧ getR y k = none) ∨ ∃ r s, getR x k = some r ∧ getR y k = some s ∧ sameR r s = true) → sameRs x y = true
  | [], [], _, _, _ => rfl
  | [], s :: y, _, _, h => by
    rcases h s.1 with ⟨_, h2⟩ | ⟨r, t, h1, _⟩
    · rw [getR_cons, if_pos rfl] at h2; cases h2
    · cases h1
  | r :: x, [], _, _, h => by
    rcases h r.1 with ⟨h1, _⟩ | ⟨_, t, _, h2, _⟩
    · rw [getR_cons, if_pos rfl] at h1; cases h1
    · cases h2
  | r :: x, s :: y, hx, hy, h => by
    have hk : r.1 = s.1 := by
      rcases ltS_tri r.1 s.1 with hlt | e | hlt
      · rcases h r.1 with ⟨h1, _⟩ | ⟨_, t, _, h2, _⟩
        · rw [getR_cons, if_pos rfl] at h1; cases h1
        · obtain ⟨m1, m2⟩ := getR_mem h2
          rcases List.mem_cons.1 m1 with rfl | m1
          · exact m2.symm
          · have := hy.head t m1
            rw [m2] at this
            exact (ltS_asym hlt this).elim
      · exact e
      · rcases h s.1 with ⟨_, h1⟩ | ⟨t, _, h2, _, _⟩
        · rw [getR_cons, if_pos rfl] at h1; cases h1
        · obtain ⟨m1, m2⟩ := getR_mem h2
          rcases List.mem_cons.1 m1 with rfl | m1
          · exact m2
          · have := hx.head t m1
            rw [m2] at this
            exact (ltS_asym hlt this).elim
    rw [sameRs]
    have hs : sameR r s = true := by
      rcases h r.1 with ⟨h1, _⟩ | ⟨r', s', h1, h2, h3⟩
      · rw [getR_cons, if_pos rfl] at h1; cases h1
      · rw [getR_cons, if_pos rfl] at h1
        rw [getR_cons, if_pos hk.symm] at h2
        cases h1; cases h2; exact h3
    rw [hs, Bool.true_and]
    refine sameRs_get hx.tail hy.tail (fun k => ?_)
    by_cases e : r.1 = k
    · left
      refine ⟨getR_none.2 (fun t ht e2 => ?_), getR_none.2 (fun t ht e2 => ?_)⟩
      · exact ltS_irr (hx.head t ht) (by rw [e, e2])
      · exact ltS_irr (hy.head t ht) (by rw [← hk, e, e2])
    · have := h k
      rw [getR_cons, if_neg e, getR_cons, if_neg (by rw [← hk]; exact e)] at this
      exact this
/-- A row put in its place. -/
def insD (l : List RowD) (r : RowD) : List RowD := (l.filter fun x => ltS x.1 r.1) ++ r :: (l.filter fun x => !(ltS x.1 r.1))
/-- A row put: a newer one in place of an elder. -/
def putD (l : List RowD) (r : RowD) : List RowD := match getR l r.1 with
  | some x => if 0 ≤ cmpStm x.2.1 r.2.1 then l else insD (l.filter fun x => !decide (x.1 = r.1)) r
  | none => insD l r
theorem insD_up {l : List RowD} {r : RowD} (h : UpR l) (hn : ∀ x ∈ l, x.1 ≠ r.1) : UpR (insD l r) := by
  unfold UpR insD
  rw [List.map_append, List.map_cons]
  have hsub : ∀ f : RowD → Bool, UpK ((l.filter f).map (·.1)) := fun f => List.Pairwise.sublist (List.Sublist.map _ List.filter_sublist) h
  refine List.pairwise_append.2 ⟨hsub _, List.pairwise_cons.2 ⟨fun k hk => ?_, hsub _⟩, fun a ha b hb => ?_⟩
  · obtain ⟨x, hx, rfl⟩ := List.mem_map.1 hk
    obtain ⟨h1, h2⟩ := List.mem_filter.1 hx
    rcases ltS_tri r.1 x.1 with h3 | h3 | h3
    · exact h3
    · exact absurd h3.symm (hn x h1)
    · rw [h3] at h2; cases h2
  · obtain ⟨x, hx, rfl⟩ := List.mem_map.1 ha
    have hx2 := (List.mem_filter.1 hx).2
    rcases List.mem_cons.1 hb with rfl | hb
    · exact hx2
    · obtain ⟨y, hy, rfl⟩ := List.mem_map.1 hb
      obtain ⟨h1, h2⟩ := List.mem_filter.1 hy
      rcases ltS_tri r.1 y.1 with h3 | h3 | h3
      · exact ltS_trans hx2 h3
      · exact absurd h3.symm (hn y h1)
      · rw [h3] at h2; cases h2
theorem insD_mem {l : List RowD} {r x : RowD} : x ∈ insD l r ↔ x = r ∨ x ∈ l := by
  unfold insD
  rw [List.mem_append, List.mem_cons, List.mem_filter, List.mem_filter]
  constructor
  · rintro (⟨h, _⟩ | h | ⟨h, _⟩)
    · exact .inr h
    · exact .inl h
    · exact .inr h
  · rintro (h | h)
    · exact .inr (.inl h)
    · cases hb : ltS x.1 r.1 with
      | true => exact .inl ⟨h, rfl⟩
      | false => exact .inr (.inr ⟨h, rfl⟩)
theorem getR_eq {l : List RowD} (h : UpR l) {k : ByteArray} {o : Option RowD} (ho : ∀ r, o = some r ↔ (r ∈ l ∧ r.1 = k)) : getR l k = o := by
  cases o with
  | none => exact getR_none.2 (fun r hr e => by have := (ho r).2 ⟨hr, e⟩; cases this)
  | some r =>
    obtain ⟨h1, h2⟩ := (ho r).1 rfl
    rw [← h2]; exact getR_at h h1
/-- What a put tells of each key. -/
def newer (o : Option RowD) (r : RowD) : RowD := match o with
  | some x => if 0 ≤ cmpStm x.2.1 r.2.1 then x else r
  | none => r
theorem putD_up {l : List RowD} {r : RowD} (h : UpR l) : UpR (putD l r) := by
  unfold putD
  cases hg : getR l r.1 with
  | none => exact insD_up h (getR_none.1 hg)
  | some x =>
    show UpR (if 0 ≤ cmpStm x.2.1 r.2.1 then l else _)
    by_cases hc : 0 ≤ cmpStm x.2.1 r.2.1
    · rw [if_pos hc]; exact h
    · rw [if_neg hc]
      refine insD_up (List.Pairwise.sublist (List.Sublist.map _ List.filter_sublist) h) (fun y hy => ?_)
      have := (List.mem_filter.1 hy).2
      intro e; rw [decide_eq_true e] at this; cases this
theorem putD_get {l : List RowD} {r : RowD} (h : UpR l) (k : ByteArray) : getR (putD l r) k = if k = r.1 then some (newer (getR l k) r) else getR l k := by
  have hu := putD_up (r := r) h
  by_cases hk : k = r.1
  · rw [if_pos hk]
    subst hk
    unfold putD newer at *
    cases hg : getR l r.1 with
    | none =>
      rw [hg] at hu
      exact getR_at hu (insD_mem.2 (.inl rfl))
    | some x =>
      rw [hg] at hu
      simp only at hu ⊢
      by_cases hc : 0 ≤ cmpStm x.2.1 r.2.1
      · rw [if_pos hc, if_pos hc]; exact hg
      · rw [if_neg hc] at hu ⊢
        rw [if_neg hc]
        exact getR_at hu (insD_mem.2 (.inl rfl))
  · rw [if_neg hk]
    refine getR_eq hu (fun x => ?_)
    have hmem : x ∈ putD l r ∧ x.1 = k ↔ x ∈ l ∧ x.1 = k := by
      unfold putD
      cases hg : getR l r.1 with
      | none =>
        show x ∈ insD l r ∧ _ ↔ _
        rw [insD_mem]
        constructor
        · rintro ⟨rfl | h1, h2⟩
          · exact absurd h2.symm hk
          · exact ⟨h1, h2⟩
        · rintro ⟨h1, h2⟩; exact ⟨.inr h1, h2⟩
      | some y =>
        show x ∈ (if 0 ≤ cmpStm y.2.1 r.2.1 then l else _) ∧ _ ↔ _
        by_cases hc : 0 ≤ cmpStm y.2.1 r.2.1
        · rw [if_pos hc]
        · rw [if_neg hc, insD_mem, List.mem_filter]
          constructor
          · rintro ⟨rfl | ⟨h1, _⟩, h2⟩
            · exact absurd h2.symm hk
            · exact ⟨h1, h2⟩
          · rintro ⟨h1, h2⟩
            refine ⟨.inr ⟨h1, ?_⟩, h2⟩
            have : x.1 ≠ r.1 := fun e => hk (by rw [← h2, e])
            simp [this]
    rw [hmem]
    constructor
    · intro hx; exact getR_mem hx
    · rintro ⟨h1, h2⟩; rw [← h2]; exact getR_at h h1
theorem fold_get : ∀ (t l : List RowD), UpR t → UpR l → UpR (t.foldl putD l) ∧ ∀ k, getR (t.foldl putD l) k = match getR t k with | some r => some (newer (getR l k) r) | none => getR l k
  | [], l, _, hl => ⟨hl, fun k => rfl⟩
  | r :: t, l, ht, hl => by
    obtain ⟨h1, h2⟩ := fold_get t (putD l r) ht.tail (putD_up hl)
    refine ⟨h1, fun k => ?_⟩
    show getR (t.foldl putD (putD l r)) k = _
    rw [h2 k, putD_get hl, getR_cons]
    by_cases e : r.1 = k
    · have hn : getR t k = none := getR_none.2 (fun x hx e2 => ltS_irr (ht.head x hx) (by rw [e, e2]))
      rw [hn, if_pos e, if_pos e.symm]
    · rw [if_neg e, if_neg (fun h => e h.symm)]
theorem UpR.filter {l : List RowD} (h : UpR l) (f : RowD → Bool) : UpR (l.filter f) := List.Pairwise.sublist (List.Sublist.map _ List.filter_sublist) h
theorem getR_filter {l : List RowD} (h : UpR l) (f : RowD → Bool) (k : ByteArray) : getR (l.filter f) k = (getR l k).bind fun r => if f r = true then some r else none := by
  refine getR_eq (h.filter f) (fun r => ?_)
  cases hg : getR l k with
  | none =>
    have := getR_none.1 hg
    constructor
    · intro h; cases h
    · rintro ⟨h1, h2⟩; exact absurd h2 (this r (List.mem_filter.1 h1).1)
  | some x =>
    obtain ⟨m1, m2⟩ := getR_mem hg
    show (if f x = true then some x else none) = some r ↔ _
    constructor
    · intro e
      by_cases hf : f x = true
      · rw [if_pos hf] at e; cases e; exact ⟨List.mem_filter.2 ⟨m1, hf⟩, m2⟩
      · rw [if_neg hf] at e; cases e
    · rintro ⟨h1, h2⟩
      obtain ⟨h3, h4⟩ := List.mem_filter.1 h1
      have : getR l r.1 = some r := getR_at h h3
      rw [h2, hg] at this
      cases this
      rw [if_pos h4]
theorem newS_get {b : List RowD} (h : UpR b) (r : RowD) : newS (b.map mkR) r = match getR b r.1 with | some s => decide (0 < cmpStm r.2.1 s.2.1) | none => true := by
  unfold newS
  rw [List.any_map]
  cases hg : getR b r.1 with
  | none =>
    have := getR_none.1 hg
    rw [Bool.not_eq_true', List.any_eq_false]
    intro s hs
    have hn : (mkR s).1 ≠ r.1 := this s hs
    simp [hn]
  | some s =>
    obtain ⟨m1, m2⟩ := getR_mem hg
    show _ = decide (0 < cmpStm r.2.1 s.2.1)
    by_cases hc : 0 < cmpStm r.2.1 s.2.1
    · rw [decide_eq_true hc, Bool.not_eq_true', List.any_eq_false]
      intro x hx
      by_cases e : x.1 = r.1
      · have : getR b x.1 = some x := getR_at h hx
        rw [e, hg] at this
        cases this
        have e2 : (mkR s).2 = s.2.1 := rfl
        simp [e2]; intro _; omega
      · have hn : (mkR x).1 ≠ r.1 := e
        simp [hn]
    · rw [decide_eq_false hc, Bool.not_eq_false', List.any_eq_true]
      exact ⟨s, m1, by
        show (decide (s.1 = r.1) && decide (cmpStm r.2.1 s.2.1 ≤ 0)) = true
        rw [decide_eq_true m2, Bool.true_and]; exact decide_eq_true (by omega)⟩
theorem newW_get {a : List RowD} (h : UpR a) (m : MarkD) : newW a m = match getR a m.1 with | some r => decide (cmpStm r.2.1 m.2 < 0) | none => true := by
  unfold newW
  cases hg : getR a m.1 with
  | none =>
    have := getR_none.1 hg
    rw [Bool.not_eq_true', List.any_eq_false]
    intro s hs
    have hn : m.1 ≠ s.1 := fun e => this s hs e.symm
    simp [hn]
  | some s =>
    obtain ⟨m1, m2⟩ := getR_mem hg
    show _ = decide (cmpStm s.2.1 m.2 < 0)
    by_cases hc : cmpStm s.2.1 m.2 < 0
    · rw [decide_eq_true hc, Bool.not_eq_true', List.any_eq_false]
      intro x hx
      by_cases e : x.1 = m.1
      · have : getR a x.1 = some x := getR_at h hx
        rw [e, hg] at this
        cases this
        simp; intro _; omega
      · have hn : m.1 ≠ x.1 := fun h => e h.symm
        simp [hn]
    · rw [decide_eq_false hc, Bool.not_eq_false', List.any_eq_true]
      exact ⟨s, m1, by rw [decide_eq_true m2.symm, Bool.true_and]; exact decide_eq_true (by omega)⟩
/-- Rows of keys that are wanted of them. -/
theorem pick_want {a b : List RowD} (hb : UpR b) : pickL b (wantL a (b.map mkR)) = b.filter fun s => newW a (mkR s) := by
  unfold pickL
  apply List.filter_congr
  intro s hs
  unfold inK wantL
  rw [Bool.eq_iff_iff, List.any_eq_true]
  constructor
  · rintro ⟨k, hk, he⟩
    obtain ⟨m, hm, rfl⟩ := List.mem_map.1 hk
    obtain ⟨h1, h2⟩ := List.mem_filter.1 hm
    obtain ⟨x, hx, rfl⟩ := List.mem_map.1 h1
    have he : x.1 = s.1 := of_decide_eq_true he
    have e1 := getR_at hb hx
    have e2 := getR_at hb hs
    rw [he, e2] at e1
    cases e1
    exact h2
  · intro h
    exact ⟨s.1, List.mem_map.2 ⟨mkR s, List.mem_filter.2 ⟨List.mem_map_of_mem hs, h⟩, rfl⟩, decide_eq_true rfl⟩
/-- Two that tell each other what the other lacks have the same. -/
theorem meets_same {a b : List RowD} (ha : UpR a) (hb : UpR b) (H : ∀ r ∈ a, ∀ s ∈ b, r.1 = s.1 → cmpStm r.2.1 s.2.1 = 0 → sameR r s = true) :
    sameRs ((pickL b (wantL a (b.map mkR))).foldl putD a) ((sendL a (b.map mkR)).foldl putD b) = true := by
  rw [pick_want hb]
  have hS : UpR (sendL a (b.map mkR)) := ha.filter _
  have hP : UpR (b.filter fun s => newW a (mkR s)) := hb.filter _
  obtain ⟨x1, x2⟩ := fold_get (b.filter fun s => newW a (mkR s)) a hP ha
  obtain ⟨y1, y2⟩ := fold_get (sendL a (b.map mkR)) b hS hb
  refine sameRs_get x1 y1 (fun k => ?_)
  rw [x2 k, y2 k, getR_filter hb]
  unfold sendL
  rw [getR_filter ha]
  cases hga : getR a k with
  | none =>
    cases hgb : getR b k with
    | none => exact .inl ⟨rfl, rfl⟩
    | some s =>
      obtain ⟨m1, m2⟩ := getR_mem hgb
      have hw : newW a (mkR s) = true := by
        rw [newW_get ha, show (mkR s).1 = k from m2, hga]
      right
      refine ⟨s, s, ?_, ?_, sameR_self s⟩
      · show (match (if newW a (mkR s) = true then some s else none) with | some r => some (newer none r) | none => none) = some s
        rw [if_pos hw]; rfl
      · rfl
  | some r =>
    obtain ⟨n1, n2⟩ := getR_mem hga
    cases hgb : getR b k with
    | none =>
      have hs : newS (b.map mkR) r = true := by
        rw [newS_get hb, n2, hgb]
      right
      refine ⟨r, r, rfl, ?_, sameR_self r⟩
      show (match (if newS (b.map mkR) r = true then some r else none) with | some r => some (newer none r) | none => none) = some r
      rw [if_pos hs]; rfl
    | some s =>
      obtain ⟨m1, m2⟩ := getR_mem hgb
      have hs : newS (b.map mkR) r = decide (0 < cmpStm r.2.1 s.2.1) := by
        rw [newS_get hb, n2, hgb]
      have hw : newW a (mkR s) = decide (cmpStm r.2.1 s.2.1 < 0) := by
        rw [newW_get ha, show (mkR s).1 = k from m2, hga]; rfl
      right
      show ∃ u v, (match (if newW a (mkR s) = true then some s else none) with | some q => some (newer (some r) q) | none => some r) = some u ∧ (match (if newS (b.map mkR) r = true then some r else none) with | some q => some (newer (some s) q) | none => some s) = some v ∧ sameR u v = true
      rw [hs, hw]
      have hanti := cmpStm_anti r.2.1 s.2.1
      by_cases c1 : cmpStm r.2.1 s.2.1 < 0
      · rw [decide_eq_true c1, decide_eq_false (show ¬ 0 < cmpStm r.2.1 s.2.1 by omega), if_pos rfl, if_neg (by decide)]
        refine ⟨s, s, ?_, rfl, sameR_self s⟩
        show some (if 0 ≤ cmpStm r.2.1 s.2.1 then r else s) = some s
        rw [if_neg (by omega)]
      · rw [decide_eq_false c1, if_neg (by decide)]
        by_cases c2 : 0 < cmpStm r.2.1 s.2.1
        · rw [decide_eq_true c2, if_pos rfl]
          refine ⟨r, r, rfl, ?_, sameR_self r⟩
          show some (if 0 ≤ cmpStm s.2.1 r.2.1 then s else r) = some r
          rw [if_neg (by omega)]
        · rw [decide_eq_false c2, if_neg (by decide)]
          exact ⟨r, s, rfl, rfl, H r n1 s m1 (by rw [n2, m2]) (by omega)⟩
end Go.Proofs.YtpjeohellehgjaaDoor

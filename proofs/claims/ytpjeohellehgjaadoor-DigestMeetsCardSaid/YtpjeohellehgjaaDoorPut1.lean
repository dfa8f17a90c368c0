/- A row put in a table: plain parts. Conditions: see the theorems. -/
import Derived.Test.YtpjeohellehgjaaDoorTab
set_option linter.unusedVariables false
set_option linter.unusedSimpArgs false
set_option maxRecDepth 100000
namespace Go.Cn
theorem flatR_take (m : List RowH) (i : Nat) : (m.take i).flatMap rowC = (m.flatMap rowC).take (i * 6) := by
  induction m generalizing i with
  | nil => simp
  | cons x m ih =>
    cases i with
    | zero => simp
    | succ i =>
      rw [List.take_succ_cons, List.flatMap_cons, ih, List.flatMap_cons, show (i + 1) * 6 = (rowC x).length + i * 6 by rw [rowC_len]; omega, List.take_length_add_append]
theorem flatR_drop (m : List RowH) (i : Nat) : (m.drop i).flatMap rowC = (m.flatMap rowC).drop (i * 6) := by
  induction m generalizing i with
  | nil => simp
  | cons x m ih =>
    cases i with
    | zero => simp
    | succ i =>
      rw [List.drop_succ_cons, ih, List.flatMap_cons, show (i + 1) * 6 = (rowC x).length + i * 6 by rw [rowC_len]; omega, List.drop_length_add_append]
theorem srcR_take {w : World} {A : Option Addr} {m : List RowH} (hr : Reads w A (m.flatMap rowC)) (i : Nat) : Src w A ((m.take i).flatMap rowC) := by
  intro j u hj
  refine hr.src j u ?_
  rw [flatR_take, List.getElem?_take] at hj
  split at hj
  · exact hj
  · cases hj
theorem srcR_drop {w : World} {g o c : Nat} {m : List RowH} (hr : Reads w (some ⟨g, o, none⟩) (m.flatMap rowC)) (hc : m.length ≤ c) (i : Nat) (hi : i ≤ m.length) : Src w (if c = i then some ⟨g, o, none⟩ else some ⟨g, o + i * 6, none⟩) ((m.drop i).flatMap rowC) := by
  by_cases h : c = i
  · have : m.drop i = [] := List.drop_eq_nil_of_le (by omega)
    rw [this]; exact Src.nil _ _
  · rw [if_neg h, flatR_drop]
    intro j u hj
    refine ⟨_, rfl, ?_⟩
    rw [Addr.add_lit]
    rw [List.getElem?_drop] at hj
    rcases hr with e | ⟨g', o', e, hcell⟩
    · rw [e] at hj; simp at hj
    · cases e
      have hlt := (List.getElem?_eq_some_iff.1 hj).1
      have := hcell (i * 6 + j) hlt
      rw [hj] at this
      rw [Nat.add_assoc]; exact this
theorem rowF_one (l : List RowH) : ∀ u ∈ l.flatMap rowC, u.oneCell' = true := fun u hu => by
  obtain ⟨x, _, h⟩ := List.mem_flatMap.1 hu
  exact rowC_one x u h
end Go.Cn
namespace Go.Proofs.YtpjeohellehgjaaDoor
open Go.RowKit Go.Cn
theorem put_new {rs : List RowH} {key : ByteArray} {r : Stm × List Att} (h : ∀ x ∈ rs, x.1 ≠ key) : putD (rs.map rowP) (key, r) = insD (rs.map rowP) (key, r) := by
  unfold putD
  have : getR (rs.map rowP) key = none := getR_none.2 (fun x hx => by
    obtain ⟨y, hy, rfl⟩ := List.mem_map.1 hx
    exact h y hy)
  rw [this]
theorem upR_of {rs : List RowH} (hu : UpK (rs.map (·.1))) : UpR (rs.map rowP) := by
  unfold UpR
  rw [List.map_map]; exact hu
theorem put_old {rs : List RowH} {key : ByteArray} {r : Stm × List Att} {x : RowH} (hu : UpK (rs.map (·.1))) (hm : x ∈ rs) (hk : x.1 = key) : putD (rs.map rowP) (key, r) = if 0 ≤ cmpStm x.2.1 r.1 then rs.map rowP else insD ((rs.map rowP).filter fun y => !decide (y.1 = key)) (key, r) := by
  unfold putD
  have : getR (rs.map rowP) key = some (rowP x) := by
    rw [← hk]; exact getR_at (upR_of hu) (List.mem_map_of_mem hm)
  rw [this]; rfl
theorem ins_at {rs : List RowH} {r : RowD} {i : Nat} (hu : UpK (rs.map (·.1))) (hi : i ≤ rs.length) (h1 : ∀ j, j < i → ltS (rs.getD j default).1 r.1 = true) (h2 : i < rs.length → ltS (rs.getD i default).1 r.1 = false) : insD (rs.map rowP) r = (rs.take i).map rowP ++ r :: (rs.drop i).map rowP := by
  have ed : ∀ j, (h : j < rs.length) → rs.getD j default = rs[j] := fun j h => by simp [h]
  have lo : ∀ x ∈ rs.take i, ltS x.1 r.1 = true := fun x hx => by
    obtain ⟨j, hj, rfl⟩ := List.mem_iff_getElem.1 hx
    rw [List.length_take] at hj
    have := h1 j (by omega)
    rw [ed j (by omega)] at this
    rw [List.getElem_take]; exact this
  have hi2 : ∀ x ∈ rs.drop i, ltS x.1 r.1 = false := fun x hx => by
    obtain ⟨j, hj, rfl⟩ := List.mem_iff_getElem.1 hx
    rw [List.length_drop] at hj
    have h0 := h2 (by omega)
    rw [ed i (by omega)] at h0
    rw [List.getElem_drop]
    by_cases e0 : j = 0
    · subst e0; exact h0
    · have h4 := upK_at hu (show i < i + j by omega) (by omega)
      rw [ed i (by omega), ed (i + j) (by omega)] at h4
      cases h : ltS rs[i + j].1 r.1 with
      | false => rfl
      | true =>
        have := ltS_trans h4 h
        rw [h0] at this; cases this
  unfold insD
  conv => lhs; rw [← List.take_append_drop i rs]
  rw [List.map_append, List.filter_append, List.filter_append]
  have f1 : ((rs.take i).map rowP).filter (fun x => ltS x.1 r.1) = (rs.take i).map rowP := List.filter_eq_self.2 (fun x hx => by
    obtain ⟨y, hy, rfl⟩ := List.mem_map.1 hx; exact lo y hy)
  have f2 : ((rs.drop i).map rowP).filter (fun x => ltS x.1 r.1) = [] := List.filter_eq_nil_iff.2 (fun x hx => by
    obtain ⟨y, hy, rfl⟩ := List.mem_map.1 hx
    have := hi2 y hy
    show ¬ ltS y.1 r.1 = true
    rw [this]; decide)
  have f3 : ((rs.take i).map rowP).filter (fun x => !ltS x.1 r.1) = [] := List.filter_eq_nil_iff.2 (fun x hx => by
    obtain ⟨y, hy, rfl⟩ := List.mem_map.1 hx
    have := lo y hy
    show ¬ (!ltS y.1 r.1) = true
    rw [this]; decide)
  have f4 : ((rs.drop i).map rowP).filter (fun x => !ltS x.1 r.1) = (rs.drop i).map rowP := List.filter_eq_self.2 (fun x hx => by
    obtain ⟨y, hy, rfl⟩ := List.mem_map.1 hx
    have := hi2 y hy
    show (!ltS y.1 r.1) = true
    rw [this]; rfl)
  rw [f1, f2, f3, f4, List.append_nil, List.nil_append]
/-- What a region has made so far: a row under way, the one row, the table. -/
def RS (w0 w : World) (v : Value) (n : Nat) (xs : List Value) (F : Option Nat) (C1 : Array Value) (o1 o2 : Option Nat) : Prop :=
  Qt w0 w ∧ Own w 65 6 v n xs F ∧ (∀ j, F = some j → w0.heap.size ≤ j) ∧ (∀ b, o1 = some b → w.heap[b]? = some (.cells C1 65 (0, 0)) ∧ w0.heap.size ≤ b ∧ F ≠ some b) ∧ (∀ b, o2 = some b → w.heap[b]? = some (.cells #[.int .i64 0, .slice none 0 0] 60 (0, 0)) ∧ w0.heap.size ≤ b ∧ F ≠ some b)
theorem RS.z {w0 w : World} {C1 : Array Value} (q : Qt w0 w) : RS w0 w (.slice none 0 0) 0 [] none C1 none none := ⟨q, Own.nil _ _ _, fun _ h => (by cases h), fun _ h => (by cases h), fun _ h => (by cases h)⟩
theorem RS.a0 {w0 w : World} {C1 : Array Value} {o1 o2 : Option Nat} {k : Nat} (r : RS w0 w (.slice none 0 0) 0 [] none C1 o1 o2) (hk : w.heap.size = k) : RS w0 (w.alloc (.cells #[] 65)) (.slice (some ⟨k, 0, none⟩) 0 0) 0 [] (some k) C1 o1 o2 := by
  obtain ⟨q, o, f, a, b⟩ := r
  subst hk
  obtain ⟨q1, h1, s1⟩ := newb w #[] 65
  have hs := q.size
  refine ⟨q.trans q1, own_empty w _ 6, fun j hj => by cases hj; exact hs, fun x hx => ?_, fun x hx => ?_⟩
  · obtain ⟨y1, y2, y3⟩ := a x hx
    exact ⟨q1.heap y1 (fun h => h), y2, fun e => by cases e; exact absurd (blk_lt y1) (by omega)⟩
  · obtain ⟨y1, y2, y3⟩ := b x hx
    exact ⟨q1.heap y1 (fun h => h), y2, fun e => by cases e; exact absurd (blk_lt y1) (by omega)⟩
theorem RS.a1 {w0 w : World} {v : Value} {n : Nat} {xs : List Value} {F : Option Nat} {C1 : Array Value} {o2 : Option Nat} {k : Nat} (r : RS w0 w v n xs F C1 none o2) (hk : w.heap.size = k) : RS w0 (w.alloc (.cells C1 65)) v n xs F C1 (some k) o2 := by
  obtain ⟨q, o, f, a, b⟩ := r
  subst hk
  obtain ⟨q1, h1, s1⟩ := newb w C1 65
  have hs := q.size
  refine ⟨q.trans q1, o.chg q1 (fun _ _ h => h), f, fun x hx => ?_, fun x hx => ?_⟩
  · cases hx
    exact ⟨h1, hs, fun e => absurd (o.lt e) (by omega)⟩
  · obtain ⟨y1, y2, y3⟩ := b x hx
    exact ⟨q1.heap y1 (fun h => h), y2, y3⟩
theorem RS.a2 {w0 w : World} {v : Value} {n : Nat} {xs : List Value} {F : Option Nat} {C1 : Array Value} {o1 : Option Nat} {k : Nat} (r : RS w0 w v n xs F C1 o1 none) (hk : w.heap.size = k) : RS w0 (w.alloc (.cells #[.int .i64 0, .slice none 0 0] 60)) v n xs F C1 o1 (some k) := by
  obtain ⟨q, o, f, a, b⟩ := r
  subst hk
  obtain ⟨q1, h1, s1⟩ := newb w #[.int .i64 0, .slice none 0 0] 60
  have hs := q.size
  refine ⟨q.trans q1, o.chg q1 (fun _ _ h => h), f, fun x hx => ?_, fun x hx => ?_⟩
  · obtain ⟨y1, y2, y3⟩ := a x hx
    exact ⟨q1.heap y1 (fun h => h), y2, y3⟩
  · cases hx
    exact ⟨h1, hs, fun e => absurd (o.lt e) (by omega)⟩
theorem RS.ap {w0 w : World} {v : Value} {n : Nat} {xs : List Value} {F : Option Nat} {C1 : Array Value} {o1 o2 : Option Nat} (r : RS w0 w v n xs F C1 o1 o2) {A : Option Addr} {m c : Nat} {news : List Value} (hl : news.length = m * 6) (hs : Cn.Src w0 A news) (h1 : ∀ u ∈ news, u.oneCell' = true) (hb : n + m ≤ 200000) (ty : TypeId) :
    ∃ A' cap F' w', (Builtin.append_ #[33, 33] ty #[v, .slice A m c]).run Tryd.prog w = .ok (.slice A' (n + m) cap) w' ∧ RS w0 w' (.slice A' (n + m) cap) (n + m) (xs ++ news) F' C1 o1 o2 := by
  obtain ⟨q, o, f, a, b⟩ := r
  obtain ⟨A', cap, F', w', p, o', kk, f'⟩ := app_run (P := Tryd.prog) tyRR o A m c news hl (hs.chg q (fun _ _ h => h)) h1 (by omega) (by omega) ty
  have hs := q.size
  refine ⟨A', cap, F', w', p, Qt.then q kk f, o', fun j hj => ?_, fun x hx => ?_, fun x hx => ?_⟩
  · rcases f' j hj with h | h
    · exact f j h
    · omega
  · obtain ⟨y1, y2, y3⟩ := a x hx
    refine ⟨kk.heap y1 y3, y2, fun e => ?_⟩
    rcases f' x e with h | h
    · exact y3 h
    · exact absurd (blk_lt y1) (by omega)
  · obtain ⟨y1, y2, y3⟩ := b x hx
    refine ⟨kk.heap y1 y3, y2, fun e => ?_⟩
    rcases f' x e with h | h
    · exact y3 h
    · exact absurd (blk_lt y1) (by omega)
theorem RS.pu {w0 w : World} {v : Value} {n : Nat} {xs : List Value} {F : Option Nat} {C1 : Array Value} {b1 : Nat} {o2 : Option Nat} (r : RS w0 w v n xs F C1 (some b1) o2) {cs : List Value} (hc : C1 = cs.toArray) (hl : cs.length = 6) (h1 : ∀ u ∈ cs, u.oneCell' = true) (hb : n + 1 ≤ 200000) (ty : TypeId) :
    ∃ A' cap F' w', (Builtin.append_ #[33, 33] ty #[v, .slice (some ⟨b1, 0, none⟩) 1 1]).run Tryd.prog w = .ok (.slice A' (n + 1) cap) w' ∧ RS w0 w' (.slice A' (n + 1) cap) (n + 1) (xs ++ cs) F' C1 none o2 := by
  obtain ⟨q, o, f, a, b⟩ := r
  subst hc
  obtain ⟨A', cap, F', w', p, o', kk, f'⟩ := pushN_run (P := Tryd.prog) tyRR o cs hl h1 (a b1 rfl).1 (by omega) (by omega) ty
  have hs := q.size
  refine ⟨A', cap, F', w', p, Qt.then q kk f, o', fun j hj => ?_, fun x hx => (by cases hx), fun x hx => ?_⟩
  · rcases f' j hj with h | h
    · exact f j h
    · omega
  · obtain ⟨y1, y2, y3⟩ := b x hx
    refine ⟨kk.heap y1 y3, y2, fun e => ?_⟩
    rcases f' x e with h | h
    · exact y3 h
    · exact absurd (blk_lt y1) (by omega)
/-- A table made whole: what the region leaves. -/
def RT (w0 w : World) (most : Int) (n : Nat) (xs : List Value) (v : Value) : Prop := ∃ b A c F, v = .pointer (some ⟨b, 0, none⟩) ∧ w0.heap.size ≤ b ∧ w.heap[b]? = some (.cells #[.int .i64 most, .slice A n c] 60 (0, 0)) ∧ Own w 65 6 (.slice A n c) n xs F ∧ F ≠ some b ∧ (∀ j, F = some j → w0.heap.size ≤ j) ∧ Qt w0 w
theorem RS.st {w0 w : World} {A : Option Addr} {c : Nat} {n : Nat} {xs : List Value} {F : Option Nat} {C1 : Array Value} {o1 : Option Nat} {b2 : Nat} {most : Int} {K : Value → World → Prop} (r : RS w0 w (.slice A n c) n xs F C1 o1 (some b2))
    (hK : ∀ w', Qt w0 w' → RT w0 w' most n xs (.pointer (some ⟨b2, 0, none⟩)) → K undef w') : StoreK Tryd.prog 60 (.pointer (some ⟨b2, 0, none⟩)) (.agg #[.int .i64 most, .slice A n c]) K w := by
  obtain ⟨q, o, f, a, b⟩ := r
  obtain ⟨y1, y2, y3⟩ := b b2 rfl
  refine aggStoreW (cs := [.int .i64 most, .slice A n c]) y1 rfl (by kernel_rfl) (by intro u hu; simp at hu; rcases hu with rfl | rfl <;> rfl) ?_
  intro w' h' k'
  have q' : Qt w0 w' := Qt.then q k' (fun k hk => by omega)
  exact hK w' q' ⟨b2, A, c, F, rfl, y2, h', o.chg k' (fun k hk e => y3 (by rw [hk, e])), y3, f, q'⟩
theorem RS.fin {w0 w : World} {A : Option Addr} {c : Nat} {n : Nat} {xs : List Value} {F : Option Nat} {C1 : Array Value} {o1 : Option Nat} {most : Int} {k : Nat} (r : RS w0 w (.slice A n c) n xs F C1 o1 none) (hk : w.heap.size = k) : Qt w0 (w.alloc (.cells #[.int .i64 most, .slice A n c] 60)) ∧ RT w0 (w.alloc (.cells #[.int .i64 most, .slice A n c] 60)) most n xs (.pointer (some ⟨k, 0, none⟩)) := by
  obtain ⟨q, o, f, a, b⟩ := r
  subst hk
  obtain ⟨q1, h1, s1⟩ := newb w #[.int .i64 most, .slice A n c] 60
  exact ⟨q.trans q1, w.heap.size, A, c, F, rfl, q.size, h1, o.chg q1 (fun _ _ h => h), fun e => absurd (o.lt e) (by omega), f, q.trans q1⟩
theorem slR_n {K : Value → World → Prop} {w : World} {n c i : Nat} {A : Option Addr} (hA : (A = none ∧ c = 0) ∨ ∃ g o, A = some ⟨g, o, none⟩) (hn : n ≤ c) (hi : i ≤ n) (h : K (.slice A i c) w) : SliceK Tryd.prog 33 (.slice A n c) none (some (.int .i64 (i : Int))) none K w := by
  rcases hA with ⟨rfl, rfl⟩ | ⟨g, o, rfl⟩
  · obtain rfl : n = 0 := by omega
    obtain rfl : i = 0 := by omega
    unfold SliceK; go_simp; exact h
  · have hb : (0 : Int) ≤ (i : Int) ∧ (i : Int) ≤ (c : Int) := by omega
    rw [ksl33_010 g o n c _ hb]
    exact h
theorem slR_d {n c i : Nat} {A : Option Addr} {rs : List RowH} (hA : (A = none ∧ c = 0) ∨ ∃ g o, A = some ⟨g, o, none⟩) (hl : rs.length = n) (hn : n ≤ c) (hi : i ≤ n) : ∃ A8, (∀ (K : Value → World → Prop) w, K (.slice A8 (n - i) (c - i)) w → SliceK Tryd.prog 33 (.slice A n c) (some (.int .i64 (i : Int))) none none K w) ∧ ∀ w, Reads w A (rs.flatMap rowC) → Cn.Src w A8 ((rs.drop i).flatMap rowC) := by
  rcases hA with ⟨rfl, rfl⟩ | ⟨g, o, rfl⟩
  · obtain rfl : n = 0 := by omega
    obtain rfl : i = 0 := by omega
    refine ⟨none, fun K w h => ?_, fun w _ => ?_⟩
    · unfold SliceK; go_simp; exact h
    · rw [List.length_eq_zero_iff.1 hl]; exact Src.nil _ _
  · have hb : (0 : Int) ≤ (i : Int) ∧ (i : Int) ≤ (n : Int) := by omega
    refine ⟨if c = i then some ⟨g, o, none⟩ else some ⟨g, o + i * 6, none⟩, fun K w h => ?_, fun w hr => srcR_drop hr (by omega) i (by omega)⟩
    rw [ksl33_100 g o n c _ hb]
    exact h
theorem getT_one {rs : List RowH} {most : Int} {key : ByteArray} {A : Option Addr} {c : Nat} {w : World} {K : Value → World → Prop} (ha : Reads w A (rs.flatMap rowC)) (hl : rs.length ≤ 100000) (hu : UpK (rs.map (·.1)))
    (hK : ∀ (r : RowH) (b : Bool) w', Qt w w' → (b = true → r ∈ rs ∧ r.1 = key) → (b = false → ∀ x ∈ rs, x.1 ≠ key) → K (.tuple #[rowV r.1 r.2.1 r.2.2.1 r.2.2.2.2.length r.2.2.2.1, .bool b]) w') : CallK Tryd.prog 61 #[tabV most A rs.length c, .string key] K w :=
  getT_any ha hl hu (fun hno w' q => hK (ByteArray.empty, (0, 0, 0, ByteArray.empty), none, 0, []) false w' q (fun h => by cases h) (fun _ => hno)) (fun i hi he w' q => hK (rs.getD i default) true w' q (fun _ => ⟨getD_mem hi, he⟩) (fun h => by cases h))
end Go.Proofs.YtpjeohellehgjaaDoor

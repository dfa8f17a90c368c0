/- Two meet: parts. Conditions: see the theorems. -/
import Derived.Test.YtpjeohellehgjaaDoorPutT
set_option linter.unusedVariables false
set_option linter.unusedSimpArgs false
set_option maxRecDepth 100000
namespace Go.Proofs.YtpjeohellehgjaaDoor
open Go.RowKit Go.Cn
set_option maxHeartbeats 2000000 in
theorem ofRows2_any {rs : List RowH} {A : Option Addr} {c : Nat} {w : World} {K : Value → World → Prop} (ha : RowsAt w A rs) (hn : rs.length ≤ 100000) (hl : ∀ r ∈ rs, r.2.2.2.2.length ≤ 100000)
    (hK : ∀ A' c' rs' w', rs'.map rowP = rs.map rowP → RowsAt w' A' rs' → rs'.length ≤ c' → ((A' = none ∧ c' = 0) ∨ ∃ g o, A' = some ⟨g, o, none⟩) → Qt w w' → K (.slice A' rs'.length c') w') : CallK Tryd.prog 15 #[.slice A rs.length c] K w := by
  refine F15_calls _ _ _ ?_; unfold F15
  refine loopK2 (fun x v w' => ∃ (i : Nat) (A' : Option Addr) (c' : Nat) (F : Option Nat) (rs' : List RowH), v = .int .i64 i ∧ i ≤ rs.length ∧ x = .slice A' i c' ∧ rs'.map rowP = (rs.take i).map rowP ∧ Own w' 65 6 (.slice A' i c') i (rs'.flatMap rowC) F ∧ (∀ r ∈ rs', AttsAt w' r.2.2.1 r.2.2.2.2 ∧ AttsSep (fun k => F = some k) r.2.2.1 r.2.2.2.2) ∧ Qt w w' ∧ (∀ k, F = some k → w.heap.size ≤ k)) (fun _ v _ => rs.length - (intOf v).toNat) ⟨0, none, 0, none, [], rfl, by omega, rfl, rfl, Own.nil _ _ _, fun _ h => (by cases h), Qt.refl, fun _ h => by cases h⟩ ?_
  rintro _ _ _ w1 ⟨i, A1, c1, F1, rs', rfl, hi, rfl, hmap, o1, hr1, q1, f1⟩
  by_cases hlt : i < rs.length
  · obtain ⟨g, o, rfl, z0, z1, z2, z3, z4, z5⟩ := row_at (ha.1.quiet q1) hlt
    have hat := (ha.get hlt).quiet q1
    have hln := hl _ (getD_mem hlt)
    have htk : rs.take (i + 1) = rs.take i ++ [rs.getD i default] := by
      rw [List.take_succ_eq_append_getElem hlt]; simp [hlt]
    have hlow := ((ha.get hlt).2).low (S := fun k => w.heap.size ≤ k) (fun _ h => h)
    generalize rs.getD i default = r at *
    obtain ⟨key, s, B, d, hs⟩ := r
    simp only at z0 z1 z2 z3 z4 z5 hat hln hlow
    simp (maxSteps := 1000000) (disch := omega) only [genAll, decAll, tk_nil, st15, z0, z1, z2, z3, z4, z5]
    refine ck44 (ofR_any (c := d) hat hln ?_)
    intro B2 d2 w2 a2 q2 f2
    have o2 := o1.chg q2 (fun _ _ h => h)
    obtain ⟨q3, h3, s3⟩ := newb w2 #[.string key, .int .i64 s.1, .int .i64 s.2.1, .int .i64 s.2.2.1, .string s.2.2.2, .slice B2 hs.length d2] 65
    obtain ⟨A4, c4, F4, w4, p4, o4, k4, f4⟩ := pushN_run (P := Tryd.prog) tyRR (o2.chg q3 (fun _ _ h => h)) (rowC (key, s, B2, d2, hs)) rfl (rowC_one _) h3 (by omega) (by omega) 33
    simp (maxSteps := 1000000) (disch := omega) only [genAll, decAll, tk_nil, st15]
    generalize (w2.alloc (.cells #[.string key, .int .i64 s.1, .int .i64 s.2.1, .int .i64 s.2.2.1, .string s.2.2.2, .slice B2 hs.length d2] 65)) = w3 at *
    have q13 := q2.trans q3
    have q03 := q1.trans q13
    have q04 := Qt.then q03 k4 f1
    refine appK p4 ?_
    simp (maxSteps := 1000000) (disch := omega) only [genAll, decAll, tk_nil, st15]
    have f4' : ∀ k, F4 = some k → F1 = some k ∨ w3.heap.size ≤ k := fun k hk => (f4 k hk).elim .inl (fun h => .inr (by omega))
    refine ⟨⟨i + 1, A4, c4, F4, rs' ++ [(key, s, B2, d2, hs)], by go_num, by omega, rfl, ?_, ?_, ?_, q04, fun k hk => ?_⟩, by simp [rel, intOf]; omega⟩
    · rw [htk]; exact rowP_map _ _ _ _ hmap rfl
    · rw [List.flatMap_append]
      simpa using o4
    · intro r hr
      rcases List.mem_append.1 hr with hr | hr
      · obtain ⟨y1, y2⟩ := hr1 r hr
        have y3 := y1.quiet q13
        exact ⟨y3.sep k4 y2, attsSep_push y2 y3 f4'⟩
      · have : r = (key, s, B2, d2, hs) := by simpa using hr
        subst this
        have y3 := a2.quiet q3
        have y2 : AttsSep (fun k => F1 = some k) B2 hs := by
          refine ⟨fun hx ad h e => ?_, hlow.mono f1⟩
          have h1 := f2 ad h
          have h2 := o1.lt e
          omega
        exact ⟨y3.sep k4 y2, attsSep_push y2 y3 f4'⟩
    · rcases f4 k hk with h | h
      · exact f1 k h
      · have := q03.size; omega
  · obtain rfl : i = rs.length := by omega
    rw [List.take_length] at hmap
    simp (maxSteps := 1000000) (disch := omega) only [genAll, decAll, tk_nil, st15]
    have el : rs'.length = rs.length := by have := congrArg List.length hmap; simpa using this
    rw [← el] at o1 ⊢
    refine hK _ _ rs' _ hmap ⟨reads_own o1, fun r hr => (hr1 r hr).1⟩ ?_ ?_ q1
    · obtain ⟨_, _, e, h, _⟩ := o1.shape
      injection e with _ _ e; omega
    · rcases own_cases o1 with ⟨h1, _, h2, _⟩ | ⟨g8, h1, _⟩
      · exact .inl ⟨h1, h2⟩
      · exact .inr ⟨g8, 0, h1⟩
/-- What reads is not where a small block of two cells lies. -/
theorem sep_two {w : World} {A : Option Addr} {xs : List Value} {b : Nat} {x y : Value} {t : TypeId} (h : Reads w A xs) (h1 : w.heap[b]? = some (.cells #[x, y] t (0, 0))) (hl : xs ≠ [] → 2 < xs.length) : Sep (fun k => k = b) A xs := by
  intro hx ad ha hb
  have hl := hl hx
  rcases h with h | ⟨g, o, he, hc⟩
  · exact hx h
  · rw [ha] at he
    cases he
    have hb : g = b := hb
    subst hb
    have := hc 2 hl
    rw [blk_cell h1, List.getElem?_eq_getElem hl] at this
    have e : (#[x, y] : Array Value)[o + 2]? = none := Array.getElem?_eq_none (by show 2 ≤ o + 2; omega)
    rw [e] at this; cases this
theorem rows_two {w : World} {A : Option Addr} {rs : List RowH} {b : Nat} {x y : Value} {t : TypeId} (h : Reads w A (rs.flatMap rowC)) (h1 : w.heap[b]? = some (.cells #[x, y] t (0, 0))) : Sep (fun k => k = b) A (rs.flatMap rowC) := sep_two h h1 (fun hx => by
  cases rs with
  | nil => exact absurd rfl hx
  | cons r rs => rw [flat_len rowC_len, List.length_cons]; omega)
theorem ints_tab {w w' : World} {A : Option Addr} {l : List Int} {b : Nat} {x : Value} {P P' : Option Addr} {n n' c c' : Nat} {t : TypeId} (h : Reads w A (ints' l)) (h1 : w.heap[b]? = some (.cells #[x, .slice P n c] t (0, 0))) (h2 : w'.heap[b]? = some (.cells #[x, .slice P' n' c'] t (0, 0))) (k : Chg (fun k => k = b) w w') : Reads w' A (ints' l) := by
  rcases h with h | ⟨g, o, he, hc⟩
  · exact .inl h
  · refine .inr ⟨g, o, he, fun j hj => ?_⟩
    have := hc j hj
    by_cases e : g = b
    · subst e
      rw [blk_cell h1, List.getElem?_eq_getElem hj] at this
      rw [blk_cell h2, List.getElem?_eq_getElem hj, ← this]
      have hi : ∃ z, (ints' l)[j] = .int .i64 z := by
        have : (ints' l)[j] ∈ ints' l := List.getElem_mem hj
        obtain ⟨z, _, hz⟩ := List.mem_map.1 this
        exact ⟨z, hz.symm⟩
      obtain ⟨z, hz⟩ := hi
      rw [hz] at this
      match o + j, this with
      | 0, _ => rfl
      | 1, this => cases this
      | m + 2, this =>
        have e : (#[x, .slice P n c] : Array Value)[m + 2]? = none := Array.getElem?_eq_none (by show 2 ≤ m + 2; omega)
        rw [e] at this; cases this
    · rw [List.getElem?_eq_getElem hj] at this ⊢
      exact k.cell this e
theorem atts_tab {w w' : World} {A : Option Addr} {hs : List AttH} {b : Nat} {x : Value} {P P' : Option Addr} {n n' c c' : Nat} {t : TypeId} (h : AttsAt w A hs) (h1 : w.heap[b]? = some (.cells #[x, .slice P n c] t (0, 0))) (h2 : w'.heap[b]? = some (.cells #[x, .slice P' n' c'] t (0, 0))) (k : Chg (fun k => k = b) w w') : AttsAt w' A hs :=
  ⟨h.1.sep k (sep_two h.1 h1 (fun hx => by
    cases hs with
    | nil => exact absurd rfl hx
    | cons r rs => rw [flat_len attC_len, List.length_cons]; omega)), fun y hy => ints_tab (h.2 y hy) h1 h2 k⟩
/-- Rows stay where a table's place is written. -/
theorem rows_tab {w w' : World} {A : Option Addr} {rs : List RowH} {b : Nat} {x : Value} {P P' : Option Addr} {n n' c c' : Nat} {t : TypeId} (h : RowsAt w A rs) (h1 : w.heap[b]? = some (.cells #[x, .slice P n c] t (0, 0))) (h2 : w'.heap[b]? = some (.cells #[x, .slice P' n' c'] t (0, 0))) (k : Chg (fun k => k = b) w w') : RowsAt w' A rs :=
  ⟨h.1.sep k (rows_two h.1 h1), fun r hr => atts_tab (h.2 r hr) h1 h2 k⟩
theorem putD_len (l : List RowD) (r : RowD) : (putD l r).length ≤ l.length + 1 := by
  have hi : ∀ l : List RowD, (insD l r).length = l.length + 1 := fun l => by
    unfold insD
    rw [List.length_append, List.length_cons]
    have : ∀ l : List RowD, (l.filter fun x => ltS x.1 r.1).length + (l.filter fun x => !(ltS x.1 r.1)).length = l.length := fun l => by
      induction l with
      | nil => rfl
      | cons x l ih =>
        rw [List.filter_cons, List.filter_cons]
        cases h : ltS x.1 r.1 with
        | true => simp; omega
        | false => simp; omega
    have := this l
    omega
  unfold putD
  split
  · split
    · omega
    · rw [hi]
      have := List.length_filter_le (fun x : RowD => !decide (x.1 = r.1)) l
      omega
  · rw [hi]; omega
theorem fold_len (t : List RowD) : ∀ l : List RowD, (t.foldl putD l).length ≤ l.length + t.length := by
  induction t with
  | nil => intro l; simp
  | cons r t ih =>
    intro l
    have := ih (putD l r)
    have := putD_len l r
    rw [List.foldl_cons, List.length_cons]; omega
theorem fold_snoc {t : List RowD} {l : List RowD} {i : Nat} (h : i < t.length) : (t.take (i + 1)).foldl putD l = putD ((t.take i).foldl putD l) (t.getD i default) := by
  rw [List.take_succ_eq_append_getElem h, List.foldl_append]
  have : t.getD i default = t[i] := by simp [h]
  rw [this]; rfl
theorem fold_up {t l : List RowD} (h : UpR l) : UpR (t.foldl putD l) := by
  induction t generalizing l with
  | nil => exact h
  | cons r t ih => exact ih (putD_up h)
theorem up_of {rs : List RowH} (h : UpR (rs.map rowP)) : UpK (rs.map (·.1)) := by
  unfold UpR at h
  rw [List.map_map] at h; exact h
/-- A row that a table takes. -/
def PutOk (r : RowH) : Prop := OkS r ∧ r.2.1.2.2.2.size ≤ 20000 ∧ checkR (rowP r) = 0
theorem riseH_put {rs : List RowH} (h : RiseH rs) : ∀ r ∈ rs, PutOk r := fun r hr => ⟨riseH_ok h r hr, (fewR_good (h.few r hr)).2.2, h.ok r hr⟩
theorem putOk_sub {rs rs' : List RowH} (h : ∀ r ∈ rs, PutOk r) (hs : ∀ x ∈ rs'.map rowP, x ∈ rs.map rowP) : ∀ r ∈ rs', PutOk r := fun r hr => by
  obtain ⟨y, hy, he⟩ := List.mem_map.1 (hs _ (List.mem_map_of_mem hr))
  obtain ⟨h1, h2, h3⟩ := h y hy
  refine ⟨okS_same he h1, ?_, by rw [← he]; exact h3⟩
  have : y.2.1 = r.2.1 := congrArg (fun z : RowD => z.2.1) he
  rw [← this]; exact h2
theorem tk_ex0 {P : Program} (a b : Value) {K : Value → Prop} {T : Nat → Prop} {w1 : World} : TakeS P (Chs T w1) (Instr.extract (.tuple #[a, b]) 0) (@Cn.hid _ ⟨K⟩) = K a := tk_S (fun w' _ => (Eq.mpr (extract2_0 (P := P) a b (fun v' w'' => v' = a ∧ w'' = w') w') ⟨rfl, rfl⟩))
theorem tk_ex1 {P : Program} (a b : Value) {K : Value → Prop} {T : Nat → Prop} {w1 : World} : TakeS P (Chs T w1) (Instr.extract (.tuple #[a, b]) 1) (@Cn.hid _ ⟨K⟩) = K b := tk_S (fun w' _ => (Eq.mpr (extract2_1 (P := P) a b (fun v' w'' => v' = b ∧ w'' = w') w') ⟨rfl, rfl⟩))
theorem wantL_e (l : List RowD) : wantL l [] = [] := rfl
end Go.Proofs.YtpjeohellehgjaaDoor

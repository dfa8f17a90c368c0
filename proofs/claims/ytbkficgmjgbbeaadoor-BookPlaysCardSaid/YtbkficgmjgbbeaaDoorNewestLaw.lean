/- BookNewest's walk. Conditions: the row reads as entries. -/
import Derived.Test.YtbkficgmjgbbeaaDoorTwoLaw
set_option linter.unusedVariables false
set_option linter.unusedSimpArgs false
set_option maxRecDepth 100000
namespace Go.Proofs.YtbkficgmjgbbeaaDoor
open Go.RowKit Go.Cn
def ax (e : Ent) : Ent := (pAX, e.2.1, e.2.2)
theorem newE_irr (a : Ent) : newE a a = false := by unfold newE; rw [if_pos rfl]; simp
theorem newE_lt {a b : Ent} : newE a b = true ↔ (b.2.1 < a.2.1 ∨ (a.2.1 = b.2.1 ∧ b.2.2 < a.2.2)) := by
  unfold newE
  by_cases h : a.2.1 = b.2.1
  · rw [if_pos h]; simp [h]
  · rw [if_neg h]; simp [h]
theorem newE_le {a b : Ent} : newE a b = false ↔ ¬ (b.2.1 < a.2.1 ∨ (a.2.1 = b.2.1 ∧ b.2.2 < a.2.2)) := by
  rw [← newE_lt]; simp
def pm (m : EM) (e : Ent) : EM := (putE m e).1
def okE (e : Ent) : Prop := (0 ≤ e.2.1 ∧ e.2.1 ≤ 1000000000) ∧ (0 ≤ e.2.2 ∧ e.2.2 ≤ 1000000000)
theorem err_ax {e : Ent} (h : okE e) : errE (ax e) = 0 := by
  obtain ⟨⟨h1, h2⟩, h3, h4⟩ := h
  have n : nodeB pAX = true := by decide
  unfold errE ax inR
  simp [n, h1, h2, h3, h4]
theorem rises_1 (e : Ent) : Rises SE.lt ([(pAX, e)] : EM) := ⟨fun q hq => (by cases hq), trivial⟩
theorem pm_nil {e : Ent} (h : okE e) : pm [] (ax e) = [(pAX, ax e)] := by
  have hf : fnd SE.lt ([] : EM) (ax e).1 = false := no_fnd (fun q hq => by cases hq)
  unfold pm putE
  rw [if_neg (by rw [err_ax h]; decide), if_neg (by rw [hf]; rintro ⟨h, _⟩; cases h), if_neg (by rintro ⟨_, h⟩; simp at h), put_end (fun x hx => by cases hx)]
  rfl
theorem pm_one {e s : Ent} (h : okE e) : pm [(pAX, s)] (ax e) = [(pAX, if newE (ax e) s = true then ax e else s)] := by
  have hf : fnd SE.lt ([(pAX, s)] : EM) (ax e).1 = true := fnd_in (rises_1 s) (e := s) (List.mem_singleton.2 rfl)
  have hg : getE [(pAX, s)] (ax e).1 = s := getE_mem (rises_1 s) (List.mem_singleton.2 rfl)
  have hp : pos SE.lt ([(pAX, s)] : EM) (ax e).1 = 0 := by have := fnd_lt hf; simp at this; exact this
  unfold pm putE
  rw [if_neg (by rw [err_ax h]; decide), hf, hg]
  cases hn : newE (ax e) s with
  | false => rw [if_pos ⟨rfl, rfl⟩]; simp
  | true =>
    rw [if_neg (by rintro ⟨_, h⟩; cases h), if_neg (by rintro ⟨h, _⟩; cases h), if_pos rfl]
    show putM SE.lt _ _ _ = _
    unfold putM
    rw [if_pos hf, hp]
    rfl
theorem fold_top : ∀ (L : List Ent) (s : Ent), (∀ e ∈ L, okE e) → ∃ t, (L.map ax).foldl pm [(pAX, s)] = [(pAX, t)] ∧ (t = s ∨ t ∈ L.map ax) ∧ newE s t = false ∧ ∀ y ∈ L.map ax, newE y t = false
  | [], s, _ => ⟨s, rfl, .inl rfl, newE_irr s, fun y hy => by cases hy⟩
  | e :: L, s, h => by
    rw [List.map_cons, List.foldl_cons, pm_one (h e (by simp))]
    obtain ⟨t, h1, h2, h3, h4⟩ := fold_top L (if newE (ax e) s = true then ax e else s) (fun y hy => h y (by simp [hy]))
    refine ⟨t, h1, ?_, ?_, fun y hy => ?_⟩
    · rcases h2 with h2 | h2
      · by_cases hn : newE (ax e) s = true
        · rw [if_pos hn] at h2; right; rw [h2]; simp
        · rw [if_neg hn] at h2; exact .inl h2
      · right; simp only [List.mem_cons]; exact .inr h2
    · by_cases hn : newE (ax e) s = true
      · rw [if_pos hn] at h3
        rw [newE_lt] at hn
        rw [newE_le] at h3 ⊢
        omega
      · rw [if_neg hn] at h3; exact h3
    · rcases List.mem_cons.1 hy with rfl | hy
      · by_cases hn : newE (ax e) s = true
        · rw [if_pos hn] at h3; exact h3
        · rw [if_neg hn] at h3
          rw [Bool.not_eq_true, newE_le] at hn
          rw [newE_le] at h3 ⊢
          omega
      · exact h4 y hy
theorem fold_all {L : List Ent} (hl : L ≠ []) (h : ∀ e ∈ L, okE e) : ∃ t, (L.map ax).foldl pm [] = [(pAX, t)] ∧ t ∈ L.map ax ∧ ∀ y ∈ L.map ax, newE y t = false := by
  cases L with
  | nil => exact absurd rfl hl
  | cons e L =>
    rw [List.map_cons, List.foldl_cons, pm_nil (h e (by simp))]
    obtain ⟨t, h1, h2, h3, h4⟩ := fold_top L (ax e) (fun y hy => h y (by simp [hy]))
    refine ⟨t, h1, ?_, fun y hy => ?_⟩
    · rcases h2 with h2 | h2
      · rw [h2]; simp
      · simp only [List.mem_cons]; exact .inr h2
    · rcases List.mem_cons.1 hy with rfl | hy
      · exact h3
      · exact h4 y hy
/-- The row, turned. -/
def rot (l : List Ent) (t : Nat) (i : Nat) : List Ent := (List.range i).map (fun k => l.getD ((k + t) % l.length) default)
theorem rot_mem {l : List Ent} {t : Nat} {e : Ent} : e ∈ rot l t l.length ↔ e ∈ l := by
  unfold rot
  rw [List.mem_map]
  constructor
  · rintro ⟨k, hk, rfl⟩
    have hk := List.mem_range.1 hk
    have hm : (k + t) % l.length < l.length := Nat.mod_lt _ (by omega)
    rw [List.getD_eq_getElem?_getD, List.getElem?_eq_getElem hm]
    exact List.getElem_mem hm
  · intro h
    obtain ⟨j, hj, rfl⟩ := List.mem_iff_getElem.1 h
    have hr : t % l.length < l.length := Nat.mod_lt _ (by omega)
    have key : ∀ k, (k + t) % l.length = (k + t % l.length) % l.length := fun k => by rw [Nat.add_mod, Nat.add_mod k (t % l.length), Nat.mod_mod]
    by_cases hle : t % l.length ≤ j
    · refine ⟨j - t % l.length, List.mem_range.2 (by omega), ?_⟩
      rw [key, Nat.sub_add_cancel hle, Nat.mod_eq_of_lt hj, List.getD_eq_getElem?_getD, List.getElem?_eq_getElem hj]; rfl
    · refine ⟨j + l.length - t % l.length, List.mem_range.2 (by omega), ?_⟩
      rw [key, Nat.sub_add_cancel (by omega), Nat.add_mod_right, Nat.mod_eq_of_lt hj, List.getD_eq_getElem?_getD, List.getElem?_eq_getElem hj]; rfl
theorem rot_succ (l : List Ent) (t i : Nat) : rot l t (i + 1) = rot l t i ++ [l.getD ((i + t) % l.length) default] := by unfold rot; rw [List.range_succ, List.map_append]; rfl
theorem newest_eq {l : List Ent} {t : Nat} (hl : l ≠ []) (h : ∀ e ∈ l, okE e) : ((rot l t l.length).map ax).foldl pm [] = (l.map ax).foldl pm [] := by
  obtain ⟨a, h1, h2, h3⟩ := fold_all hl h
  have hne : rot l t l.length ≠ [] := fun e => by
    have := congrArg List.length e
    unfold rot at this
    rw [List.length_map, List.length_range] at this
    exact hl (List.eq_nil_of_length_eq_zero this)
  obtain ⟨b, g1, g2, g3⟩ := fold_all hne (fun e he => h e (rot_mem.1 he))
  rw [h1, g1]
  have mm : ∀ y, y ∈ (rot l t l.length).map ax ↔ y ∈ l.map ax := fun y => by simp only [List.mem_map, rot_mem]
  have x1 := h3 b ((mm b).1 g2)
  have x2 := g3 a ((mm a).2 h2)
  rw [newE_le] at x1 x2
  obtain ⟨ea, _, ha⟩ := List.mem_map.1 h2
  obtain ⟨eb, _, hb⟩ := List.mem_map.1 g2
  have e1 : a.2.1 = b.2.1 := by omega
  have e2 : a.2.2 = b.2.2 := by omega
  have e0 : a.1 = b.1 := by rw [← ha, ← hb]; rfl
  have : a = b := Prod.ext e0 (Prod.ext e1 e2)
  rw [this]
theorem pm_good {m : EM} (h : GoodB m) (e : Ent) : GoodB (pm m e) := putE_good h e
/-- Two books side by side. -/
structure Side (x g : Nat) (F : Option Nat) (x' g' : Nat) (F' : Option Nat) : Prop where
  a1 : x' ≠ g
  a2 : F ≠ some x'
  a3 : g' ≠ g
  a4 : F ≠ some g'
  a5 : ∀ k, F' = some k → k ≠ g ∧ F ≠ some k
  b1 : x ≠ g'
  b2 : F' ≠ some x
theorem Side.symm {x g x' g' : Nat} {F F' : Option Nat} (h : Side x g F x' g' F') : Side x' g' F' x g F :=
  ⟨h.b1, h.b2, fun e => h.a3 e.symm, fun e => (h.a5 g e).1 rfl, fun k hk => ⟨fun e => h.a4 (by rw [hk, e]), fun e => (h.a5 k e).2 hk⟩, h.a1, h.a2⟩
theorem Side.next {x g x' g' B : Nat} {F F' F2 : Option Nat} (h : Side x g F x' g' F') (f : ∀ k, F2 = some k → F = some k ∨ B ≤ k) (h1 : x' < B) (h2 : g' < B) (h3 : ∀ k, F' = some k → k < B) : Side x g F2 x' g' F' where
  a1 := h.a1
  a2 := fun e => by rcases f _ e with e | e; exact h.a2 e; omega
  a3 := h.a3
  a4 := fun e => by rcases f _ e with e | e; exact h.a4 e; omega
  a5 := fun k hk => ⟨(h.a5 k hk).1, fun e => by rcases f _ e with e | e; exact (h.a5 k hk).2 e; have := h3 k hk; omega⟩
  b1 := h.b1
  b2 := h.b2
theorem Side.keep {n : Nat} {w w' : World} {x g x' g' : Nat} {F F' : Option Nat} {m' : EM} (h : Side x g F x' g' F') (v : BV n w x' g' m' F') (c : Chg (fun q => q = g ∨ F = some q) w w') : BV n w' x' g' m' F' :=
  ⟨v.at_.chg c (fun e => e.elim h.a1 h.a2) (fun e => e.elim h.a3 h.a4) (fun k hk e => e.elim (h.a5 k hk).1 (h.a5 k hk).2), v.x0, v.g0, v.f0⟩
theorem store1_any {w : World} {b : Nat} {t : TypeId} {a c d x : Value} (h : w.heap[b]? = some (.cells #[a, c, d] t (0, 0))) : (w.setCell ⟨b, 0, none⟩ x).heap[b]? = some (.cells #[x, c, d] t (0, 0)) := by
  rw [blk_set h]; rfl
set_option maxHeartbeats 4000000 in
theorem bookNewest_any {w : World} {A : Option Addr} {cap : Nat} {l : List Ent} {t : Nat} {K : Value → World → Prop} (hm : MaxAt w) (hr : Reads w A (rowL l)) (hok : ∀ x ∈ l, entOk x) (hl : l.length ≤ 9223372036854775807) (ht : t ≤ 255)
    (hR : ∀ w', Qt w w' → K (.bool true) w') : CallK Tryd.prog 6 #[.slice A l.length cap, .int .u8 t] K w := by
  refine F6_calls _ _ _ _ ?_; unfold F6
  refine ck7 (known_any hm ?_)
  intro w1 q1
  have hz := hm.pos
  simp (maxSteps := 1000000) (disch := omega) only [hid1', hid2', guardK_u, takeG_u, wrap_in64, optK_some', fzK_false', nilK_ptr, brK_true', brK_false', guardK_tt', guardK_ff', guardK_tf', guardK_ft', takeG_tt', takeG_ff', takeG_tf', takeG_ft', pickK_t', pickK_f', pickT_t', pickT_f', notK, extract2_0', extract2_1', extract3_0', extract3_1', extract3_2', here_load, here_fieldAt, here_indexAt, here_extract, here_un, here_conv, here_slice, here_bin, here_nil, and_here, true_and, Nat.zero_add, Nat.add_assoc, Nat.add_zero, Int.toNat_natCast, size_alloc, World.cell?_drew, World.frozen?_drew, Bool.not_true, Bool.not_false, Int.toNat_zero, dec_t, dec_f, int_eq_t, int_eq_f, int_ne_t, int_ne_f, wrap_in, kbgtr3, kblss3, kfa28_0, kld2, kbgtr2, kbeql3, kld28, kal28, kst28f, kbadd3, kcv5_3, klen35, hlen35, kbd28_, kia35, kst9, kfa28_1, kblss2, kfa28_2, kbrem3]
  by_cases h30 : 30 < l.length
  · simp (maxSteps := 1000000) (disch := omega) only [hid1', hid2', guardK_u, takeG_u, wrap_in64, optK_some', fzK_false', nilK_ptr, brK_true', brK_false', guardK_tt', guardK_ff', guardK_tf', guardK_ft', takeG_tt', takeG_ff', takeG_tf', takeG_ft', pickK_t', pickK_f', pickT_t', pickT_f', notK, extract2_0', extract2_1', extract3_0', extract3_1', extract3_2', here_load, here_fieldAt, here_indexAt, here_extract, here_un, here_conv, here_slice, here_bin, here_nil, and_here, true_and, Nat.zero_add, Nat.add_assoc, Nat.add_zero, Int.toNat_natCast, size_alloc, World.cell?_drew, World.frozen?_drew, Bool.not_true, Bool.not_false, Int.toNat_zero, dec_t, dec_f, int_eq_t, int_eq_f, int_ne_t, int_ne_f, wrap_in, kbgtr3, kblss3, kfa28_0, kld2, kbgtr2, kbeql3, kld28, kal28, kst28f, kbadd3, kcv5_3, klen35, hlen35, kbd28_, kia35, kst9, kfa28_1, kblss2, kfa28_2, kbrem3, guardK_u]
    exact hR w1 q1
  by_cases h0 : l.length = 0
  · have e0 : ((l.length : Int) == 0) = true := by rw [h0]; rfl
    simp (maxSteps := 1000000) (disch := omega) only [hid1', hid2', guardK_u, takeG_u, wrap_in64, optK_some', fzK_false', nilK_ptr, brK_true', brK_false', guardK_tt', guardK_ff', guardK_tf', guardK_ft', takeG_tt', takeG_ff', takeG_tf', takeG_ft', pickK_t', pickK_f', pickT_t', pickT_f', notK, extract2_0', extract2_1', extract3_0', extract3_1', extract3_2', here_load, here_fieldAt, here_indexAt, here_extract, here_un, here_conv, here_slice, here_bin, here_nil, and_here, true_and, Nat.zero_add, Nat.add_assoc, Nat.add_zero, Int.toNat_natCast, size_alloc, World.cell?_drew, World.frozen?_drew, Bool.not_true, Bool.not_false, Int.toNat_zero, dec_t, dec_f, int_eq_t, int_eq_f, int_ne_t, int_ne_f, wrap_in, kbgtr3, kblss3, kfa28_0, kld2, kbgtr2, kbeql3, kld28, kal28, kst28f, kbadd3, kcv5_3, klen35, hlen35, kbd28_, kia35, kst9, kfa28_1, kblss2, kfa28_2, kbrem3, e0]
    exact hR w1 q1
  have e0 : ((l.length : Int) == 0) = false := beq_eq_false_iff_ne.2 (by omega)
  simp (maxSteps := 1000000) (disch := omega) only [hid1', hid2', guardK_u, takeG_u, wrap_in64, optK_some', fzK_false', nilK_ptr, brK_true', brK_false', guardK_tt', guardK_ff', guardK_tf', guardK_ft', takeG_tt', takeG_ff', takeG_tf', takeG_ft', pickK_t', pickK_f', pickT_t', pickT_f', notK, extract2_0', extract2_1', extract3_0', extract3_1', extract3_2', here_load, here_fieldAt, here_indexAt, here_extract, here_un, here_conv, here_slice, here_bin, here_nil, and_here, true_and, Nat.zero_add, Nat.add_assoc, Nat.add_zero, Int.toNat_natCast, size_alloc, World.cell?_drew, World.frozen?_drew, Bool.not_true, Bool.not_false, Int.toNat_zero, dec_t, dec_f, int_eq_t, int_eq_f, int_ne_t, int_ne_f, wrap_in, kbgtr3, kblss3, kfa28_0, kld2, kbgtr2, kbeql3, kld28, kal28, kst28f, kbadd3, kcv5_3, klen35, hlen35, kbd28_, kia35, kst9, kfa28_1, kblss2, kfa28_2, kbrem3, e0]
  refine ck8 (new_book ?_)
  intro xa ga w2 ha2 q2 hxa hga
  have q02 := q1.trans q2
  have s1 := q1.size
  simp (maxSteps := 1000000) (disch := omega) only [hid1', hid2', guardK_u, takeG_u, wrap_in64, optK_some', fzK_false', nilK_ptr, brK_true', brK_false', guardK_tt', guardK_ff', guardK_tf', guardK_ft', takeG_tt', takeG_ff', takeG_tf', takeG_ft', pickK_t', pickK_f', pickT_t', pickT_f', notK, extract2_0', extract2_1', extract3_0', extract3_1', extract3_2', here_load, here_fieldAt, here_indexAt, here_extract, here_un, here_conv, here_slice, here_bin, here_nil, and_here, true_and, Nat.zero_add, Nat.add_assoc, Nat.add_zero, Int.toNat_natCast, size_alloc, World.cell?_drew, World.frozen?_drew, Bool.not_true, Bool.not_false, Int.toNat_zero, dec_t, dec_f, int_eq_t, int_eq_f, int_ne_t, int_ne_f, wrap_in, kbgtr3, kblss3, kfa28_0, kld2, kbgtr2, kbeql3, kld28, kal28, kst28f, kbadd3, kcv5_3, klen35, hlen35, kbd28_, kia35, kst9, kfa28_1, kblss2, kfa28_2, kbrem3]
  refine ck8 (new_book ?_)
  intro xb gb w3 hb3 q3 hxb hgb
  have q03 := q02.trans q3
  have s2 := q02.size
  have la2 := ha2.2.1.low
  have lx2 := blk_lt ha2.1
  have va3 : BV w.heap.size w3 xa ga [] none := ⟨ha2.quiet q3, by omega, by omega, fun _ h => by cases h⟩
  have vb3 : BV w.heap.size w3 xb gb [] none := ⟨hb3, by omega, by omega, fun _ h => by cases h⟩
  have sd3 : Side xa ga none xb gb none := ⟨by omega, fun e => (by cases e), by omega, fun e => (by cases e), fun k h => (by cases h), by omega, fun e => (by cases e)⟩
  have q7 : Qt w3 (w3.alloc (.cells #[.string ByteArray.empty, .int .i64 0, .int .i64 0] 28)) := Chg.alloc Qt.refl _
  have h7 : (w3.alloc (.cells #[.string ByteArray.empty, .int .i64 0, .int .i64 0] 28)).heap[w3.heap.size]? = some (.cells #[.string ByteArray.empty, .int .i64 0, .int .i64 0] 28 (0, 0)) := blk_new _ _
  have lb3 := vb3.at_.2.1.low
  have lxb3 := blk_lt vb3.at_.1
  have la3 := va3.at_.2.1.low
  have lxa3 := blk_lt va3.at_.1
  have s3 := q03.size
  simp (maxSteps := 1000000) (disch := omega) only [hid1', hid2', guardK_u, takeG_u, wrap_in64, optK_some', fzK_false', nilK_ptr, brK_true', brK_false', guardK_tt', guardK_ff', guardK_tf', guardK_ft', takeG_tt', takeG_ff', takeG_tf', takeG_ft', pickK_t', pickK_f', pickT_t', pickT_f', notK, extract2_0', extract2_1', extract3_0', extract3_1', extract3_2', here_load, here_fieldAt, here_indexAt, here_extract, here_un, here_conv, here_slice, here_bin, here_nil, and_here, true_and, Nat.zero_add, Nat.add_assoc, Nat.add_zero, Int.toNat_natCast, size_alloc, World.cell?_drew, World.frozen?_drew, Bool.not_true, Bool.not_false, Int.toNat_zero, dec_t, dec_f, int_eq_t, int_eq_f, int_ne_t, int_ne_f, wrap_in, kbgtr3, kblss3, kfa28_0, kld2, kbgtr2, kbeql3, kld28, kal28, kst28f, kbadd3, kcv5_3, klen35, hlen35, kbd28_, kia35, kst9, kfa28_1, kblss2, kfa28_2, kbrem3]
  have va4 := va3.quiet q7
  have vb4 := vb3.quiet q7
  have q04 := q03.trans q7
  generalize (w3.alloc (.cells #[.string ByteArray.empty, .int .i64 0, .int .i64 0] 28)) = w4 at *
  generalize hb7 : w3.heap.size = b7 at *
  refine loopK1 (fun v w' => ∃ (i : Nat) (ma mb : EM) (Fa Fb : Option Nat) (bst : Ent), v = .int .i64 i ∧ i ≤ l.length ∧ BV w.heap.size w' xa ga ma Fa ∧ BV w.heap.size w' xb gb mb Fb ∧ Side xa ga Fa xb gb Fb ∧ GoodB ma ∧ GoodB mb ∧ ma = ((l.take i).map ax).foldl pm [] ∧ mb = ((rot l t i).map ax).foldl pm [] ∧ (∀ e ∈ l.take i, okE e) ∧ (0 < i → ma = [(pAX, bst)]) ∧ w'.heap[b7]? = some (.cells #[.string bst.1, .int .i64 bst.2.1, .int .i64 bst.2.2] 28 (0, 0)) ∧ Fa ≠ some b7 ∧ Fb ≠ some b7 ∧ Qt w w') (fun v _ => l.length - (intOf v).toNat) ⟨0, [], [], none, none, (ByteArray.empty, 0, 0), rfl, by omega, va4, vb4, sd3, GoodB.nil, GoodB.nil, rfl, rfl, (by simp), fun h => absurd h (by omega), h7, fun e => (by cases e), fun e => (by cases e), q04⟩ ?_
  rintro _ _ w5 ⟨i, ma, mb, Fa, Fb, bst, rfl, hi, va, vb, sd, gA, gB, hma, hmb, hokk, hbst, hb5, hFa7, hFb7, q05⟩
  by_cases hlt : i < l.length
  · obtain ⟨b, o, rfl, _⟩ := row_at hr hlt
    have T0 : ∀ w', Qt w w' → w'.cell? ⟨b, o + i * 3, none⟩ = some (.string l[i].1) ∧ w'.cell? ⟨b, o + (i * 3 + 1), none⟩ = some (.int .i64 l[i].2.1) ∧ w'.cell? ⟨b, o + (i * 3 + 2), none⟩ = some (.int .i64 l[i].2.2) := fun w' q => by
      obtain ⟨b', o', ee, h⟩ := row_at (hr.quiet q) hlt
      cases ee; exact h
    have hjm : (i + t) % l.length < l.length := Nat.mod_lt _ (by omega)
    have em : ((i : Int) + (t : Int)) % (l.length : Int) = (((i + t) % l.length : Nat) : Int) := by simp
    have T1 : ∀ w', Qt w w' → w'.cell? ⟨b, o + (i + t) % l.length * 3, none⟩ = some (.string l[(i + t) % l.length].1) ∧ w'.cell? ⟨b, o + ((i + t) % l.length * 3 + 1), none⟩ = some (.int .i64 l[(i + t) % l.length].2.1) ∧ w'.cell? ⟨b, o + ((i + t) % l.length * 3 + 2), none⟩ = some (.int .i64 l[(i + t) % l.length].2.2) := fun w' q => by
      obtain ⟨b', o', ee, h⟩ := row_at (hr.quiet q) hjm
      cases ee; exact h
    have htk : l.take (i + 1) = l.take i ++ [l[i]] := List.take_succ_eq_append_getElem hlt
    have hrt := rot_succ l t i
    rw [List.getD_eq_getElem?_getD, List.getElem?_eq_getElem hjm] at hrt
    simp only [Option.getD_some] at hrt
    have hoi := hok l[i] (List.getElem_mem hlt)
    generalize (i + t) % l.length = j at *
    generalize l[j] = ey at *
    generalize l[i] = e at *
    obtain ⟨c0, c1, c2⟩ := T0 w5 q05
    have q9 : Qt w5 (w5.alloc (.cells #[.string e.1, .int .i64 e.2.1, .int .i64 e.2.2] 28)) := Chg.alloc Qt.refl _
    have h9 : (w5.alloc (.cells #[.string e.1, .int .i64 e.2.1, .int .i64 e.2.2] 28)).heap[w5.heap.size]? = some (.cells #[.string e.1, .int .i64 e.2.1, .int .i64 e.2.2] 28 (0, 0)) := blk_new _ _
    have z9 := blk_frozen h9 0
    obtain ⟨x90, x91, x92⟩ := cell3 h9
    simp (maxSteps := 1000000) (disch := omega) only [hid1', hid2', guardK_u, takeG_u, wrap_in64, optK_some', fzK_false', nilK_ptr, brK_true', brK_false', guardK_tt', guardK_ff', guardK_tf', guardK_ft', takeG_tt', takeG_ff', takeG_tf', takeG_ft', pickK_t', pickK_f', pickT_t', pickT_f', notK, extract2_0', extract2_1', extract3_0', extract3_1', extract3_2', here_load, here_fieldAt, here_indexAt, here_extract, here_un, here_conv, here_slice, here_bin, here_nil, and_here, true_and, Nat.zero_add, Nat.add_assoc, Nat.add_zero, Int.toNat_natCast, size_alloc, World.cell?_drew, World.frozen?_drew, Bool.not_true, Bool.not_false, Int.toNat_zero, dec_t, dec_f, int_eq_t, int_eq_f, int_ne_t, int_ne_f, wrap_in, kbgtr3, kblss3, kfa28_0, kld2, kbgtr2, kbeql3, kld28, kal28, kst28f, kbadd3, kcv5_3, klen35, hlen35, kbd28_, kia35, kst9, kfa28_1, kblss2, kfa28_2, kbrem3, c0, c1, c2, x90, z9]
    have h10 := store1_any (x := .string ⟨#[47, 97, 47, 120]⟩) h9
    have k10 : Chg (fun q => q = w5.heap.size) (w5.alloc (.cells #[.string e.1, .int .i64 e.2.1, .int .i64 e.2.2] 28)) ((w5.alloc (.cells #[.string e.1, .int .i64 e.2.1, .int .i64 e.2.2] 28)).setCell ⟨w5.heap.size, 0, none⟩ (.string ⟨#[47, 97, 47, 120]⟩)) := (Chg.refl (fun q => q = w5.heap.size) _).setCell (p := ⟨w5.heap.size, 0, none⟩) (.inl rfl) _
    have q56 : Qt w5 ((w5.alloc (.cells #[.string e.1, .int .i64 e.2.1, .int .i64 e.2.2] 28)).setCell ⟨w5.heap.size, 0, none⟩ (.string ⟨#[47, 97, 47, 120]⟩)) := Qt.then q9 k10 (fun k hk => by omega)
    clear q9 h9 z9 x90 x91 x92 k10
    generalize ((w5.alloc (.cells #[.string e.1, .int .i64 e.2.1, .int .i64 e.2.2] 28)).setCell ⟨w5.heap.size, 0, none⟩ (.string ⟨#[47, 97, 47, 120]⟩)) = w6 at *
    generalize hb9 : w5.heap.size = b9 at *
    have y := cell3 (e := ax e) h10
    obtain ⟨y0, y1, y2⟩ := y
    simp only [ax] at y0 y1 y2
    have q06 := q05.trans q56
    by_cases g1 : e.2.1 < 0
    · simp (maxSteps := 1000000) (disch := omega) only [hid1', hid2', guardK_u, takeG_u, wrap_in64, optK_some', fzK_false', nilK_ptr, brK_true', brK_false', guardK_tt', guardK_ff', guardK_tf', guardK_ft', takeG_tt', takeG_ff', takeG_tf', takeG_ft', pickK_t', pickK_f', pickT_t', pickT_f', notK, extract2_0', extract2_1', extract3_0', extract3_1', extract3_2', here_load, here_fieldAt, here_indexAt, here_extract, here_un, here_conv, here_slice, here_bin, here_nil, and_here, true_and, Nat.zero_add, Nat.add_assoc, Nat.add_zero, Int.toNat_natCast, size_alloc, World.cell?_drew, World.frozen?_drew, Bool.not_true, Bool.not_false, Int.toNat_zero, dec_t, dec_f, int_eq_t, int_eq_f, int_ne_t, int_ne_f, wrap_in, kbgtr3, kblss3, kfa28_0, kld2, kbgtr2, kbeql3, kld28, kal28, kst28f, kbadd3, kcv5_3, klen35, hlen35, kbd28_, kia35, kst9, kfa28_1, kblss2, kfa28_2, kbrem3, y1, y2, guardK_u]
      exact hR w6 q06
    by_cases g2 : e.2.2 < 0
    · simp (maxSteps := 1000000) (disch := omega) only [hid1', hid2', guardK_u, takeG_u, wrap_in64, optK_some', fzK_false', nilK_ptr, brK_true', brK_false', guardK_tt', guardK_ff', guardK_tf', guardK_ft', takeG_tt', takeG_ff', takeG_tf', takeG_ft', pickK_t', pickK_f', pickT_t', pickT_f', notK, extract2_0', extract2_1', extract3_0', extract3_1', extract3_2', here_load, here_fieldAt, here_indexAt, here_extract, here_un, here_conv, here_slice, here_bin, here_nil, and_here, true_and, Nat.zero_add, Nat.add_assoc, Nat.add_zero, Int.toNat_natCast, size_alloc, World.cell?_drew, World.frozen?_drew, Bool.not_true, Bool.not_false, Int.toNat_zero, dec_t, dec_f, int_eq_t, int_eq_f, int_ne_t, int_ne_f, wrap_in, kbgtr3, kblss3, kfa28_0, kld2, kbgtr2, kbeql3, kld28, kal28, kst28f, kbadd3, kcv5_3, klen35, hlen35, kbd28_, kia35, kst9, kfa28_1, kblss2, kfa28_2, kbrem3, y1, y2, guardK_u]
      exact hR w6 q06
    by_cases g3 : 1000000000 < e.2.1
    · simp (maxSteps := 1000000) (disch := omega) only [hid1', hid2', guardK_u, takeG_u, wrap_in64, optK_some', fzK_false', nilK_ptr, brK_true', brK_false', guardK_tt', guardK_ff', guardK_tf', guardK_ft', takeG_tt', takeG_ff', takeG_tf', takeG_ft', pickK_t', pickK_f', pickT_t', pickT_f', notK, extract2_0', extract2_1', extract3_0', extract3_1', extract3_2', here_load, here_fieldAt, here_indexAt, here_extract, here_un, here_conv, here_slice, here_bin, here_nil, and_here, true_and, Nat.zero_add, Nat.add_assoc, Nat.add_zero, Int.toNat_natCast, size_alloc, World.cell?_drew, World.frozen?_drew, Bool.not_true, Bool.not_false, Int.toNat_zero, dec_t, dec_f, int_eq_t, int_eq_f, int_ne_t, int_ne_f, wrap_in, kbgtr3, kblss3, kfa28_0, kld2, kbgtr2, kbeql3, kld28, kal28, kst28f, kbadd3, kcv5_3, klen35, hlen35, kbd28_, kia35, kst9, kfa28_1, kblss2, kfa28_2, kbrem3, y1, y2, guardK_u]
      exact hR w6 q06
    by_cases g4 : 1000000000 < e.2.2
    · simp (maxSteps := 1000000) (disch := omega) only [hid1', hid2', guardK_u, takeG_u, wrap_in64, optK_some', fzK_false', nilK_ptr, brK_true', brK_false', guardK_tt', guardK_ff', guardK_tf', guardK_ft', takeG_tt', takeG_ff', takeG_tf', takeG_ft', pickK_t', pickK_f', pickT_t', pickT_f', notK, extract2_0', extract2_1', extract3_0', extract3_1', extract3_2', here_load, here_fieldAt, here_indexAt, here_extract, here_un, here_conv, here_slice, here_bin, here_nil, and_here, true_and, Nat.zero_add, Nat.add_assoc, Nat.add_zero, Int.toNat_natCast, size_alloc, World.cell?_drew, World.frozen?_drew, Bool.not_true, Bool.not_false, Int.toNat_zero, dec_t, dec_f, int_eq_t, int_eq_f, int_ne_t, int_ne_f, wrap_in, kbgtr3, kblss3, kfa28_0, kld2, kbgtr2, kbeql3, kld28, kal28, kst28f, kbadd3, kcv5_3, klen35, hlen35, kbd28_, kia35, kst9, kfa28_1, kblss2, kfa28_2, kbrem3, y1, y2, guardK_u]
      exact hR w6 q06
    have oke : okE e := ⟨⟨by omega, by omega⟩, by omega, by omega⟩
    obtain ⟨d0, d1, d2⟩ := T1 w6 q06
    have q11 : Qt w6 (w6.alloc (.cells #[.string ey.1, .int .i64 ey.2.1, .int .i64 ey.2.2] 28)) := Chg.alloc Qt.refl _
    have h11 : (w6.alloc (.cells #[.string ey.1, .int .i64 ey.2.1, .int .i64 ey.2.2] 28)).heap[w6.heap.size]? = some (.cells #[.string ey.1, .int .i64 ey.2.1, .int .i64 ey.2.2] 28 (0, 0)) := blk_new _ _
    have z11 := blk_frozen h11 0
    obtain ⟨x110, x111, x112⟩ := cell3 h11
    have hs6 := q56.size
    have hl9 := blk_lt h10
    simp (maxSteps := 1000000) (disch := omega) only [hid1', hid2', guardK_u, takeG_u, wrap_in64, optK_some', fzK_false', nilK_ptr, brK_true', brK_false', guardK_tt', guardK_ff', guardK_tf', guardK_ft', takeG_tt', takeG_ff', takeG_tf', takeG_ft', pickK_t', pickK_f', pickT_t', pickT_f', notK, extract2_0', extract2_1', extract3_0', extract3_1', extract3_2', here_load, here_fieldAt, here_indexAt, here_extract, here_un, here_conv, here_slice, here_bin, here_nil, and_here, true_and, Nat.zero_add, Nat.add_assoc, Nat.add_zero, Int.toNat_natCast, size_alloc, World.cell?_drew, World.frozen?_drew, Bool.not_true, Bool.not_false, Int.toNat_zero, dec_t, dec_f, int_eq_t, int_eq_f, int_ne_t, int_ne_f, wrap_in, kbgtr3, kblss3, kfa28_0, kld2, kbgtr2, kbeql3, kld28, kal28, kst28f, kbadd3, kcv5_3, klen35, hlen35, kbd28_, kia35, kst9, kfa28_1, kblss2, kfa28_2, kbrem3, y1, y2, em, d0, d1, d2, x110, z11]
    have h12 := store1_any (x := .string ⟨#[47, 97, 47, 120]⟩) h11
    have k12 : Chg (fun q => q = w6.heap.size) (w6.alloc (.cells #[.string ey.1, .int .i64 ey.2.1, .int .i64 ey.2.2] 28)) ((w6.alloc (.cells #[.string ey.1, .int .i64 ey.2.1, .int .i64 ey.2.2] 28)).setCell ⟨w6.heap.size, 0, none⟩ (.string ⟨#[47, 97, 47, 120]⟩)) := (Chg.refl (fun q => q = w6.heap.size) _).setCell (p := ⟨w6.heap.size, 0, none⟩) (.inl rfl) _
    have q67 : Qt w6 ((w6.alloc (.cells #[.string ey.1, .int .i64 ey.2.1, .int .i64 ey.2.2] 28)).setCell ⟨w6.heap.size, 0, none⟩ (.string ⟨#[47, 97, 47, 120]⟩)) := Qt.then q11 k12 (fun k hk => by omega)
    clear q11 h11 z11 x110 x111 x112 k12
    generalize ((w6.alloc (.cells #[.string ey.1, .int .i64 ey.2.1, .int .i64 ey.2.2] 28)).setCell ⟨w6.heap.size, 0, none⟩ (.string ⟨#[47, 97, 47, 120]⟩)) = w7 at *
    generalize hb10 : w6.heap.size = b10 at *
    have q07 := q06.trans q67
    have h9_7 := q67.heap h10 (fun h => h)
    have y := cell3 (e := ax e) h9_7
    obtain ⟨y0, y1, y2⟩ := y
    simp only [ax] at y0 y1 y2
    have va7 := (va.quiet q56).quiet q67
    have vb7 := (vb.quiet q56).quiet q67
    have lo5a := va.at_.2.1.low
    have lo5b := vb.at_.2.1.low
    have lxa := blk_lt va.at_.1
    have lxb := blk_lt vb.at_.1
    have l7 := blk_lt hb5
    have hb57 := q67.heap (q56.heap hb5 (fun h => h)) (fun h => h)
    simp (maxSteps := 1000000) (disch := omega) only [hid1', hid2', guardK_u, takeG_u, wrap_in64, optK_some', fzK_false', nilK_ptr, brK_true', brK_false', guardK_tt', guardK_ff', guardK_tf', guardK_ft', takeG_tt', takeG_ff', takeG_tf', takeG_ft', pickK_t', pickK_f', pickT_t', pickT_f', notK, extract2_0', extract2_1', extract3_0', extract3_1', extract3_2', here_load, here_fieldAt, here_indexAt, here_extract, here_un, here_conv, here_slice, here_bin, here_nil, and_here, true_and, Nat.zero_add, Nat.add_assoc, Nat.add_zero, Int.toNat_natCast, size_alloc, World.cell?_drew, World.frozen?_drew, Bool.not_true, Bool.not_false, Int.toNat_zero, dec_t, dec_f, int_eq_t, int_eq_f, int_ne_t, int_ne_f, wrap_in, kbgtr3, kblss3, kfa28_0, kld2, kbgtr2, kbeql3, kld28, kal28, kst28f, kbadd3, kcv5_3, klen35, hlen35, kbd28_, kia35, kst9, kfa28_1, kblss2, kfa28_2, kbrem3, y0, y1, y2]
    refine ck11 (put_bv (e := ax e) hm va7 q07 gA.few (by show pAX.size ≤ 50000; decide) ?_)
    intro Fa8 w8 va8 q08 k8 f8
    have nk : ∀ k, k ≠ ga → Fa ≠ some k → ¬ (k = ga ∨ Fa = some k) := fun k h1 h2 e => e.elim h1 h2
    have n9 : ¬ (b9 = ga ∨ Fa = some b9) := nk b9 (by omega) (fun e => by have := lo5a.2 _ e; omega)
    have n10 : ¬ (b10 = ga ∨ Fa = some b10) := nk b10 (by omega) (fun e => by have := lo5a.2 _ e; omega)
    have n7 : ¬ (b7 = ga ∨ Fa = some b7) := nk b7 (by omega) hFa7
    have h9_8 := k8.heap h9_7 n9
    have h10_8 := k8.heap h12 n10
    have h7_8 := k8.heap hb57 n7
    have vb8 := sd.keep vb7 k8
    have s7 := (q56.trans q67).size
    have sd8 : Side xa ga Fa8 xb gb Fb := sd.next (B := w7.heap.size) f8 (by omega) (by omega) (fun k hk => by have := lo5b.2 k hk; omega)
    have y := cell3 (e := ax ey) h10_8
    obtain ⟨y0, y1, y2⟩ := y
    simp only [ax] at y0 y1 y2
    simp (maxSteps := 1000000) (disch := omega) only [hid1', hid2', guardK_u, takeG_u, wrap_in64, optK_some', fzK_false', nilK_ptr, brK_true', brK_false', guardK_tt', guardK_ff', guardK_tf', guardK_ft', takeG_tt', takeG_ff', takeG_tf', takeG_ft', pickK_t', pickK_f', pickT_t', pickT_f', notK, extract2_0', extract2_1', extract3_0', extract3_1', extract3_2', here_load, here_fieldAt, here_indexAt, here_extract, here_un, here_conv, here_slice, here_bin, here_nil, and_here, true_and, Nat.zero_add, Nat.add_assoc, Nat.add_zero, Int.toNat_natCast, size_alloc, World.cell?_drew, World.frozen?_drew, Bool.not_true, Bool.not_false, Int.toNat_zero, dec_t, dec_f, int_eq_t, int_eq_f, int_ne_t, int_ne_f, wrap_in, kbgtr3, kblss3, kfa28_0, kld2, kbgtr2, kbeql3, kld28, kal28, kst28f, kbadd3, kcv5_3, klen35, hlen35, kbd28_, kia35, kst9, kfa28_1, kblss2, kfa28_2, kbrem3, y0, y1, y2]
    refine ck11 (put_bv (e := ax ey) hm vb8 q08 gB.few (by show pAX.size ≤ 50000; decide) ?_)
    intro Fb9 w9 vb9 q09 k9 f9
    have s8 := k8.size
    have n9' : ¬ (b9 = gb ∨ Fb = some b9) := fun e => e.elim (fun e => by omega) (fun e => by have := lo5b.2 _ e; omega)
    have n7' : ¬ (b7 = gb ∨ Fb = some b7) := fun e => e.elim (fun e => by omega) (fun e => hFb7 e)
    have h9_9 := k9.heap h9_8 n9'
    have h7_9 := k9.heap h7_8 n7'
    have va9 := sd8.symm.keep va8 k9
    have la8 := va8.at_.2.1.low
    have lxa8 := blk_lt va8.at_.1
    have sd9 : Side xa ga Fa8 xb gb Fb9 := (sd8.symm.next (B := w8.heap.size) f9 lxa8 la8.1 (fun k hk => la8.2 k hk)).symm
    have hFa8 : Fa8 ≠ some b7 := fun e => by
      rcases f8 _ e with e | e
      · exact hFa7 e
      · omega
    have hFb9 : Fb9 ≠ some b7 := fun e => by
      rcases f9 _ e with e | e
      · exact hFb7 e
      · omega
    have hma' : (putE ma (ax e)).1 = ((l.take (i + 1)).map ax).foldl pm [] := by rw [htk, List.map_append, List.foldl_append, ← hma]; rfl
    have hmb' : (putE mb (ax ey)).1 = ((rot l t (i + 1)).map ax).foldl pm [] := by rw [hrt, List.map_append, List.foldl_append, ← hmb]; rfl
    have gA' := pm_good gA (ax e)
    have gB' := pm_good gB (ax ey)
    have hokk' : ∀ x ∈ l.take (i + 1), okE x := fun x hx => by
      rw [htk] at hx
      rcases List.mem_append.1 hx with h | h
      · exact hokk x h
      · rw [List.mem_singleton.1 h]; exact oke
    have y := cell3 (e := ax e) h9_9
    obtain ⟨y0, y1, y2⟩ := y
    simp only [ax] at y0 y1 y2
    obtain ⟨u0, u1, u2⟩ := cell3 h7_9
    have next1 : ∀ wz, Qt w9 wz → (∃ bst', (putE ma (ax e)).1 = [(pAX, bst')] ∧ bst' = ax e) → ∃ (i' : Nat) (ma' mb' : EM) (Fa' Fb' : Option Nat) (bst' : Ent), Value.int .i64 ((i : Int) + 1) = .int .i64 (i' : Int) ∧ i' ≤ l.length ∧ BV w.heap.size (wz.setCells b7 0 [.string (ax e).1, .int .i64 (ax e).2.1, .int .i64 (ax e).2.2]) xa ga ma' Fa' ∧ BV w.heap.size (wz.setCells b7 0 [.string (ax e).1, .int .i64 (ax e).2.1, .int .i64 (ax e).2.2]) xb gb mb' Fb' ∧ Side xa ga Fa' xb gb Fb' ∧ GoodB ma' ∧ GoodB mb' ∧ ma' = ((l.take i').map ax).foldl pm [] ∧ mb' = ((rot l t i').map ax).foldl pm [] ∧ (∀ e ∈ l.take i', okE e) ∧ (0 < i' → ma' = [(pAX, bst')]) ∧ (wz.setCells b7 0 [.string (ax e).1, .int .i64 (ax e).2.1, .int .i64 (ax e).2.2]).heap[b7]? = some (.cells #[.string bst'.1, .int .i64 bst'.2.1, .int .i64 bst'.2.2] 28 (0, 0)) ∧ Fa' ≠ some b7 ∧ Fb' ≠ some b7 ∧ Qt w (wz.setCells b7 0 [.string (ax e).1, .int .i64 (ax e).2.1, .int .i64 (ax e).2.2]) := by
      rintro wz qz ⟨_, hq, rfl⟩
      have st := store3_any (e := ax e) (qz.heap h7_9 (fun h => h))
      exact ⟨i + 1, _, _, Fa8, Fb9, ax e, by go_num, by omega,
        ⟨(va9.quiet qz).at_.chg st.2 (fun h => by omega) (fun h => by omega) (fun k hk h => hFa8 (by rw [hk, h])), va9.x0, va9.g0, va9.f0⟩,
        ⟨(vb9.quiet qz).at_.chg st.2 (fun h => by omega) (fun h => by omega) (fun k hk h => hFb9 (by rw [hk, h])), vb9.x0, vb9.g0, vb9.f0⟩,
        sd9, gA', gB', hma', hmb', hokk', fun _ => hq, st.1, hFa8, hFb9, Qt.then (q09.trans qz) st.2 (fun k hk => by omega)⟩
    by_cases hi0 : i = 0
    · have e1 : ((i : Int) == 0) = true := by rw [hi0]; rfl
      have hm0 : ma = [] := by rw [hma, hi0]; rfl
      simp (maxSteps := 1000000) (disch := omega) only [hid1', hid2', guardK_u, takeG_u, wrap_in64, optK_some', fzK_false', nilK_ptr, brK_true', brK_false', guardK_tt', guardK_ff', guardK_tf', guardK_ft', takeG_tt', takeG_ff', takeG_tf', takeG_ft', pickK_t', pickK_f', pickT_t', pickT_f', notK, extract2_0', extract2_1', extract3_0', extract3_1', extract3_2', here_load, here_fieldAt, here_indexAt, here_extract, here_un, here_conv, here_slice, here_bin, here_nil, and_here, true_and, Nat.zero_add, Nat.add_assoc, Nat.add_zero, Int.toNat_natCast, size_alloc, World.cell?_drew, World.frozen?_drew, Bool.not_true, Bool.not_false, Int.toNat_zero, dec_t, dec_f, int_eq_t, int_eq_f, int_ne_t, int_ne_f, wrap_in, kbgtr3, kblss3, kfa28_0, kld2, kbgtr2, kbeql3, kld28, kal28, kst28f, kbadd3, kcv5_3, klen35, hlen35, kbd28_, kia35, kst9, kfa28_1, kblss2, kfa28_2, kbrem3, e1, y0, y1, y2, guardK_u]
      refine aggStoreK (there3 h7_9) (by kernel_rfl) (SE.all3 rfl rfl rfl) ?_
      simp (maxSteps := 1000000) (disch := omega) only [hid1', hid2', guardK_u, takeG_u, wrap_in64, optK_some', fzK_false', nilK_ptr, brK_true', brK_false', guardK_tt', guardK_ff', guardK_tf', guardK_ft', takeG_tt', takeG_ff', takeG_tf', takeG_ft', pickK_t', pickK_f', pickT_t', pickT_f', notK, extract2_0', extract2_1', extract3_0', extract3_1', extract3_2', here_load, here_fieldAt, here_indexAt, here_extract, here_un, here_conv, here_slice, here_bin, here_nil, and_here, true_and, Nat.zero_add, Nat.add_assoc, Nat.add_zero, Int.toNat_natCast, size_alloc, World.cell?_drew, World.frozen?_drew, Bool.not_true, Bool.not_false, Int.toNat_zero, dec_t, dec_f, int_eq_t, int_eq_f, int_ne_t, int_ne_f, wrap_in, kbgtr3, kblss3, kfa28_0, kld2, kbgtr2, kbeql3, kld28, kal28, kst28f, kbadd3, kcv5_3, klen35, hlen35, kbd28_, kia35, kst9, kfa28_1, kblss2, kfa28_2, kbrem3]
      exact ⟨next1 _ Qt.refl ⟨_, by rw [hm0]; exact pm_nil oke, rfl⟩, by simp [rel, intOf]; omega⟩
    · have e1 : ((i : Int) == 0) = false := beq_eq_false_iff_ne.2 (by omega)
      have hb := hbst (by omega)
      have hpm := pm_one (s := bst) oke
      simp (maxSteps := 1000000) (disch := omega) only [hid1', hid2', guardK_u, takeG_u, wrap_in64, optK_some', fzK_false', nilK_ptr, brK_true', brK_false', guardK_tt', guardK_ff', guardK_tf', guardK_ft', takeG_tt', takeG_ff', takeG_tf', takeG_ft', pickK_t', pickK_f', pickT_t', pickT_f', notK, extract2_0', extract2_1', extract3_0', extract3_1', extract3_2', here_load, here_fieldAt, here_indexAt, here_extract, here_un, here_conv, here_slice, here_bin, here_nil, and_here, true_and, Nat.zero_add, Nat.add_assoc, Nat.add_zero, Int.toNat_natCast, size_alloc, World.cell?_drew, World.frozen?_drew, Bool.not_true, Bool.not_false, Int.toNat_zero, dec_t, dec_f, int_eq_t, int_eq_f, int_ne_t, int_ne_f, wrap_in, kbgtr3, kblss3, kfa28_0, kld2, kbgtr2, kbeql3, kld28, kal28, kst28f, kbadd3, kcv5_3, klen35, hlen35, kbd28_, kia35, kst9, kfa28_1, kblss2, kfa28_2, kbrem3, e1, y0, y1, y2, u0, u1, u2]
      refine ck23 (newer_any (a := ax e) (b := bst) ?_)
      intro w10 q10
      have h7_10 := q10.heap h7_9 (fun h => h)
      have h9_10 := q10.heap h9_9 (fun h => h)
      cases hn : newE (ax e) bst with
      | true =>
        rw [hn, if_pos rfl] at hpm
        obtain ⟨v0, v1, v2⟩ := cell3 (e := ax e) h9_10
        simp only [ax] at v0 v1 v2
        simp (maxSteps := 1000000) (disch := omega) only [hid1', hid2', guardK_u, takeG_u, wrap_in64, optK_some', fzK_false', nilK_ptr, brK_true', brK_false', guardK_tt', guardK_ff', guardK_tf', guardK_ft', takeG_tt', takeG_ff', takeG_tf', takeG_ft', pickK_t', pickK_f', pickT_t', pickT_f', notK, extract2_0', extract2_1', extract3_0', extract3_1', extract3_2', here_load, here_fieldAt, here_indexAt, here_extract, here_un, here_conv, here_slice, here_bin, here_nil, and_here, true_and, Nat.zero_add, Nat.add_assoc, Nat.add_zero, Int.toNat_natCast, size_alloc, World.cell?_drew, World.frozen?_drew, Bool.not_true, Bool.not_false, Int.toNat_zero, dec_t, dec_f, int_eq_t, int_eq_f, int_ne_t, int_ne_f, wrap_in, kbgtr3, kblss3, kfa28_0, kld2, kbgtr2, kbeql3, kld28, kal28, kst28f, kbadd3, kcv5_3, klen35, hlen35, kbd28_, kia35, kst9, kfa28_1, kblss2, kfa28_2, kbrem3, v0, v1, v2]
        refine aggStoreK (there3 h7_10) (by kernel_rfl) (SE.all3 rfl rfl rfl) ?_
        simp (maxSteps := 1000000) (disch := omega) only [hid1', hid2', guardK_u, takeG_u, wrap_in64, optK_some', fzK_false', nilK_ptr, brK_true', brK_false', guardK_tt', guardK_ff', guardK_tf', guardK_ft', takeG_tt', takeG_ff', takeG_tf', takeG_ft', pickK_t', pickK_f', pickT_t', pickT_f', notK, extract2_0', extract2_1', extract3_0', extract3_1', extract3_2', here_load, here_fieldAt, here_indexAt, here_extract, here_un, here_conv, here_slice, here_bin, here_nil, and_here, true_and, Nat.zero_add, Nat.add_assoc, Nat.add_zero, Int.toNat_natCast, size_alloc, World.cell?_drew, World.frozen?_drew, Bool.not_true, Bool.not_false, Int.toNat_zero, dec_t, dec_f, int_eq_t, int_eq_f, int_ne_t, int_ne_f, wrap_in, kbgtr3, kblss3, kfa28_0, kld2, kbgtr2, kbeql3, kld28, kal28, kst28f, kbadd3, kcv5_3, klen35, hlen35, kbd28_, kia35, kst9, kfa28_1, kblss2, kfa28_2, kbrem3]
        exact ⟨next1 _ q10 ⟨_, by rw [hb]; exact hpm, rfl⟩, by simp [rel, intOf]; omega⟩
      | false =>
        rw [hn, if_neg (by decide)] at hpm
        simp (maxSteps := 1000000) (disch := omega) only [hid1', hid2', guardK_u, takeG_u, wrap_in64, optK_some', fzK_false', nilK_ptr, brK_true', brK_false', guardK_tt', guardK_ff', guardK_tf', guardK_ft', takeG_tt', takeG_ff', takeG_tf', takeG_ft', pickK_t', pickK_f', pickT_t', pickT_f', notK, extract2_0', extract2_1', extract3_0', extract3_1', extract3_2', here_load, here_fieldAt, here_indexAt, here_extract, here_un, here_conv, here_slice, here_bin, here_nil, and_here, true_and, Nat.zero_add, Nat.add_assoc, Nat.add_zero, Int.toNat_natCast, size_alloc, World.cell?_drew, World.frozen?_drew, Bool.not_true, Bool.not_false, Int.toNat_zero, dec_t, dec_f, int_eq_t, int_eq_f, int_ne_t, int_ne_f, wrap_in, kbgtr3, kblss3, kfa28_0, kld2, kbgtr2, kbeql3, kld28, kal28, kst28f, kbadd3, kcv5_3, klen35, hlen35, kbd28_, kia35, kst9, kfa28_1, kblss2, kfa28_2, kbrem3]
        exact ⟨⟨i + 1, _, _, Fa8, Fb9, bst, by go_num, by omega, va9.quiet q10, vb9.quiet q10, sd9, gA', gB', hma', hmb', hokk', fun _ => by rw [hb]; exact hpm, h7_10, hFa8, hFb9, q09.trans q10⟩, by simp [rel, intOf]; omega⟩
  · have hil : i = l.length := by omega
    have hne : l ≠ [] := fun e => h0 (by rw [e]; rfl)
    subst hil
    rw [List.take_length] at hma hokk
    have hA : ma = [(pAX, bst)] := hbst (by omega)
    have hB : mb = [(pAX, bst)] := by rw [hmb, newest_eq hne hokk, ← hma, hA]
    have gx : getE [(pAX, bst)] pAX = bst := getE_mem (rises_1 bst) (List.mem_singleton.2 rfl)
    rw [hA] at va
    rw [hB] at vb
    have hfin : ∀ w', Qt w5 w' → K (.bool true) w' := fun w' q => hR w' (q05.trans q)
    clear hR
    simp (maxSteps := 1000000) (disch := omega) only [hid1', hid2', guardK_u, takeG_u, wrap_in64, optK_some', fzK_false', nilK_ptr, brK_true', brK_false', guardK_tt', guardK_ff', guardK_tf', guardK_ft', takeG_tt', takeG_ff', takeG_tf', takeG_ft', pickK_t', pickK_f', pickT_t', pickT_f', notK, extract2_0', extract2_1', extract3_0', extract3_1', extract3_2', here_load, here_fieldAt, here_indexAt, here_extract, here_un, here_conv, here_slice, here_bin, here_nil, and_here, true_and, Nat.zero_add, Nat.add_assoc, Nat.add_zero, Int.toNat_natCast, size_alloc, World.cell?_drew, World.frozen?_drew, Bool.not_true, Bool.not_false, Int.toNat_zero, dec_t, dec_f, int_eq_t, int_eq_f, int_ne_t, int_ne_f, wrap_in, kbgtr3, kblss3, kfa28_0, kld2, kbgtr2, kbeql3, kld28, kal28, kst28f, kbadd3, kcv5_3, klen35, hlen35, kbd28_, kia35, kst9, kfa28_1, kblss2, kfa28_2, kbrem3]
    refine ck12 (get_book (p := pAX) va.at_ ?_)
    intro w6 q6
    rw [gx]
    have q10 : Qt w6 (w6.alloc (.cells #[.string bst.1, .int .i64 bst.2.1, .int .i64 bst.2.2] 28)) := Chg.alloc Qt.refl _
    have h10 : (w6.alloc (.cells #[.string bst.1, .int .i64 bst.2.1, .int .i64 bst.2.2] 28)).heap[w6.heap.size]? = some (.cells #[.string bst.1, .int .i64 bst.2.1, .int .i64 bst.2.2] 28 (0, 0)) := blk_new _ _
    have hb6 := q6.heap hb5 (fun h => h)
    have hb7' := q10.heap hb6 (fun h => h)
    have vb7 := (vb.quiet q6).quiet q10
    simp (maxSteps := 1000000) (disch := omega) only [hid1', hid2', guardK_u, takeG_u, wrap_in64, optK_some', fzK_false', nilK_ptr, brK_true', brK_false', guardK_tt', guardK_ff', guardK_tf', guardK_ft', takeG_tt', takeG_ff', takeG_tf', takeG_ft', pickK_t', pickK_f', pickT_t', pickT_f', notK, extract2_0', extract2_1', extract3_0', extract3_1', extract3_2', here_load, here_fieldAt, here_indexAt, here_extract, here_un, here_conv, here_slice, here_bin, here_nil, and_here, true_and, Nat.zero_add, Nat.add_assoc, Nat.add_zero, Int.toNat_natCast, size_alloc, World.cell?_drew, World.frozen?_drew, Bool.not_true, Bool.not_false, Int.toNat_zero, dec_t, dec_f, int_eq_t, int_eq_f, int_ne_t, int_ne_f, wrap_in, kbgtr3, kblss3, kfa28_0, kld2, kbgtr2, kbeql3, kld28, kal28, kst28f, kbadd3, kcv5_3, klen35, hlen35, kbd28_, kia35, kst9, kfa28_1, kblss2, kfa28_2, kbrem3]
    generalize (w6.alloc (.cells #[.string bst.1, .int .i64 bst.2.1, .int .i64 bst.2.2] 28)) = w7 at *
    generalize w6.heap.size = b11 at *
    refine ck12 (get_book (p := pAX) vb7.at_ ?_)
    intro w8 q8
    rw [gx]
    have q12 : Qt w8 (w8.alloc (.cells #[.string bst.1, .int .i64 bst.2.1, .int .i64 bst.2.2] 28)) := Chg.alloc Qt.refl _
    have h12 : (w8.alloc (.cells #[.string bst.1, .int .i64 bst.2.1, .int .i64 bst.2.2] 28)).heap[w8.heap.size]? = some (.cells #[.string bst.1, .int .i64 bst.2.1, .int .i64 bst.2.2] 28 (0, 0)) := blk_new _ _
    have h11 := q12.heap (q8.heap h10 (fun h => h)) (fun h => h)
    have hb8 := q12.heap (q8.heap hb7' (fun h => h)) (fun h => h)
    simp (maxSteps := 1000000) (disch := omega) only [hid1', hid2', guardK_u, takeG_u, wrap_in64, optK_some', fzK_false', nilK_ptr, brK_true', brK_false', guardK_tt', guardK_ff', guardK_tf', guardK_ft', takeG_tt', takeG_ff', takeG_tf', takeG_ft', pickK_t', pickK_f', pickT_t', pickT_f', notK, extract2_0', extract2_1', extract3_0', extract3_1', extract3_2', here_load, here_fieldAt, here_indexAt, here_extract, here_un, here_conv, here_slice, here_bin, here_nil, and_here, true_and, Nat.zero_add, Nat.add_assoc, Nat.add_zero, Int.toNat_natCast, size_alloc, World.cell?_drew, World.frozen?_drew, Bool.not_true, Bool.not_false, Int.toNat_zero, dec_t, dec_f, int_eq_t, int_eq_f, int_ne_t, int_ne_f, wrap_in, kbgtr3, kblss3, kfa28_0, kld2, kbgtr2, kbeql3, kld28, kal28, kst28f, kbadd3, kcv5_3, klen35, hlen35, kbd28_, kia35, kst9, kfa28_1, kblss2, kfa28_2, kbrem3]
    generalize (w8.alloc (.cells #[.string bst.1, .int .i64 bst.2.1, .int .i64 bst.2.2] 28)) = w9 at *
    generalize w8.heap.size = b13 at *
    obtain ⟨x0, x1, x2⟩ := cell3 h11
    obtain ⟨y0, y1, y2⟩ := cell3 h12
    obtain ⟨z0, z1, z2⟩ := cell3 hb8
    simp (maxSteps := 1000000) (disch := omega) only [hid1', hid2', guardK_u, takeG_u, wrap_in64, optK_some', fzK_false', nilK_ptr, brK_true', brK_false', guardK_tt', guardK_ff', guardK_tf', guardK_ft', takeG_tt', takeG_ff', takeG_tf', takeG_ft', pickK_t', pickK_f', pickT_t', pickT_f', notK, extract2_0', extract2_1', extract3_0', extract3_1', extract3_2', here_load, here_fieldAt, here_indexAt, here_extract, here_un, here_conv, here_slice, here_bin, here_nil, and_here, true_and, Nat.zero_add, Nat.add_assoc, Nat.add_zero, Int.toNat_natCast, size_alloc, World.cell?_drew, World.frozen?_drew, Bool.not_true, Bool.not_false, Int.toNat_zero, dec_t, dec_f, int_eq_t, int_eq_f, int_ne_t, int_ne_f, wrap_in, kbgtr3, kblss3, kfa28_0, kld2, kbgtr2, kbeql3, kld28, kal28, kst28f, kbadd3, kcv5_3, klen35, hlen35, kbd28_, kia35, kst9, kfa28_1, kblss2, kfa28_2, kbrem3, x0, x1, x2, z0, z1, z2]
    rw [show (Value.agg #[.string bst.1, .int .i64 bst.2.1, .int .i64 bst.2.2]) = SE.ev bst from rfl]
    rw [keqE28, decide_eq_true rfl]
    simp (maxSteps := 1000000) (disch := omega) only [hid1', hid2', guardK_u, takeG_u, wrap_in64, optK_some', fzK_false', nilK_ptr, brK_true', brK_false', guardK_tt', guardK_ff', guardK_tf', guardK_ft', takeG_tt', takeG_ff', takeG_tf', takeG_ft', pickK_t', pickK_f', pickT_t', pickT_f', notK, extract2_0', extract2_1', extract3_0', extract3_1', extract3_2', here_load, here_fieldAt, here_indexAt, here_extract, here_un, here_conv, here_slice, here_bin, here_nil, and_here, true_and, Nat.zero_add, Nat.add_assoc, Nat.add_zero, Int.toNat_natCast, size_alloc, World.cell?_drew, World.frozen?_drew, Bool.not_true, Bool.not_false, Int.toNat_zero, dec_t, dec_f, int_eq_t, int_eq_f, int_ne_t, int_ne_f, wrap_in, kbgtr3, kblss3, kfa28_0, kld2, kbgtr2, kbeql3, kld28, kal28, kst28f, kbadd3, kcv5_3, klen35, hlen35, kbd28_, kia35, kst9, kfa28_1, kblss2, kfa28_2, kbrem3, y0, y1, y2, z0, z1, z2]
    rw [show (Value.agg #[.string bst.1, .int .i64 bst.2.1, .int .i64 bst.2.2]) = SE.ev bst from rfl]
    rw [keqE28, decide_eq_true rfl]
    simp (maxSteps := 1000000) (disch := omega) only [hid1', hid2', guardK_u, takeG_u, wrap_in64, optK_some', fzK_false', nilK_ptr, brK_true', brK_false', guardK_tt', guardK_ff', guardK_tf', guardK_ft', takeG_tt', takeG_ff', takeG_tf', takeG_ft', pickK_t', pickK_f', pickT_t', pickT_f', notK, extract2_0', extract2_1', extract3_0', extract3_1', extract3_2', here_load, here_fieldAt, here_indexAt, here_extract, here_un, here_conv, here_slice, here_bin, here_nil, and_here, true_and, Nat.zero_add, Nat.add_assoc, Nat.add_zero, Int.toNat_natCast, size_alloc, World.cell?_drew, World.frozen?_drew, Bool.not_true, Bool.not_false, Int.toNat_zero, dec_t, dec_f, int_eq_t, int_eq_f, int_ne_t, int_ne_f, wrap_in, kbgtr3, kblss3, kfa28_0, kld2, kbgtr2, kbeql3, kld28, kal28, kst28f, kbadd3, kcv5_3, klen35, hlen35, kbd28_, kia35, kst9, kfa28_1, kblss2, kfa28_2, kbrem3]
    exact hfin _ (((q6.trans q10).trans q8).trans q12)
theorem bookNewest_walk (A : Option Addr) (cap : Nat) (l : List Ent) (t : Int) (w : World) (hm : MaxAt w) (g1 : l.length ≤ cap) (m1 : cap ≤ 9223372036854775807) (r1 : RRow 3 REnt w A l) (h0 : 0 ≤ t) (h1 : t ≤ 255) :
    Calls Tryd.prog 6 #[.slice A l.length cap, .int .u8 t] w fun e w' => e = .returned (.bool true) ∧ Below w.heap.size w w' := by
  obtain ⟨hr, hok⟩ := ents_of r1
  obtain ⟨t', rfl⟩ := Int.eq_ofNat_of_zero_le h0
  clear r1
  exact callK_ret fun R hR => bookNewest_any hm hr hok (by omega) (by omega) (fun w' q => hR _ (Qt.below q))
end Go.Proofs.YtbkficgmjgbbeaaDoor

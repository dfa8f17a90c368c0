/- A map as a set of keys: made, an entry written, how many. -/
import Derived.Test.YtijoamldocjfhaaV2
import Derived.Test.YtijoamldocjfhaaL3
import Derived.MapKept
import Derived.WideLaws
import Derived.Carry
set_option linter.unusedVariables false
set_option linter.unusedSimpArgs false
namespace Go.Cn
open Go.RowKit Go.MapKept
/-- The block r holds a map whose keys are ks, in the order in which they came. -/
def Keys (w : World) (r : Nat) (d : TypeDesc) (ks : List Value) : Prop := ∃ es clock, w.heap[r]? = some (.map es clock) ∧ es.toList.map (·.key) = ks ∧ ∀ x ∈ es.toList, IsKey d x.key
theorem Keys.chg {S : Nat → Prop} {w w' : World} {r : Nat} {d : TypeDesc} {ks : List Value} (h : Keys w r d ks) (c : Chg S w w') (hn : ¬ S r) : Keys w' r d ks := by
  obtain ⟨es, cl, hb, h1, h2⟩ := h; exact ⟨es, cl, c.heap hb hn, h1, h2⟩
theorem chg_set {w : World} {r : Nat} {o : Obj} : Chg (fun k => k = r) w { w with heap := w.heap.setIfInBounds r o } :=
  ⟨rfl, rfl, rfl, by simp, fun k hk hn => by simp only; rw [Array.getElem?_setIfInBounds_ne (fun h => hn h.symm)]⟩
theorem setKey_run {P : Program} {mty kt et : TypeId} {d : TypeDesc} {w : World} {r : Nat} {ks : List Value} {key value : Value} (hm : P.underlying mty = some (.map kt et)) (hd : P.underlying kt = some d) (hb : Keys w r d ks) (hk : IsKey d key) :
    ∃ w', (Instr.mapUpdate mty (.map (some r)) key value).run P w = .ok () w' ∧ Chg (fun k => k = r) w w' ∧ ((key ∈ ks ∧ Keys w' r d ks) ∨ (key ∉ ks ∧ Keys w' r d (ks ++ [key]))) := by
  obtain ⟨es, clock, hb, rfl, hks⟩ := hb
  rcases findNow_spec hk es.toList 0 hks with ⟨h1, h2⟩ | ⟨j, e, h1, h2, h3⟩
  · have hrun : (Instr.mapUpdate mty (.map (some r)) key value).run P w = .ok () { w with heap := w.heap.setIfInBounds r (.map (es.push { key := key, val := value, born := clock }) (clock + 1)) } := by
      simp [Instr.mapUpdate, run_underlying hm, MapKept.run_getObj_map hb, run_checkKey hd hk, run_findKey hd h1, run_setObj_map _ hb, Result.andThen]
    refine ⟨_, hrun, chg_set, .inr ⟨?_, _, _, (heap_set hb).1, by simp, ?_⟩⟩
    · intro h
      obtain ⟨x, hx, he⟩ := List.mem_map.1 h
      exact h2 x hx he
    · intro x hx
      simp only [Array.toList_push, List.mem_append, List.mem_singleton] at hx
      rcases hx with hx | rfl
      · exact hks x hx
      · exact hk
  · have hj : es[j]? = some e := by simpa using h2
    have hkey : ∀ e', es[j]? = some e' → ({ e' with key := key, val := value } : MapEntry).key = e'.key := fun e' he' => by rw [hj] at he'; cases he'; exact h3.symm
    have hrun : (Instr.mapUpdate mty (.map (some r)) key value).run P w = .ok () { w with heap := w.heap.setIfInBounds r (.map (es.modify j fun e => { e with key := key, val := value }) clock) } := by
      simp [Instr.mapUpdate, run_underlying hm, MapKept.run_getObj_map hb, run_checkKey hd hk, run_findKey hd h1, hj, h3, run_keyThatStays hk, run_setObj_map _ hb, Result.andThen]
    refine ⟨_, hrun, chg_set, .inl ⟨?_, _, _, (heap_set hb).1, ?_, isKey_modify hks _ _ hkey⟩⟩
    · rw [← h3]; exact List.mem_map.2 ⟨e, List.mem_of_getElem? h2, rfl⟩
    · apply List.ext_getElem?
      intro i
      simp only [List.getElem?_map, Array.getElem?_toList, Array.getElem?_modify]
      split
      · rename_i hij
        subst hij
        rw [hj]; simp [h3]
      · rfl
theorem doK_ok {P : Program} {s : Sem Unit} {K : Value → World → Prop} {w w' : World} (hr : s.run P w = .ok () w') (h : K undef w') : DoK P s K w := by
  unfold DoK; rw [hr]; exact h
theorem valK_ok {P : Program} {s : Sem Value} {K : Value → World → Prop} {w w' : World} {v : Value} (hr : s.run P w = .ok v w') (h : K v w') : ValK P s K w := by
  unfold ValK; rw [hr]; exact h
theorem makeMapK {P : Program} {t : TypeId} {K : Value → World → Prop} {w : World} (d : TypeDesc) (h : Keys (w.alloc (.map #[] 0)) w.heap.size d [] → K (.map (some w.heap.size)) (w.alloc (.map #[] 0))) : ValK P (Instr.makeMap t none) K w :=
  valK_ok (run_makeMap t w) (h ⟨#[], 0, blk_new _ _, rfl, by simp⟩)
theorem lenMapK {P : Program} {t ty kt et : TypeId} {cs : Array Bool} {K : Value → World → Prop} {w : World} {r : Nat} {d : TypeDesc} {ks : List Value} (hm : P.underlying t = some (.map kt et)) (hk : Keys w r d ks) (h : K (.int .i64 ks.length) w) : BuiltinK P .len #[t] ty cs #[.map (some r)] K w := by
  obtain ⟨es, clock, hb, rfl, _⟩ := hk
  have hr := run_len_map (P := P) (w := w) t ty r es clock (by simp [Program.mapKeyOf, Program.mapElemOf, hm]) hb
  unfold BuiltinK
  simp only [builtin, Sem.run_bind, Sem.run_pure, hr, Result.andThen_ok]
  have h' : K (.int .i64 es.size) w := by simpa using h
  exact h'
end Go.Cn

/- Maps with whole-number keys whose entries bear stamps, each its own: an entry's place, and a store there. -/
import Derived.Test.YtkicofagjebnjaaWk
import Derived.WideKeyEntry
namespace Go.Proofs.Ytkicofagjebnjaa
set_option linter.unusedVariables false
set_option linter.unusedSimpArgs false
open Go.RowKit Go.MapKept

def Stmp (l : List MapEntry) (c : Nat) : Prop := (∀ x ∈ l, x.born < c) ∧ (l.map (·.born)).Nodup
/-- Block b is a map that holds these; its entries bear stamps. -/
def MpS (w : World) (b : Nat) (k : IntKind) (L : List (Int × Value)) : Prop := ∃ es c, w.heap[b]? = some (.map es c) ∧ pairs es.toList = ents k L ∧ Stmp es.toList c
theorem MpS.mp {w : World} {b : Nat} {k : IntKind} {L : List (Int × Value)} (h : MpS w b k L) : Mp w b k L := by
  obtain ⟨es, c, h1, h2, _⟩ := h
  exact ⟨es, c, h1, h2⟩
theorem MpS.lt {w : World} {b : Nat} {k : IntKind} {L : List (Int × Value)} (h : MpS w b k L) : b < w.heap.size := h.mp.lt
theorem MpS.block {w w' : World} {b : Nat} {k : IntKind} {L : List (Int × Value)} (h : MpS w b k L) (hb : w'.heap[b]? = w.heap[b]?) : MpS w' b k L := by
  obtain ⟨es, c, h1, h2⟩ := h
  exact ⟨es, c, hb.trans h1, h2⟩
theorem MpS.ext {w w' : World} {b : Nat} {k : IntKind} {L : List (Int × Value)} (h : MpS w b k L) (hx : Ext w w') : MpS w' b k L := h.block (hx.block b h.lt)
theorem MpS.chg {S : Nat → Prop} {w w' : World} {b : Nat} {k : IntKind} {L : List (Int × Value)} (h : MpS w b k L) (hx : Chg S w w') (hn : ¬ S b) : MpS w' b k L := h.block (hx.block b h.lt hn)
theorem mpS_new {X W : World} {k : IntKind} (h : Ext (X.alloc (.map #[] 0)) W) : MpS W X.heap.size k [] :=
  MpS.ext ⟨#[], 0, heap_alloc_new X _, rfl, by simp, by simp⟩ h
theorem Stmp.modify {l : List MapEntry} {c n : Nat} {f : MapEntry → MapEntry} (h : Stmp l c) (hf : ∀ e, (f e).born = e.born) : Stmp (l.modify n f) c := by
  have e : ∀ (l : List MapEntry) (n : Nat), (l.modify n f).map (·.born) = l.map (·.born) := by
    intro l
    induction l with
    | nil => intro n; cases n <;> rfl
    | cons a l ih =>
      intro n
      cases n with
      | zero => simp [hf]
      | succ n => simp [ih n]
  refine ⟨fun x hx => ?_, by rw [e]; exact h.2⟩
  have h1 : x.born ∈ (l.modify n f).map (·.born) := List.mem_map_of_mem (f := fun x : MapEntry => x.born) hx
  rw [e] at h1
  obtain ⟨y, hy, e2⟩ := List.mem_map.1 h1
  rw [← e2]; exact h.1 y hy
theorem Stmp.push {l : List MapEntry} {c : Nat} {e : MapEntry} (h : Stmp l c) (he : e.born = c) : Stmp (l ++ [e]) (c + 1) := by
  refine ⟨fun x hx => ?_, ?_⟩
  · rcases List.mem_append.1 hx with h1 | h1
    · have := h.1 x h1; omega
    · simp only [List.mem_singleton] at h1; rw [h1, he]; omega
  · rw [List.map_append, List.nodup_append]
    refine ⟨h.2, by simp, fun a ha b hb => ?_⟩
    simp only [List.map_cons, List.map_nil, List.mem_singleton] at hb
    obtain ⟨x, hx, rfl⟩ := List.mem_map.1 ha
    have := h.1 x hx
    omega
theorem Stmp.erase {l : List MapEntry} {c n : Nat} (h : Stmp l c) : Stmp (l.eraseIdx n) c :=
  ⟨fun x hx => h.1 x (List.mem_of_mem_eraseIdx hx), List.Nodup.sublist ((List.eraseIdx_sublist _ _).map _) h.2⟩
section
variable {P : Program} {w : World} {t kt e : TypeId} {b : Nat} {k : IntKind} {L : List (Int × Value)}
theorem run_sput (ht : P.underlying t = some (.map kt e)) (hd : P.underlying kt = some (.int k)) (h : MpS w b k L) (i : Int) (v : Value) :
    ∃ w', (Instr.mapUpdate t (.map (some b)) (.int k i) v).run P w = .ok () w' ∧ MpS w' b k (mput i v L) ∧ Chg (fun q => q = b) w w' ∧ w'.heap.size = w.heap.size := by
  obtain ⟨es, c, hb, hL, hS⟩ := h
  rcases find_spec k i es.toList L 0 hL with ⟨q1, q2, q3, q4⟩ | ⟨n, v0, q1, q2, q3, q4, q5, q6⟩
  · obtain ⟨hc, hb'⟩ := mp_set (o' := .map (es.push { key := .int k i, val := v, born := c }) (c + 1)) hb
    refine ⟨_, ?_, ⟨_, _, hb', ?_, ?_⟩, hc, by simp⟩
    · unfold Instr.mapUpdate
      simp only [Sem.run_bind, run_underlying ht, Result.andThen, MapKept.run_getObj_map hb, run_checkKey hd (show IsKey (.int k) (.int k i) from rfl), run_findKey hd q2, MapKept.run_setObj_map _ hb]
    · rw [q3 v]
      simp only [pairs, ents, Array.toList_push, List.map_append, List.map_cons, List.map_nil] at hL ⊢
      rw [hL]
    · rw [Array.toList_push]; exact hS.push rfl
  · rw [Nat.zero_add] at q2
    obtain ⟨hc, hb'⟩ := mp_set (o' := .map (es.modify n fun e => { e with key := .int k i, val := v }) c) hb
    have hk : (((es[n]?).map (·.key)).getD (.int k i)) = .int k i := by
      have h3 := q3
      rw [Array.getElem?_toList] at h3
      rw [h3]; rfl
    refine ⟨_, ?_, ⟨_, _, hb', ?_, ?_⟩, hc, by simp⟩
    · unfold Instr.mapUpdate
      simp only [Sem.run_bind, run_underlying ht, Result.andThen, MapKept.run_getObj_map hb, run_checkKey hd (show IsKey (.int k) (.int k i) from rfl), run_findKey hd q2, hk, Instr.keyThatStays, same_bits, if_true, Sem.run_pure, MapKept.run_setObj_map _ hb]
    · rw [Array.toList_modify]; exact q4 v
    · rw [Array.toList_modify]; exact hS.modify fun _ => rfl
theorem run_sdel {ty : TypeId} (ht : P.underlying t = some (.map kt e)) (hd : P.underlying kt = some (.int k)) (h : MpS w b k L) (i : Int) (t2 : TypeId) :
    ∃ w', (Builtin.delete_ #[t, t2] ty #[.map (some b), .int k i]).run P w = .ok (.tuple #[]) w' ∧ MpS w' b k (mdel i L) ∧ Chg (fun q => q = b) w w' ∧ w'.heap.size = w.heap.size := by
  obtain ⟨es, c, hb, hL, hS⟩ := h
  rcases find_spec k i es.toList L 0 hL with ⟨q1, q2, q3, q4⟩ | ⟨n, v0, q1, q2, q3, q4, q5, q6⟩
  · obtain ⟨hc, hb'⟩ := mp_set (o' := .map es c) hb
    refine ⟨_, ?_, ⟨_, _, hb', by rw [q4]; exact hL, hS⟩, hc, by simp⟩
    unfold Builtin.delete_
    simp [Sem.run_bind, run_underlying ht, Result.andThen, MapKept.run_getObj_map hb, Sem.run_pure, run_checkKey hd (show IsKey (.int k) (.int k i) from rfl), run_findKey hd q2, MapKept.run_setObj_map _ hb]
  · rw [Nat.zero_add] at q2
    obtain ⟨hc, hb'⟩ := mp_set (o' := .map (es.eraseIdxIfInBounds n) c) hb
    have he : (es.eraseIdxIfInBounds n).toList = es.toList.eraseIdx n := by
      unfold Array.eraseIdxIfInBounds
      rw [dif_pos (by simpa using q6), Array.toList_eraseIdx]
    refine ⟨_, ?_, ⟨_, _, hb', ?_, ?_⟩, hc, by simp⟩
    · unfold Builtin.delete_
      simp [Sem.run_bind, run_underlying ht, Result.andThen, MapKept.run_getObj_map hb, Sem.run_pure, run_checkKey hd (show IsKey (.int k) (.int k i) from rfl), run_findKey hd q2, MapKept.run_setObj_map _ hb]
    · rw [he]; exact q5
    · rw [he]; exact hS.erase
/-- The place of an entry that is there, and a store into it. -/
theorem run_sentry (ht : P.underlying t = some (.map kt e)) (hd : P.underlying kt = some (.int k)) (h : MpS w b k L) (i : Int) (hi : mlook i L ≠ none) :
    ∃ (v0 : Value) (st : Int), (Instr.mapEntry t (.map (some b)) (.int k i)).run P w = .ok (.tuple #[v0, .int .i64 st]) w ∧
      ∀ (w2 : World) (v : Value), w2.heap[b]? = w.heap[b]? → ∃ w', (Instr.entryStore t (.map (some b)) (.int .i64 st) v).run P w2 = .ok () w' ∧ MpS w' b k (mput i v L) ∧ Chg (fun q => q = b) w2 w' ∧ w'.heap.size = w2.heap.size := by
  obtain ⟨es, c, hb, hL, hS⟩ := h
  rcases find_spec k i es.toList L 0 hL with ⟨q1, _⟩ | ⟨n, v0, q1, q2, q3, q4, q5, q6⟩
  · exact absurd q1 hi
  · rw [Nat.zero_add] at q2
    obtain ⟨e0, he0⟩ : ∃ e0, es.toList[n]? = some e0 := ⟨_, List.getElem?_eq_getElem q6⟩
    have hj : es[n]? = some e0 := by rw [← Array.getElem?_toList]; exact he0
    have h3 : e0.key = .int k i := by rw [he0] at q3; simpa using q3
    have hk : (((es[n]?).map (·.key)).getD (.int k i)) = .int k i := by rw [hj]; exact h3
    have hsame : es.modify n (fun e => { e with key := .int k i }) = es := by
      apply Array.ext'
      rw [Array.toList_modify, Go.ChangeMaps.modify_eq_set _ _ _ _ he0]
      have : ({ e0 with key := .int k i } : MapEntry) = e0 := by rw [← h3]
      rw [this]
      exact Go.WideElems.set_self _ _ _ he0
    have hset : ({ w with heap := w.heap.setIfInBounds b (.map es c) } : World) = w := by
      have : w.heap.setIfInBounds b (.map es c) = w.heap := by
        apply Array.ext_getElem?
        intro j
        rw [Array.getElem?_setIfInBounds]
        by_cases e : b = j
        · subst e
          have hlt := (Array.getElem?_eq_some_iff.1 hb).1
          rw [if_pos rfl, if_pos hlt, hb]
        · rw [if_neg e]
      rw [this]
    refine ⟨v0, e0.born, ?_, fun w2 v hw2 => ?_⟩
    · unfold Instr.mapEntry
      simp only [Sem.run_bind, run_underlying ht, Result.andThen, MapKept.run_getObj_map hb, run_checkKey hd (show IsKey (.int k) (.int k i) from rfl), run_findKey hd q2, hk, Instr.keyThatStays, same_bits, if_true, Sem.run_pure, MapKept.run_setObj_map _ hb, hsame, hset]
      simp [hj, goInt]
    · have hb2 := hw2.trans hb
      obtain ⟨hc, hb'⟩ := mp_set (o' := .map (es.modify n fun e => { e with val := v }) c) hb2
      have hidx : es.findIdx? (fun e => ((e.born : Nat) : Int) == ((e0.born : Nat) : Int)) = some n := by
        rw [Go.WideElems.findIdx_arr]
        exact Go.WideElems.findIdx_born hS.2 he0
      have hmod : (es.modify n fun e => { e with val := v }) = es.modify n (fun e => { e with key := .int k i, val := v }) := by
        apply Array.ext'
        rw [Array.toList_modify, Array.toList_modify, Go.ChangeMaps.modify_eq_set _ _ _ _ he0, Go.ChangeMaps.modify_eq_set _ _ _ _ he0, ← h3]
      refine ⟨_, ?_, ⟨_, _, hb', ?_, ?_⟩, hc, by simp⟩
      · unfold Instr.entryStore
        simp [Sem.run_bind, MapKept.run_getObj_map hb2, asInt, asIntOf, hidx, MapKept.run_setObj_map _ hb2, Result.andThen]
      · rw [hmod, Array.toList_modify]; exact q4 v
      · rw [Array.toList_modify]; exact hS.modify fun _ => rfl
end
end Go.Proofs.Ytkicofagjebnjaa

/- A map of five constant keys that a drawn region fills in whatever order. -/
import Derived.Test.YtpfkpdimjljeaaaWm
import Derived.Deep.RegionHeld
namespace Go.Proofs.Ytpfkpdimjljeaaa
set_option linter.unusedVariables false
set_option linter.unusedSimpArgs false
open Go.RowKit Go.MapKept

/-- What a key of the five has. -/
def pick5 (a b c d e : Option Value) (k : Int) : Option Value := if k = 114 then a else if k = 106 then b else if k = 112 then c else if k = 110 then d else if k = 45 then e else none
/-- Block M is a map, made since W0, that holds these. -/
def MapAt (W0 w : World) (M : Nat) (a b c d e : Option Value) : Prop :=
  W0.heap.size ≤ M ∧ ∃ es cl, w.heap[M]? = some (.map es cl) ∧ ∀ k : Int, ∃ r, Instr.findNow (.int .u8) (.int .u8 k) es.toList 0 = some r ∧ r.map (·.2) = pick5 a b c d e k
theorem findNow_push (k j : Int) (v : Value) (n : Nat) : ∀ (l : List MapEntry) (i : Nat) (r : Option (Nat × Value)), Instr.findNow (.int .u8) (.int .u8 k) l i = some r →
    ∃ r', Instr.findNow (.int .u8) (.int .u8 k) (l ++ [{ key := .int .u8 j, val := v, born := n }]) i = some r' ∧ r'.map (·.2) = (match r with | some x => some x.2 | none => if k = j then some v else none)
  | [], i, r, h => by
    simp only [Instr.findNow, Option.some.injEq] at h; subst h
    simp only [List.nil_append, Instr.findNow, Instr.sameNow, if_true]
    by_cases hk : k = j
    · subst hk; exact ⟨some (i, v), by simp, by simp⟩
    · have : (k == j) = false := by simpa using hk
      rw [this]; exact ⟨none, rfl, by simp [hk]⟩
  | x :: l, i, r, h => by
    simp only [List.cons_append]
    unfold Instr.findNow at h ⊢
    split at h
    · injection h with h; subst h; exact ⟨_, rfl, rfl⟩
    · exact findNow_push k j v n l (i + 1) r h
    · cases h
theorem map_keep {W0 w w' : World} {M : Nat} {a b c d e : Option Value} (h : MapAt W0 w M a b c d e) (hx : Ext w w') : MapAt W0 w' M a b c d e := by
  obtain ⟨h0, es, cl, hb, hf⟩ := h
  refine ⟨h0, es, cl, ?_, hf⟩
  rw [hx.block M (Array.getElem?_eq_some_iff.1 hb).1]; exact hb
theorem map_new (W0 w : World) (h : Ext W0 w) : MapAt W0 (w.alloc (.map #[] 0)) w.heap.size none none none none none :=
  ⟨h.size, #[], 0, (heap_alloc w _).1, fun k => ⟨none, rfl, by unfold pick5; (repeat' split) <;> rfl⟩⟩
/-- One entry more. -/
theorem map_put {P : Program} {t kt et : TypeId} (ht : P.underlying t = some (.map kt et)) (hd : P.underlying kt = some (.int .u8)) {W0 w : World} {M : Nat} {a b c d e a' b' c' d' e' : Option Value} (j : Int) (v : Value) (h : MapAt W0 w M a b c d e) (hx : Ext W0 w)
    (hn : pick5 a b c d e j = none) (hp : ∀ k, (match pick5 a b c d e k with | some x => some x | none => if k = j then some v else none) = pick5 a' b' c' d' e' k) :
    ∃ w', (Instr.mapUpdate t (.map (some M)) (.int .u8 j) v).run P w = .ok () w' ∧ MapAt W0 w' M a' b' c' d' e' ∧ Ext W0 w' ∧ ∀ bk i u, w.cell? ⟨bk, i, none⟩ = some u → w'.cell? ⟨bk, i, none⟩ = some u := by
  obtain ⟨h0, es, cl, hb, hf⟩ := h
  have hn' : Instr.findNow (.int .u8) (.int .u8 j) es.toList 0 = some none := by
    obtain ⟨r, h1, h2⟩ := hf j
    rw [hn] at h2
    cases r with
    | none => exact h1
    | some x => cases h2
  have hlt : M < w.heap.size := (Array.getElem?_eq_some_iff.1 hb).1
  refine ⟨{ w with heap := w.heap.setIfInBounds M (.map (es.push { key := .int .u8 j, val := v, born := cl }) (cl + 1)) }, ?_, ⟨h0, es.push { key := .int .u8 j, val := v, born := cl }, cl + 1, (heap_set hb).1, fun k => ?_⟩, ?_, ?_⟩
  · unfold Instr.mapUpdate
    simp only [Sem.run_bind, run_underlying ht, Result.andThen, MapKept.run_getObj_map hb, run_checkKey hd (show IsKey (.int .u8) (.int .u8 j) from (rfl : IntKind.u8 = IntKind.u8)), run_findKey hd hn', MapKept.run_setObj_map _ hb]
  · obtain ⟨r, h1, h2⟩ := hf k
    obtain ⟨r', h3, h4⟩ := findNow_push k j v cl es.toList 0 r h1
    refine ⟨r', by rw [Array.toList_push]; exact h3, ?_⟩
    rw [h4, ← hp k, ← h2]
    cases r <;> rfl
  · refine ⟨hx.os, hx.tape, hx.output, by simpa using hx.size, fun k hk => ?_⟩
    rw [(heap_set hb).2 k (by omega)]; exact hx.block k hk
  · intro bk i u hu
    unfold World.cell? at hu ⊢
    dsimp only at hu ⊢
    have hne : bk ≠ M := by
      rintro rfl; rw [hb] at hu; cases hu
    rw [(heap_set hb).2 bk hne]; exact hu
/-- A look-up among the five. -/
theorem map_look {P : Program} {t kt et : TypeId} (ht : P.underlying t = some (.map kt et)) (hd : P.underlying kt = some (.int .u8)) {W0 w : World} {M : Nat} {a b c d e : Option Value} (k : Int) (v : Value) (h : MapAt W0 w M a b c d e) (hk : pick5 a b c d e k = some v) {z : Value} (hz : (zeroValue et).run P w = .ok z w) :
    (Instr.lookup t (.map (some M)) (.int .u8 k) false).run P w = .ok v w := by
  obtain ⟨h0, es, cl, hb, hf⟩ := h
  obtain ⟨r, h1, h2⟩ := hf k
  rw [hk] at h2
  cases r with
  | none => cases h2
  | some x =>
    have := lookup_at (key := .int .u8 k) ht hd (show IntKind.u8 = IntKind.u8 from rfl) hb hz h1
    rw [this]; simp only [Option.map_some, Option.some.injEq] at h2; simp [foundOr, h2]
end Go.Proofs.Ytpfkpdimjljeaaa

/- Maps that a call makes of constant keys: an entry more, a look-up, in worlds written out. -/
import Derived.Test.YtpfkpdimjljeaaaWg
import Derived.MapKept
namespace Go.Proofs.Ytpfkpdimjljeaaa
set_option linter.unusedVariables false
set_option linter.unusedSimpArgs false
open Go.RowKit Go.MapKept

theorem alloc_set_top (W : World) (o o' : Obj) : ({ W.alloc o with heap := (W.alloc o).heap.setIfInBounds W.heap.size o' } : World) = W.alloc o' := by
  show ({ W with heap := (W.heap.push o).setIfInBounds W.heap.size o' } : World) = { W with heap := W.heap.push o' }
  rw [World.mk.injEq]
  refine ⟨?_, rfl, rfl, rfl, rfl⟩
  refine Array.ext_getElem? fun k => ?_
  rw [Array.getElem?_setIfInBounds, Array.getElem?_push, Array.getElem?_push]
  by_cases hk : k = W.heap.size
  · subst hk; simp
  · simp [hk, Ne.symm hk]
/-- A key that is not there yet. -/
theorem insert_top {P : Program} {W : World} {t kt e : TypeId} {d : TypeDesc} {es : Array MapEntry} {c : Nat} {key val : Value} (ht : P.underlying t = some (.map kt e)) (hd : P.underlying kt = some d) (hk : IsKey d key)
    (hn : Instr.findNow d key es.toList 0 = some none) : (Instr.mapUpdate t (.map (some W.heap.size)) key val).run P (W.alloc (.map es c)) = .ok () (W.alloc (.map (es.push { key := key, val := val, born := c }) (c + 1))) := by
  have hb := (heap_alloc W (.map es c)).1
  unfold Instr.mapUpdate
  simp only [Sem.run_bind, run_underlying ht, Result.andThen, MapKept.run_getObj_map hb, run_checkKey hd hk, run_findKey hd hn, MapKept.run_setObj_map _ hb, alloc_set_top]
/-- What was found, else the zero value. -/
def foundOr (z : Value) (r : Option (Nat × Value)) : Value := (r.map (·.2)).getD z
/-- A look-up. -/
theorem lookup_at {P : Program} {w : World} {t kt e : TypeId} {d : TypeDesc} {b : Nat} {es : Array MapEntry} {c : Nat} {key z : Value} {r : Option (Nat × Value)} (ht : P.underlying t = some (.map kt e)) (hd : P.underlying kt = some d) (hk : IsKey d key)
    (hb : w.heap[b]? = some (.map es c)) (hz : (zeroValue e).run P w = .ok z w) (hn : Instr.findNow d key es.toList 0 = some r) :
    (Instr.lookup t (.map (some b)) key false).run P w = .ok (foundOr z r) w := by
  unfold Instr.lookup
  simp only [Sem.run_bind, run_underlying ht, Result.andThen, MapKept.run_getObj_map hb, Sem.run_pure, run_checkKey hd hk, run_findKey hd hn]
  cases r with
  | none => simp only [Sem.run_bind, hz, Result.andThen, Sem.run_pure]; rfl
  | some x => simp only [Sem.run_pure, Result.andThen]; rfl
end Go.Proofs.Ytpfkpdimjljeaaa

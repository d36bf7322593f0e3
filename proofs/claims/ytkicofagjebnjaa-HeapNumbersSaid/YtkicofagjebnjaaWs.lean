/- A whole struct stored into a box of its own: what the box holds then, and that nothing else is changed. -/
import Derived.Test.YtkicofagjebnjaaWb
import Derived.Deep.MidRow
namespace Go.Proofs.Ytkicofagjebnjaa
open Go.RowKit
set_option linter.unusedVariables false
set_option linter.unusedSimpArgs false

theorem chg_setCells (b : Nat) : ∀ (vs : List Value) (o : Nat) (w : World), Chg (fun q => q = b) w (w.setCells b o vs)
  | [], _, w => Chg.refl _ w
  | v :: vs, o, w => (chg_put (Chg.refl _ w)).trans (chg_setCells b vs (o + 1) (w.setCell ⟨b, o, none⟩ v))
theorem at_there {w : World} {b : Nat} {cs : Array Value} (h : At w b cs) : w.there b 0 cs.size := fun j hj => by
  rw [Nat.zero_add]
  exact ⟨by rw [h.1 j, Array.getElem?_eq_getElem hj]; rfl, h.2 j⟩
theorem at_setCells {w : World} {b : Nat} {cs cells : Array Value} (h : At w b cs) (hs : cs.size = cells.size) : At (w.setCells b 0 cells.toList) b cells := by
  have ht : w.there b 0 cells.toList.length := by have := at_there h; rw [hs] at this; simpa using this
  refine ⟨fun i => ?_, fun i => by rw [World.frozen?_setCells]; exact h.2 i⟩
  by_cases hi : i < cells.size
  · have hr := World.rangeAt_setCells_same w b 0 cells.toList ht i cells[i] (by simp [hi])
    rw [Nat.zero_add] at hr
    rw [hr, Array.getElem?_eq_getElem hi]
  · rw [World.cell?_setCells_out b cells.toList 0 w ⟨b, i, none⟩ (fun _ _ => .inr (by simp; omega)), h.1 i, Array.getElem?_eq_none (by omega), Array.getElem?_eq_none (by omega)]
theorem wp_storeS {P : Program} {op : Oper} {a : Act} {w : World} {K : Act → World → Prop} {Q : Exit → Act → World → Prop} (ty : TypeId) (x y : Operand) (ho : op.op = .store ty x y) (b : Nat) (cs cells : Array Value) (hx : a.eval x = .pointer (some ⟨b, 0, none⟩)) (hy : a.eval y = .agg cells)
    (hat : At w b cs) (hs : cs.size = cells.size) (hi : (P.info? ty).map (·.size) = some cells.size) (h1 : cells.all (·.oneCell') = true) (h : ∀ w', At w' b cells → Chg (fun q => q = b) w w' → K (a.put op.dst undef) w') : op.wp P a w K Q :=
  wp_store_mid ty x y ho b 0 cells hx hy (by have := at_there hat; rwa [hs] at this) hi h1 (h _ (at_setCells hat hs) (chg_setCells b _ 0 w))
/-- .. at a step of a region that draws its order. -/
theorem step_storeS {P : Program} {w : World} {ops : Array Oper} {o : Oper} {a : Act} {K : Act → World → Prop} {Q : Exit → Act → World → Prop} {E : Prop} (hgd : o.guard = none) (ty : TypeId) (x y : Operand) (ho : o.op = .store ty x y) (b : Nat) (cs cells : Array Value) (hx : a.eval x = .pointer (some ⟨b, 0, none⟩)) (hy : a.eval y = .agg cells)
    (hat : At w b cs) (hs : cs.size = cells.size) (hi : (P.info? ty).map (·.size) = some cells.size) (h1 : cells.all (·.oneCell') = true) (h : ∀ w', At w' b cells → Chg (fun q => q = b) w w' → K (a.put o.dst undef) w') : if Region.wanted o (yielded ops a.tmps) = true then Oper.wp P o a w K Q else E := by
  have hw : Region.wanted o (yielded ops a.tmps) = true := by simp [Region.wanted, hgd]
  rw [if_pos hw]
  exact wp_storeS ty x y ho b cs cells hx hy hat hs hi h1 h
/-- .. in a plain region. -/
theorem list_storeS {P : Program} {w : World} {ops : Array Oper} {rest : List Oper} {o : Oper} {a : Act} {Q : Exit → Act → World → Prop} (hgd : o.guard = none) (ty : TypeId) (x y : Operand) (ho : o.op = .store ty x y) (b : Nat) (cs cells : Array Value) (hx : a.eval x = .pointer (some ⟨b, 0, none⟩)) (hy : a.eval y = .agg cells)
    (hat : At w b cs) (hs : cs.size = cells.size) (hi : (P.info? ty).map (·.size) = some cells.size) (h1 : cells.all (·.oneCell') = true) (h : ∀ w', At w' b cells → Chg (fun q => q = b) w w' → wpList P ops Q rest (a.put o.dst undef) w') : wpList P ops Q (o :: rest) a w :=
  wpList_plain hgd fun _ hK => wp_storeS ty x y ho b cs cells hx hy hat hs hi h1 fun w' h2 h3 => hK _ _ (h w' h2 h3)
end Go.Proofs.Ytkicofagjebnjaa

/- More words for regions by an invariant: a whole struct stored. -/
import Derived.Test.YtkicofagjebnjaaWj
namespace Go.Proofs.Ytkicofagjebnjaa
open Go.RowKit
set_option linter.unusedVariables false
set_option linter.unusedSimpArgs false
/-- A whole struct stored at a step of a region; what stands in the slots under names. -/
theorem step_storeS2 {P : Program} {w : World} {ops : Array Oper} {o : Oper} {a : Act} {K : Act → World → Prop} {Q : Exit → Act → World → Prop} {E : Prop} (hgd : o.guard = none) (ty : TypeId) (x y : Operand) (ho : o.op = .store ty x y) (b : Nat) (cs cells : Array Value) (ux uy : Value) (hx : a.eval x = ux) (hy : a.eval y = uy) (ex : ux = .pointer (some ⟨b, 0, none⟩)) (ey : uy = .agg cells)
    (hat : At w b cs) (hs : cs.size = cells.size) (hi : (P.info? ty).map (·.size) = some cells.size) (h1 : cells.all (·.oneCell') = true) (h : ∀ w', At w' b cells → Chg (fun q => q = b) w w' → K (a.put o.dst undef) w') : if Region.wanted o (yielded ops a.tmps) = true then Oper.wp P o a w K Q else E :=
  step_storeS hgd ty x y ho b cs cells (hx.trans ex) (hy.trans ey) hat hs hi h1 h
end Go.Proofs.Ytkicofagjebnjaa

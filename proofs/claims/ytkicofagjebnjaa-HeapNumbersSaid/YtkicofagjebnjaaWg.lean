/- A world under a name, and what its boxes hold: for walks with many calls in a row. -/
import Derived.Test.YtkicofagjebnjaaWe
namespace Go.Proofs.Ytkicofagjebnjaa
set_option linter.unusedVariables false
set_option linter.unusedSimpArgs false
open Go.RowKit

theorem wp_at {P : Program} {c : Code} {Q : Exit → Act → World → Prop} {a : Act} {w : World} (h : ∀ W1, W1 = w → c.wp P Q a W1) : c.wp P Q a w := h w rfl
/-- A box of this world: where it lies, what its cells hold. -/
theorem box_facts {X W2 : World} {cs : Array Value} {t : TypeId} (h : Ext (X.alloc (.cells cs t)) W2) : X.heap.size < W2.heap.size ∧ ∀ i, W2.cell? ⟨X.heap.size, i, none⟩ = cs[i]? := by
  have h1 := h.size
  refine ⟨by simp at h1; omega, fun i => ?_⟩
  rw [h.cell (p := ⟨X.heap.size, i, none⟩) (by simp)]; exact cell_alloc_new _ _ _ _
theorem box_on {W1 W2 : World} {b : Nat} {cs : Array Value} (h : Ext W1 W2) (hl : b < W1.heap.size) (hc : ∀ i, W1.cell? ⟨b, i, none⟩ = cs[i]?) : b < W2.heap.size ∧ ∀ i, W2.cell? ⟨b, i, none⟩ = cs[i]? :=
  ⟨Nat.lt_of_lt_of_le hl h.size, fun i => (h.cell (p := ⟨b, i, none⟩) hl).trans (hc i)⟩
end Go.Proofs.Ytkicofagjebnjaa
namespace Go.Proofs.Ytkicofagjebnjaa
open Go.RowKit
/-- .. in every later world. -/
theorem box_all {W1 : World} {b : Nat} {cs : Array Value} (hl : b < W1.heap.size) (hc : ∀ i, W1.cell? ⟨b, i, none⟩ = cs[i]?) : ∀ w', Ext W1 w' → ∀ i, w'.cell? ⟨b, i, none⟩ = cs[i]? :=
  fun _ h => (box_on h hl hc).2
theorem ext_set1 {a b : World} (h : Ext a b) (o : Obj) (i : Nat) (v : Value) : Ext a ((b.alloc o).setCell ⟨b.heap.size, i, none⟩ v) := ext_set (ext_alloc h o) h.size v
end Go.Proofs.Ytkicofagjebnjaa
namespace Go.Proofs.Ytkicofagjebnjaa
open Go.RowKit
theorem ext_ex {W w' : World} {Q : Prop} (h : Ext W w') (q : Q) : ∃ r d, w' = more W r d ∧ Q := by
  obtain ⟨r, d, hf⟩ := ext_form h
  exact ⟨r, d, hf, q⟩
theorem sz_alloc (w : World) (o : Obj) : (w.alloc o).heap.size = w.heap.size + 1 := by simp
theorem drew_sz (w : World) : w.drew.heap.size = w.heap.size := rfl
theorem then_at {Q : Exit → Act → World → Prop} {e : Exit} {K' : Act → World → Prop} {a : Act} {w : World} (h : ∀ W1, W1 = w → Exit.then K' Q e a W1) : Exit.then K' Q e a w := h w rfl
/-- The world as one whose last box of interest is written out. -/
theorem box_split {W1 X0 W2 : World} {cs : Array Value} {t : TypeId} (h : Ext (X0.alloc (.cells cs t)) W2) (h1 : Ext W1 X0) :
    ∃ X r d, Ext W1 X ∧ X.heap.size = X0.heap.size ∧ W2 = more (X.alloc (.cells cs t)) r d := by
  obtain ⟨r, d, rfl⟩ := ext_form h
  exact ⟨X0, r, d, h1, rfl, rfl⟩
end Go.Proofs.Ytkicofagjebnjaa

/- A world that extends another one, written out: the same blocks, and some more behind them. -/
import Derived.Test.YtkicofagjebnjaaWd
namespace Go.Proofs.Ytkicofagjebnjaa
set_option linter.unusedVariables false
set_option linter.unusedSimpArgs false
open Go.RowKit

@[go_sem] theorem max_four_ints (ats : Array TypeId) (ty : TypeId) (k k1 k2 k3 : IntKind) (a b c d : Int) : Builtin.max_ ats ty #[.int k a, .int k1 b, .int k2 c, .int k3 d] = pure (.int k (mx (mx (mx a b) c) d)) := by
  simp only [Builtin.max_, Builtin.max2, mx, gt_iff_lt, List.foldlM_cons, List.foldlM_nil]; rfl
/-- w with more blocks, and d draws. -/
def more (w : World) (r : Array Obj) (d : Nat) : World := { w with heap := w.heap ++ r, drawn := d }
theorem ext_form {w w' : World} (h : Ext w w') : ∃ r d, w' = more w r d := by
  refine ⟨w'.heap.extract w.heap.size w'.heap.size, w'.drawn, ?_⟩
  obtain ⟨h1, h2, h3, h4, h5⟩ := h
  cases w; cases w'
  simp only at h1 h2 h3 h4 h5
  subst h1 h2 h3
  simp only [more, World.mk.injEq, and_true, true_and]
  refine Array.ext_getElem? fun i => ?_
  rw [Array.getElem?_append]
  split
  · rename_i hi; exact h5 i hi
  · rename_i hi
    simp [Array.getElem?_extract]
    split
    · rw [show _ + (i - _) = i from by omega]
    · rw [Array.getElem?_eq_none (by omega)]
theorem ext_more (w : World) (r : Array Obj) (d : Nat) : Ext w (more w r d) :=
  ⟨rfl, rfl, rfl, by simp [more], fun k hk => by show (w.heap ++ r)[k]? = _; rw [Array.getElem?_append, if_pos hk]⟩
theorem ext_more' {a w : World} (h : Ext a w) (r : Array Obj) (d : Nat) : Ext a (more w r d) := ext_trans h (ext_more w r d)
@[go_sem, simp] theorem more_size (w : World) (r : Array Obj) (d : Nat) : (more w r d).heap.size = w.heap.size + r.size := by simp [more]
@[go_sem] theorem more_cell (w : World) (r : Array Obj) (d : Nat) (b i : Nat) (h : b < w.heap.size) : (more w r d).cell? ⟨b, i, none⟩ = w.cell? ⟨b, i, none⟩ := (ext_more w r d).cell (p := ⟨b, i, none⟩) h
@[go_sem] theorem more_frozen (w : World) (r : Array Obj) (d : Nat) (b i : Nat) (h : b < w.heap.size) : (more w r d).frozen? ⟨b, i, none⟩ = w.frozen? ⟨b, i, none⟩ := (ext_more w r d).frozen (p := ⟨b, i, none⟩) h
@[go_sem] theorem more_drew (w : World) (r : Array Obj) (d : Nat) : (more w r d).drew = more w r (d + 1) := rfl
@[go_sem] theorem more_drewN (w : World) (r : Array Obj) (d n : Nat) : (more w r d).drewN n = more w r (d + n) := rfl
/-- Blocks behind blocks (not to be laid open by the walk). -/
def cat (r s : Array Obj) : Array Obj := r ++ s
@[go_sem] theorem more_more (w : World) (r s : Array Obj) (d e : Nat) : more (more w r d) s e = more w (cat r s) e := by simp [more, cat, Array.append_assoc]
@[go_sem] theorem more_setCell (w : World) (r : Array Obj) (d : Nat) (b i : Nat) (v : Value) (h : b < w.heap.size) : (more w r d).setCell ⟨b, i, none⟩ v = more (w.setCell ⟨b, i, none⟩ v) r d := by
  simp only [more, World.setCell, World.mk.injEq, and_true, true_and]
  refine Array.ext_getElem? fun k => ?_
  rw [Array.getElem?_append, Array.getElem?_modify, Array.getElem?_modify, Array.getElem?_append]
  simp only [Array.size_modify]
  by_cases hk : k < w.heap.size
  · simp [hk]
  · have : b ≠ k := by omega
    simp [hk, this]
@[go_sem] theorem lt_sz_0 (a b : Nat) (r : Array Obj) (h : a < b) : a < b + r.size := by omega
@[go_sem] theorem le_sz_0 (a b : Nat) (r : Array Obj) (h : a ≤ b) : a ≤ b + r.size := by omega
@[go_sem] theorem lt_sz_1 (a b : Nat) (r : Array Obj) (h : a < b) : a < b + r.size + 1 := by omega
@[go_sem] theorem le_sz_1 (a b : Nat) (r : Array Obj) (h : a ≤ b) : a ≤ b + r.size + 1 := by omega
@[go_sem] theorem lt_sz_2 (a b : Nat) (r : Array Obj) (h : a < b) : a < b + r.size + 1 + 1 := by omega
@[go_sem] theorem le_sz_2 (a b : Nat) (r : Array Obj) (h : a ≤ b) : a ≤ b + r.size + 1 + 1 := by omega
@[go_sem] theorem lt_sz_3 (a b : Nat) (r : Array Obj) (h : a < b) : a < b + r.size + 1 + 1 + 1 := by omega
@[go_sem] theorem le_sz_3 (a b : Nat) (r : Array Obj) (h : a ≤ b) : a ≤ b + r.size + 1 + 1 + 1 := by omega
@[go_sem] theorem lt_sz_4 (a b : Nat) (r : Array Obj) (h : a < b) : a < b + r.size + 1 + 1 + 1 + 1 := by omega
@[go_sem] theorem le_sz_4 (a b : Nat) (r : Array Obj) (h : a ≤ b) : a ≤ b + r.size + 1 + 1 + 1 + 1 := by omega
@[go_sem] theorem lt_sz_5 (a b : Nat) (r : Array Obj) (h : a < b) : a < b + r.size + 1 + 1 + 1 + 1 + 1 := by omega
@[go_sem] theorem le_sz_5 (a b : Nat) (r : Array Obj) (h : a ≤ b) : a ≤ b + r.size + 1 + 1 + 1 + 1 + 1 := by omega
@[go_sem] theorem lt_sz_6 (a b : Nat) (r : Array Obj) (h : a < b) : a < b + r.size + 1 + 1 + 1 + 1 + 1 + 1 := by omega
@[go_sem] theorem le_sz_6 (a b : Nat) (r : Array Obj) (h : a ≤ b) : a ≤ b + r.size + 1 + 1 + 1 + 1 + 1 + 1 := by omega
theorem more_al1 (w : World) (r : Array Obj) (d : Nat) (o0 : Obj) : Ext w ((more w r d).alloc o0) := (ext_alloc (ext_more w r d) _)
@[go_sem] theorem more_al1_cell (w : World) (r : Array Obj) (d : Nat) (o0 : Obj) (b i : Nat) (h : b < w.heap.size) : ((more w r d).alloc o0).cell? ⟨b, i, none⟩ = w.cell? ⟨b, i, none⟩ := (more_al1 w r d o0).cell (p := ⟨b, i, none⟩) h
@[go_sem] theorem more_al1_frozen (w : World) (r : Array Obj) (d : Nat) (o0 : Obj) (b i : Nat) (h : b < w.heap.size) : ((more w r d).alloc o0).frozen? ⟨b, i, none⟩ = w.frozen? ⟨b, i, none⟩ := (more_al1 w r d o0).frozen (p := ⟨b, i, none⟩) h
theorem more_al2 (w : World) (r : Array Obj) (d : Nat) (o0 o1 : Obj) : Ext w (((more w r d).alloc o0).alloc o1) := (ext_alloc (ext_alloc (ext_more w r d) _) _)
@[go_sem] theorem more_al2_cell (w : World) (r : Array Obj) (d : Nat) (o0 o1 : Obj) (b i : Nat) (h : b < w.heap.size) : (((more w r d).alloc o0).alloc o1).cell? ⟨b, i, none⟩ = w.cell? ⟨b, i, none⟩ := (more_al2 w r d o0 o1).cell (p := ⟨b, i, none⟩) h
@[go_sem] theorem more_al2_frozen (w : World) (r : Array Obj) (d : Nat) (o0 o1 : Obj) (b i : Nat) (h : b < w.heap.size) : (((more w r d).alloc o0).alloc o1).frozen? ⟨b, i, none⟩ = w.frozen? ⟨b, i, none⟩ := (more_al2 w r d o0 o1).frozen (p := ⟨b, i, none⟩) h
theorem more_al3 (w : World) (r : Array Obj) (d : Nat) (o0 o1 o2 : Obj) : Ext w ((((more w r d).alloc o0).alloc o1).alloc o2) := (ext_alloc (ext_alloc (ext_alloc (ext_more w r d) _) _) _)
@[go_sem] theorem more_al3_cell (w : World) (r : Array Obj) (d : Nat) (o0 o1 o2 : Obj) (b i : Nat) (h : b < w.heap.size) : ((((more w r d).alloc o0).alloc o1).alloc o2).cell? ⟨b, i, none⟩ = w.cell? ⟨b, i, none⟩ := (more_al3 w r d o0 o1 o2).cell (p := ⟨b, i, none⟩) h
@[go_sem] theorem more_al3_frozen (w : World) (r : Array Obj) (d : Nat) (o0 o1 o2 : Obj) (b i : Nat) (h : b < w.heap.size) : ((((more w r d).alloc o0).alloc o1).alloc o2).frozen? ⟨b, i, none⟩ = w.frozen? ⟨b, i, none⟩ := (more_al3 w r d o0 o1 o2).frozen (p := ⟨b, i, none⟩) h
theorem more_al4 (w : World) (r : Array Obj) (d : Nat) (o0 o1 o2 o3 : Obj) : Ext w (((((more w r d).alloc o0).alloc o1).alloc o2).alloc o3) := (ext_alloc (ext_alloc (ext_alloc (ext_alloc (ext_more w r d) _) _) _) _)
@[go_sem] theorem more_al4_cell (w : World) (r : Array Obj) (d : Nat) (o0 o1 o2 o3 : Obj) (b i : Nat) (h : b < w.heap.size) : (((((more w r d).alloc o0).alloc o1).alloc o2).alloc o3).cell? ⟨b, i, none⟩ = w.cell? ⟨b, i, none⟩ := (more_al4 w r d o0 o1 o2 o3).cell (p := ⟨b, i, none⟩) h
@[go_sem] theorem more_al4_frozen (w : World) (r : Array Obj) (d : Nat) (o0 o1 o2 o3 : Obj) (b i : Nat) (h : b < w.heap.size) : (((((more w r d).alloc o0).alloc o1).alloc o2).alloc o3).frozen? ⟨b, i, none⟩ = w.frozen? ⟨b, i, none⟩ := (more_al4 w r d o0 o1 o2 o3).frozen (p := ⟨b, i, none⟩) h
theorem more_al5 (w : World) (r : Array Obj) (d : Nat) (o0 o1 o2 o3 o4 : Obj) : Ext w ((((((more w r d).alloc o0).alloc o1).alloc o2).alloc o3).alloc o4) := (ext_alloc (ext_alloc (ext_alloc (ext_alloc (ext_alloc (ext_more w r d) _) _) _) _) _)
@[go_sem] theorem more_al5_cell (w : World) (r : Array Obj) (d : Nat) (o0 o1 o2 o3 o4 : Obj) (b i : Nat) (h : b < w.heap.size) : ((((((more w r d).alloc o0).alloc o1).alloc o2).alloc o3).alloc o4).cell? ⟨b, i, none⟩ = w.cell? ⟨b, i, none⟩ := (more_al5 w r d o0 o1 o2 o3 o4).cell (p := ⟨b, i, none⟩) h
@[go_sem] theorem more_al5_frozen (w : World) (r : Array Obj) (d : Nat) (o0 o1 o2 o3 o4 : Obj) (b i : Nat) (h : b < w.heap.size) : ((((((more w r d).alloc o0).alloc o1).alloc o2).alloc o3).alloc o4).frozen? ⟨b, i, none⟩ = w.frozen? ⟨b, i, none⟩ := (more_al5 w r d o0 o1 o2 o3 o4).frozen (p := ⟨b, i, none⟩) h
theorem more_al6 (w : World) (r : Array Obj) (d : Nat) (o0 o1 o2 o3 o4 o5 : Obj) : Ext w (((((((more w r d).alloc o0).alloc o1).alloc o2).alloc o3).alloc o4).alloc o5) := (ext_alloc (ext_alloc (ext_alloc (ext_alloc (ext_alloc (ext_alloc (ext_more w r d) _) _) _) _) _) _)
@[go_sem] theorem more_al6_cell (w : World) (r : Array Obj) (d : Nat) (o0 o1 o2 o3 o4 o5 : Obj) (b i : Nat) (h : b < w.heap.size) : (((((((more w r d).alloc o0).alloc o1).alloc o2).alloc o3).alloc o4).alloc o5).cell? ⟨b, i, none⟩ = w.cell? ⟨b, i, none⟩ := (more_al6 w r d o0 o1 o2 o3 o4 o5).cell (p := ⟨b, i, none⟩) h
@[go_sem] theorem more_al6_frozen (w : World) (r : Array Obj) (d : Nat) (o0 o1 o2 o3 o4 o5 : Obj) (b i : Nat) (h : b < w.heap.size) : (((((((more w r d).alloc o0).alloc o1).alloc o2).alloc o3).alloc o4).alloc o5).frozen? ⟨b, i, none⟩ = w.frozen? ⟨b, i, none⟩ := (more_al6 w r d o0 o1 o2 o3 o4 o5).frozen (p := ⟨b, i, none⟩) h
theorem more_al7 (w : World) (r : Array Obj) (d : Nat) (o0 o1 o2 o3 o4 o5 o6 : Obj) : Ext w ((((((((more w r d).alloc o0).alloc o1).alloc o2).alloc o3).alloc o4).alloc o5).alloc o6) := (ext_alloc (ext_alloc (ext_alloc (ext_alloc (ext_alloc (ext_alloc (ext_alloc (ext_more w r d) _) _) _) _) _) _) _)
@[go_sem] theorem more_al7_cell (w : World) (r : Array Obj) (d : Nat) (o0 o1 o2 o3 o4 o5 o6 : Obj) (b i : Nat) (h : b < w.heap.size) : ((((((((more w r d).alloc o0).alloc o1).alloc o2).alloc o3).alloc o4).alloc o5).alloc o6).cell? ⟨b, i, none⟩ = w.cell? ⟨b, i, none⟩ := (more_al7 w r d o0 o1 o2 o3 o4 o5 o6).cell (p := ⟨b, i, none⟩) h
@[go_sem] theorem more_al7_frozen (w : World) (r : Array Obj) (d : Nat) (o0 o1 o2 o3 o4 o5 o6 : Obj) (b i : Nat) (h : b < w.heap.size) : ((((((((more w r d).alloc o0).alloc o1).alloc o2).alloc o3).alloc o4).alloc o5).alloc o6).frozen? ⟨b, i, none⟩ = w.frozen? ⟨b, i, none⟩ := (more_al7 w r d o0 o1 o2 o3 o4 o5 o6).frozen (p := ⟨b, i, none⟩) h
theorem more_al8 (w : World) (r : Array Obj) (d : Nat) (o0 o1 o2 o3 o4 o5 o6 o7 : Obj) : Ext w (((((((((more w r d).alloc o0).alloc o1).alloc o2).alloc o3).alloc o4).alloc o5).alloc o6).alloc o7) := (ext_alloc (ext_alloc (ext_alloc (ext_alloc (ext_alloc (ext_alloc (ext_alloc (ext_alloc (ext_more w r d) _) _) _) _) _) _) _) _)
@[go_sem] theorem more_al8_cell (w : World) (r : Array Obj) (d : Nat) (o0 o1 o2 o3 o4 o5 o6 o7 : Obj) (b i : Nat) (h : b < w.heap.size) : (((((((((more w r d).alloc o0).alloc o1).alloc o2).alloc o3).alloc o4).alloc o5).alloc o6).alloc o7).cell? ⟨b, i, none⟩ = w.cell? ⟨b, i, none⟩ := (more_al8 w r d o0 o1 o2 o3 o4 o5 o6 o7).cell (p := ⟨b, i, none⟩) h
@[go_sem] theorem more_al8_frozen (w : World) (r : Array Obj) (d : Nat) (o0 o1 o2 o3 o4 o5 o6 o7 : Obj) (b i : Nat) (h : b < w.heap.size) : (((((((((more w r d).alloc o0).alloc o1).alloc o2).alloc o3).alloc o4).alloc o5).alloc o6).alloc o7).frozen? ⟨b, i, none⟩ = w.frozen? ⟨b, i, none⟩ := (more_al8 w r d o0 o1 o2 o3 o4 o5 o6 o7).frozen (p := ⟨b, i, none⟩) h
theorem setCell_alloc_lt (w : World) (o : Obj) (b i : Nat) (v : Value) (h : b < w.heap.size) : (w.alloc o).setCell ⟨b, i, none⟩ v = (w.setCell ⟨b, i, none⟩ v).alloc o := by
  show ({ w with heap := (w.heap.push o).modify b _ } : World) = { w with heap := (w.heap.modify b _).push o }
  rw [World.mk.injEq]
  refine ⟨?_, rfl, rfl, rfl, rfl⟩
  refine Array.ext_getElem? fun k => ?_
  rw [Array.getElem?_modify, Array.getElem?_push, Array.getElem?_push, Array.getElem?_modify, Array.size_modify]
  by_cases hk : k = w.heap.size
  · subst hk; simp; omega
  · simp [hk]
@[go_sem] theorem more_al1_set (w : World) (r : Array Obj) (d : Nat) (o0 : Obj) (b i : Nat) (v : Value) (h : b < w.heap.size) : ((more w r d).alloc o0).setCell ⟨b, i, none⟩ v = ((more (w.setCell ⟨b, i, none⟩ v) r d).alloc o0) := by
  rw [setCell_alloc_lt _ _ _ _ _ (by have := (ext_more w r d).size; omega), more_setCell _ _ _ _ _ _ h]
@[go_sem] theorem more_al2_set (w : World) (r : Array Obj) (d : Nat) (o0 o1 : Obj) (b i : Nat) (v : Value) (h : b < w.heap.size) : (((more w r d).alloc o0).alloc o1).setCell ⟨b, i, none⟩ v = (((more (w.setCell ⟨b, i, none⟩ v) r d).alloc o0).alloc o1) := by
  rw [setCell_alloc_lt _ _ _ _ _ (by have := (more_al1 w r d o0).size; omega), setCell_alloc_lt _ _ _ _ _ (by have := (ext_more w r d).size; omega), more_setCell _ _ _ _ _ _ h]
@[go_sem] theorem more_al3_set (w : World) (r : Array Obj) (d : Nat) (o0 o1 o2 : Obj) (b i : Nat) (v : Value) (h : b < w.heap.size) : ((((more w r d).alloc o0).alloc o1).alloc o2).setCell ⟨b, i, none⟩ v = ((((more (w.setCell ⟨b, i, none⟩ v) r d).alloc o0).alloc o1).alloc o2) := by
  rw [setCell_alloc_lt _ _ _ _ _ (by have := (more_al2 w r d o0 o1).size; omega), setCell_alloc_lt _ _ _ _ _ (by have := (more_al1 w r d o0).size; omega), setCell_alloc_lt _ _ _ _ _ (by have := (ext_more w r d).size; omega), more_setCell _ _ _ _ _ _ h]
@[go_sem] theorem more_al4_set (w : World) (r : Array Obj) (d : Nat) (o0 o1 o2 o3 : Obj) (b i : Nat) (v : Value) (h : b < w.heap.size) : (((((more w r d).alloc o0).alloc o1).alloc o2).alloc o3).setCell ⟨b, i, none⟩ v = (((((more (w.setCell ⟨b, i, none⟩ v) r d).alloc o0).alloc o1).alloc o2).alloc o3) := by
  rw [setCell_alloc_lt _ _ _ _ _ (by have := (more_al3 w r d o0 o1 o2).size; omega), setCell_alloc_lt _ _ _ _ _ (by have := (more_al2 w r d o0 o1).size; omega), setCell_alloc_lt _ _ _ _ _ (by have := (more_al1 w r d o0).size; omega), setCell_alloc_lt _ _ _ _ _ (by have := (ext_more w r d).size; omega), more_setCell _ _ _ _ _ _ h]
@[go_sem] theorem more_al5_set (w : World) (r : Array Obj) (d : Nat) (o0 o1 o2 o3 o4 : Obj) (b i : Nat) (v : Value) (h : b < w.heap.size) : ((((((more w r d).alloc o0).alloc o1).alloc o2).alloc o3).alloc o4).setCell ⟨b, i, none⟩ v = ((((((more (w.setCell ⟨b, i, none⟩ v) r d).alloc o0).alloc o1).alloc o2).alloc o3).alloc o4) := by
  rw [setCell_alloc_lt _ _ _ _ _ (by have := (more_al4 w r d o0 o1 o2 o3).size; omega), setCell_alloc_lt _ _ _ _ _ (by have := (more_al3 w r d o0 o1 o2).size; omega), setCell_alloc_lt _ _ _ _ _ (by have := (more_al2 w r d o0 o1).size; omega), setCell_alloc_lt _ _ _ _ _ (by have := (more_al1 w r d o0).size; omega), setCell_alloc_lt _ _ _ _ _ (by have := (ext_more w r d).size; omega), more_setCell _ _ _ _ _ _ h]
@[go_sem] theorem more_al6_set (w : World) (r : Array Obj) (d : Nat) (o0 o1 o2 o3 o4 o5 : Obj) (b i : Nat) (v : Value) (h : b < w.heap.size) : (((((((more w r d).alloc o0).alloc o1).alloc o2).alloc o3).alloc o4).alloc o5).setCell ⟨b, i, none⟩ v = (((((((more (w.setCell ⟨b, i, none⟩ v) r d).alloc o0).alloc o1).alloc o2).alloc o3).alloc o4).alloc o5) := by
  rw [setCell_alloc_lt _ _ _ _ _ (by have := (more_al5 w r d o0 o1 o2 o3 o4).size; omega), setCell_alloc_lt _ _ _ _ _ (by have := (more_al4 w r d o0 o1 o2 o3).size; omega), setCell_alloc_lt _ _ _ _ _ (by have := (more_al3 w r d o0 o1 o2).size; omega), setCell_alloc_lt _ _ _ _ _ (by have := (more_al2 w r d o0 o1).size; omega), setCell_alloc_lt _ _ _ _ _ (by have := (more_al1 w r d o0).size; omega), setCell_alloc_lt _ _ _ _ _ (by have := (ext_more w r d).size; omega), more_setCell _ _ _ _ _ _ h]
@[go_sem] theorem more_al7_set (w : World) (r : Array Obj) (d : Nat) (o0 o1 o2 o3 o4 o5 o6 : Obj) (b i : Nat) (v : Value) (h : b < w.heap.size) : ((((((((more w r d).alloc o0).alloc o1).alloc o2).alloc o3).alloc o4).alloc o5).alloc o6).setCell ⟨b, i, none⟩ v = ((((((((more (w.setCell ⟨b, i, none⟩ v) r d).alloc o0).alloc o1).alloc o2).alloc o3).alloc o4).alloc o5).alloc o6) := by
  rw [setCell_alloc_lt _ _ _ _ _ (by have := (more_al6 w r d o0 o1 o2 o3 o4 o5).size; omega), setCell_alloc_lt _ _ _ _ _ (by have := (more_al5 w r d o0 o1 o2 o3 o4).size; omega), setCell_alloc_lt _ _ _ _ _ (by have := (more_al4 w r d o0 o1 o2 o3).size; omega), setCell_alloc_lt _ _ _ _ _ (by have := (more_al3 w r d o0 o1 o2).size; omega), setCell_alloc_lt _ _ _ _ _ (by have := (more_al2 w r d o0 o1).size; omega), setCell_alloc_lt _ _ _ _ _ (by have := (more_al1 w r d o0).size; omega), setCell_alloc_lt _ _ _ _ _ (by have := (ext_more w r d).size; omega), more_setCell _ _ _ _ _ _ h]
@[go_sem] theorem more_al8_set (w : World) (r : Array Obj) (d : Nat) (o0 o1 o2 o3 o4 o5 o6 o7 : Obj) (b i : Nat) (v : Value) (h : b < w.heap.size) : (((((((((more w r d).alloc o0).alloc o1).alloc o2).alloc o3).alloc o4).alloc o5).alloc o6).alloc o7).setCell ⟨b, i, none⟩ v = (((((((((more (w.setCell ⟨b, i, none⟩ v) r d).alloc o0).alloc o1).alloc o2).alloc o3).alloc o4).alloc o5).alloc o6).alloc o7) := by
  rw [setCell_alloc_lt _ _ _ _ _ (by have := (more_al7 w r d o0 o1 o2 o3 o4 o5 o6).size; omega), setCell_alloc_lt _ _ _ _ _ (by have := (more_al6 w r d o0 o1 o2 o3 o4 o5).size; omega), setCell_alloc_lt _ _ _ _ _ (by have := (more_al5 w r d o0 o1 o2 o3 o4).size; omega), setCell_alloc_lt _ _ _ _ _ (by have := (more_al4 w r d o0 o1 o2 o3).size; omega), setCell_alloc_lt _ _ _ _ _ (by have := (more_al3 w r d o0 o1 o2).size; omega), setCell_alloc_lt _ _ _ _ _ (by have := (more_al2 w r d o0 o1).size; omega), setCell_alloc_lt _ _ _ _ _ (by have := (more_al1 w r d o0).size; omega), setCell_alloc_lt _ _ _ _ _ (by have := (ext_more w r d).size; omega), more_setCell _ _ _ _ _ _ h]
end Go.Proofs.Ytkicofagjebnjaa

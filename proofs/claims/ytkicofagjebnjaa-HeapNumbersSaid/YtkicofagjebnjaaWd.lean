/- Words that the walks share: the lesser and the greater of two numbers; a world that extends another one; the changes of a few blocks. -/
import Derived.Test.YtkicofagjebnjaaProg
import Derived.Test.YtkicofagjebnjaaS14
import Derived.WalkKit
import Derived.WalkSpells
import Derived.WalkLawsBesides
import Derived.Below
import Derived.OneCell
import Derived.Lib.Hide
import Derived.Deep.LoopGhost
import Derived.Deep.QuietTactic
import Derived.BigQuiet
import Derived.Deep.RegionWith
import Derived.StillTailTactics
import Derived.Deep.RegionHeld3
import Derived.Deep.DeepCutAuto
import Derived.Deep.Draws
namespace Go.Proofs.Ytkicofagjebnjaa
set_option linter.unusedVariables false
set_option linter.unusedSimpArgs false
open Go.RowKit


@[go_sem] theorem max_ints (ats : Array TypeId) (ty : TypeId) (k k' : IntKind) (a b : Int) : Builtin.max_ ats ty #[.int k a, .int k' b] = pure (.int k (mx a b)) := by
  simp only [Builtin.max_, Builtin.max2, mx, gt_iff_lt, List.foldlM_cons, List.foldlM_nil]; rfl
@[go_sem] theorem min_ints (ats : Array TypeId) (ty : TypeId) (k k' : IntKind) (a b : Int) : Builtin.min_ ats ty #[.int k a, .int k' b] = pure (.int k (mn a b)) := by
  simp only [Builtin.min_, Builtin.min2, mn, List.foldlM_cons, List.foldlM_nil]; rfl

/-- w' extends w: all blocks of w stand in it as they were. -/
abbrev Ext (w w' : World) : Prop := Below w.heap.size w w'
theorem ext_refl (w : World) : Ext w w := Below.refl _ _
theorem ext_trans {a b c : World} (h : Ext a b) (k : Ext b c) : Ext a c := h.trans (k.mono h.size)
theorem ext_trans' {a b c : World} {B : Nat} (h : Ext a b) (k : Below B b c) (hB : a.heap.size ≤ B) : Ext a c := h.trans (k.mono hB)
theorem ext_drew {a b : World} (h : Ext a b) : Ext a b.drew := Below.drew h
theorem ext_alloc {a b : World} (h : Ext a b) (o : Obj) : Ext a (b.alloc o) := Below.alloc h h.size o
theorem ext_set {a b : World} (h : Ext a b) {p : Addr} (hp : a.heap.size ≤ p.block) (u : Value) : Ext a (b.setCell p u) := Below.setCell h hp u

/-- What the walk reads in a world that extends an older one. -/
theorem bcell {w w1 : World} (hb : Ext w w1) : (∀ b o, b < w.heap.size → w1.cell? ⟨b, o, none⟩ = w.cell? ⟨b, o, none⟩) ∧ (∀ b o, b < w.heap.size → w1.frozen? ⟨b, o, none⟩ = w.frozen? ⟨b, o, none⟩) :=
  ⟨fun b o h => hb.cell (p := ⟨b, o, none⟩) h, fun b o h => hb.frozen (p := ⟨b, o, none⟩) h⟩

/-- w' is w with more blocks, and with other contents of the blocks of S alone. -/
structure Chg (S : Nat → Prop) (w w' : World) : Prop where
  os : w'.os = w.os
  tape : w'.tape = w.tape
  output : w'.output = w.output
  size : w.heap.size ≤ w'.heap.size
  block : ∀ k, k < w.heap.size → ¬ S k → w'.heap[k]? = w.heap[k]?
theorem Chg.refl (S : Nat → Prop) (w : World) : Chg S w w := ⟨rfl, rfl, rfl, Nat.le_refl _, fun _ _ _ => rfl⟩
theorem Chg.trans {S : Nat → Prop} {a b c : World} (h : Chg S a b) (k : Chg S b c) : Chg S a c :=
  ⟨k.os.trans h.os, k.tape.trans h.tape, k.output.trans h.output, Nat.le_trans h.size k.size, fun i hi hs => (k.block i (Nat.lt_of_lt_of_le hi h.size) hs).trans (h.block i hi hs)⟩
theorem Chg.mono {S T : Nat → Prop} {a b : World} (h : Chg S a b) (hs : ∀ k, k < a.heap.size → S k → T k) : Chg T a b :=
  ⟨h.os, h.tape, h.output, h.size, fun k hk ht => h.block k hk (fun s => ht (hs k hk s))⟩
theorem Chg.ofExt {S : Nat → Prop} {a b : World} (h : Ext a b) : Chg S a b := ⟨h.os, h.tape, h.output, h.size, fun k hk _ => h.block k hk⟩
theorem Chg.ext {S : Nat → Prop} {a b : World} (h : Chg S a b) (hs : ∀ k, k < a.heap.size → ¬ S k) : Ext a b := ⟨h.os, h.tape, h.output, h.size, fun k hk => h.block k hk (hs k hk)⟩
theorem Chg.drew {S : Nat → Prop} {a b : World} (h : Chg S a b) : Chg S a b.drew := ⟨h.os, h.tape, h.output, h.size, h.block⟩
theorem Chg.alloc {S : Nat → Prop} {a b : World} (h : Chg S a b) (o : Obj) : Chg S a (b.alloc o) :=
  h.trans (Chg.ofExt (ext_alloc (ext_refl b) o))
theorem Chg.setCell {S : Nat → Prop} {a b : World} (h : Chg S a b) {p : Addr} (hp : a.heap.size ≤ p.block ∨ S p.block) (u : Value) : Chg S a (b.setCell p u) :=
  ⟨h.os, h.tape, h.output, by simpa [World.setCell] using h.size, fun k hk hs => by
    rw [Below.heap_setCell _ _ _ _ (by rintro rfl; rcases hp with hp | hp; omega; exact hs hp)]; exact h.block k hk hs⟩
/-- An extension of a world whose own blocks were changed within S. -/
theorem ext_chg {S : Nat → Prop} {a b c : World} (h : Ext a b) (k : Chg S b c) (hs : ∀ i, S i → a.heap.size ≤ i) : Ext a c :=
  h.trans ⟨k.os, k.tape, k.output, k.size, fun i hi => k.block i (Nat.lt_of_lt_of_le hi h.size) (fun s => by have := hs i s; omega)⟩


theorem cell_alloc_new (w : World) (cs : Array Value) (t : TypeId) (i : Nat) : (w.alloc (.cells cs t)).cell? ⟨w.heap.size, i, none⟩ = cs[i]? := by
  unfold World.cell?; dsimp only; rw [heap_alloc_new]; simp
/-- Boxes made at a function's head: the world behind them under a name; what their cells hold in every world that extends it. -/
theorem box1 (w : World) (cs : Array Value) (t : TypeId) : ∃ W0, W0 = w.alloc (.cells cs t) ∧ Ext w W0 ∧ ∀ w', Ext W0 w' → ∀ i, w'.cell? ⟨w.heap.size, i, none⟩ = cs[i]? :=
  ⟨_, rfl, ext_alloc (ext_refl _) _, fun w' h i => by
    rw [h.cell (p := ⟨w.heap.size, i, none⟩) (by simp)]; exact cell_alloc_new _ _ _ _⟩
theorem box2 (w : World) (cs : Array Value) (t : TypeId) (ds : Array Value) (u : TypeId) : ∃ W0, W0 = (w.alloc (.cells cs t)).alloc (.cells ds u) ∧ Ext w W0 ∧
    (∀ w', Ext W0 w' → ∀ i, w'.cell? ⟨w.heap.size, i, none⟩ = cs[i]?) ∧ ∀ w', Ext W0 w' → ∀ i, w'.cell? ⟨w.heap.size + 1, i, none⟩ = ds[i]? :=
  ⟨_, rfl, ext_alloc (ext_alloc (ext_refl _) _) _, fun w' h i => by
    rw [h.cell (p := ⟨w.heap.size, i, none⟩) (by simp; omega)]
    rw [(ext_alloc (ext_refl (w.alloc (.cells cs t))) _).cell (p := ⟨w.heap.size, i, none⟩) (by simp)]; exact cell_alloc_new _ _ _ _, fun w' h i => by
    rw [h.cell (p := ⟨w.heap.size + 1, i, none⟩) (by simp)]
    simp⟩

theorem box3e (w : World) (cs : Array Value) (t : TypeId) (ds : Array Value) (u : TypeId) (es : Array Value) (v : TypeId) : ∃ W0, W0 = ((w.alloc (.cells cs t)).alloc (.cells ds u)).alloc (.cells es v) ∧ Ext w W0 ∧
    (∀ w', Ext W0 w' → ∀ i, w'.cell? ⟨w.heap.size, i, none⟩ = cs[i]?) ∧ (∀ w', Ext W0 w' → ∀ i, w'.cell? ⟨w.heap.size + 1, i, none⟩ = ds[i]?) ∧ ∀ w', Ext W0 w' → ∀ i, w'.cell? ⟨w.heap.size + 2, i, none⟩ = es[i]? := by
  obtain ⟨W1, rfl, h1, h2, h3⟩ := box2 w cs t ds u
  refine ⟨_, rfl, ext_alloc h1 _, fun w' h i => ?_, fun w' h i => ?_, fun w' h i => ?_⟩
  · exact h2 w' (ext_trans (ext_alloc (ext_refl _) _) h) i
  · exact h3 w' (ext_trans (ext_alloc (ext_refl _) _) h) i
  · rw [h.cell (p := ⟨w.heap.size + 2, i, none⟩) (by simp)]
    have := cell_alloc_new ((w.alloc (.cells cs t)).alloc (.cells ds u)) es v i
    have e : ((w.alloc (.cells cs t)).alloc (.cells ds u)).heap.size = w.heap.size + 2 := by simp
    rw [e] at this; exact this
theorem ext_drewN {a b : World} (h : Ext a b) (n : Nat) : Ext a (b.drewN n) := h.trans ⟨rfl, rfl, rfl, Nat.le_refl _, fun _ _ => rfl⟩
theorem ext_alloc2 {a b : World} (h : Ext a b) (o0 o1 : Obj) : Ext a ((b.alloc o0).alloc o1) := (ext_alloc (ext_alloc h _) _)
theorem ext_alloc2_drew {a b : World} (h : Ext a b) (o0 o1 : Obj) : Ext a ((b.alloc o0).alloc o1).drew := ext_drew (ext_alloc (ext_alloc h _) _)
theorem ext_alloc2_drewN {a b : World} (h : Ext a b) (o0 o1 : Obj) (n : Nat) : Ext a (((b.alloc o0).alloc o1).drewN n) := ext_drewN (ext_alloc (ext_alloc h _) _) n
theorem ext_alloc3 {a b : World} (h : Ext a b) (o0 o1 o2 : Obj) : Ext a (((b.alloc o0).alloc o1).alloc o2) := (ext_alloc (ext_alloc (ext_alloc h _) _) _)
theorem ext_alloc3_drew {a b : World} (h : Ext a b) (o0 o1 o2 : Obj) : Ext a (((b.alloc o0).alloc o1).alloc o2).drew := ext_drew (ext_alloc (ext_alloc (ext_alloc h _) _) _)
theorem ext_alloc3_drewN {a b : World} (h : Ext a b) (o0 o1 o2 : Obj) (n : Nat) : Ext a ((((b.alloc o0).alloc o1).alloc o2).drewN n) := ext_drewN (ext_alloc (ext_alloc (ext_alloc h _) _) _) n
theorem ext_alloc4 {a b : World} (h : Ext a b) (o0 o1 o2 o3 : Obj) : Ext a ((((b.alloc o0).alloc o1).alloc o2).alloc o3) := (ext_alloc (ext_alloc (ext_alloc (ext_alloc h _) _) _) _)
theorem ext_alloc4_drew {a b : World} (h : Ext a b) (o0 o1 o2 o3 : Obj) : Ext a ((((b.alloc o0).alloc o1).alloc o2).alloc o3).drew := ext_drew (ext_alloc (ext_alloc (ext_alloc (ext_alloc h _) _) _) _)
theorem ext_alloc4_drewN {a b : World} (h : Ext a b) (o0 o1 o2 o3 : Obj) (n : Nat) : Ext a (((((b.alloc o0).alloc o1).alloc o2).alloc o3).drewN n) := ext_drewN (ext_alloc (ext_alloc (ext_alloc (ext_alloc h _) _) _) _) n
theorem ext_alloc5 {a b : World} (h : Ext a b) (o0 o1 o2 o3 o4 : Obj) : Ext a (((((b.alloc o0).alloc o1).alloc o2).alloc o3).alloc o4) := (ext_alloc (ext_alloc (ext_alloc (ext_alloc (ext_alloc h _) _) _) _) _)
theorem ext_alloc5_drew {a b : World} (h : Ext a b) (o0 o1 o2 o3 o4 : Obj) : Ext a (((((b.alloc o0).alloc o1).alloc o2).alloc o3).alloc o4).drew := ext_drew (ext_alloc (ext_alloc (ext_alloc (ext_alloc (ext_alloc h _) _) _) _) _)
theorem ext_alloc5_drewN {a b : World} (h : Ext a b) (o0 o1 o2 o3 o4 : Obj) (n : Nat) : Ext a ((((((b.alloc o0).alloc o1).alloc o2).alloc o3).alloc o4).drewN n) := ext_drewN (ext_alloc (ext_alloc (ext_alloc (ext_alloc (ext_alloc h _) _) _) _) _) n
theorem ext_alloc1_drew {a b : World} (h : Ext a b) (o : Obj) : Ext a (b.alloc o).drew := ext_drew (ext_alloc h _)
theorem ext_alloc1_drewN {a b : World} (h : Ext a b) (o : Obj) (n : Nat) : Ext a ((b.alloc o).drewN n) := ext_drewN (ext_alloc h _) n
attribute [go_sem] ext_alloc ext_drew ext_drewN ext_alloc2 ext_alloc2_drew ext_alloc2_drewN ext_alloc3 ext_alloc3_drew ext_alloc3_drewN ext_alloc4 ext_alloc4_drew ext_alloc4_drewN ext_alloc5 ext_alloc5_drew ext_alloc5_drewN ext_alloc1_drew ext_alloc1_drewN
theorem Chg.drewN {S : Nat → Prop} {a b : World} (h : Chg S a b) (n : Nat) : Chg S a (b.drewN n) := ⟨h.os, h.tape, h.output, h.size, h.block⟩
attribute [go_sem] Chg.alloc Chg.drew Chg.drewN
theorem ret_int {k : IntKind} {a b : Int} (h : a = b) : Ending.returned (.int k a) = .returned (.int k b) := by rw [h]
end Go.Proofs.Ytkicofagjebnjaa

/- An operation of layer 16, as it lies in a slice. -/
import Derived.Test.YtnfmgojloahfkaaOp2
import Derived.Test.YtnfmgojloahfkaaWd
namespace Go.Proofs.Ytnfmgojloahfkaa
open Go.RowKit
set_option linter.unusedVariables false
set_option linter.unusedSimpArgs false

/-- An operation, as it lies in a slice. -/
structure OpD where
  o0 : Int
  o1 : Int
  o2 : Int
  o3 : Int
  o4 : Int
  o5 : Int
  o6 : Int
instance : Inhabited OpD := ⟨⟨0, 0, 0, 0, 0, 0, 0⟩⟩
def opC (x : OpD) : List Value := [.int .i64 x.o0, .int .i64 x.o1, .int .i64 x.o2, .int .i64 x.o3, .int .i64 x.o4, .int .i64 x.o5, .int .i64 x.o6]
/-- The cells of one operation. -/
theorem op_cells {w W1 : World} {s : Option Addr} {len : Nat} {O : Nat → OpD} (h : Rows_ w s len 7 (fun i => opC (O i))) (hx : Ext w W1) {i : Nat} (hi : i < len) :
    ∃ b o, s = some ⟨b, o, none⟩ ∧ b < W1.heap.size ∧ W1.cell? ⟨b, o + i * 7, none⟩ = some (.int .i64 (O i).o0) ∧ W1.cell? ⟨b, o + i * 7 + 1, none⟩ = some (.int .i64 (O i).o1) ∧ W1.cell? ⟨b, o + i * 7 + 2, none⟩ = some (.int .i64 (O i).o2) ∧
      W1.cell? ⟨b, o + i * 7 + 3, none⟩ = some (.int .i64 (O i).o3) ∧ W1.cell? ⟨b, o + i * 7 + 4, none⟩ = some (.int .i64 (O i).o4) ∧ W1.cell? ⟨b, o + i * 7 + 5, none⟩ = some (.int .i64 (O i).o5) ∧ W1.cell? ⟨b, o + i * 7 + 6, none⟩ = some (.int .i64 (O i).o6) := by
  obtain ⟨b, o, rfl, hb, hr⟩ := h (by omega)
  have hk : ∀ k, k < 7 → W1.cell? ⟨b, o + i * 7 + k, none⟩ = (opC (O i))[k]? := fun k hk => by
    rw [hx.cell (p := ⟨b, o + i * 7 + k, none⟩) hb, ← (hr i hi).2 k hk, Nat.add_assoc]
  exact ⟨b, o, rfl, Nat.lt_of_lt_of_le hb hx.size, hk 0 (by decide), hk 1 (by decide), hk 2 (by decide), hk 3 (by decide), hk 4 (by decide), hk 5 (by decide), hk 6 (by decide)⟩
theorem rows_on {w W1 : World} {s : Option Addr} {len n : Nat} {f : Nat → List Value} (h : Rows_ w s len n f) (hx : Ext w W1) : Rows_ W1 s len n f := fun hl => by
  obtain ⟨b, o, hs, hb, hr⟩ := h hl
  exact ⟨b, o, hs, Nat.lt_of_lt_of_le hb hx.size, fun i hi => ⟨(hr i hi).1, fun k hk => by rw [hx.cell (p := ⟨b, o + (i * n + k), none⟩) hb]; exact (hr i hi).2 k hk⟩⟩
theorem rows_congr {w : World} {s : Option Addr} {len n : Nat} {f g : Nat → List Value} (h : Rows_ w s len n f) (hf : ∀ i, i < len → f i = g i) : Rows_ w s len n g := fun hl => by
  obtain ⟨b, o, hs, hb, hr⟩ := h hl
  exact ⟨b, o, hs, hb, fun i hi => by rw [← hf i hi]; exact hr i hi⟩
section
open Go.Deep
variable {H : Type} {enc : TypeId × Value → H} {P : Program} {w : World} {base : Nat} {spare : Nat → Bool} {held : Bool}
theorem ops_of {len : Nat} {f : Nat → List Value} (h : ∀ i, i < len → AllOk enc P w base spare held [.int .i64, .int .i64, .int .i64, .int .i64, .int .i64, .int .i64, .int .i64] (f i)) : ∃ O : Nat → OpD, ∀ i, i < len → f i = opC (O i) := by
  refine choose_lt (p := fun i x => f i = opC x) fun i hi => ?_
  have h := h i hi
  generalize f i = l at h ⊢
  obtain ⟨c0, t0, rfl, ⟨a0, rfl, _⟩, g0⟩ := allOk_cons h
  obtain ⟨c1, t1, rfl, ⟨a1, rfl, _⟩, g1⟩ := allOk_cons g0
  obtain ⟨c2, t2, rfl, ⟨a2, rfl, _⟩, g2⟩ := allOk_cons g1
  obtain ⟨c3, t3, rfl, ⟨a3, rfl, _⟩, g3⟩ := allOk_cons g2
  obtain ⟨c4, t4, rfl, ⟨a4, rfl, _⟩, g4⟩ := allOk_cons g3
  obtain ⟨c5, t5, rfl, ⟨a5, rfl, _⟩, g5⟩ := allOk_cons g4
  obtain ⟨c6, t6, rfl, ⟨a6, rfl, _⟩, g6⟩ := allOk_cons g5
  obtain rfl := allOk_nil g6
  exact ⟨⟨a0, a1, a2, a3, a4, a5, a6⟩, rfl⟩
end
theorem on_all {W1 w' : World} {o : Obj} {b i : Nat} {c : Option Value} (h : Ext (W1.alloc o) w') (hb : b < W1.heap.size) (hc : W1.cell? ⟨b, i, none⟩ = c) : w'.cell? ⟨b, i, none⟩ = c := by
  rw [h.cell (p := ⟨b, i, none⟩) (by simp; omega), (ext_alloc (ext_refl W1) o).cell (p := ⟨b, i, none⟩) hb]; exact hc
theorem mx_mn_bd (a : Int) : 0 ≤ mx (mn a 1048576) 0 ∧ mx (mn a 1048576) 0 ≤ 1048576 := by unfold mx mn; (repeat' split) <;> omega
end Go.Proofs.Ytnfmgojloahfkaa

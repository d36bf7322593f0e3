/- An instruction, as it lies in a slice; which programs are right. -/
import Derived.Test.YtpfkpdimjljeaaaS10
import Derived.Test.YtpfkpdimjljeaaaOp2
import Derived.Test.YtpfkpdimjljeaaaWg
namespace Go.Proofs.Ytpfkpdimjljeaaa
open Go.RowKit
set_option linter.unusedVariables false
set_option linter.unusedSimpArgs false

def insC (x : Ins) : List Value := [.int .u8 x.op, .int .i64 x.a, .int .i64 x.b, .int .i64 x.c, .int .i64 x.n, .string x.s]
def lastB (o : Int) : Bool := decide (o = 8) || decide (o = 15) || decide (o = 16)
/-- Which programs are right. -/
def checkN (name : ByteArray) (regs : Int) (len : Nat) (I : Nat → Ins) (pol : Int) : Bool :=
  nameB name && decide (1 ≤ regs) && decide (regs ≤ 16) && decide (1 ≤ (len : Int)) && decide ((len : Int) ≤ 500) && (List.range len).all (fun i => fitsB regs len pol (I i)) && lastB (I (len - 1)).op
/-- What Check answers. -/
def checkE (name : ByteArray) (regs : Int) (len : Nat) (I : Nat → Ins) (pol : Int) : Int := if checkN name regs len I pol = true then 0 else 100
theorem ins_cells {w W1 : World} {s : Option Addr} {len : Nat} {I : Nat → Ins} (h : Rows_ w s len 6 (fun i => insC (I i))) (hx : Ext w W1) {i : Nat} (hi : i < len) :
    ∃ b o, s = some ⟨b, o, none⟩ ∧ b < W1.heap.size ∧ W1.cell? ⟨b, o + i * 6, none⟩ = some (.int .u8 (I i).op) ∧ W1.cell? ⟨b, o + i * 6 + 1, none⟩ = some (.int .i64 (I i).a) ∧ W1.cell? ⟨b, o + i * 6 + 2, none⟩ = some (.int .i64 (I i).b) ∧
      W1.cell? ⟨b, o + i * 6 + 3, none⟩ = some (.int .i64 (I i).c) ∧ W1.cell? ⟨b, o + i * 6 + 4, none⟩ = some (.int .i64 (I i).n) ∧ W1.cell? ⟨b, o + i * 6 + 5, none⟩ = some (.string (I i).s) := by
  obtain ⟨b, o, rfl, hb, hr⟩ := h (by omega)
  have hk : ∀ k, k < 6 → W1.cell? ⟨b, o + i * 6 + k, none⟩ = (insC (I i))[k]? := fun k hk => by
    rw [hx.cell (p := ⟨b, o + i * 6 + k, none⟩) hb, ← (hr i hi).2 k hk, Nat.add_assoc]
  exact ⟨b, o, rfl, Nat.lt_of_lt_of_le hb hx.size, hk 0 (by decide), hk 1 (by decide), hk 2 (by decide), hk 3 (by decide), hk 4 (by decide), hk 5 (by decide)⟩
end Go.Proofs.Ytpfkpdimjljeaaa

/- What run's functions do: a run under way in memory; stop. -/
import Derived.Test.YtpfkpdimjljeaaaE10
namespace Go.Proofs.Ytpfkpdimjljeaaa
open Go.RowKit
set_option linter.unusedVariables false
set_option linter.unusedSimpArgs false

/-- A run under way, as it lies in memory. -/
structure Rn where
  name : ByteArray
  regs : Int
  cs : Option Addr
  clen : Nat
  ccap : Nat
  r : Nat → Int
  at' : Int
  ks : Option Addr
  klen : Nat
  kcap : Nat
  ss : Option Addr
  slen : Nat
  scap : Nat
  st : Int
  os : Int
  ov : Int
  on : Int
  ms : Option Addr
  mlen : Nat
  mcap : Nat
  sig : Int
  steps : Int
def rnC (R : Rn) : Array Value := #[  .string R.name, .int .i64 R.regs, .slice R.cs R.clen R.ccap, .int .i64 (R.r 0), .int .i64 (R.r 1), .int .i64 (R.r 2), .int .i64 (R.r 3), .int .i64 (R.r 4), .int .i64 (R.r 5), .int .i64 (R.r 6), .int .i64 (R.r 7), .int .i64 (R.r 8), .int .i64 (R.r 9), .int .i64 (R.r 10), .int .i64 (R.r 11), .int .i64 (R.r 12), .int .i64 (R.r 13), .int .i64 (R.r 14), .int .i64 (R.r 15), .int .i64 R.at', .slice R.ks R.klen R.kcap, .slice R.ss R.slen R.scap, .int .i64 R.st, .int .i64 R.os, .int .i64 R.ov, .int .i64 R.on, .slice R.ms R.mlen R.mcap, .int .i64 R.sig, .int .i64 R.steps]
/-- Block b holds these cells, none of them frozen. -/
def At (w : World) (b : Nat) (cs : Array Value) : Prop := (∀ i, w.cell? ⟨b, i, none⟩ = cs[i]?) ∧ ∀ i, w.frozen? ⟨b, i, none⟩ = false
theorem at_lt {w : World} {b : Nat} {cs : Array Value} (h : At w b cs) (hc : 0 < cs.size) : b < w.heap.size := by
  have := h.1 0
  rw [Array.getElem?_eq_getElem hc] at this
  exact World.block_lt_of_cell? w _ this
theorem at_ext {w w' : World} {b : Nat} {cs : Array Value} (h : At w b cs) (hc : 0 < cs.size) (hx : Ext w w') : At w' b cs :=
  ⟨fun i => (hx.cell (p := ⟨b, i, none⟩) (at_lt h hc)).trans (h.1 i), fun i => (hx.frozen (p := ⟨b, i, none⟩) (at_lt h hc)).trans (h.2 i)⟩
theorem at_set {w : World} {b j : Nat} {cs : Array Value} {v : Value} (h : At w b cs) (hj : j < cs.size) : At (w.setCell ⟨b, j, none⟩ v) b (cs.setIfInBounds j v) := by
  refine ⟨fun i => ?_, fun i => ?_⟩
  · rw [Array.getElem?_setIfInBounds]
    by_cases hij : j = i
    · subst hij
      rw [if_pos rfl, if_pos hj]
      exact World.cell?_setCell_same' _ _ _ (by rw [h.1 j, Array.getElem?_eq_getElem hj]; rfl)
    · rw [if_neg hij, ← h.1 i]
      exact World.cell?_setCell_other _ _ _ _ (by intro h2; injection h2 with _ h3; exact hij h3)
  · rw [World.frozen?_setCell]; exact h.2 i
theorem chg_set {w : World} {b j : Nat} {v : Value} : Chg (fun k => k = b) w (w.setCell ⟨b, j, none⟩ v) := Chg.setCell (S := fun k => k = b) (p := ⟨b, j, none⟩) (Chg.refl _ _) (.inr rfl) v
theorem rn_size (R : Rn) : (rnC R).size = 29 := rfl

theorem stop_calls (R : Rn) (a : Int) (bx : Nat) (w : World) (h : At w bx (rnC R)) :
    Calls Try.prog 24 #[.pointer (some ⟨bx, 0, none⟩), .int .i64 a] w fun e w' => e = .returned (.bool false) ∧ Chg (fun k => k = bx) w w' ∧ At w' bx (rnC { R with st := a }) := by
  have hc : w.cell? ⟨bx, 22, none⟩ = some (.int .i64 R.st) := h.1 22
  have hf : w.frozen? ⟨bx, 22, none⟩ = false := h.2 22
  go_enter Try.func24, Try.ntmps24
  go_wp2
  go_ret
  exact ⟨rfl, chg_set, at_set h (by rw [rn_size]; decide)⟩
end Go.Proofs.Ytpfkpdimjljeaaa

/- What run's functions do: a run under way in memory; stop. -/
import Derived.Test.YtpfkpdimjljeaaaE10
import Derived.Test.YtpfkpdimjljeaaaWb
namespace Go.Proofs.Ytpfkpdimjljeaaa
open Go.RowKit
set_option linter.unusedVariables false
set_option linter.unusedSimpArgs false

/-- A run under way, as it lies in memory. -/
structure Rn where
  name : ByteArray
  regs : Int
  cs : Option Addr
  clen : Nat
  ccap : Nat
  r : Nat → Int
  at' : Int
  ks : Option Addr
  klen : Nat
  kcap : Nat
  ss : Option Addr
  slen : Nat
  scap : Nat
  st : Int
  os : Int
  ov : Int
  on : Int
  ms : Option Addr
  mlen : Nat
  mcap : Nat
  sig : Int
  steps : Int
def rnC (R : Rn) : Array Value := #[  .string R.name, .int .i64 R.regs, .slice R.cs R.clen R.ccap, .int .i64 (R.r 0), .int .i64 (R.r 1), .int .i64 (R.r 2), .int .i64 (R.r 3), .int .i64 (R.r 4), .int .i64 (R.r 5), .int .i64 (R.r 6), .int .i64 (R.r 7), .int .i64 (R.r 8), .int .i64 (R.r 9), .int .i64 (R.r 10), .int .i64 (R.r 11), .int .i64 (R.r 12), .int .i64 (R.r 13), .int .i64 (R.r 14), .int .i64 (R.r 15), .int .i64 R.at', .slice R.ks R.klen R.kcap, .slice R.ss R.slen R.scap, .int .i64 R.st, .int .i64 R.os, .int .i64 R.ov, .int .i64 R.on, .slice R.ms R.mlen R.mcap, .int .i64 R.sig, .int .i64 R.steps]
theorem rn_size (R : Rn) : (rnC R).size = 29 := rfl

theorem stop_calls (R : Rn) (a : Int) (bx : Nat) (w : World) (h : At w bx (rnC R)) :
    Calls Try.prog 24 #[.pointer (some ⟨bx, 0, none⟩), .int .i64 a] w fun e w' => e = .returned (.bool false) ∧ Chg (fun k => k = bx) w w' ∧ At w' bx (rnC { R with st := a }) := by
  have hc : w.cell? ⟨bx, 22, none⟩ = some (.int .i64 R.st) := h.1 22
  have hf : w.frozen? ⟨bx, 22, none⟩ = false := h.2 22
  go_enter Try.func24, Try.ntmps24
  go_wp2
  go_ret
  exact ⟨rfl, chg_set, at_set h (by rw [rn_size]; decide)⟩
end Go.Proofs.Ytpfkpdimjljeaaa

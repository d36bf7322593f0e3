/- What events and histories are, in plain Lean. -/
import Derived.Test.YthpgmefjgidkgaaS10
namespace Go.Proofs.Ythpgmefjgidkgaa
set_option linter.unusedVariables false
set_option linter.unusedSimpArgs false

/-- An event. -/
structure Ev where
  k : Int
  at' : Int
  n : Int
  p : Int
  a : Int
  b : Int
  s : ByteArray
instance : Inhabited Ev := ⟨⟨0, 0, 0, 0, 0, 0, ByteArray.empty⟩⟩
instance : Inhabited Cmd := ⟨⟨0, 0, ByteArray.empty, 0, 0⟩⟩
instance : Inhabited Kno := ⟨⟨0, ⟨0, 0⟩⟩⟩
/-- A history. -/
structure Hs where
  prog : ByteArray
  arg : Int
  cmds : List Cmd
  tries : List Int
  known : List Kno
  sigs : List Int
  stopped : Bool
  closed : Bool
  out : Out
  len : Int
  last : Int
def hs0 : Hs := ⟨ByteArray.empty, 0, [], [], [], [], false, false, ⟨0, 0⟩, 0, 0⟩
def noneB (s : ByteArray) : Bool := decide (s.toList = [])
def numB (n : Int) : Bool := decide (1 ≤ n) && decide (n ≤ 200)
def statB (n : Int) : Bool := decide (0 ≤ n) && decide (n ≤ 3)
def plainB (e : Ev) : Bool := decide (e.b = 0) && noneB e.s
/-- Is a command's beginning right? -/
def beginB (p a b : Int) (s : ByteArray) : Bool :=
  if p = 1 then nameB s && (decide (0 ≤ b) && decide (b < 20)) else if p = 2 then noneB s && (decide (0 ≤ a) && decide (b = 0)) else if p = 3 then nameB s && decide (b = 0) else false
/-- What a kind of event has. -/
def kindB (e : Ev) : Bool :=
  if e.k = 1 then nameB e.s && (decide (e.n = 0) && (decide (e.p = 0) && decide (e.b = 0)))
  else if e.k = 2 then numB e.n && (decide (0 ≤ e.p) && (decide (e.p ≤ 3) && beginB e.p e.a e.b e.s))
  else if e.k = 3 then numB e.n && (decide (1 ≤ e.p) && (decide (e.p ≤ 100) && (decide (e.a = 0) && plainB e)))
  else if e.k = 4 then numB e.n && (statB e.p && plainB e)
  else if e.k = 5 then decide (e.n = 0) && (decide (e.p = 0) && plainB e)
  else if e.k = 6 then decide (e.n = 0) && (decide (e.p = 0) && (decide (e.a = 0) && plainB e))
  else if e.k = 7 then decide (e.n = 0) && (statB e.p && plainB e)
  else false
/-- Is an event right? -/
def evR (e : Ev) : Bool := decide (1 ≤ e.k) && (decide (e.k ≤ 7) && (decide (0 ≤ e.at') && (decide (e.at' ≤ 1099511627776) && kindB e)))
end Go.Proofs.Ythpgmefjgidkgaa

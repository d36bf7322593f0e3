/- What programs and runs are, in plain Lean: which programs are right, and how a run goes, step by step. -/
import Derived.IntWalk
namespace Go.Proofs.Ythpgmefjgidkgaa
set_option linter.unusedVariables false
set_option linter.unusedSimpArgs false

/-- An instruction. -/
structure Ins where
  op : Int
  a : Int
  b : Int
  c : Int
  n : Int
  s : ByteArray
instance : Inhabited Ins := ⟨⟨0, 0, 0, 0, 0, ByteArray.empty⟩⟩
def nameB (s : ByteArray) : Bool := decide (1 ≤ (s.size : Int)) && decide ((s.size : Int) ≤ 40)
/-- Has a number the letter that its place has? -/
def letB (regs ncode pol : Int) : Nat → Int → Bool
  | 114, n => decide (0 ≤ n) && decide (n < regs)
  | 106, n => decide (0 ≤ n) && decide (n < ncode)
  | 112, n => decide (0 ≤ n) && decide (n < pol)
  | 110, _ => true
  | _, n => decide (0 ≤ n) && decide (n < 1)
/-- The letters of an Op (bytes). -/
def shapeL (op : Int) : List Nat :=
  if op = 1 then [114, 45, 45, 110, 45] else if op = 2 then [114, 114, 45, 45, 45] else if op = 3 then [114, 114, 114, 45, 45] else if op = 4 then [114, 114, 114, 45, 45] else if op = 5 then [114, 114, 114, 45, 45]
  else if op = 6 then [114, 114, 114, 45, 45] else if op = 7 then [114, 114, 114, 45, 45] else if op = 8 then [45, 45, 45, 106, 45] else if op = 9 then [114, 45, 45, 106, 45] else if op = 10 then [114, 114, 112, 45, 115]
  else if op = 11 then [114, 114, 45, 45, 45] else if op = 12 then [114, 114, 45, 45, 115] else if op = 13 then [114, 114, 114, 45, 45] else if op = 14 then [114, 45, 45, 45, 45] else if op = 15 then [114, 45, 45, 45, 45] else if op = 16 then [114, 45, 45, 45, 45] else []
def fitsB (regs ncode pol : Int) (i : Ins) : Bool :=
  match shapeL i.op with
  | [x, y, z, u, v] => letB regs ncode pol x i.a && letB regs ncode pol y i.b && letB regs ncode pol z i.c && letB regs ncode pol u i.n && (if v = 115 then nameB i.s else decide (i.s.size = 0))
  | _ => false
def checkB (name : ByteArray) (regs : Int) (code : List Ins) (pol : Int) : Bool :=
  nameB name && decide (1 ≤ regs) && decide (regs ≤ 16) && decide (1 ≤ code.length) && decide (code.length ≤ 500) && code.all (fitsB regs code.length pol) &&
    (decide ((code.getLast?.getD default).op = 8) || decide ((code.getLast?.getD default).op = 15) || decide ((code.getLast?.getD default).op = 16))

structure Out where
  st : Int
  v : Int
deriving DecidableEq
structure Kno where
  n : Int
  out : Out
structure Cmd where
  n : Int
  kind : Int
  s : ByteArray
  arg : Int
  policy : Int
deriving DecidableEq
/-- How a program stands. -/
structure Stand where
  at' : Int
  out : Out
  on : Int
  cmds : List Cmd
  signals : Nat
  steps : Nat
/-- A run under way: the registers, the place, what has been begun, how many signals were taken. -/
structure St where
  r : Nat → Int
  at' : Int
  cmds : List Cmd
  sig : Nat
def put (r : Nat → Int) (a : Int) (v : Int) : Nat → Int := fun k => if k = a.toNat then v else r k
end Go.Proofs.Ythpgmefjgidkgaa

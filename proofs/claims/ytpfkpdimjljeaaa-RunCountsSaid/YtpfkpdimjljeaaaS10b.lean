/- A run, in plain; one word for what a step leaves. -/
import Derived.Test.YtpfkpdimjljeaaaT10b
namespace Go.Proofs.Ytpfkpdimjljeaaa
open Go.RowKit
set_option linter.unusedVariables false
set_option linter.unusedSimpArgs false

theorem fits_op {regs nc pol : Int} {i : Ins} (h : fitsB regs nc pol i = true) : 1 ≤ i.op ∧ i.op ≤ 16 := by
  by_cases hb : 1 ≤ i.op ∧ i.op ≤ 16
  · exact hb
  · exfalso
    have hs : shapeL i.op = [] := by
      unfold shapeL
      rw [if_neg (by omega : ¬ i.op = 1)]; rw [if_neg (by omega : ¬ i.op = 2)]; rw [if_neg (by omega : ¬ i.op = 3)]; rw [if_neg (by omega : ¬ i.op = 4)]; rw [if_neg (by omega : ¬ i.op = 5)]; rw [if_neg (by omega : ¬ i.op = 6)]; rw [if_neg (by omega : ¬ i.op = 7)]; rw [if_neg (by omega : ¬ i.op = 8)]; rw [if_neg (by omega : ¬ i.op = 9)]; rw [if_neg (by omega : ¬ i.op = 10)]; rw [if_neg (by omega : ¬ i.op = 11)]; rw [if_neg (by omega : ¬ i.op = 12)]; rw [if_neg (by omega : ¬ i.op = 13)]; rw [if_neg (by omega : ¬ i.op = 14)]; rw [if_neg (by omega : ¬ i.op = 15)]; rw [if_neg (by omega : ¬ i.op = 16)]
    unfold fitsB at h
    rw [hs] at h
    exact absurd h (by simp)
/-- A run under way, in plain. -/
structure Rs where
  r : Nat → Int
  pc : Int
  cmds : List Cmd
  sig : Nat
  steps : Nat
  st : Int
  os : Int
  ov : Int
  on : Int
/-- What a step makes of a run; false: it stands. -/
def stepP (i : Ins) (look : Int → Option Out) (sg : Nat → Option Int) (x : Rs) : Bool × Rs :=
  let y : Rs := { x with pc := x.pc + 1 }
  if i.op = 1 then (true, { y with r := putR x.r i.a.toNat i.n })
  else if i.op = 2 then (true, { y with r := putR x.r i.a.toNat (x.r i.b.toNat) })
  else if i.op = 3 then (true, { y with r := putR x.r i.a.toNat (wrap64 (x.r i.b.toNat + x.r i.c.toNat)) })
  else if i.op = 4 then (true, { y with r := putR x.r i.a.toNat (wrap64 (x.r i.b.toNat - x.r i.c.toNat)) })
  else if i.op = 5 then (true, { y with r := putR x.r i.a.toNat (wrap64 (x.r i.b.toNat * x.r i.c.toNat)) })
  else if i.op = 6 then (true, { y with r := putR x.r i.a.toNat (b2i (decide (x.r i.b.toNat < x.r i.c.toNat))) })
  else if i.op = 7 then (true, { y with r := putR x.r i.a.toNat (b2i (decide (x.r i.b.toNat = x.r i.c.toNat))) })
  else if i.op = 8 then (true, { x with pc := i.n })
  else if i.op = 9 then (if x.r i.a.toNat = 0 then (true, { x with pc := i.n }) else (true, y))
  else if i.op = 10 then (if x.cmds.length = 200 then (false, { y with st := 5 }) else (true, { y with r := putR x.r i.a.toNat (x.cmds.length + 1), cmds := x.cmds ++ [⟨x.cmds.length + 1, 1, i.s, x.r i.b.toNat, i.c⟩] }))
  else if i.op = 11 then (if x.cmds.length = 200 then (false, { y with st := 5 }) else (true, { y with r := putR x.r i.a.toNat (x.cmds.length + 1), cmds := x.cmds ++ [⟨x.cmds.length + 1, 2, i.s, mx (x.r i.b.toNat) 0, i.c⟩] }))
  else if i.op = 12 then (if x.cmds.length = 200 then (false, { y with st := 5 }) else (true, { y with r := putR x.r i.a.toNat (x.cmds.length + 1), cmds := x.cmds ++ [⟨x.cmds.length + 1, 3, i.s, x.r i.b.toNat, i.c⟩] }))
  else if i.op = 13 then (if 1 ≤ x.r i.b.toNat ∧ x.r i.b.toNat ≤ x.cmds.length then
      match look (x.r i.b.toNat) with
      | none => (false, { y with on := x.r i.b.toNat, st := 2 })
      | some o => (true, { y with r := putR (putR x.r i.a.toNat o.v) i.c.toNat o.st })
    else (true, { y with r := putR (putR x.r i.a.toNat 0) i.c.toNat 1 }))
  else if i.op = 14 then (match sg x.sig with
      | none => (false, { y with st := 3 })
      | some v => (true, { y with r := putR x.r i.a.toNat v, sig := x.sig + 1 }))
  else if i.op = 15 then (false, { y with st := 1, os := 0, ov := x.r i.a.toNat, steps := x.steps + 1 })
  else if i.op = 16 then (false, { y with st := 1, os := 1, ov := x.r i.a.toNat, steps := x.steps + 1 })
  else (true, y)
/-- Some steps. -/
def runP (I : Nat → Ins) (look : Int → Option Out) (sg : Nat → Option Int) : Nat → Rs → Rs
  | 0, x => { x with st := 4 }
  | n + 1, x => if (stepP (I x.pc.toNat) look sg x).1 = true then runP I look sg n { (stepP (I x.pc.toNat) look sg x).2 with steps := (stepP (I x.pc.toNat) look sg x).2.steps + 1 } else (stepP (I x.pc.toNat) look sg x).2
def lookK (K : Nat → Kno) (len : Nat) (m : Int) : Option Out := match (List.range len).find? (fun i => decide ((K i).n = m)) with | some i => some (K i).out | none => none
def sgF (S : Nat → Int) (len k : Nat) : Option Int := if k < len then some (S k) else none
theorem look_none {K : Nat → Kno} {len : Nat} {m : Int} (h : lookK K len m = none) : idxF K len m = -1 := by
  unfold lookK at h; unfold idxF
  cases hf : (List.range len).find? (fun i => decide ((K i).n = m)) with
  | none => rfl
  | some i => rw [hf] at h; cases h
theorem look_some {K : Nat → Kno} {len : Nat} {m : Int} {o : Out} (h : lookK K len m = some o) : ∃ i, i < len ∧ idxF K len m = i ∧ (K i).out = o := by
  unfold lookK at h; unfold idxF
  cases hf : (List.range len).find? (fun i => decide ((K i).n = m)) with
  | none => rw [hf] at h; cases h
  | some i =>
    rw [hf] at h
    injection h with h
    exact ⟨i, List.mem_range.1 (List.mem_of_find?_eq_some hf), rfl, h⟩
/-- What of a run's memory stays. -/
structure Fr where
  name : ByteArray
  regs : Int
  cs : Option Addr
  clen : Nat
  ccap : Nat
  ks : Option Addr
  klen : Nat
  kcap : Nat
  ss : Option Addr
  slen : Nat
  scap : Nat
def rnOf (F : Fr) (x : Rs) (ms : Option Addr) (cap : Nat) : Rn := ⟨F.name, F.regs, F.cs, F.clen, F.ccap, x.r, x.pc, F.ks, F.klen, F.kcap, F.ss, F.slen, F.scap, x.st, x.os, x.ov, x.on, ms, x.cmds.length, cap, x.sig, x.steps⟩
def StepPost (F : Fr) (bx base : Nat) (w : World) (b : Bool) (y : Rs) (e : Ending) (w' : World) : Prop :=
  e = .returned (.bool b) ∧ Chg (fun k => k = bx ∨ base ≤ k) w w' ∧ ∃ ms cap, At w' bx (rnC (rnOf F y ms cap)) ∧ w'.ownsRow base 55 5 (.slice ms y.cmds.length cap) y.cmds.length (cmdCs y.cmds)
theorem post_keep {F : Fr} {bx base : Nat} {w w' : World} {b : Bool} {x y : Rs} {ms : Option Addr} {cap : Nat} {R : Rn} (ho : w.ownsRow base 55 5 (.slice ms x.cmds.length cap) x.cmds.length (cmdCs x.cmds)) (hbx : bx < base)
    (g : Chg (fun k => k = bx) w w') (h : At w' bx (rnC R)) (hR : R = rnOf F y ms cap) (hc : y.cmds = x.cmds) : StepPost F bx base w b y (.returned (.bool b)) w' := by
  subst hR
  refine ⟨rfl, chg_b g, ms, cap, h, ?_⟩
  rw [hc]
  exact own_chg ho g (fun e => by have := (ho.lt _ e).1; omega)
end Go.Proofs.Ytpfkpdimjljeaaa

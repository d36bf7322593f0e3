/- What task computes, in plain Lean: a task by what is done to it. -/
import Derived.Test.YtnfmgojloahfkaaS15
namespace Go.Proofs.Ytnfmgojloahfkaa
set_option linter.unusedVariables false
set_option linter.unusedSimpArgs false

/-- A task. -/
structure Tsk where
  put : Int
  tries : Int
  state : Int
  ready : Int
  since : Int
  worker : Int
  tried : Int
  beat : Int
  os : Int
  ov : Int
deriving DecidableEq

def bareF (t : Tsk) (s : Int) : Tsk := ⟨t.put, t.tries, s, 0, 0, 0, 0, 0, 0, 0⟩
def beginF (at' : Int) : Tsk := ⟨mn (mx at' 0) 1099511627776, 0, 2, 0, mn (mx at' 0) 1099511627776, 0, 0, 0, 0, 0⟩
def overF (t : Tsk) (os ov : Int) : Tsk := ⟨t.put, t.tries, 4, 0, 0, 0, 0, 0, os, ov⟩
def againF (p : Pol) (t : Tsk) (os ov now jitter : Int) : Tsk :=
  if moreB p t.tries = true then ⟨t.put, t.tries, 1, plusF now (waitF p t.tries jitter), 0, 0, 0, 0, 0, 0⟩ else overF t os ov
def timesF (t : Tsk) : Tms :=
  if t.state = 2 then ⟨t.put, t.since, -1, -1⟩ else if t.state = 3 then ⟨t.put, -1, t.tried, t.beat⟩ else if t.state = 4 then ⟨-1, -1, -1, -1⟩ else ⟨t.put, -1, -1, -1⟩

def shapeT (p : Pol) (t : Tsk) : Bool :=
  if t.state = 1 then decide (1 ≤ t.tries) && decide (t.tries < p.most) && decide (t.put ≤ t.ready) && decide (t = ⟨t.put, t.tries, 1, t.ready, 0, 0, 0, 0, 0, 0⟩)
  else if t.state = 2 then decide (t.tries < p.most) && decide (t.put ≤ t.since) && decide (t = ⟨t.put, t.tries, 2, 0, t.since, 0, 0, 0, 0, 0⟩)
  else if t.state = 3 then decide (1 ≤ t.tries) && decide (1 ≤ t.worker) && decide (t.put ≤ t.tried) && decide (t.tried ≤ t.beat) && decide (t = ⟨t.put, t.tries, 3, 0, 0, t.worker, t.tried, t.beat, 0, 0⟩)
  else if t.state = 4 then decide (0 ≤ t.os) && decide (t.os ≤ 3) && decide (t = ⟨t.put, t.tries, 4, 0, 0, 0, 0, 0, t.os, t.ov⟩)
  else false
def rightT (p : Pol) (t : Tsk) : Bool :=
  rightB p && decide (0 ≤ t.tries) && decide (t.tries ≤ p.most) && tm t.put && tm t.ready && tm t.since && tm t.tried && tm t.beat && shapeT p t

def mayF (p : Pol) (t : Tsk) (now : Int) : Int :=
  if rightT p t = true then (if now < mx (mx (mx t.put t.since) t.tried) t.beat ∨ 1099511627776 < now then 2 else 0) else 112
def chgF (p : Pol) (t : Tsk) (now : Int) (r : Tsk × Int) : Tsk × Int :=
  if mayF p t now ≠ 0 then (t, mayF p t now) else if r.2 ≠ 0 then (t, r.2) else r
def takeR (t : Tsk) (worker now : Int) : Tsk × Int :=
  if t.state ≠ 2 then (t, 70) else if worker < 1 then (t, 110) else (⟨t.put, t.tries + 1, 3, 0, 0, worker, now, now, 0, 0⟩, 0)
def beatR (t : Tsk) (try' now : Int) : Tsk × Int :=
  if t.state ≠ 3 ∨ t.tries ≠ try' then (t, 109) else (⟨t.put, t.tries, t.state, t.ready, t.since, t.worker, t.tried, now, t.os, t.ov⟩, 0)
def tellR (p : Pol) (t : Tsk) (try' os ov now jitter : Int) : Tsk × Int :=
  if t.state ≠ 3 ∨ t.tries ≠ try' then (t, 109) else if os = 0 then (overF t os ov, 0) else if os = 1 then (againF p t os ov now jitter, 0) else (t, 2)
def lostR (p : Pol) (t : Tsk) (now : Int) : Tsk × Int := if t.state ≠ 3 then (t, 70) else (againF p t 2 4 now 0, 0)
def tickS (p : Pol) (t : Tsk) (now : Int) : Tsk :=
  if dueOk p (timesF t) = true ∧ dueAt p (timesF t) ≤ now then
    (if dueWhich p (timesF t) = 3 ∨ dueWhich p (timesF t) = 1 then overF t 2 (dueWhich p (timesF t)) else againF p t 2 (dueWhich p (timesF t)) now 0)
  else t
def tickE (t : Tsk) (now : Int) : Tsk := if t.state = 1 ∧ t.ready ≤ now then ⟨t.put, t.tries, 2, 0, now, 0, 0, 0, 0, 0⟩ else t
def takeF (p : Pol) (t : Tsk) (worker now : Int) : Tsk × Int := chgF p t now (takeR t worker now)
def beatF (p : Pol) (t : Tsk) (try' now : Int) : Tsk × Int := chgF p t now (beatR t try' now)
def tellF (p : Pol) (t : Tsk) (try' os ov now jitter : Int) : Tsk × Int := chgF p t now (tellR p t try' os ov now jitter)
def lostF (p : Pol) (t : Tsk) (now : Int) : Tsk × Int := chgF p t now (lostR p t now)
def tickF (p : Pol) (t : Tsk) (now : Int) : Tsk × Int := chgF p t now (tickE (tickS p (tickS p t now) now) now, 0)
def stopF (p : Pol) (t : Tsk) : Tsk × Int := if rightT p t = true then (if t.state = 4 then (t, 0) else (overF t 3 0, 0)) else (t, 112)
end Go.Proofs.Ytnfmgojloahfkaa

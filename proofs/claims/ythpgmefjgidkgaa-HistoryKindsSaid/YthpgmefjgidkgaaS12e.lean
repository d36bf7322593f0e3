/- What shall be cancelled, plain. -/
import Derived.Test.YthpgmefjgidkgaaS12c
namespace Go.Proofs.Ythpgmefjgidkgaa
set_option linter.unusedVariables false
set_option linter.unusedSimpArgs false
def nextH (h : Hs) (e : Ev) : Hs × Int := if evR e = true then (if mayB h e = true then (putH h e, 0) else (h, 103)) else (h, 102)
theorem nextH_ok {h : Hs} {e : Ev} (he : evR e = true) (hm : mayB h e = true) : nextH h e = (putH h e, 0) := by unfold nextH; rw [if_pos he, if_pos hm]
theorem nextH_order {h : Hs} {e : Ev} (he : evR e = true) (hm : mayB h e = false) : nextH h e = (h, 103) := by unfold nextH; rw [if_pos he, hm]; rfl
theorem nextH_event {h : Hs} {e : Ev} (he : evR e = false) : nextH h e = (h, 102) := by unfold nextH; rw [he]; rfl
theorem may_mk {h : Hs} {e : Ev} (h1 : h.last ≤ e.at') (h2 : h.closed = false) (h3 : e.k ≠ 1) (h4 : h.len ≠ 0) : mayB h e = (if e.k = 2 then decide (e.n = h.cmds.length + 1) else if e.k = 3 then tryB h e.n e.p else if e.k = 4 then leftB h e.n else if e.k = 6 then !h.stopped else true) := by
  unfold mayB
  rw [if_neg]
  rintro (h' | h' | h')
  · omega
  · rw [h2] at h'; cases h'
  · simp [h3, h4] at h'
theorem last_bd {h : Hs} (r : HrP h) : 0 ≤ h.last ∧ h.last ≤ 1099511627776 := by
  obtain ⟨_, _, a, b, _⟩ := evR_parts r.ev1
  exact ⟨a, b⟩
def stopE (h : Hs) : Ev := ⟨6, h.last, 0, 0, 0, 0, emp⟩
def sigE (h : Hs) : Ev := ⟨5, h.last, 0, 0, 5, 0, emp⟩
theorem stopE_r {h : Hs} (r : HrP h) : evR (stopE h) = true := by
  obtain ⟨a, b⟩ := last_bd r
  refine evR_mk (by simp [stopE]) (by simp [stopE]) a b ?_
  simp [kindB, stopE, plainB, noneB_emp]
theorem sigE_r {h : Hs} (r : HrP h) : evR (sigE h) = true := by
  obtain ⟨a, b⟩ := last_bd r
  refine evR_mk (by simp [sigE]) (by simp [sigE]) a b ?_
  simp [kindB, sigE, plainB, noneB_emp]
def stopped (h : Hs) : Hs := { h with len := h.len + 1, last := h.last, stopped := true }
theorem put_stopE (h : Hs) : putH h (stopE h) = stopped h := rfl
theorem stop_1 {h : Hs} {n : Nat} (f : FhP h n) (h0 : h.len ≠ 0) (hc : h.closed = false) (hs : h.stopped = false) : nextH h (stopE h) = (stopped h, 0) ∧ FhP (stopped h) (n + 1) := by
  have r := hrP_of f.right h0
  have hm : mayB h (stopE h) = true := by rw [may_mk (Int.le_refl _) hc (by simp [stopE]) h0]; simp [stopE, hs]
  exact ⟨nextH_ok (stopE_r r) hm, fhP_put f (stopE_r r) hm⟩
theorem stop_2 {h : Hs} {n : Nat} (f : FhP h n) (h0 : h.len ≠ 0) (hc : h.closed = false) : nextH (stopped h) (stopE h) = (stopped h, 103) := by
  have r := hrP_of f.right h0
  have hl := r.len1
  refine nextH_order (stopE_r r) ?_
  rw [may_mk (h := stopped h) (e := stopE h) (Int.le_refl h.last) hc (by simp [stopE]) (by simp [stopped]; omega)]
  simp [stopE, stopped]
theorem stop_3 {h : Hs} {n : Nat} (f : FhP h n) (h0 : h.len ≠ 0) (hc : h.closed = false) : nextH (stopped h) (sigE h) = (putH (stopped h) (sigE h), 0) ∧ (putH (stopped h) (sigE h)).sigs.length = h.sigs.length + 1 := by
  have r := hrP_of f.right h0
  have hl := r.len1
  refine ⟨nextH_ok (sigE_r r) ?_, ?_⟩
  · rw [may_mk (h := stopped h) (e := sigE h) (Int.le_refl h.last) hc (by simp [sigE]) (by simp [stopped]; omega)]
    simp [sigE]
  · show (h.sigs ++ [5]).length = _
    simp
end Go.Proofs.Ythpgmefjgidkgaa

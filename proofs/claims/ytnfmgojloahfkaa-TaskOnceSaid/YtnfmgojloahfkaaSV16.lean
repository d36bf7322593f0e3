/- What becomes of right tasks, in plain Lean: each operation is one of six changes. -/
import Derived.Test.YtnfmgojloahfkaaN16
import Derived.Test.YtnfmgojloahfkaaSU16
namespace Go.Proofs.Ytnfmgojloahfkaa
set_option linter.unusedVariables false
set_option linter.unusedSimpArgs false

/-- The right tasks. -/
inductive Sh (p : Pol) : Tsk → Prop
  | wait (u k y : Int) (hk : 1 ≤ k) (hk' : k < p.most) (hu : 0 ≤ u) (hy : u ≤ y) (hm : y ≤ 1099511627776) : Sh p ⟨u, k, 1, y, 0, 0, 0, 0, 0, 0⟩
  | ready (u k s : Int) (hk : 0 ≤ k) (hk' : k < p.most) (hu : 0 ≤ u) (hs : u ≤ s) (hm : s ≤ 1099511627776) : Sh p ⟨u, k, 2, 0, s, 0, 0, 0, 0, 0⟩
  | held (u k w a b : Int) (hk : 1 ≤ k) (hk' : k ≤ p.most) (hu : 0 ≤ u) (hw : 1 ≤ w) (ha : u ≤ a) (hb : a ≤ b) (hm : b ≤ 1099511627776) : Sh p ⟨u, k, 3, 0, 0, w, a, b, 0, 0⟩
  | over (u k os ov : Int) (hk : 0 ≤ k) (hk' : k ≤ p.most) (hu : 0 ≤ u) (hm : u ≤ 1099511627776) (ho : 0 ≤ os) (ho' : os ≤ 3) : Sh p ⟨u, k, 4, 0, 0, 0, 0, 0, os, ov⟩
theorem sh_of_right {p : Pol} {t : Tsk} (h : rightT p t = true) : Sh p t := by
  obtain ⟨u, k, z, y, s, w, a, b, os, ov⟩ := t
  simp only [rightT, tm, Bool.and_eq_true, decide_eq_true_eq] at h
  obtain ⟨⟨⟨⟨⟨⟨⟨⟨hr, h1⟩, h2⟩, h3⟩, h4⟩, h5⟩, h6⟩, h7⟩, h8⟩ := h
  simp only [shapeT] at h8
  split at h8
  · simp only [Bool.and_eq_true, decide_eq_true_eq, Tsk.mk.injEq] at h8
    obtain ⟨⟨⟨a1, a2⟩, a3⟩, -, -, rfl, -, rfl, rfl, rfl, rfl, rfl, rfl⟩ := h8
    exact .wait _ _ _ a1 a2 h3.1 a3 h4.2
  · split at h8
    · simp only [Bool.and_eq_true, decide_eq_true_eq, Tsk.mk.injEq] at h8
      obtain ⟨⟨a1, a2⟩, -, -, rfl, rfl, -, rfl, rfl, rfl, rfl, rfl⟩ := h8
      exact .ready _ _ _ h1 a1 h3.1 a2 h5.2
    · split at h8
      · simp only [Bool.and_eq_true, decide_eq_true_eq, Tsk.mk.injEq] at h8
        obtain ⟨⟨⟨⟨a1, a2⟩, a3⟩, a4⟩, -, -, rfl, rfl, rfl, -, -, -, rfl, rfl⟩ := h8
        exact .held _ _ _ _ _ a1 h2 h3.1 a2 a3 a4 h7.2
      · split at h8
        · simp only [Bool.and_eq_true, decide_eq_true_eq, Tsk.mk.injEq] at h8
          obtain ⟨⟨a1, a2⟩, -, -, rfl, rfl, rfl, rfl, rfl, rfl, -, -⟩ := h8
          exact .over _ _ _ _ h1 h2 h3.1 h3.2 a1 a2
        · cases h8
theorem right_of_sh {p : Pol} {t : Tsk} (hr : rightB p = true) (h : Sh p t) : rightT p t = true := by
  have R := ((rightB_iff p).1 hr).most
  cases h <;> simp [rightT, hr, tm, shapeT] <;> omega

/-- The tick that a task has seen. -/
def late (t : Tsk) : Int := mx (mx (mx t.put t.since) t.tried) t.beat
theorem may_sh {p : Pol} {t : Tsk} {n : Int} (hr : rightB p = true) (h : Sh p t) (hl : late t ≤ n) (hn : n ≤ 1099511627776) : mayF p t n = 0 :=
  mayF_ok (right_of_sh hr h) hl hn

/-- What an operation makes of a right task. -/
inductive Tr (p : Pol) (o0 o6 n : Int) : Tsk → Tsk → Int → Prop
  | same (t : Tsk) (e : Int) : Tr p o0 o6 n t t e
  | take (u k s w : Int) (h0 : o0 = 0) (hw : 1 ≤ w) (hk : k < p.most) : Tr p o0 o6 n ⟨u, k, 2, 0, s, 0, 0, 0, 0, 0⟩ ⟨u, k + 1, 3, 0, 0, w, n, n, 0, 0⟩ 0
  | beat (u k w a b : Int) (hb : b ≤ n) : Tr p o0 o6 n ⟨u, k, 3, 0, 0, w, a, b, 0, 0⟩ ⟨u, k, 3, 0, 0, w, a, n, 0, 0⟩ 0
  | wait (u k w a b : Int) (hk : k < p.most) : Tr p o0 o6 n ⟨u, k, 3, 0, 0, w, a, b, 0, 0⟩ ⟨u, k, 1, plusF n (waitF p k (if o0 = 2 then o6 else 0)), 0, 0, 0, 0, 0, 0⟩ 0
  | readyW (u k y : Int) (hy : y ≤ n) : Tr p o0 o6 n ⟨u, k, 1, y, 0, 0, 0, 0, 0, 0⟩ ⟨u, k, 2, 0, n, 0, 0, 0, 0, 0⟩ 0
  | readyH (u k w a b : Int) (hk : k < p.most) : Tr p o0 o6 n ⟨u, k, 3, 0, 0, w, a, b, 0, 0⟩ ⟨u, k, 2, 0, n, 0, 0, 0, 0, 0⟩ 0
  | over (t : Tsk) (os ov : Int) (hs : t.state = 1 ∨ t.state = 2 ∨ t.state = 3) (ho : 0 ≤ os) (ho' : os ≤ 3) : Tr p o0 o6 n t ⟨t.put, t.tries, 4, 0, 0, 0, 0, 0, os, ov⟩ 0

theorem late_wait (u k y : Int) (h : 0 ≤ u) : late ⟨u, k, 1, y, 0, 0, 0, 0, 0, 0⟩ = u := by simp [late, mx]; omega
theorem late_ready (u k s : Int) (h : 0 ≤ u) (h' : u ≤ s) : late ⟨u, k, 2, 0, s, 0, 0, 0, 0, 0⟩ = s := by simp only [late, mx]; (repeat' split) <;> omega
theorem late_held (u k w a b : Int) (h : 0 ≤ u) (h' : u ≤ a) (h'' : a ≤ b) : late ⟨u, k, 3, 0, 0, w, a, b, 0, 0⟩ = b := by simp only [late, mx]; (repeat' split) <;> omega
theorem late_over (u k os ov : Int) (h : 0 ≤ u) : late ⟨u, k, 4, 0, 0, 0, 0, 0, os, ov⟩ = u := by simp [late, mx]; omega

theorem tr_sh {p : Pol} {o0 o6 n e : Int} {t t' : Tsk} (h : Tr p o0 o6 n t t' e) (hs : Sh p t) (hl : late t ≤ n) (hn : n ≤ 1099511627776) : Sh p t' ∧ late t' ≤ n := by
  cases h with
  | same => exact ⟨hs, hl⟩
  | take u k s w h0 hw hk =>
    cases hs with | ready _ _ _ a1 a2 a3 a4 a5 =>
    rw [late_ready _ _ _ a3 a4] at hl
    exact ⟨.held _ _ _ _ _ (by omega) (by omega) a3 hw (by omega) (by omega) hn, by rw [late_held _ _ _ _ _ a3 (by omega) (by omega)]; omega⟩
  | beat u k w a b hb =>
    cases hs with | held _ _ _ _ _ a1 a2 a3 a4 a5 a6 a7 =>
    exact ⟨.held _ _ _ _ _ a1 a2 a3 a4 a5 (by omega) hn, by rw [late_held _ _ _ _ _ a3 (by omega) (by omega)]; omega⟩
  | wait u k w a b hk =>
    cases hs with | held _ _ _ _ _ a1 a2 a3 a4 a5 a6 a7 =>
    rw [late_held _ _ _ _ _ a3 a5 a6] at hl
    have h1 := plusF_le (a := n) (b := waitF p k (if o0 = 2 then o6 else 0)) (by omega) hn
    have h2 := plusF_bd n (waitF p k (if o0 = 2 then o6 else 0))
    exact ⟨.wait _ _ _ a1 hk a3 (by omega) h2.2, by rw [late_wait _ _ _ a3]; omega⟩
  | readyW u k y hy =>
    cases hs with | wait _ _ _ a1 a2 a3 a4 a5 =>
    exact ⟨.ready _ _ _ (by omega) a2 a3 (by omega) hn, by rw [late_ready _ _ _ a3 (by omega)]; omega⟩
  | readyH u k w a b hk =>
    cases hs with | held _ _ _ _ _ a1 a2 a3 a4 a5 a6 a7 =>
    rw [late_held _ _ _ _ _ a3 a5 a6] at hl
    exact ⟨.ready _ _ _ (by omega) hk a3 (by omega) hn, by rw [late_ready _ _ _ a3 (by omega)]; omega⟩
  | over t os ov hst ho ho' =>
    have : 0 ≤ t.tries ∧ t.tries ≤ p.most ∧ 0 ≤ t.put ∧ t.put ≤ n := by
      cases hs with
      | wait _ _ _ a1 a2 a3 a4 a5 => rw [late_wait _ _ _ a3] at hl; simp only; omega
      | ready _ _ _ a1 a2 a3 a4 a5 => rw [late_ready _ _ _ a3 a4] at hl; simp only; omega
      | held _ _ _ _ _ a1 a2 a3 a4 a5 a6 a7 => rw [late_held _ _ _ _ _ a3 a5 a6] at hl; simp only; omega
      | over => simp at hst
    exact ⟨.over _ _ _ _ this.1 this.2.1 this.2.2.1 (by omega) ho ho', by rw [late_over _ _ _ _ this.2.2.1]; exact this.2.2.2⟩

theorem step_cases (fd : Int × Int) (k fr inn : Int) : stepF fd k fr inn = fd ∨ (stepF fd k fr inn = (k, plusF fr inn) ∧ 0 ≤ fr) := by
  unfold stepF; split
  · rename_i h; exact .inr ⟨rfl, h.1.2⟩
  · exact .inl rfl
/-- Which timeout may be due. -/
theorem due_which (p : Pol) (t : Tms) (h : dueOk p t = true) : (dueWhich p t = 3) ∨ (dueWhich p t = 1 ∧ 0 ≤ t.since) ∨ (dueWhich p t = 2 ∧ 0 ≤ t.tried) ∨ (dueWhich p t = 4 ∧ 0 ≤ t.beat) := by
  unfold dueOk at h; unfold dueWhich at *
  split at h
  · rename_i hr
    rw [if_pos hr]
    simp only [decide_eq_true_eq] at h
    simp only [dueS] at *
    rcases step_cases (stepF (stepF (stepF (0, 0) 3 t.put p.allIn) 1 t.since p.startIn) 2 t.tried p.runIn) 4 t.beat p.beatIn with e | ⟨e, f⟩
    · rw [e] at h ⊢
      rcases step_cases (stepF (stepF (0, 0) 3 t.put p.allIn) 1 t.since p.startIn) 2 t.tried p.runIn with e | ⟨e, f⟩
      · rw [e] at h ⊢
        rcases step_cases (stepF (0, 0) 3 t.put p.allIn) 1 t.since p.startIn with e | ⟨e, f⟩
        · rw [e] at h ⊢
          rcases step_cases (0, 0) 3 t.put p.allIn with e | ⟨e, f⟩
          · rw [e] at h; simp at h
          · rw [e]; exact .inl rfl
        · rw [e]; exact .inr (.inl ⟨rfl, f⟩)
      · rw [e]; exact .inr (.inr (.inl ⟨rfl, f⟩))
    · rw [e]; exact .inr (.inr (.inr ⟨rfl, f⟩))
  · simp at h
theorem tickS_over (p : Pol) (t : Tsk) (n os ov : Int) : tickS p (overF t os ov) n = overF t os ov := tickS_no (dueNow_over p t n os ov)
theorem tickE_over (t : Tsk) (n os ov : Int) : tickE (overF t os ov) n = overF t os ov := by unfold tickE; rw [if_neg]; simp [overF]
/-- A task that waits, at a tick. -/
theorem tickS_wait (p : Pol) (u k y n : Int) : tickS p ⟨u, k, 1, y, 0, 0, 0, 0, 0, 0⟩ n = ⟨u, k, 1, y, 0, 0, 0, 0, 0, 0⟩ ∨ tickS p ⟨u, k, 1, y, 0, 0, 0, 0, 0, 0⟩ n = overF ⟨u, k, 1, y, 0, 0, 0, 0, 0, 0⟩ 2 3 := by
  have ht : timesF ⟨u, k, 1, y, 0, 0, 0, 0, 0, 0⟩ = ⟨u, -1, -1, -1⟩ := by simp [timesF]
  unfold tickS; rw [ht]
  split
  · rename_i h
    rw [due_put p u h.1]; right; rfl
  · exact .inl rfl
theorem tickE_wait (u k y n : Int) : (y ≤ n ∧ tickE ⟨u, k, 1, y, 0, 0, 0, 0, 0, 0⟩ n = ⟨u, k, 2, 0, n, 0, 0, 0, 0, 0⟩) ∨ (n < y ∧ tickE ⟨u, k, 1, y, 0, 0, 0, 0, 0, 0⟩ n = ⟨u, k, 1, y, 0, 0, 0, 0, 0, 0⟩) := by
  unfold tickE
  by_cases h : y ≤ n
  · left; exact ⟨h, by rw [if_pos ⟨rfl, h⟩]⟩
  · right; exact ⟨by omega, by rw [if_neg]; simp; omega⟩
theorem tickE_no {t : Tsk} {n : Int} (h : t.state ≠ 1) : tickE t n = t := by unfold tickE; rw [if_neg]; intro h2; exact h h2.1
/-- What a tick makes of a task that waits. -/
theorem tick_wait (p : Pol) (o0 o6 n u k y : Int) (hr : rightB p = true) : Tr p o0 o6 n ⟨u, k, 1, y, 0, 0, 0, 0, 0, 0⟩ (tickE (tickS p (tickS p ⟨u, k, 1, y, 0, 0, 0, 0, 0, 0⟩ n) n) n) 0 := by
  rcases tickS_wait p u k y n with h | h
  · rw [h, h]
    rcases tickE_wait u k y n with ⟨h1, h2⟩ | ⟨h1, h2⟩
    · rw [h2]; exact .readyW _ _ _ h1
    · rw [h2]; exact .same _ _
  · rw [h, tickS_over, tickE_over]; exact .over _ _ _ (.inl rfl) (by omega) (by omega)
theorem tick_ready (p : Pol) (o0 o6 n u k s : Int) (hr : rightB p = true) : Tr p o0 o6 n ⟨u, k, 2, 0, s, 0, 0, 0, 0, 0⟩ (tickE (tickS p (tickS p ⟨u, k, 2, 0, s, 0, 0, 0, 0, 0⟩ n) n) n) 0 := by
  have ht : timesF ⟨u, k, 2, 0, s, 0, 0, 0, 0, 0⟩ = ⟨u, s, -1, -1⟩ := by simp [timesF]
  by_cases hd : dueOk p ⟨u, s, -1, -1⟩ = true ∧ dueAt p ⟨u, s, -1, -1⟩ ≤ n
  · have h : tickS p ⟨u, k, 2, 0, s, 0, 0, 0, 0, 0⟩ n = overF ⟨u, k, 2, 0, s, 0, 0, 0, 0, 0⟩ 2 (dueWhich p ⟨u, s, -1, -1⟩) := by
      unfold tickS; rw [ht, if_pos hd, if_pos]
      rcases due_which p _ hd.1 with h | ⟨h, _⟩ | ⟨_, h⟩ | ⟨_, h⟩
      · exact .inl h
      · exact .inr h
      · simp at h
      · simp at h
    rw [h, tickS_over, tickE_over]; exact .over _ _ _ (.inr (.inl rfl)) (by omega) (by omega)
  · have h : tickS p ⟨u, k, 2, 0, s, 0, 0, 0, 0, 0⟩ n = ⟨u, k, 2, 0, s, 0, 0, 0, 0, 0⟩ := by unfold tickS; rw [ht, if_neg hd]
    rw [h, h, tickE_no (by simp)]; exact .same _ _
theorem tick_held (p : Pol) (o0 o6 n u k w a b : Int) (hr : rightB p = true) (h0 : o0 ≠ 2) : Tr p o0 o6 n ⟨u, k, 3, 0, 0, w, a, b, 0, 0⟩ (tickE (tickS p (tickS p ⟨u, k, 3, 0, 0, w, a, b, 0, 0⟩ n) n) n) 0 := by
  have ht : timesF ⟨u, k, 3, 0, 0, w, a, b, 0, 0⟩ = ⟨u, -1, a, b⟩ := by simp [timesF]
  by_cases hd : dueOk p ⟨u, -1, a, b⟩ = true ∧ dueAt p ⟨u, -1, a, b⟩ ≤ n
  · by_cases hw : dueWhich p ⟨u, -1, a, b⟩ = 3 ∨ dueWhich p ⟨u, -1, a, b⟩ = 1
    · have h : tickS p ⟨u, k, 3, 0, 0, w, a, b, 0, 0⟩ n = overF ⟨u, k, 3, 0, 0, w, a, b, 0, 0⟩ 2 (dueWhich p ⟨u, -1, a, b⟩) := by
        unfold tickS; rw [ht, if_pos hd, if_pos hw]
      rw [h, tickS_over, tickE_over]; exact .over _ _ _ (.inr (.inr rfl)) (by omega) (by omega)
    · have h : tickS p ⟨u, k, 3, 0, 0, w, a, b, 0, 0⟩ n = againF p ⟨u, k, 3, 0, 0, w, a, b, 0, 0⟩ 2 (dueWhich p ⟨u, -1, a, b⟩) n 0 := by
        unfold tickS; rw [ht, if_pos hd, if_neg hw]
      rw [h]; unfold againF
      by_cases hm : moreB p k = true
      · rw [if_pos hm]
        have hk : k < p.most := by simp only [moreB, Bool.and_eq_true, decide_eq_true_eq] at hm; exact hm.2
        have hj : (if o0 = 2 then o6 else 0) = 0 := if_neg h0
        rcases tickS_wait p u k (plusF n (waitF p k 0)) n with h | h
        · simp only; rw [h]
          rcases tickE_wait u k (plusF n (waitF p k 0)) n with ⟨h1, h2⟩ | ⟨h1, h2⟩
          · rw [h2]; exact .readyH _ _ _ _ _ hk
          · rw [h2]; have := Tr.wait (p := p) (o0 := o0) (o6 := o6) (n := n) u k w a b hk; rw [hj] at this; exact this
        · simp only; rw [h, tickE_over]; exact .over _ _ _ (.inr (.inr rfl)) (by omega) (by omega)
      · rw [if_neg hm, tickS_over, tickE_over]; exact .over _ _ _ (.inr (.inr rfl)) (by omega) (by omega)
  · have h : tickS p ⟨u, k, 3, 0, 0, w, a, b, 0, 0⟩ n = ⟨u, k, 3, 0, 0, w, a, b, 0, 0⟩ := by unfold tickS; rw [ht, if_neg hd]
    rw [h, h, tickE_no (by simp)]; exact .same _ _
theorem tick_over (p : Pol) (o0 o6 n u k os ov : Int) : Tr p o0 o6 n ⟨u, k, 4, 0, 0, 0, 0, 0, os, ov⟩ (tickE (tickS p (tickS p ⟨u, k, 4, 0, 0, 0, 0, 0, os, ov⟩ n) n) n) 0 := by
  have h : (⟨u, k, 4, 0, 0, 0, 0, 0, os, ov⟩ : Tsk) = overF ⟨u, k, 4, 0, 0, 0, 0, 0, os, ov⟩ os ov := rfl
  have h2 : tickE (tickS p (tickS p ⟨u, k, 4, 0, 0, 0, 0, 0, os, ov⟩ n) n) n = ⟨u, k, 4, 0, 0, 0, 0, 0, os, ov⟩ := by
    rw [h, tickS_over, tickS_over, tickE_over]
  rw [h2]; exact .same _ _
theorem tick_tr {p : Pol} {t : Tsk} {o0 o6 n : Int} (hr : rightB p = true) (hs : Sh p t) (h0 : o0 ≠ 2) : Tr p o0 o6 n t (tickE (tickS p (tickS p t n) n) n) 0 := by
  cases hs with
  | wait => exact tick_wait _ _ _ _ _ _ _ hr
  | ready => exact tick_ready _ _ _ _ _ _ _ hr
  | held => exact tick_held _ _ _ _ _ _ _ _ _ hr h0
  | over => exact tick_over _ _ _ _ _ _ _ _
theorem again_tr {p : Pol} {u k w a b os ov n j o0 o6 : Int} (ho : 0 ≤ os) (ho' : os ≤ 3) (hj : j = if o0 = 2 then o6 else 0) : Tr p o0 o6 n ⟨u, k, 3, 0, 0, w, a, b, 0, 0⟩ (againF p ⟨u, k, 3, 0, 0, w, a, b, 0, 0⟩ os ov n j) 0 := by
  unfold againF
  by_cases hm : moreB p k = true
  · rw [if_pos hm]
    have hk : k < p.most := by simp only [moreB, Bool.and_eq_true, decide_eq_true_eq] at hm; exact hm.2
    rw [hj]; exact .wait _ _ _ _ _ hk
  · rw [if_neg hm]; exact .over _ _ _ (.inr (.inr rfl)) ho ho'
theorem do_tr {p : Pol} {t : Tsk} {n : Int} (o0 o1 o2 o3 o4 o5 o6 : Int) (hr : rightB p = true) (hs : Sh p t) (hl : late t ≤ n) (hn : n ≤ 1099511627776) :
    Tr p o0 o6 n t (doF p t o0 o1 o2 o3 o4 o5 o6 n).1 (doF p t o0 o1 o2 o3 o4 o5 o6 n).2 := by
  have hm := may_sh hr hs hl hn
  unfold doF
  split
  · rename_i h0
    unfold takeF; rw [chgF_ok hm]; unfold takeR
    split
    · split <;> exact .same _ _
    · split
      · split <;> exact .same _ _
      · split
        · exact .same _ _
        · rename_i h1 h2 _
          cases hs with
          | wait => simp at h1
          | ready _ _ _ a1 a2 a3 a4 a5 => exact .take _ _ _ _ h0 (by omega) a2
          | held => simp at h1
          | over => simp at h1
  · split
    · unfold beatF; rw [chgF_ok hm]; unfold beatR
      split
      · split <;> exact .same _ _
      · split
        · exact .same _ _
        · rename_i h1 _
          cases hs with
          | wait => simp at h1
          | ready => simp at h1
          | held _ _ _ _ _ a1 a2 a3 a4 a5 a6 a7 => rw [late_held _ _ _ _ _ a3 a5 a6] at hl; exact .beat _ _ _ _ _ hl
          | over => simp at h1
    · split
      · rename_i h2
        unfold tellF; rw [chgF_ok hm]; unfold tellR
        split
        · split <;> exact .same _ _
        · rename_i h1
          split
          · rename_i hos
            simp only [ne_eq, not_true_eq_false, if_false]
            cases hs with
            | wait => simp at h1
            | ready => simp at h1
            | held => exact .over _ _ _ (.inr (.inr rfl)) (by omega) (by omega)
            | over => simp at h1
          · split
            · rename_i hos
              simp only [ne_eq, not_true_eq_false, if_false]
              cases hs with
              | wait => simp at h1
              | ready => simp at h1
              | held => exact again_tr (by omega) (by omega) (by rw [if_pos h2])
              | over => simp at h1
            · split <;> exact .same _ _
      · rename_i h2
        split
        · unfold lostF; rw [chgF_ok hm]; unfold lostR
          split
          · split <;> exact .same _ _
          · rename_i h1
            simp only [ne_eq, not_true_eq_false, if_false]
            cases hs with
            | wait => simp at h1
            | ready => simp at h1
            | held => exact again_tr (by omega) (by omega) (by rw [if_neg h2])
            | over => simp at h1
        · split
          · unfold stopF; rw [if_pos (right_of_sh hr hs)]
            split
            · exact .same _ _
            · rename_i h1
              refine .over _ _ _ ?_ (by omega) (by omega)
              cases hs <;> simp at h1 ⊢
          · unfold tickF; rw [chgF_ok hm]
            simp only [ne_eq, not_true_eq_false, if_false]
            exact tick_tr hr hs h2
/-- A sign of life, or an outcome, that is taken: of the try that is held. -/
theorem do_token {p : Pol} {t : Tsk} {n : Int} (o0 o1 o2 o3 o4 o5 o6 : Int) (hr : rightB p = true) (hs : Sh p t) (hl : late t ≤ n) (hn : n ≤ 1099511627776) (h0 : o0 = 1 ∨ o0 = 2) (he : (doF p t o0 o1 o2 o3 o4 o5 o6 n).2 = 0) :
    t.state = 3 ∧ t.tries = o2 := by
  have hm := may_sh hr hs hl hn
  unfold doF at he
  rcases h0 with rfl | rfl
  · rw [if_neg (by decide), if_pos rfl] at he
    unfold beatF at he; rw [chgF_ok hm] at he; unfold beatR at he
    split at he
    · simp at he
    · rename_i h; simp only [not_or, ne_eq, Decidable.not_not] at h; exact h
  · rw [if_neg (by decide), if_neg (by decide), if_pos rfl] at he
    unfold tellF at he; rw [chgF_ok hm] at he; unfold tellR at he
    split at he
    · simp at he
    · rename_i h; simp only [not_or, ne_eq, Decidable.not_not] at h; exact h
end Go.Proofs.Ytnfmgojloahfkaa

/- What task's functions do: Stop; what ticks make, in plain Lean. -/
import Derived.Test.YtnfmgojloahfkaaF16
import Derived.Test.YtnfmgojloahfkaaE16
namespace Go.Proofs.Ytnfmgojloahfkaa
open Go.RowKit
set_option linter.unusedVariables false
set_option linter.unusedSimpArgs false

theorem timesF_state (t : Tsk) : t.state = 4 → timesF t = ⟨-1, -1, -1, -1⟩ := fun h => by simp [timesF, h]
theorem due_none (p : Pol) : dueOk p ⟨-1, -1, -1, -1⟩ = false := by
  unfold dueOk dueWhich; split
  · simp [dueS, step_neg]
  · rfl
theorem due_put (p : Pol) (a : Int) (h : dueOk p ⟨a, -1, -1, -1⟩ = true) : dueWhich p ⟨a, -1, -1, -1⟩ = 3 := by
  unfold dueOk at h; unfold dueWhich at *
  split at h
  · rename_i hr
    rw [if_pos hr]
    simp only [dueS, step_neg] at *
    rcases alone 3 a p.allIn (by omega) with ⟨e, _⟩ | ⟨e, _⟩
    · rw [e]
    · rw [e] at h; simp at h
  · simp at h
/-- Is a timeout due? -/
def dueNow (p : Pol) (t : Tsk) (n : Int) : Bool := dueOk p (timesF t) && decide (dueAt p (timesF t) ≤ n)
theorem tickS_no {p : Pol} {t : Tsk} {n : Int} (h : dueNow p t n = false) : tickS p t n = t := by
  unfold tickS; rw [if_neg]; simpa [dueNow] using h
theorem dueNow_over (p : Pol) (t : Tsk) (n os ov : Int) : dueNow p (overF t os ov) n = false := by
  unfold dueNow; rw [timesF_state _ rfl, due_none]; rfl
/-- Twice is enough. -/
theorem tick_twice (p : Pol) (t : Tsk) (n : Int) : dueNow p (tickS p (tickS p t n) n) n = false := by
  by_cases h1 : dueNow p t n = true
  · have e1 : tickS p t n = overF t 2 (dueWhich p (timesF t)) ∨ tickS p t n = againF p t 2 (dueWhich p (timesF t)) n 0 := by
      unfold tickS; rw [if_pos (by simpa [dueNow] using h1)]; split
      · exact .inl rfl
      · exact .inr rfl
    have hover : ∀ os ov, dueNow p (tickS p (overF t os ov) n) n = false := fun os ov => by rw [tickS_no (dueNow_over _ _ _ _ _)]; exact dueNow_over _ _ _ _ _
    rcases e1 with e1 | e1
    · rw [e1]; exact hover _ _
    · rw [e1]; unfold againF; split
      · generalize hx : (⟨t.put, t.tries, 1, plusF n (waitF p t.tries 0), 0, 0, 0, 0, 0, 0⟩ : Tsk) = x
        have ht : timesF x = ⟨t.put, -1, -1, -1⟩ := by rw [← hx]; simp [timesF]
        by_cases h2 : dueNow p x n = true
        · have h3 : dueOk p (timesF x) = true ∧ dueAt p (timesF x) ≤ n := by simpa [dueNow] using h2
          have hw : dueWhich p (timesF x) = 3 := by rw [ht] at h3 ⊢; exact due_put p _ h3.1
          have : tickS p x n = overF x 2 (dueWhich p (timesF x)) := by unfold tickS; rw [if_pos h3, if_pos (.inl hw)]
          rw [this]; exact dueNow_over _ _ _ _ _
        · have h2 : dueNow p x n = false := by simpa using h2
          rw [tickS_no h2]; exact h2
      · exact hover _ _
  · have h1 : dueNow p t n = false := by simpa using h1
    rw [tickS_no h1, tickS_no h1]; exact h1

set_option maxRecDepth 100000 in
set_option maxHeartbeats 4000000 in
theorem stop_bad (p0 p1 p2 p3 p4 p5 p6 p7 a0 a1 a2 a3 a4 a5 a6 a7 a8 a9 : Int) (w : World) (h0 : 0 ≤ a2) (h1 : a2 ≤ 255) (hr : rightT ⟨p0, p1, p2, p3, p4, p5, p6, p7⟩ ⟨a0, a1, a2, a3, a4, a5, a6, a7, a8, a9⟩ = false) :
    Calls Try.prog 38 #[.agg #[.int .i64 p0, .int .i64 p1, .int .i64 p2, .int .i64 p3, .int .i64 p4, .int .i64 p5, .int .i64 p6, .int .i64 p7], .agg #[.int .i64 a0, .int .i64 a1, .int .u8 a2, .int .i64 a3, .int .i64 a4, .int .i64 a5, .int .i64 a6, .int .i64 a7, .int .i64 a8, .int .i64 a9]] w fun e w' => e = .returned (.tuple #[.agg #[.int .i64 a0, .int .i64 a1, .int .u8 a2, .int .i64 a3, .int .i64 a4, .int .i64 a5, .int .i64 a6, .int .i64 a7, .int .i64 a8, .int .i64 a9], .int .i64 112]) ∧ Ext w w' := by
  go_enter Try.func38, Try.ntmps38
  go_wp2_with (first | (go_at_call 16; refine (tright_calls _ _ _ _ _ _ _ _ _ _ _ _ _ _ _ _ _ _ _ h0 h1).mono ?_; rintro e w1 ⟨rfl, hb⟩; obtain ⟨r, d, rfl⟩ := ext_form hb; clear hb) | (go_at_call 32; refine (over_calls _ _ _ _ _ _ _ _ _ _ _ _ _).mono ?_; rintro e w1 ⟨rfl, hb⟩; obtain ⟨r, d, rfl⟩ := ext_form hb; clear hb; simp only [overF]))
  refine bodyPost_ret (by simp [results, Try.results38, go_sem]; rfl) rfl ?_
  exact ⟨rfl, by repeat (first | exact ext_refl _ | assumption | refine ext_more' ?_ _ _ | refine ext_drew ?_ | refine ext_drewN ?_ _ | refine ext_alloc ?_ _)⟩

set_option maxRecDepth 100000 in
set_option maxHeartbeats 4000000 in
theorem stop_over (p0 p1 p2 p3 p4 p5 p6 p7 a0 a1 a2 a3 a4 a5 a6 a7 a8 a9 : Int) (w : World) (h0 : 0 ≤ a2) (h1 : a2 ≤ 255) (hr : rightT ⟨p0, p1, p2, p3, p4, p5, p6, p7⟩ ⟨a0, a1, a2, a3, a4, a5, a6, a7, a8, a9⟩ = true) (hs : a2 = 4) :
    Calls Try.prog 38 #[.agg #[.int .i64 p0, .int .i64 p1, .int .i64 p2, .int .i64 p3, .int .i64 p4, .int .i64 p5, .int .i64 p6, .int .i64 p7], .agg #[.int .i64 a0, .int .i64 a1, .int .u8 a2, .int .i64 a3, .int .i64 a4, .int .i64 a5, .int .i64 a6, .int .i64 a7, .int .i64 a8, .int .i64 a9]] w fun e w' => e = .returned (.tuple #[.agg #[.int .i64 a0, .int .i64 a1, .int .u8 a2, .int .i64 a3, .int .i64 a4, .int .i64 a5, .int .i64 a6, .int .i64 a7, .int .i64 a8, .int .i64 a9], .int .i64 0]) ∧ Ext w w' := by
  subst hs
  go_enter Try.func38, Try.ntmps38
  go_wp2_with (first | (go_at_call 16; refine (tright_calls _ _ _ _ _ _ _ _ _ _ _ _ _ _ _ _ _ _ _ h0 h1).mono ?_; rintro e w1 ⟨rfl, hb⟩; obtain ⟨r, d, rfl⟩ := ext_form hb; clear hb) | (go_at_call 32; refine (over_calls _ _ _ _ _ _ _ _ _ _ _ _ _).mono ?_; rintro e w1 ⟨rfl, hb⟩; obtain ⟨r, d, rfl⟩ := ext_form hb; clear hb; simp only [overF]))
  refine bodyPost_ret (by simp [results, Try.results38, go_sem]; rfl) rfl ?_
  exact ⟨rfl, by repeat (first | exact ext_refl _ | assumption | refine ext_more' ?_ _ _ | refine ext_drew ?_ | refine ext_drewN ?_ _ | refine ext_alloc ?_ _)⟩

set_option maxRecDepth 100000 in
set_option maxHeartbeats 4000000 in
theorem stop_ok (p0 p1 p2 p3 p4 p5 p6 p7 a0 a1 a2 a3 a4 a5 a6 a7 a8 a9 : Int) (w : World) (h0 : 0 ≤ a2) (h1 : a2 ≤ 255) (hr : rightT ⟨p0, p1, p2, p3, p4, p5, p6, p7⟩ ⟨a0, a1, a2, a3, a4, a5, a6, a7, a8, a9⟩ = true) (hs : (a2 == 4) = false) (hs' : (a2 != 4) = true) :
    Calls Try.prog 38 #[.agg #[.int .i64 p0, .int .i64 p1, .int .i64 p2, .int .i64 p3, .int .i64 p4, .int .i64 p5, .int .i64 p6, .int .i64 p7], .agg #[.int .i64 a0, .int .i64 a1, .int .u8 a2, .int .i64 a3, .int .i64 a4, .int .i64 a5, .int .i64 a6, .int .i64 a7, .int .i64 a8, .int .i64 a9]] w fun e w' => e = .returned (.tuple #[.agg #[.int .i64 a0, .int .i64 a1, .int .u8 4, .int .i64 0, .int .i64 0, .int .i64 0, .int .i64 0, .int .i64 0, .int .i64 3, .int .i64 0], .int .i64 0]) ∧ Ext w w' := by
  go_enter Try.func38, Try.ntmps38
  go_wp2_with (first | (go_at_call 16; refine (tright_calls _ _ _ _ _ _ _ _ _ _ _ _ _ _ _ _ _ _ _ h0 h1).mono ?_; rintro e w1 ⟨rfl, hb⟩; obtain ⟨r, d, rfl⟩ := ext_form hb; clear hb) | (go_at_call 32; refine (over_calls _ _ _ _ _ _ _ _ _ _ _ _ _).mono ?_; rintro e w1 ⟨rfl, hb⟩; obtain ⟨r, d, rfl⟩ := ext_form hb; clear hb; simp only [overF]))
  refine bodyPost_ret (by simp [results, Try.results38, go_sem]; rfl) rfl ?_
  exact ⟨rfl, by repeat (first | exact ext_refl _ | assumption | refine ext_more' ?_ _ _ | refine ext_drew ?_ | refine ext_drewN ?_ _ | refine ext_alloc ?_ _)⟩
end Go.Proofs.Ytnfmgojloahfkaa

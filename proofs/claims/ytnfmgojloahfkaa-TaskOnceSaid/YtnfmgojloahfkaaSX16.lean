/- Ticks, told twice, in plain Lean. -/
import Derived.Test.YtnfmgojloahfkaaSV16
namespace Go.Proofs.Ytnfmgojloahfkaa
set_option linter.unusedVariables false
set_option linter.unusedSimpArgs false

theorem sh_state {p : Pol} {t : Tsk} (h : Sh p t) : 0 ≤ t.state ∧ t.state ≤ 255 := by cases h <;> simp
theorem sh_tries {p : Pol} {t : Tsk} (h : Sh p t) : 0 ≤ t.tries ∧ t.tries ≤ p.most := by cases h <;> simp only <;> omega
theorem due_iff (p : Pol) (t : Tms) (n : Int) : (dueOk p t = true ∧ dueAt p t ≤ n) ↔ (rightB p = true ∧ ∃ x ∈ allX p t, Pres x ∧ dueX x ≤ n) := by
  unfold dueOk dueAt dueWhich
  by_cases hr : rightB p = true
  · simp only [if_pos hr, decide_eq_true_eq]
    have hpos : ∀ x ∈ allX p t, 0 < x.1 := by intro x hx; simp [allX] at hx; rcases hx with rfl | rfl | rfl | rfl <;> simp
    rcases inv_all p t with ⟨h, hn⟩ | ⟨⟨x, hx, hp, h⟩, hm⟩
    · rw [h]
      constructor
      · intro h; simp at h
      · rintro ⟨_, x, hx, hp, _⟩; exact (hn x hx hp).elim
    · rw [h]
      constructor
      · rintro ⟨_, h2⟩; exact ⟨hr, x, hx, hp, h2⟩
      · rintro ⟨_, y, hy, hpy, h2⟩
        have := hm y hy hpy
        rw [h] at this
        exact ⟨hpos x hx, by simp only at this ⊢; omega⟩
  · simp [hr]
theorem dueNow_iff (p : Pol) (t : Tsk) (n : Int) : dueNow p t n = true ↔ (rightB p = true ∧ ∃ x ∈ allX p (timesF t), Pres x ∧ dueX x ≤ n) := by
  rw [← due_iff]; simp [dueNow]
theorem dueNow_ready {p : Pol} {u k y n s w a b os ov : Int} (hn : 0 ≤ n) (hn' : n < 1099511627776) (h : dueNow p ⟨u, k, 1, y, s, w, a, b, os, ov⟩ n = false) : dueNow p ⟨u, k, 2, 0, n, 0, 0, 0, 0, 0⟩ n = false := by
  cases h2 : dueNow p ⟨u, k, 2, 0, n, 0, 0, 0, 0, 0⟩ n
  · rfl
  · obtain ⟨hr, x, hx, hp, hd⟩ := (dueNow_iff _ _ _).1 h2
    have h1 : timesF ⟨u, k, 1, y, s, w, a, b, os, ov⟩ = ⟨u, -1, -1, -1⟩ := by simp [timesF]
    have h3 : timesF ⟨u, k, 2, 0, n, 0, 0, 0, 0, 0⟩ = ⟨u, n, -1, -1⟩ := by simp [timesF]
    rw [h3] at hx
    simp only [allX, List.mem_cons, List.mem_singleton, List.not_mem_nil, or_false] at hx
    rcases hx with rfl | rfl | rfl | rfl
    · have : dueNow p ⟨u, k, 1, y, s, w, a, b, os, ov⟩ n = true := (dueNow_iff _ _ _).2 ⟨hr, (3, u, p.allIn), by rw [h1]; simp [allX], hp, hd⟩
      rw [this] at h; cases h
    · simp only [Pres, dueX] at hp hd
      rw [plusF_of hn (by omega)] at hd
      rw [if_neg (by omega)] at hd
      split at hd <;> omega
    · simp [Pres] at hp
    · simp [Pres] at hp
theorem timesF_wait {t : Tsk} (h : t.state = 1) : timesF t = ⟨t.put, -1, -1, -1⟩ := by simp [timesF, h]
/-- Behind a tick nothing is due at it. -/
theorem tick_again (p : Pol) (t : Tsk) (n : Int) (hn : 0 ≤ n) (hn' : n < 1099511627776) :
    tickE (tickS p (tickS p (tickE (tickS p (tickS p t n) n) n) n) n) n = tickE (tickS p (tickS p t n) n) n := by
  have h := tick_twice p t n
  generalize tickS p (tickS p t n) n = x at h
  by_cases hx : x.state = 1 ∧ x.ready ≤ n
  · have e : tickE x n = ⟨x.put, x.tries, 2, 0, n, 0, 0, 0, 0, 0⟩ := by unfold tickE; rw [if_pos hx]
    obtain ⟨u, k, z, y, s, w, a, b, os, ov⟩ := x
    obtain ⟨hz, hy⟩ := hx
    simp only at hz hy e
    subst hz
    have h2 := tickS_no (dueNow_ready hn hn' h)
    rw [e, h2, h2, tickE_no (by simp)]
  · have e : tickE x n = x := by unfold tickE; rw [if_neg hx]
    rw [e, tickS_no h, tickS_no h, e]
theorem ticks_pure {p : Pol} {t : Tsk} {n : Int} (hr : rightB p = true) (hs : Sh p t) (hl : late t ≤ n) (hn : 0 ≤ n) (hn' : n < 1099511627776) :
    ∃ t1, tickF p t n = (t1, 0) ∧ tickF p t1 n = (t1, 0) ∧ (t.state = 1 → (t1.state = 2 ∧ t.ready ≤ n) ∨ (t1.state = 1 ∧ n < t.ready) ∨ t1.state = 4) ∧ 0 ≤ t1.state ∧ t1.state ≤ 255 := by
  refine ⟨tickE (tickS p (tickS p t n) n) n, ?_, ?_, ?_⟩
  · unfold tickF; rw [chgF_ok (may_sh hr hs hl (by omega))]; simp
  · have ht := tick_tr (o0 := 5) (o6 := 0) (n := n) hr hs (by decide)
    obtain ⟨h1, h2⟩ := tr_sh ht hs hl (by omega)
    unfold tickF; rw [chgF_ok (may_sh hr h1 h2 (by omega)), tick_again p t n hn hn']; simp
  · have ht := tick_tr (o0 := 5) (o6 := 0) (n := n) hr hs (by decide)
    have hsh := (tr_sh ht hs hl (by omega)).1
    refine ⟨fun h1 => ?_, ?_⟩
    · cases hs with
      | wait u k y a1 a2 a3 a4 a5 =>
        rcases tickS_wait p u k y n with h | h
        · rw [h, h]
          rcases tickE_wait u k y n with ⟨h1, h2⟩ | ⟨h1, h2⟩
          · rw [h2]; exact .inl ⟨rfl, h1⟩
          · rw [h2]; exact .inr (.inl ⟨rfl, h1⟩)
        · rw [h, tickS_over, tickE_over]; exact .inr (.inr rfl)
      | ready => simp at h1
      | held => simp at h1
      | over => simp at h1
    · generalize tickE (tickS p (tickS p t n) n) n = t1 at hsh
      cases hsh <;> simp
/-- A try that is not the one held. -/
theorem tokens_pure {p : Pol} {t : Tsk} {n k : Int} (hr : rightB p = true) (hs : Sh p t) (hl : late t ≤ n) (hn' : n ≤ 1099511627776) (hk : ¬ (t.state = 3 ∧ t.tries = k)) :
    tellF p t k 0 5 n 0 = (t, 109) ∧ beatF p t k n = (t, 109) := by
  have hm := may_sh hr hs hl hn'
  have h : t.state ≠ 3 ∨ t.tries ≠ k := by by_cases h : t.state = 3; exact .inr (fun h2 => hk ⟨h, h2⟩); exact .inl h
  constructor
  · unfold tellF; rw [chgF_ok hm]; unfold tellR; rw [if_pos h]; simp
  · unfold beatF; rw [chgF_ok hm]; unfold beatR; rw [if_pos h]; simp
end Go.Proofs.Ytnfmgojloahfkaa

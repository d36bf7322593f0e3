/- What limits computes, in plain Lean: which timeout is due first, and when. -/
import Derived.Test.YtnfmgojloahfkaaS14
namespace Go.Proofs.Ytnfmgojloahfkaa
set_option linter.unusedVariables false
set_option linter.unusedSimpArgs false

/-- Times. -/
structure Tms where
  put : Int
  since : Int
  tried : Int
  beat : Int
/-- One timeout more: which is first (0: none), and when. -/
def stepF (fd : Int × Int) (which fr inn : Int) : Int × Int :=
  if (0 < inn ∧ 0 ≤ fr) ∧ (fd.1 = 0 ∨ plusF fr inn < fd.2) then (which, plusF fr inn) else fd
def dueS (p : Pol) (t : Tms) : Int × Int := stepF (stepF (stepF (stepF (0, 0) 3 t.put p.allIn) 1 t.since p.startIn) 2 t.tried p.runIn) 4 t.beat p.beatIn
def dueAt (p : Pol) (t : Tms) : Int := if rightB p = true then (dueS p t).2 else 0
def dueWhich (p : Pol) (t : Tms) : Int := if rightB p = true then (dueS p t).1 else 0
def dueOk (p : Pol) (t : Tms) : Bool := decide (0 < dueWhich p t)

/-! ### The first of some timeouts -/
def Pres (x : Int × Int × Int) : Prop := 0 < x.2.2 ∧ 0 ≤ x.2.1
def dueX (x : Int × Int × Int) : Int := plusF x.2.1 x.2.2
/-- What stands behind the timeouts of a list. -/
def InvF (L : List (Int × Int × Int)) (fd : Int × Int) : Prop :=
  (fd = (0, 0) ∧ ∀ x ∈ L, ¬ Pres x) ∨ ((∃ x ∈ L, Pres x ∧ fd = (x.1, dueX x)) ∧ ∀ x ∈ L, Pres x → fd.2 ≤ dueX x)
theorem inv_step {L : List (Int × Int × Int)} {fd : Int × Int} (hL : ∀ x ∈ L, 0 < x.1) (h : InvF L fd) (k fr inn : Int) : InvF (L ++ [(k, fr, inn)]) (stepF fd k fr inn) := by
  unfold stepF
  by_cases hp : 0 < inn ∧ 0 ≤ fr
  · rcases h with ⟨rfl, h⟩ | ⟨⟨x, hx, hpx, hfd⟩, h⟩
    · rw [if_pos ⟨hp, .inl rfl⟩]
      refine .inr ⟨⟨(k, fr, inn), by simp, hp, rfl⟩, fun y hy hpy => ?_⟩
      rcases List.mem_append.1 hy with hy | hy
      · exact (h y hy hpy).elim
      · simp at hy; subst hy; exact Int.le_refl _
    · have h1 := hL x hx
      by_cases hlt : plusF fr inn < fd.2
      · rw [if_pos ⟨hp, .inr hlt⟩]
        refine .inr ⟨⟨(k, fr, inn), by simp, hp, rfl⟩, fun y hy hpy => ?_⟩
        rcases List.mem_append.1 hy with hy | hy
        · have := h y hy hpy; simp only; omega
        · simp at hy; subst hy; exact Int.le_refl _
      · rw [if_neg (by rintro ⟨_, h | h⟩; (rw [hfd] at h; simp at h; omega); exact hlt h)]
        refine .inr ⟨⟨x, by simp [hx], hpx, hfd⟩, fun y hy hpy => ?_⟩
        rcases List.mem_append.1 hy with hy | hy
        · exact h y hy hpy
        · simp at hy; subst hy; unfold dueX; simp only; omega
  · rw [if_neg (by rintro ⟨h, _⟩; exact hp h)]
    rcases h with ⟨rfl, h⟩ | ⟨⟨x, hx, hpx, hfd⟩, h⟩
    · refine .inl ⟨rfl, fun y hy hpy => ?_⟩
      rcases List.mem_append.1 hy with hy | hy
      · exact h y hy hpy
      · simp at hy; subst hy; exact hp hpy
    · refine .inr ⟨⟨x, by simp [hx], hpx, hfd⟩, fun y hy hpy => ?_⟩
      rcases List.mem_append.1 hy with hy | hy
      · exact h y hy hpy
      · simp at hy; subst hy; exact (hp hpy).elim
def allX (p : Pol) (t : Tms) : List (Int × Int × Int) := [(3, t.put, p.allIn), (1, t.since, p.startIn), (2, t.tried, p.runIn), (4, t.beat, p.beatIn)]
theorem inv_all (p : Pol) (t : Tms) : InvF (allX p t) (dueS p t) := by
  have h0 : InvF [] (0, 0) := .inl ⟨rfl, by simp⟩
  have h1 := inv_step (by simp) h0 3 t.put p.allIn
  have h2 := inv_step (by simp) h1 1 t.since p.startIn
  have h3 := inv_step (by simp) h2 2 t.tried p.runIn
  exact inv_step (by simp) h3 4 t.beat p.beatIn
theorem allX_pos (p : Pol) (t : Tms) : ∀ x ∈ allX p t, 0 < x.1 := by simp [allX]
/-- Of all timeouts: what is told of each that is there, and of each that is not. -/
theorem first_of {p : Pol} {t : Tms} (hr : rightB p = true) {x : Int × Int × Int} (hx : x ∈ allX p t) (hu : ∀ y ∈ allX p t, y.1 = x.1 → y = x) :
    (Pres x → dueOk p t = true ∧ dueAt p t ≤ dueX x ∧ (dueWhich p t = x.1 → dueAt p t = dueX x)) ∧ (¬ Pres x → dueWhich p t ≠ x.1) := by
  have h := inv_all p t
  have ha : dueAt p t = (dueS p t).2 := by unfold dueAt; rw [if_pos hr]
  have hw : dueWhich p t = (dueS p t).1 := by unfold dueWhich; rw [if_pos hr]
  rw [ha, show dueOk p t = decide (0 < dueWhich p t) from rfl, hw]
  generalize dueS p t = fd at *
  rcases h with ⟨rfl, h⟩ | ⟨⟨z, hz, hpz, hfd⟩, h⟩
  · exact ⟨fun hp => (h x hx hp).elim, fun _ he => by have := allX_pos p t x hx; simp at he; omega⟩
  · subst hfd
    refine ⟨fun hp => ⟨by simpa using allX_pos p t z hz, h x hx hp, fun he => ?_⟩, fun hn he => ?_⟩
    · rw [hu z hz he]
    · exact hn (hu z hz he ▸ hpz)
theorem some_of {p : Pol} {t : Tms} (hr : rightB p = true) : dueOk p t = true ↔ ∃ x ∈ allX p t, Pres x := by
  have h := inv_all p t
  have hw : dueWhich p t = (dueS p t).1 := by unfold dueWhich; rw [if_pos hr]
  rw [show dueOk p t = decide (0 < dueWhich p t) from rfl, hw]
  generalize dueS p t = fd at *
  rcases h with ⟨rfl, h⟩ | ⟨⟨z, hz, hpz, hfd⟩, h⟩
  · simp; intro a b c h2 h3; exact h _ h2 h3
  · subst hfd
    simp only [decide_eq_true_eq]
    exact ⟨fun _ => ⟨z, hz, hpz⟩, fun _ => allX_pos p t z hz⟩
theorem plusF_of_le (a : Int) : plusF a 0 = plusF a 0 := rfl
/-- One timeout alone. -/
theorem alone (k fr inn : Int) (hk : 0 < k) : (stepF (0, 0) k fr inn = (k, plusF fr inn) ∧ 0 < inn ∧ 0 ≤ fr) ∨ (stepF (0, 0) k fr inn = (0, 0) ∧ ¬ (0 < inn ∧ 0 ≤ fr)) := by
  unfold stepF
  by_cases h : 0 < inn ∧ 0 ≤ fr
  · exact .inl ⟨by rw [if_pos ⟨h, .inl rfl⟩], h⟩
  · exact .inr ⟨by rw [if_neg (fun g => h g.1)], h⟩
theorem step_zero (fd : Int × Int) (k fr : Int) : stepF fd k fr 0 = fd := by unfold stepF; rw [if_neg (by omega)]
theorem step_neg (fd : Int × Int) (k inn : Int) : stepF fd k (-1) inn = fd := by unfold stepF; rw [if_neg (by omega)]
def one1 (p : Pol) : Pol := { p with runIn := 0, allIn := 0, beatIn := 0 }
theorem one1_right {p : Pol} (hr : rightB p = true) : rightB (one1 p) = true := by
  have R := (rightB_iff p).1 hr
  exact (rightB_iff _).2 ⟨R.init, R.cap, R.startIn, ⟨by simp [one1], by simp [one1]⟩, ⟨by simp [one1], by simp [one1]⟩, ⟨by simp [one1], by simp [one1]⟩, R.most, R.cost⟩
theorem one1_due {p : Pol} {t : Tms} (hr : rightB p = true) :
    (0 < p.startIn ∧ 0 ≤ t.since ∧ dueOk (one1 p) t = true ∧ dueWhich (one1 p) t = 1 ∧ dueOk p t = true ∧ dueAt p t ≤ dueAt (one1 p) t ∧ (dueWhich p t = 1 → dueAt (one1 p) t = dueAt p t)) ∨
    (¬ (0 < p.startIn ∧ 0 ≤ t.since) ∧ dueOk (one1 p) t = false ∧ dueWhich p t ≠ 1) := by
  have hs : dueS (one1 p) t = stepF (0, 0) 1 t.since p.startIn := by simp [dueS, one1, step_zero]
  have ha : dueAt (one1 p) t = (dueS (one1 p) t).2 := by unfold dueAt; rw [if_pos (one1_right hr)]
  have hw : dueWhich (one1 p) t = (dueS (one1 p) t).1 := by unfold dueWhich; rw [if_pos (one1_right hr)]
  have ho : dueOk (one1 p) t = decide (0 < dueWhich (one1 p) t) := rfl
  have hf := first_of (p := p) (t := t) hr (x := (1, t.since, p.startIn)) (by simp [allX]) (by simp [allX])
  rcases alone 1 t.since p.startIn (by omega) with ⟨h, h1, h2⟩ | ⟨h, h1⟩
  · obtain ⟨g1, g2, g3⟩ := hf.1 ⟨h1, h2⟩
    refine .inl ⟨h1, h2, ?_, ?_, g1, ?_, ?_⟩
    · rw [ho, hw, hs, h]; rfl
    · rw [hw, hs, h]
    · rw [ha, hs, h]; exact g2
    · intro e; rw [ha, hs, h]; exact (g3 e).symm
  · exact .inr ⟨h1, by rw [ho, hw, hs, h]; rfl, hf.2 h1⟩
def one2 (p : Pol) : Pol := { p with startIn := 0, allIn := 0, beatIn := 0 }
theorem one2_right {p : Pol} (hr : rightB p = true) : rightB (one2 p) = true := by
  have R := (rightB_iff p).1 hr
  exact (rightB_iff _).2 ⟨R.init, R.cap, ⟨by simp [one2], by simp [one2]⟩, R.runIn, ⟨by simp [one2], by simp [one2]⟩, ⟨by simp [one2], by simp [one2]⟩, R.most, R.cost⟩
theorem one2_due {p : Pol} {t : Tms} (hr : rightB p = true) :
    (0 < p.runIn ∧ 0 ≤ t.tried ∧ dueOk (one2 p) t = true ∧ dueWhich (one2 p) t = 2 ∧ dueOk p t = true ∧ dueAt p t ≤ dueAt (one2 p) t ∧ (dueWhich p t = 2 → dueAt (one2 p) t = dueAt p t)) ∨
    (¬ (0 < p.runIn ∧ 0 ≤ t.tried) ∧ dueOk (one2 p) t = false ∧ dueWhich p t ≠ 2) := by
  have hs : dueS (one2 p) t = stepF (0, 0) 2 t.tried p.runIn := by simp [dueS, one2, step_zero]
  have ha : dueAt (one2 p) t = (dueS (one2 p) t).2 := by unfold dueAt; rw [if_pos (one2_right hr)]
  have hw : dueWhich (one2 p) t = (dueS (one2 p) t).1 := by unfold dueWhich; rw [if_pos (one2_right hr)]
  have ho : dueOk (one2 p) t = decide (0 < dueWhich (one2 p) t) := rfl
  have hf := first_of (p := p) (t := t) hr (x := (2, t.tried, p.runIn)) (by simp [allX]) (by simp [allX])
  rcases alone 2 t.tried p.runIn (by omega) with ⟨h, h1, h2⟩ | ⟨h, h1⟩
  · obtain ⟨g1, g2, g3⟩ := hf.1 ⟨h1, h2⟩
    refine .inl ⟨h1, h2, ?_, ?_, g1, ?_, ?_⟩
    · rw [ho, hw, hs, h]; rfl
    · rw [hw, hs, h]
    · rw [ha, hs, h]; exact g2
    · intro e; rw [ha, hs, h]; exact (g3 e).symm
  · exact .inr ⟨h1, by rw [ho, hw, hs, h]; rfl, hf.2 h1⟩
def one3 (p : Pol) : Pol := { p with startIn := 0, runIn := 0, beatIn := 0 }
theorem one3_right {p : Pol} (hr : rightB p = true) : rightB (one3 p) = true := by
  have R := (rightB_iff p).1 hr
  exact (rightB_iff _).2 ⟨R.init, R.cap, ⟨by simp [one3], by simp [one3]⟩, ⟨by simp [one3], by simp [one3]⟩, R.allIn, ⟨by simp [one3], by simp [one3]⟩, R.most, R.cost⟩
theorem one3_due {p : Pol} {t : Tms} (hr : rightB p = true) :
    (0 < p.allIn ∧ 0 ≤ t.put ∧ dueOk (one3 p) t = true ∧ dueWhich (one3 p) t = 3 ∧ dueOk p t = true ∧ dueAt p t ≤ dueAt (one3 p) t ∧ (dueWhich p t = 3 → dueAt (one3 p) t = dueAt p t)) ∨
    (¬ (0 < p.allIn ∧ 0 ≤ t.put) ∧ dueOk (one3 p) t = false ∧ dueWhich p t ≠ 3) := by
  have hs : dueS (one3 p) t = stepF (0, 0) 3 t.put p.allIn := by simp [dueS, one3, step_zero]
  have ha : dueAt (one3 p) t = (dueS (one3 p) t).2 := by unfold dueAt; rw [if_pos (one3_right hr)]
  have hw : dueWhich (one3 p) t = (dueS (one3 p) t).1 := by unfold dueWhich; rw [if_pos (one3_right hr)]
  have ho : dueOk (one3 p) t = decide (0 < dueWhich (one3 p) t) := rfl
  have hf := first_of (p := p) (t := t) hr (x := (3, t.put, p.allIn)) (by simp [allX]) (by simp [allX])
  rcases alone 3 t.put p.allIn (by omega) with ⟨h, h1, h2⟩ | ⟨h, h1⟩
  · obtain ⟨g1, g2, g3⟩ := hf.1 ⟨h1, h2⟩
    refine .inl ⟨h1, h2, ?_, ?_, g1, ?_, ?_⟩
    · rw [ho, hw, hs, h]; rfl
    · rw [hw, hs, h]
    · rw [ha, hs, h]; exact g2
    · intro e; rw [ha, hs, h]; exact (g3 e).symm
  · exact .inr ⟨h1, by rw [ho, hw, hs, h]; rfl, hf.2 h1⟩
def one4 (p : Pol) : Pol := { p with startIn := 0, runIn := 0, allIn := 0 }
theorem one4_right {p : Pol} (hr : rightB p = true) : rightB (one4 p) = true := by
  have R := (rightB_iff p).1 hr
  exact (rightB_iff _).2 ⟨R.init, R.cap, ⟨by simp [one4], by simp [one4]⟩, ⟨by simp [one4], by simp [one4]⟩, ⟨by simp [one4], by simp [one4]⟩, R.beatIn, R.most, R.cost⟩
theorem one4_due {p : Pol} {t : Tms} (hr : rightB p = true) :
    (0 < p.beatIn ∧ 0 ≤ t.beat ∧ dueOk (one4 p) t = true ∧ dueWhich (one4 p) t = 4 ∧ dueOk p t = true ∧ dueAt p t ≤ dueAt (one4 p) t ∧ (dueWhich p t = 4 → dueAt (one4 p) t = dueAt p t)) ∨
    (¬ (0 < p.beatIn ∧ 0 ≤ t.beat) ∧ dueOk (one4 p) t = false ∧ dueWhich p t ≠ 4) := by
  have hs : dueS (one4 p) t = stepF (0, 0) 4 t.beat p.beatIn := by simp [dueS, one4, step_zero]
  have ha : dueAt (one4 p) t = (dueS (one4 p) t).2 := by unfold dueAt; rw [if_pos (one4_right hr)]
  have hw : dueWhich (one4 p) t = (dueS (one4 p) t).1 := by unfold dueWhich; rw [if_pos (one4_right hr)]
  have ho : dueOk (one4 p) t = decide (0 < dueWhich (one4 p) t) := rfl
  have hf := first_of (p := p) (t := t) hr (x := (4, t.beat, p.beatIn)) (by simp [allX]) (by simp [allX])
  rcases alone 4 t.beat p.beatIn (by omega) with ⟨h, h1, h2⟩ | ⟨h, h1⟩
  · obtain ⟨g1, g2, g3⟩ := hf.1 ⟨h1, h2⟩
    refine .inl ⟨h1, h2, ?_, ?_, g1, ?_, ?_⟩
    · rw [ho, hw, hs, h]; rfl
    · rw [hw, hs, h]
    · rw [ha, hs, h]; exact g2
    · intro e; rw [ha, hs, h]; exact (g3 e).symm
  · exact .inr ⟨h1, by rw [ho, hw, hs, h]; rfl, hf.2 h1⟩

theorem some_four {p : Pol} {t : Tms} (hr : rightB p = true) : (dueOk (one1 p) t || dueOk (one2 p) t || dueOk (one3 p) t || dueOk (one4 p) t) = dueOk p t := by
  rw [Bool.eq_iff_iff, some_of hr]
  simp only [Bool.or_eq_true, allX, List.mem_cons, List.not_mem_nil, or_false, exists_eq_or_imp, exists_eq_left, Pres]
  have h1 := one1_due (t := t) hr; have h2 := one2_due (t := t) hr; have h3 := one3_due (t := t) hr; have h4 := one4_due (t := t) hr
  constructor
  · rintro (((h | h) | h) | h)
    · rcases h1 with ⟨a, b, _⟩ | ⟨_, b, _⟩
      · exact .inr (.inl ⟨a, b⟩)
      · rw [h] at b; cases b
    · rcases h2 with ⟨a, b, _⟩ | ⟨_, b, _⟩
      · exact .inr (.inr (.inl ⟨a, b⟩))
      · rw [h] at b; cases b
    · rcases h3 with ⟨a, b, _⟩ | ⟨_, b, _⟩
      · exact .inl ⟨a, b⟩
      · rw [h] at b; cases b
    · rcases h4 with ⟨a, b, _⟩ | ⟨_, b, _⟩
      · exact .inr (.inr (.inr ⟨a, b⟩))
      · rw [h] at b; cases b
  · rintro (h | h | h | h)
    · rcases h3 with ⟨_, _, b, _⟩ | ⟨b, _⟩
      · exact .inl (.inr b)
      · exact (b h).elim
    · rcases h1 with ⟨_, _, b, _⟩ | ⟨b, _⟩
      · exact .inl (.inl (.inl b))
      · exact (b h).elim
    · rcases h2 with ⟨_, _, b, _⟩ | ⟨b, _⟩
      · exact .inl (.inl (.inr b))
      · exact (b h).elim
    · rcases h4 with ⟨_, _, b, _⟩ | ⟨b, _⟩
      · exact .inr b
      · exact (b h).elim

/-- Is one of the first k - 1 timeouts there? -/
def someB (p : Pol) (t : Tms) (k : Nat) : Bool := (decide (1 < k) && dueOk (one1 p) t) || (decide (2 < k) && dueOk (one2 p) t) || (decide (3 < k) && dueOk (one3 p) t) || (decide (4 < k) && dueOk (one4 p) t)
theorem someB_step1 (p : Pol) (t : Tms) : someB p t 2 = (someB p t 1 || dueOk (one1 p) t) := by simp [someB]
theorem someB_step2 (p : Pol) (t : Tms) : someB p t 3 = (someB p t 2 || dueOk (one2 p) t) := by simp [someB]
theorem someB_step3 (p : Pol) (t : Tms) : someB p t 4 = (someB p t 3 || dueOk (one3 p) t) := by simp [someB]
theorem someB_step4 (p : Pol) (t : Tms) : someB p t 5 = (someB p t 4 || dueOk (one4 p) t) := by simp [someB]
theorem someB_five {p : Pol} {t : Tms} (hr : rightB p = true) : someB p t 5 = dueOk p t := by rw [← some_four hr]; simp [someB]
end Go.Proofs.Ytnfmgojloahfkaa

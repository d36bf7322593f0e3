/- Heaps, plain: what becomes of the map of Ids as timers go. -/
import Derived.Test.YtkicofagjebnjaaL07
namespace Go.Proofs.Ytkicofagjebnjaa
set_option linter.unusedVariables false
set_option linter.unusedSimpArgs false
theorem fnd_wo {S : List Tmr} (d i : Int) : fnd i (wo d S) = if i = d then none else fnd i S := by
  induction S with
  | nil => simp [fnd, wo]
  | cons x S ih =>
    unfold wo fnd at ih ⊢
    rw [List.filter_cons]
    by_cases h : x.id = d
    · simp only [h, decide_true, Bool.not_true, Bool.false_eq_true, if_false]
      rw [ih]
      by_cases e : i = d
      · rw [if_pos e, if_pos e]
      · rw [if_neg e, if_neg e, List.find?_cons]
        have : decide (x.id = i) = false := by rw [h]; simpa using Ne.symm e
        rw [this]
    · simp only [h, decide_false, Bool.not_false, if_true]
      rw [List.find?_cons, List.find?_cons, ih]
      by_cases e : x.id = i
      · have : i ≠ d := by rw [← e]; exact h
        simp [e, this]
      · simp [e]
theorem wo_length {S : List Tmr} (hi : Ids S) {d : Int} {t : Tmr} (h : fnd d S = some t) : (wo d S).length + 1 = S.length := by
  induction S with
  | nil => simp [fnd] at h
  | cons x S ih =>
    have hS : Ids S := by unfold Ids at hi ⊢; exact (List.nodup_cons.1 hi).2
    by_cases e : x.id = d
    · subst e
      rw [wo_head hi]; rfl
    · have h2 : fnd d S = some t := by
        unfold fnd at h ⊢
        rw [List.find?_cons] at h
        simpa [e] using h
      have := ih hS h2
      unfold wo at this ⊢
      rw [List.filter_cons]
      simp only [e, decide_false, Bool.not_false, if_true, List.length_cons]
      omega
theorem wo_length_le (d : Int) (S : List Tmr) : (wo d S).length ≤ S.length := List.length_filter_le _ _
theorem mdel_same {d : Int} : ∀ {M : List (Int × Value)}, mlook d M = none → mdel d M = M
  | [], _ => rfl
  | (k, v) :: M, h => by
    have h1 := h
    simp only [mlook] at h
    by_cases e : k = d
    · simp [e] at h
    · simp only [e, if_false] at h
      simp only [mdel, e, if_false]
      rw [mdel_same h]
theorem thM_wo {M : List (Int × Value)} {S : List Tmr} (h : ThM M S) (hi : Ids S) (d : Int) : ThM (mdel d M) (wo d S) := by
  refine ⟨fun i => ?_, ?_, keys_del h.2.2⟩
  · rw [mlook_del _ h.2.2, fnd_wo, h.1]
    by_cases e : i = d
    · rw [if_pos e, if_pos e]; rfl
    · rw [if_neg e, if_neg e]
  · cases hf : fnd d S with
    | none =>
      have h0 : mlook d M = none := by rw [h.1, hf]; rfl
      rw [mdel_same h0, h.2.1]
      congr 1
      rw [wo_none (fnd_none.1 hf)]
    | some t =>
      have h0 : mlook d M ≠ none := by rw [h.1, hf]; simp
      have h1 := mdel_len h0
      have h2 := wo_length hi hf
      have h3 := h.2.1
      omega
theorem fnd_head {x : Tmr} {S : List Tmr} : fnd x.id (x :: S) = some x := by simp [fnd]
theorem wo_sub (d : Int) (S : List Tmr) : ∀ y ∈ wo d S, y ∈ S := fun y h => (List.mem_filter.1 h).1
end Go.Proofs.Ytkicofagjebnjaa

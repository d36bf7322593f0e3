/- What events come to, in plain Lean. -/
import Derived.Test.YthpgmefjgidkgaaS12b
namespace Go.Proofs.Ythpgmefjgidkgaa
set_option linter.unusedVariables false
set_option linter.unusedSimpArgs false
/-- What the first i events come to, each put. -/
def fh (l : List Ev) : Nat → Hs
  | 0 => ⟨emp, 0, [], [], [], [], false, false, ⟨0, 0⟩, 0, 0⟩
  | i + 1 => putH (fh l i) (l.getD i default)
/-- May the event in place i come next? -/
def okAt (l : List Ev) (i : Nat) : Bool := evR (l.getD i default) && mayB (fh l i) (l.getD i default)
def foldN (l : List Ev) : Nat := ((List.range l.length).find? fun i => !okAt l i).getD l.length
theorem foldN_eq {l : List Ev} {i : Nat} (hi : i ≤ l.length) (h : ∀ j, j < i → okAt l j = true) (hs : i = l.length ∨ okAt l i = false) : foldN l = i := by
  unfold foldN
  rcases Nat.lt_or_ge i l.length with hlt | hge
  · have hf : okAt l i = false := by rcases hs with h' | h'; omega; exact h'
    have : (List.range l.length).find? (fun i => !okAt l i) = some i := by
      rw [List.find?_range_eq_some]
      refine ⟨by simp [hf], by simpa using hlt, fun j hj => by simp [h j hj]⟩
    rw [this]; rfl
  · have he : i = l.length := by omega
    have : (List.range l.length).find? (fun i => !okAt l i) = none := by
      rw [List.find?_range_eq_none]
      intro j hj
      simp [h j (by omega)]
    rw [this, he]; rfl
theorem foldN_le (l : List Ev) : foldN l ≤ l.length := by
  unfold foldN
  cases h : (List.range l.length).find? (fun i => !okAt l i) with
  | none => simp
  | some i =>
    have := (List.find?_range_eq_some.1 h).2.1
    simp at this ⊢; omega
theorem foldN_ok (l : List Ev) : ∀ j, j < foldN l → okAt l j = true := by
  intro j hj
  unfold foldN at hj
  cases h : (List.range l.length).find? (fun i => !okAt l i) with
  | none =>
    rw [h] at hj
    have := (List.find?_range_eq_none.1 h) j (by simpa using hj)
    simpa using this
  | some i =>
    rw [h] at hj
    have := (List.find?_range_eq_some.1 h).2.2 j (by simpa using hj)
    simpa using this
theorem foldN_stop (l : List Ev) (h : foldN l < l.length) : okAt l (foldN l) = false := by
  unfold foldN at h ⊢
  cases hf : (List.range l.length).find? (fun i => !okAt l i) with
  | none => rw [hf] at h; simp at h
  | some i =>
    have := (List.find?_range_eq_some.1 hf).1
    simpa using this
def foldH (l : List Ev) : Hs := fh l (foldN l)
/-- A history that so many events come to. -/
structure FhP (h : Hs) (i : Nat) : Prop where
  right : hrB h = true
  len : h.len = i
  cl : h.cmds.length ≤ i
  tl : h.tries.length ≤ i
  kl : h.known.length ≤ i
  sl : h.sigs.length ≤ i
  kd : ∀ j, j < h.cmds.length → 0 ≤ (h.cmds.getD j default).kind ∧ (h.cmds.getD j default).kind ≤ 255
  last : 0 ≤ h.last
theorem fhP0 : FhP ⟨emp, 0, [], [], [], [], false, false, ⟨0, 0⟩, 0, 0⟩ 0 :=
  ⟨by simp [hrB, zeroB, noneB_emp], rfl, by simp, by simp, by simp, by simp, fun j hj => by simp at hj, by simp⟩
theorem fhP_put {h : Hs} {i : Nat} {e : Ev} (f : FhP h i) (he : evR e = true) (hm : mayB h e = true) : FhP (putH h e) (i + 1) := by
  have r := hr_put f.right he hm
  have hlast : 0 ≤ (putH h e).last := by rw [put_last]; exact (evR_parts he).2.2.1
  have hlen : (putH h e).len = ((i + 1 : Nat) : Int) := by rw [put_len, f.len]; simp
  obtain ⟨_, _, _, _, hk⟩ := evR_parts he
  have hcl := f.cl; have htl := f.tl; have hkl := f.kl; have hsl := f.sl
  by_cases e2 : e.k = 2
  · have hp : putH h e = { h with len := h.len + 1, last := e.at', cmds := h.cmds ++ [⟨e.n, e.p, e.s, e.a, e.b⟩], tries := h.tries ++ [0] } := by
      unfold putH; rw [if_neg (by omega), if_pos e2]
    unfold kindB at hk
    rw [if_neg (by omega), if_pos e2] at hk
    simp only [Bool.and_eq_true, decide_eq_true_eq] at hk
    refine ⟨hrB_of r, hlen, ?_, ?_, ?_, ?_, ?_, hlast⟩ <;> rw [hp]
    · simp; omega
    · simp; omega
    · simp; omega
    · simp; omega
    · intro j hj
      simp only [List.length_append, List.length_cons, List.length_nil] at hj
      simp only [getD_app]
      by_cases hlt : j < h.cmds.length
      · rw [if_pos hlt]; exact f.kd j hlt
      · rw [if_neg hlt, if_pos (by omega)]; simp only; omega
  · have hc : (putH h e).cmds = h.cmds := by
      unfold putH
      split; · rfl
      split; · rfl
      split; · rfl
      split; · rfl
      split; · rfl
      split <;> rfl
    have ht : (putH h e).tries.length = h.tries.length := by
      unfold putH
      split; · rfl
      split; · simp
      split; · rfl
      split; · rfl
      split; · rfl
      split <;> rfl
    have hkn : (putH h e).known.length ≤ h.known.length + 1 := by
      unfold putH
      split; · simp
      split; · simp
      split; · simp
      split; · simp
      split; · simp
      split <;> simp
    have hsg : (putH h e).sigs.length ≤ h.sigs.length + 1 := by
      unfold putH
      split; · simp
      split; · simp
      split; · simp
      split; · simp
      split; · simp
      split <;> simp
    refine ⟨hrB_of r, hlen, by rw [hc]; omega, by omega, by omega, by omega, fun j hj => ?_, hlast⟩
    rw [hc] at hj ⊢; exact f.kd j hj
theorem fh_P {l : List Ev} : ∀ {i : Nat}, (∀ j, j < i → okAt l j = true) → FhP (fh l i) i
  | 0, _ => fhP0
  | i + 1, h => by
    have h1 := h i (by omega)
    unfold okAt at h1
    simp only [Bool.and_eq_true] at h1
    exact fhP_put (fh_P (fun j hj => h j (by omega))) h1.1 h1.2
end Go.Proofs.Ythpgmefjgidkgaa

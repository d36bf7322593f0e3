/- Parts of events; histories with one thing other: plain. -/
import Derived.Test.YthpgmefjgidkgaaS12f
namespace Go.Proofs.Ythpgmefjgidkgaa
set_option linter.unusedVariables false
set_option linter.unusedSimpArgs false
theorem getD_take {l : List Ev} {k j : Nat} (h : j < k) : (l.take k).getD j default = l.getD j default := by
  simp only [List.getD_eq_getElem?_getD, List.getElem?_take_of_lt h]
theorem fh_take {l : List Ev} {k : Nat} : ∀ i, i ≤ k → fh (l.take k) i = fh l i
  | 0, _ => rfl
  | i + 1, h => by rw [fh, fh, fh_take i (by omega), getD_take (by omega)]
theorem okAt_take {l : List Ev} {k j : Nat} (h : j < k) : okAt (l.take k) j = okAt l j := by
  unfold okAt; rw [fh_take j (by omega), getD_take h]
theorem foldN_take {l : List Ev} {k : Nat} (h : k ≤ foldN l) : foldN (l.take k) = k := by
  have hl := foldN_le l
  have e : (l.take k).length = k := by rw [List.length_take]; omega
  exact foldN_eq (by omega) (fun j hj => by rw [okAt_take hj]; exact foldN_ok l j (by omega)) (.inl e.symm)
theorem foldH_take {l : List Ev} {k : Nat} (h : k ≤ foldN l) : foldH (l.take k) = fh l k := by
  unfold foldH; rw [foldN_take h, fh_take k (Nat.le_refl _)]
theorem next_ok {l : List Ev} {j : Nat} (h : okAt l j = true) : nextH (fh l j) (l.getD j default) = (fh l (j + 1), 0) := by
  unfold okAt at h
  simp only [Bool.and_eq_true] at h
  rw [nextH_ok h.1 h.2]; rfl
theorem next_stop {l : List Ev} {j : Nat} (h : okAt l j = false) : (nextH (fh l j) (l.getD j default)).2 ≠ 0 := by
  unfold okAt at h
  unfold nextH
  split
  · rename_i h1
    split
    · rename_i h2; rw [h1, h2] at h; cases h
    · simp
  · simp
/-- A history with one thing other. -/
def wrong (h : Hs) (c : Int) : Hs :=
  if c = 0 then { h with len := h.len + 1 }
  else if c = 1 then { h with last := -1 }
  else if c = 2 then { h with tries := h.tries ++ [0] }
  else if c = 3 then { h with cmds := h.cmds ++ [⟨h.cmds.length + 2, 2, emp, 0, 0⟩], tries := h.tries ++ [0] }
  else if c = 4 then { h with out := ⟨4, h.out.v⟩ }
  else if c = 5 then { h with known := h.known ++ [⟨h.cmds.length + 1, ⟨0, 0⟩⟩] }
  else { h with closed := !h.closed }
theorem wr_0 {h : Hs} (hr : hrB h = true) : hrB { h with len := h.len + 1 } = false := by
  by_cases h0 : h.len = 0
  · obtain rfl := hs0_of hr h0
    unfold hrB
    rw [if_neg (by simp)]
    have : evR ⟨1, 0, 0, 0, 0, 0, emp⟩ = false := rfl
    simp only [this, Bool.false_and]
  · have r := hrP_of hr h0
    have hm := r.many
    have hl := r.len1
    unfold hrB
    rw [if_neg (by simp only; omega)]
    have : decide (h.len + 1 = manyI { h with len := h.len + 1 }) = false := by
      simp only [decide_eq_false_iff_not]
      show ¬ (h.len + 1 = manyI h)
      omega
    simp only [this, Bool.and_false]
theorem wr_1 {h : Hs} (hr : hrB h = true) : hrB { h with last := -1 } = false := by
  unfold hrB
  split
  · unfold zeroB; simp
  · have : evR ⟨1, -1, 0, 0, h.arg, 0, h.prog⟩ = false := by simp [evR]
    simp only [this, Bool.false_and]
theorem wr_2 {h : Hs} (hr : hrB h = true) : hrB { h with tries := h.tries ++ [0] } = false := by
  unfold hrB
  split
  · rename_i h0
    unfold zeroB
    have : decide ((h.cmds.length : Int) + (h.tries ++ [(0 : Int)]).length + h.known.length + h.sigs.length = 0) = false := by simp; omega
    simp only [this, Bool.false_and]
  · rename_i h0
    have r := hrP_of hr h0
    have : cmdsB { h with tries := h.tries ++ [0] } = false := by
      unfold cmdsB
      have e := r.tl
      have : decide ((h.tries ++ [(0 : Int)]).length = h.cmds.length) = false := by simp; omega
      simp only [this, Bool.false_and]
    simp only [this, Bool.false_and, Bool.and_false]
theorem wr_3 {h : Hs} (hr : hrB h = true) : hrB { h with cmds := h.cmds ++ [⟨h.cmds.length + 2, 2, emp, 0, 0⟩], tries := h.tries ++ [0] } = false := by
  unfold hrB
  split
  · rename_i h0
    unfold zeroB
    have : decide (((h.cmds ++ [(⟨h.cmds.length + 2, 2, emp, 0, 0⟩ : Cmd)]).length : Int) + (h.tries ++ [(0 : Int)]).length + h.known.length + h.sigs.length = 0) = false := by simp; omega
    simp only [this, Bool.false_and]
  · have hk : cmdsK { h with cmds := h.cmds ++ [⟨h.cmds.length + 2, 2, emp, 0, 0⟩], tries := h.tries ++ [0] } (h.cmds ++ [(⟨h.cmds.length + 2, 2, emp, 0, 0⟩ : Cmd)]).length = false := by
      rw [← Bool.not_eq_true, cmdsK_iff]
      intro hh
      have h1 := hh h.cmds.length (by simp)
      unfold cmdOk at h1
      simp only [Bool.and_eq_true, decide_eq_true_eq] at h1
      have h2 := h1.1
      simp only [getD_app, Nat.lt_irrefl, if_false, if_true] at h2
      omega
    have : cmdsB { h with cmds := h.cmds ++ [⟨h.cmds.length + 2, 2, emp, 0, 0⟩], tries := h.tries ++ [0] } = false := by
      unfold cmdsB; simp only [hk, Bool.and_false]
    simp only [this, Bool.false_and, Bool.and_false]
theorem wr_4 {h : Hs} (hr : hrB h = true) : hrB { h with out := ⟨4, h.out.v⟩ } = false := by
  unfold hrB
  split
  · unfold zeroB; simp
  · have : evR ⟨7, 0, 0, 4, h.out.v, 0, emp⟩ = false := by simp [evR, kindB, statB]
    simp only [this, Bool.false_and, Bool.and_false]
theorem wr_5 {h : Hs} (hr : hrB h = true) : hrB { h with known := h.known ++ [⟨h.cmds.length + 1, ⟨0, 0⟩⟩] } = false := by
  unfold hrB
  split
  · unfold zeroB
    have : decide ((h.cmds.length : Int) + h.tries.length + (h.known ++ [(⟨h.cmds.length + 1, ⟨0, 0⟩⟩ : Kno)]).length + h.sigs.length = 0) = false := by simp; omega
    simp only [this, Bool.false_and]
  · have : knosB { h with known := h.known ++ [⟨h.cmds.length + 1, ⟨0, 0⟩⟩] } = false := by
      unfold knosB
      rw [← Bool.not_eq_true, knosK_iff]
      intro hh
      have h1 := hh h.known.length (by simp)
      unfold knoOk at h1
      simp only [Bool.and_eq_true, decide_eq_true_eq] at h1
      have h2 := h1.2.1
      simp only [getD_app, Nat.lt_irrefl, if_false, if_true] at h2
      omega
    simp only [this, Bool.false_and, Bool.and_false]
theorem wr_6 {h : Hs} (hr : hrB h = true) : hrB { h with closed := !h.closed } = false := by
  unfold hrB
  split
  · rename_i h0
    have hc : h.closed = false := by
      have := hs0_of hr h0
      rw [this]
    unfold zeroB
    simp [hc]
  · rename_i h0
    have r := hrP_of hr h0
    have hm := r.many
    have : decide (h.len = manyI { h with closed := !h.closed }) = false := by
      rw [decide_eq_false_iff_not]
      unfold manyI at hm ⊢
      simp only at hm ⊢
      cases hc : h.closed <;> rw [hc] at hm <;> simp only [b2i] at hm ⊢ <;> simp at hm ⊢ <;> omega
    simp only [this, Bool.and_false]
end Go.Proofs.Ythpgmefjgidkgaa

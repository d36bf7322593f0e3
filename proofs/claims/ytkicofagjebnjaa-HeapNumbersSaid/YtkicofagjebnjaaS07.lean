/- Heaps, plain: timers in a list, each not behind the two below it. -/
namespace Go.Proofs.Ytkicofagjebnjaa
set_option linter.unusedVariables false
set_option linter.unusedSimpArgs false
structure Tmr where
  due : Int
  id : Int
  deriving DecidableEq, Inhabited
/-- a is ahead of b. -/
def ahd (a b : Tmr) : Bool := decide (a.due < b.due) || (decide (a.due = b.due) && decide (a.id < b.id))
def Ahd (a b : Tmr) : Prop := a.due < b.due ∨ (a.due = b.due ∧ a.id < b.id)
theorem ahd_iff {a b : Tmr} : ahd a b = true ↔ Ahd a b := by simp [ahd, Ahd]
theorem Ahd.trans {a b c : Tmr} (h : Ahd a b) (k : Ahd b c) : Ahd a c := by unfold Ahd at *; omega
theorem Ahd.irrefl {a : Tmr} (h : Ahd a a) : False := by unfold Ahd at h; omega
theorem Ahd.of_not {a b : Tmr} (h : ¬ Ahd a b) (hne : a.id ≠ b.id) : Ahd b a := by unfold Ahd at *; omega
theorem Ahd.asymm {a b : Tmr} (h : Ahd a b) (k : Ahd b a) : False := (h.trans k).irrefl
theorem Ahd.total {a b : Tmr} (hne : a ≠ b) : Ahd a b ∨ Ahd b a := by
  cases a; cases b; unfold Ahd; simp at hne ⊢; omega
/-- Which of two is ahead, as a number. -/
def ordI (a b : Tmr) : Int := if a.due < b.due then -1 else if b.due < a.due then 1 else if a.id < b.id then -1 else if b.id < a.id then 1 else 0
theorem ordI_neg (a b : Tmr) : ordI a b < 0 ↔ Ahd a b := by
  unfold ordI Ahd
  split
  · omega
  · split
    · omega
    · split
      · omega
      · split <;> omega
abbrev at_ (l : List Tmr) (i : Nat) : Tmr := l.getD i default
theorem at_eq {l : List Tmr} {i : Nat} (h : i < l.length) : at_ l i = l[i] := by simp [at_, List.getD, h]
def Ids (l : List Tmr) : Prop := (l.map (·.id)).Nodup
theorem Ids.ne {l : List Tmr} (h : Ids l) {i j : Nat} (hi : i < l.length) (hj : j < l.length) (hij : i ≠ j) : (at_ l i).id ≠ (at_ l j).id := by
  intro e
  rw [at_eq hi, at_eq hj] at e
  have h1 : i < (l.map (·.id)).length := by simpa using hi
  have h2 : j < (l.map (·.id)).length := by simpa using hj
  have hp := List.pairwise_iff_getElem.1 h
  rcases Nat.lt_or_gt_of_ne hij with h3 | h3
  · exact hp i j h1 h2 h3 (by simpa using e)
  · exact hp j i h2 h1 h3 (by simpa using e.symm)
theorem Ids.perm {l m : List Tmr} (h : Ids l) (p : l.Perm m) : Ids m := (List.Perm.nodup_iff (p.map _)).1 h
/-- Two places changed about. -/
def swp (l : List Tmr) (i k : Nat) : List Tmr := (l.set i (at_ l k)).set k (at_ l i)
@[simp] theorem swp_length (l : List Tmr) (i k : Nat) : (swp l i k).length = l.length := by simp [swp]
theorem at_set_ {l : List Tmr} {i j : Nat} {x : Tmr} (hi : i < l.length) : at_ (l.set i x) j = if j = i then x else at_ l j := by
  unfold at_
  rw [List.getD_eq_getElem?_getD, List.getElem?_set]
  by_cases h : i = j
  · subst h; simp [hi]
  · rw [if_neg h, if_neg (Ne.symm h)]; rfl
theorem at_swp {l : List Tmr} {i k j : Nat} (hi : i < l.length) (hk : k < l.length) : at_ (swp l i k) j = if j = k then at_ l i else if j = i then at_ l k else at_ l j := by
  unfold swp
  rw [at_set_ (by simpa using hk), at_set_ hi]
theorem set_perm {l : List Tmr} {i : Nat} {x : Tmr} (hi : i < l.length) : (at_ l i :: l.set i x).Perm (x :: l) := by
  induction l generalizing i with
  | nil => simp at hi
  | cons a l ih =>
    cases i with
    | zero => simpa [at_] using List.Perm.swap x a l
    | succ i =>
      have := ih (i := i) (by simpa using hi)
      have e : at_ (a :: l) (i + 1) = at_ l i := by simp [at_]
      rw [e, List.set_cons_succ]
      exact (List.Perm.swap a (at_ l i) _).trans ((List.Perm.cons a this).trans (List.Perm.swap x a l))
theorem swp_perm {l : List Tmr} {i k : Nat} (hi : i < l.length) (hk : k < l.length) : (swp l i k).Perm l := by
  by_cases e : i = k
  · subst e
    have h1 := set_perm (l := l) (x := at_ l i) hi
    have : swp l i i = l.set i (at_ l i) := by simp [swp]
    rw [this]; exact (List.perm_cons _).1 h1
  · unfold swp
    have h1 := set_perm (l := l.set i (at_ l k)) (i := k) (x := at_ l i) (by simpa using hk)
    rw [at_set_ hi, if_neg (Ne.symm e)] at h1
    have h2 := set_perm (l := l) (x := at_ l k) hi
    exact (List.perm_cons _).1 (h1.trans h2)
def par (j : Nat) : Nat := (j - 1) / 2
theorem par_lt {j : Nat} (h : 0 < j) : par j < j := by unfold par; omega
/-- A heap. -/
def Hp (l : List Tmr) : Prop := ∀ j, 0 < j → j < l.length → Ahd (at_ l (par j)) (at_ l j)
/-- The children of i are not ahead of the one above i. -/
def Brg (l : List Tmr) (i : Nat) : Prop := 0 < i → ∀ j, 0 < j → j < l.length → par j = i → Ahd (at_ l (par i)) (at_ l j)
/-- A heap but for the place i. -/
def HpB (l : List Tmr) (i : Nat) : Prop := (∀ j, 0 < j → j < l.length → j ≠ i → par j ≠ i → Ahd (at_ l (par j)) (at_ l j)) ∧ Brg l i
/-- A heap but for what is above i. -/
def HpU (l : List Tmr) (i : Nat) : Prop := (∀ j, 0 < j → j < l.length → j ≠ i → Ahd (at_ l (par j)) (at_ l j)) ∧ Brg l i
/-- A heap but for what is below i. -/
def HpD (l : List Tmr) (i : Nat) : Prop := (∀ j, 0 < j → j < l.length → par j ≠ i → Ahd (at_ l (par j)) (at_ l j)) ∧ Brg l i
theorem HpU.b {l : List Tmr} {i : Nat} (h : HpU l i) : HpB l i := ⟨fun j h1 h2 h3 _ => h.1 j h1 h2 h3, h.2⟩
theorem Hp.d {l : List Tmr} (h : Hp l) (i : Nat) : HpD l i := ⟨fun j h1 h2 _ => h j h1 h2, fun hi j h1 h2 e => by
  have hlt : i < l.length := by have := par_lt h1; omega
  have a := h i hi hlt
  have b := h j h1 h2
  rw [e] at b; exact a.trans b⟩
/-- One step up. -/
theorem up_step {l : List Tmr} {i : Nat} (h : HpB l i) (hi : i < l.length) (h0 : 0 < i) (ha : Ahd (at_ l i) (at_ l (par i))) : HpU (swp l i (par i)) (par i) := by
  have hp := par_lt h0
  have hpl : par i < l.length := by omega
  have A : ∀ j, at_ (swp l i (par i)) j = if j = par i then at_ l i else if j = i then at_ l (par i) else at_ l j := fun j => at_swp hi hpl
  -- what stood above i is ahead of all that stand below it
  have hsib : ∀ j, 0 < j → j < l.length → par j = par i → j ≠ i → Ahd (at_ l (par i)) (at_ l j) := fun j h1 h2 e hne => by
    have := h.1 j h1 h2 hne (by rw [e]; omega)
    rw [e] at this; exact this
  refine ⟨fun j h1 h2 hne => ?_, fun hp0 j h1 h2 e => ?_⟩
  · rw [swp_length] at h2
    have hjp := par_lt h1
    rw [A j, A (par j), if_neg hne]
    by_cases e1 : j = i
    · subst e1; rw [if_pos rfl, if_pos rfl]; exact ha
    · rw [if_neg e1]
      by_cases e2 : par j = par i
      · rw [if_pos e2]; exact ha.trans (hsib j h1 h2 e2 e1)
      · rw [if_neg e2]
        by_cases e3 : par j = i
        · rw [if_pos e3]; exact h.2 h0 j h1 h2 e3
        · rw [if_neg e3]; exact h.1 j h1 h2 e1 e3
  · rw [swp_length] at h2
    have hjp := par_lt h1
    have hpp := par_lt hp0
    have hup : Ahd (at_ l (par (par i))) (at_ l (par i)) := h.1 (par i) hp0 hpl (by omega) (by omega)
    rw [A j, A (par (par i)), if_neg (by omega : j ≠ par i), if_neg (by omega : par (par i) ≠ par i), if_neg (by omega : par (par i) ≠ i)]
    by_cases e1 : j = i
    · rw [if_pos e1]; exact hup
    · rw [if_neg e1]; exact hup.trans (hsib j h1 h2 e e1)
/-- Nothing more to be done upwards. -/
theorem up_done {l : List Tmr} {i : Nat} (h : HpB l i) (hi : i < l.length) (hids : Ids l) (hd : i = 0 ∨ ¬ Ahd (at_ l i) (at_ l (par i))) : HpD l i := by
  refine ⟨fun j h1 h2 e => ?_, h.2⟩
  by_cases e1 : j = i
  · subst e1
    rcases hd with hd | hd
    · omega
    · have := par_lt h1
      exact Ahd.of_not hd (hids.ne hi (by omega) (by omega))
  · exact h.1 j h1 h2 e1 e
theorem up_done' {l : List Tmr} {i : Nat} (h : HpU l i) (hi : i < l.length) (hids : Ids l) (hd : i = 0 ∨ ¬ Ahd (at_ l i) (at_ l (par i))) : Hp l := by
  intro j h1 h2
  by_cases e1 : j = i
  · subst e1
    rcases hd with hd | hd
    · omega
    · have := par_lt h1
      exact Ahd.of_not hd (hids.ne hi (by omega) (by omega))
  · exact h.1 j h1 h2 e1
theorem par_cases {i j : Nat} (h : 0 < j) (e : par j = i) : j = 2 * i + 1 ∨ j = 2 * i + 2 := by unfold par at e; omega
/-- Nothing more to be done downwards: no child. -/
theorem down_leaf {l : List Tmr} {i : Nat} (h : HpD l i) (hk : l.length ≤ 2 * i + 1) : Hp l := by
  intro j h1 h2
  refine h.1 j h1 h2 fun e => ?_
  have := par_cases h1 e
  omega
/-- The lesser child k: what is below i is not ahead of it. -/
def Least (l : List Tmr) (i k : Nat) : Prop := (k = 2 * i + 1 ∨ k = 2 * i + 2) ∧ k < l.length ∧ ∀ j, 0 < j → j < l.length → par j = i → j ≠ k → Ahd (at_ l k) (at_ l j)
theorem down_done {l : List Tmr} {i k : Nat} (h : HpD l i) (hk : Least l i k) (ha : Ahd (at_ l i) (at_ l k)) : Hp l := by
  intro j h1 h2
  by_cases e : par j = i
  · rw [e]
    by_cases e2 : j = k
    · rw [e2]; exact ha
    · exact ha.trans (hk.2.2 j h1 h2 e e2)
  · exact h.1 j h1 h2 e
theorem down_step {l : List Tmr} {i k : Nat} (h : HpD l i) (hi : i < l.length) (hk : Least l i k) (hids : Ids l) (ha : ¬ Ahd (at_ l i) (at_ l k)) : HpD (swp l i k) k := by
  obtain ⟨hk1, hkl, hkm⟩ := hk
  have hik : i < k := by omega
  have hpk : par k = i := by unfold par; omega
  have hki : Ahd (at_ l k) (at_ l i) := Ahd.of_not ha (hids.ne hi hkl (by omega))
  have A : ∀ j, at_ (swp l i k) j = if j = k then at_ l i else if j = i then at_ l k else at_ l j := fun j => at_swp hi hkl
  refine ⟨fun j h1 h2 e => ?_, fun h0 j h1 h2 e => ?_⟩
  · rw [swp_length] at h2
    have hjp := par_lt h1
    rw [A j, A (par j), if_neg e]
    by_cases e1 : j = k
    · subst e1; rw [if_pos rfl, if_pos hpk]; exact hki
    · rw [if_neg e1]
      by_cases e2 : par j = i
      · rw [if_pos e2, if_neg (by omega : j ≠ i)]; exact hkm j h1 h2 e2 e1
      · rw [if_neg e2]
        by_cases e3 : j = i
        · subst e3; rw [if_pos rfl]; exact h.2 h1 k (by omega) hkl hpk
        · rw [if_neg e3]; exact h.1 j h1 h2 e2
  · rw [swp_length] at h2
    have hjp := par_lt h1
    rw [A j, A (par k), hpk, if_neg (by omega : i ≠ k), if_pos rfl, if_neg (by omega : j ≠ k), if_neg (by omega : j ≠ i)]
    have := h.1 j h1 h2 (by omega)
    rw [e] at this; exact this
/-- The first one is ahead of all others. -/
theorem hp_first {l : List Tmr} (h : Hp l) : ∀ j, 0 < j → j < l.length → Ahd (at_ l 0) (at_ l j) := by
  intro j
  induction j using Nat.strongRecOn with
  | _ j ih =>
    intro h1 h2
    have hp := par_lt h1
    rcases Nat.eq_zero_or_pos (par j) with e | e
    · have := h j h1 h2; rw [e] at this; exact this
    · exact (ih (par j) hp e (by omega)).trans (h j h1 h2)
/-- One more at the end. -/
theorem hp_push {l : List Tmr} (h : Hp l) (x : Tmr) : HpB (l ++ [x]) l.length := by
  have A : ∀ j, j < l.length → at_ (l ++ [x]) j = at_ l j := fun j hj => by simp [at_, List.getD, List.getElem?_append_left hj]
  refine ⟨fun j h1 h2 hne hp => ?_, fun h0 j h1 h2 e => ?_⟩
  · have hj : j < l.length := by simp at h2; omega
    have := par_lt h1
    rw [A j hj, A (par j) (by omega)]; exact h j h1 hj
  · simp at h2
    have := par_lt h1
    omega
/-- The one at i goes: the last one in its place. -/
def rep (l : List Tmr) (i : Nat) : List Tmr := (l.set i (at_ l (l.length - 1))).take (l.length - 1)
theorem rep_length {l : List Tmr} {i : Nat} (hi : i < l.length) : (rep l i).length = l.length - 1 := by simp [rep]
theorem at_rep {l : List Tmr} {i j : Nat} (hi : i < l.length) (hj : j < l.length - 1) : at_ (rep l i) j = if j = i then at_ l (l.length - 1) else at_ l j := by
  rw [← at_set_ hi]
  unfold rep at_
  simp only [List.getD_eq_getElem?_getD, List.getElem?_take_of_lt hj]
theorem hp_rep {l : List Tmr} (h : Hp l) {i : Nat} (hi : i < l.length) : HpB (rep l i) i := by
  have hl := rep_length hi
  refine ⟨fun j h1 h2 hne hp => ?_, fun h0 j h1 h2 e => ?_⟩
  · have hpj := par_lt h1
    rw [at_rep hi (by omega), at_rep hi (by omega), if_neg hne, if_neg hp]
    exact h j h1 (by omega)
  · have hpj := par_lt h1
    have hpi := par_lt h0
    rw [at_rep hi (by omega), at_rep hi (by omega), if_neg (by omega : par i ≠ i), if_neg (by omega : j ≠ i)]
    have a := h i h0 hi
    have b := h j h1 (by omega)
    rw [e] at b; exact a.trans b
theorem hp_rep_last {l : List Tmr} (h : Hp l) {i : Nat} (hi : i = l.length - 1) (hl : 0 < l.length) : Hp (rep l i) := by
  have h3 := rep_length (l := l) (i := i) (by omega)
  intro j h1 h2
  have hpj := par_lt h1
  rw [at_rep (by omega) (by omega), at_rep (by omega) (by omega), if_neg (by omega), if_neg (by omega)]
  exact h j h1 (by omega)
theorem dropLast_perm {l : List Tmr} (h : 0 < l.length) : (at_ l (l.length - 1) :: l.take (l.length - 1)).Perm l := by
  have e : l.take (l.length - 1) ++ [at_ l (l.length - 1)] = l := by
    have h1 : l ≠ [] := by intro e; simp [e] at h
    have h2 := List.dropLast_concat_getLast h1
    rw [List.dropLast_eq_take, List.getLast_eq_getElem] at h2
    rw [at_eq (by omega)]; exact h2
  have := List.perm_append_comm (l₁ := l.take (l.length - 1)) (l₂ := [at_ l (l.length - 1)])
  rw [e] at this
  exact this.symm
theorem rep_perm {l : List Tmr} {i : Nat} (hi : i < l.length) : (at_ l i :: rep l i).Perm l := by
  have h1 := set_perm (l := l) (x := at_ l (l.length - 1)) hi
  have h2 := dropLast_perm (l := l.set i (at_ l (l.length - 1))) (by simp; omega)
  rw [List.length_set] at h2
  have h3 : at_ (l.set i (at_ l (l.length - 1))) (l.length - 1) = at_ l (l.length - 1) := by
    rw [at_set_ hi]; split <;> rfl
  rw [h3] at h2
  -- x :: take ~ set; at i :: set ~ x :: l
  have h4 : (at_ l i :: at_ l (l.length - 1) :: rep l i).Perm (at_ l (l.length - 1) :: l) := (List.Perm.cons _ h2).trans h1
  exact (List.perm_cons _).1 ((List.Perm.swap _ _ _).trans h4)
end Go.Proofs.Ytkicofagjebnjaa

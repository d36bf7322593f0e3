/- Runs, in plain: what is known in another order; what a run waits for. -/
import Derived.Test.YtpfkpdimjljeaaaP10a
import Derived.Test.YtpfkpdimjljeaaaOp3
namespace Go.Proofs.Ytpfkpdimjljeaaa
open Go.RowKit
set_option linter.unusedVariables false
set_option linter.unusedSimpArgs false

/-- Outcomes by a list: the first one of a number. -/
def lookL (L : List Kno) (m : Int) : Option Out := (L.find? fun k => decide (k.n = m)).map (·.out)
theorem find_map_range (L : List Kno) (m : Int) : ∀ k, k ≤ L.length → ((List.range k).find? fun i => decide ((L.getD i default).n = m)).map (fun i => (L.getD i default).out) = lookL (L.take k) m
  | 0, _ => rfl
  | k + 1, hk => by
    have ih := find_map_range L m k (by omega)
    rw [List.range_succ, List.find?_append, List.take_succ_eq_append_getElem (by omega : k < L.length)]
    unfold lookL at ih ⊢
    rw [List.find?_append]
    cases h1 : (List.range k).find? (fun i => decide ((L.getD i default).n = m)) with
    | some i =>
      rw [h1] at ih
      cases h2 : (L.take k).find? (fun k => decide (k.n = m)) with
      | some y => rw [h2] at ih; simpa using ih
      | none => rw [h2] at ih; cases ih
    | none =>
      rw [h1] at ih
      cases h2 : (L.take k).find? (fun k => decide (k.n = m)) with
      | some y => rw [h2] at ih; cases ih
      | none =>
        have hg : L.getD k default = L[k] := by simp [List.getD, List.getElem?_eq_getElem (by omega : k < L.length)]
        simp only [Option.none_or, List.find?_cons, List.find?_nil, hg]
        cases decide (L[k].n = m) <;> simp [List.getElem?_eq_getElem (by omega : k < L.length)]
theorem lookK_list (L : List Kno) {k : Nat} (hk : k ≤ L.length) : lookK (fun i => L.getD i default) k = lookL (L.take k) := by
  funext m
  rw [← find_map_range L m k hk]
  unfold lookK
  cases (List.range k).find? (fun i => decide ((L.getD i default).n = m)) <;> rfl
theorem lookK_all (L : List Kno) : lookK (fun i => L.getD i default) L.length = lookL L := by
  rw [lookK_list L (Nat.le_refl _), List.take_length]
/-- Of each number one alone. -/
def Once (L : List Kno) : Prop := L.Pairwise fun a b => a.n ≠ b.n
theorem lookL_some {L : List Kno} (h : Once L) {m : Int} {o : Out} : lookL L m = some o ↔ ∃ k, k ∈ L ∧ k.n = m ∧ k.out = o := by
  unfold lookL
  induction L with
  | nil => simp
  | cons a L ih =>
    obtain ⟨h1, h2⟩ := List.pairwise_cons.1 h
    by_cases ha : a.n = m
    · rw [List.find?_cons, decide_eq_true ha]
      constructor
      · intro e
        exact ⟨a, List.mem_cons_self, ha, by simpa using e⟩
      · rintro ⟨k, hk, hn, ho⟩
        rcases List.mem_cons.1 hk with rfl | hk
        · simp [ho]
        · exact absurd (ha.trans hn.symm) (h1 k hk)
    · rw [List.find?_cons, decide_eq_false ha, ih h2]
      constructor
      · rintro ⟨k, hk, hn, ho⟩; exact ⟨k, List.mem_cons_of_mem _ hk, hn, ho⟩
      · rintro ⟨k, hk, hn, ho⟩
        rcases List.mem_cons.1 hk with rfl | hk
        · exact absurd hn ha
        · exact ⟨k, hk, hn, ho⟩
theorem lookL_none {L : List Kno} {m : Int} : lookL L m = none ↔ ∀ k, k ∈ L → k.n ≠ m := by
  unfold lookL
  simp [List.find?_eq_none]
theorem lookL_ext {L M : List Kno} (hL : Once L) (hM : Once M) {m : Int} (h : ∀ k : Kno, k.n = m → (k ∈ L ↔ k ∈ M)) : lookL L m = lookL M m := by
  cases h1 : lookL L m with
  | some o =>
    obtain ⟨k, hk, hn, ho⟩ := (lookL_some hL).1 h1
    exact ((lookL_some hM).2 ⟨k, (h k hn).1 hk, hn, ho⟩).symm
  | none =>
    exact (lookL_none.2 fun k hk hn => lookL_none.1 h1 k ((h k hn).2 hk) hn).symm
theorem lookL_append (A B : List Kno) (m : Int) : lookL (A ++ B) m = (lookL A m).or (lookL B m) := by
  unfold lookL
  rw [List.find?_append]
  cases A.find? (fun k => decide (k.n = m)) <;> simp
theorem once_turn {L : List Kno} (h : Once L) (k : Nat) : Once (L.drop k ++ L.take k) := by
  unfold Once at h ⊢
  rw [← List.take_append_drop k L, List.pairwise_append] at h
  obtain ⟨h1, h2, h3⟩ := h
  rw [List.pairwise_append]
  exact ⟨h2, h1, fun a ha b hb => Ne.symm (h3 b hb a ha)⟩
theorem lookL_turn {L : List Kno} (h : Once L) (k : Nat) (m : Int) : lookL (L.drop k ++ L.take k) m = lookL L m :=
  lookL_ext (once_turn h k) h fun a _ => by
    conv => rhs; rw [← List.take_append_drop k L]
    simp only [List.mem_append]; exact Or.comm
/-- Outcomes that agree where a run may ask. -/
theorem step_look {i : Ins} {l1 l2 : Int → Option Out} {sg : Nat → Option Int} {x : Rs} (hl : ∀ m, 1 ≤ m → m ≤ 200 → l1 m = l2 m) (hc : x.cmds.length ≤ 200) : stepP i l1 sg x = stepP i l2 sg x := by
  obtain ⟨o, a, b, c, n, s⟩ := i
  by_cases h13 : o = 13
  · subst h13
    by_cases hn : 1 ≤ x.r b.toNat ∧ x.r b.toNat ≤ x.cmds.length
    · have he := hl _ hn.1 (by omega)
      cases h1 : l1 (x.r b.toNat) with
      | none => rw [stepP_13n _ _ _ _ _ hn h1, stepP_13n _ _ _ _ _ hn (he ▸ h1)]
      | some o => rw [stepP_13g _ _ _ _ _ hn h1, stepP_13g _ _ _ _ _ hn (he ▸ h1)]
    · rw [stepP_13o _ _ _ _ _ hn, stepP_13o _ _ _ _ _ hn]
  · unfold stepP
    simp only [h13, if_false]
theorem step_len {i : Ins} {l1 : Int → Option Out} {sg : Nat → Option Int} {x y : Rs} {b : Bool} (h : stepP i l1 sg x = (b, y)) (hc : x.cmds.length ≤ 200) : y.cmds.length ≤ 200 := by
  rcases step_form i l1 sg x with ⟨r, pc, e⟩ | ⟨r, c, hm, e⟩ | ⟨r, v, hv, e⟩ | e | ⟨m, h1, h2, h3, e⟩ | ⟨hv, e⟩ | ⟨os, ov, e⟩
  all_goals
    rw [e] at h
    injection h with h1 h2
    subst h1 h2
    simp <;> omega
theorem runP_look (I : Nat → Ins) {l1 l2 : Int → Option Out} (sg : Nat → Option Int) (hl : ∀ m, 1 ≤ m → m ≤ 200 → l1 m = l2 m) : ∀ (n : Nat) (x : Rs), x.cmds.length ≤ 200 → runP I l1 sg n x = runP I l2 sg n x
  | 0, x, _ => rfl
  | n + 1, x, hc => by
    rcases hs : stepP (I x.pc.toNat) l1 sg x with ⟨b, y⟩
    have hs2 := hs
    rw [step_look hl hc] at hs2
    cases b
    · rw [runP_stop hs, runP_stop hs2]
    · rw [runP_go hs, runP_go hs2]; exact runP_look I sg hl n { y with steps := y.steps + 1 } (show y.cmds.length ≤ 200 from step_len hs hc)
theorem runP_len (I : Nat → Ins) (l1 : Int → Option Out) (sg : Nat → Option Int) : ∀ (n : Nat) (x : Rs), x.cmds.length ≤ 200 → (runP I l1 sg n x).cmds.length ≤ 200
  | 0, x, hc => hc
  | n + 1, x, hc => by
    rcases hs : stepP (I x.pc.toNat) l1 sg x with ⟨b, y⟩
    cases b
    · rw [runP_stop hs]; exact step_len hs hc
    · rw [runP_go hs]; exact runP_len I l1 sg n { y with steps := y.steps + 1 } (show y.cmds.length ≤ 200 from step_len hs hc)
/-- Signals that were taken are signals that there are. -/
theorem runP_sig (I : Nat → Ins) (l1 : Int → Option Out) (S : Nat → Int) (len : Nat) : ∀ (n : Nat) (x : Rs), x.sig ≤ len → (runP I l1 (sgF S len) n x).sig ≤ len
  | 0, x, hc => hc
  | n + 1, x, hc => by
    have hy : ∀ b y, stepP (I x.pc.toNat) l1 (sgF S len) x = (b, y) → y.sig ≤ len := by
      intro b y h
      rcases step_form (I x.pc.toNat) l1 (sgF S len) x with ⟨r, pc, e⟩ | ⟨r, c, hm, e⟩ | ⟨r, v, hv, e⟩ | e | ⟨m, h1, h2, h3, e⟩ | ⟨hv, e⟩ | ⟨os, ov, e⟩
      all_goals
        rw [e] at h
        injection h with h1 h2
        subst h1 h2
        try exact hc
      unfold sgF at hv
      by_cases hlt : x.sig < len
      · exact hlt
      · rw [if_neg hlt] at hv; cases hv
    rcases hs : stepP (I x.pc.toNat) l1 (sgF S len) x with ⟨b, y⟩
    cases b
    · rw [runP_stop hs]; exact hy _ _ hs
    · rw [runP_go hs]; exact runP_sig I l1 S len n { y with steps := y.steps + 1 } (show y.sig ≤ len from hy _ _ hs)
/-- More is known: a step stands for one outcome, or is the same. -/
theorem step_wait {i : Ins} {l1 l2 : Int → Option Out} {sg : Nat → Option Int} (hl : Below_ l1 l2) (x : Rs) :
    stepP i l2 sg x = stepP i l1 sg x ∨ (∃ m r, l1 m = none ∧ l2 m ≠ none ∧ stepP i l1 sg x = (false, { x with pc := x.pc + 1, on := m, st := 2 }) ∧ stepP i l2 sg x = (true, { x with pc := x.pc + 1, r := r })) := by
  obtain ⟨o, a, b, c, n, s⟩ := i
  by_cases h13 : o = 13
  · subst h13
    by_cases hn : 1 ≤ x.r b.toNat ∧ x.r b.toNat ≤ x.cmds.length
    · cases h1 : l1 (x.r b.toNat) with
      | none =>
        cases h2 : l2 (x.r b.toNat) with
        | none => left; rw [stepP_13n _ _ _ _ _ hn h1, stepP_13n _ _ _ _ _ hn h2]
        | some o => right; exact ⟨_, _, h1, by rw [h2]; simp, stepP_13n _ _ _ _ _ hn h1, stepP_13g _ _ _ _ _ hn h2⟩
      | some o => left; rw [stepP_13g _ _ _ _ _ hn h1, stepP_13g _ _ _ _ _ hn (hl _ _ h1)]
    · left; rw [stepP_13o _ _ _ _ _ hn, stepP_13o _ _ _ _ _ hn]
  · left
    unfold stepP
    simp only [h13, if_false]
theorem runP_stays (I : Nat → Ins) {l1 l2 : Int → Option Out} (sg : Nat → Option Int) (hl : Below_ l1 l2) : ∀ (n : Nat) (x : Rs), x.st = 0 → (runP I l1 sg n x).st = 2 → l2 (runP I l1 sg n x).on = none → runP I l2 sg n x = runP I l1 sg n x
  | 0, x, _, _, _ => rfl
  | n + 1, x, h0, h2, hon => by
    rcases hs : stepP (I x.pc.toNat) l1 sg x with ⟨b, y⟩
    rcases step_wait (sg := sg) (i := I x.pc.toNat) hl x with h | ⟨m, r, e1, e2, e3, e4⟩
    · rw [hs] at h
      cases b
      · rw [runP_stop hs, runP_stop h]
      · rw [runP_go hs] at h2 hon ⊢
        rw [runP_go h]
        refine runP_stays I sg hl n _ ?_ h2 hon
        show y.st = 0
        rcases step_form (I x.pc.toNat) l1 sg x with ⟨r, pc, e⟩ | ⟨r, c, hm, e⟩ | ⟨r, v, hv, e⟩ | e | ⟨m, h1, h2, h3, e⟩ | ⟨hv, e⟩ | ⟨os, ov, e⟩
        all_goals
          rw [e] at hs
          injection hs with q1 q2
          subst q2
          first | exact h0 | cases q1
    · exfalso
      rw [runP_stop e3] at hon
      exact e2 hon
theorem runP_goes (I : Nat → Ins) {l1 l2 : Int → Option Out} (sg : Nat → Option Int) (hl : Below_ l1 l2) : ∀ (n : Nat) (x : Rs), x.st = 0 → (runP I l1 sg n x).st = 2 → l2 (runP I l1 sg n x).on ≠ none → (runP I l1 sg n x).steps < (runP I l2 sg n x).steps
  | 0, x, _, h2, _ => by simp [runP] at h2
  | n + 1, x, h0, h2, hon => by
    rcases hs : stepP (I x.pc.toNat) l1 sg x with ⟨b, y⟩
    rcases step_wait (sg := sg) (i := I x.pc.toNat) hl x with h | ⟨m, r, e1, e2, e3, e4⟩
    · rw [hs] at h
      cases b
      · exfalso
        rw [runP_stop hs] at h2 hon
        rcases step_form (I x.pc.toNat) l2 sg x with ⟨r, pc, e⟩ | ⟨r, c, hm, e⟩ | ⟨r, v, hv, e⟩ | e | ⟨m, h1, k2, k3, e⟩ | ⟨hv, e⟩ | ⟨os, ov, e⟩
        all_goals
          rw [e] at h
          injection h with q1 q2
          subst q2
          first | (cases q1; done) | (simp at h2; done) | exact hon h1
      · rw [runP_go hs] at h2 hon ⊢
        rw [runP_go h]
        refine runP_goes I sg hl n _ ?_ h2 hon
        show y.st = 0
        rcases step_form (I x.pc.toNat) l1 sg x with ⟨r, pc, e⟩ | ⟨r, c, hm, e⟩ | ⟨r, v, hv, e⟩ | e | ⟨m, h1, h2, h3, e⟩ | ⟨hv, e⟩ | ⟨os, ov, e⟩
        all_goals
          rw [e] at hs
          injection hs with q1 q2
          subst q2
          first | exact h0 | cases q1
    · rw [runP_stop e3, runP_go e4]
      have := (runP_more I l2 sg n { { x with pc := x.pc + 1, r := r } with steps := x.steps + 1 }).2.2
      exact Nat.lt_of_lt_of_le (Nat.lt_succ_self x.steps) this
end Go.Proofs.Ytpfkpdimjljeaaa

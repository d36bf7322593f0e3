/- Runs, in plain: less fuel, more that is known. -/
import Derived.Test.YtpfkpdimjljeaaaU10p
namespace Go.Proofs.Ytpfkpdimjljeaaa
open Go.RowKit
set_option linter.unusedVariables false
set_option linter.unusedSimpArgs false

theorem step_form (i : Ins) (look : Int → Option Out) (sg : Nat → Option Int) (x : Rs) :
    (∃ r pc, stepP i look sg x = (true, { x with r := r, pc := pc })) ∨ (∃ r c, x.cmds.length ≠ 200 ∧ stepP i look sg x = (true, { x with pc := x.pc + 1, r := r, cmds := x.cmds ++ [c] })) ∨
    (∃ r v, sg x.sig = some v ∧ stepP i look sg x = (true, { x with pc := x.pc + 1, r := r, sig := x.sig + 1 })) ∨ stepP i look sg x = (false, { x with pc := x.pc + 1, st := 5 }) ∨
    (∃ m, look m = none ∧ 1 ≤ m ∧ m ≤ x.cmds.length ∧ stepP i look sg x = (false, { x with pc := x.pc + 1, on := m, st := 2 })) ∨ (sg x.sig = none ∧ stepP i look sg x = (false, { x with pc := x.pc + 1, st := 3 })) ∨
    (∃ os ov, stepP i look sg x = (false, { x with pc := x.pc + 1, st := 1, os := os, ov := ov, steps := x.steps + 1 })) := by
  obtain ⟨o, a, b, c, n, s⟩ := i
  by_cases h1 : o = 1
  · subst h1
    exact .inl ⟨_, _, stepP_1⟩
  by_cases h2 : o = 2
  · subst h2
    exact .inl ⟨_, _, stepP_2⟩
  by_cases h3 : o = 3
  · subst h3
    exact .inl ⟨_, _, stepP_3⟩
  by_cases h4 : o = 4
  · subst h4
    exact .inl ⟨_, _, stepP_4⟩
  by_cases h5 : o = 5
  · subst h5
    exact .inl ⟨_, _, stepP_5⟩
  by_cases h6 : o = 6
  · subst h6
    exact .inl ⟨_, _, stepP_6⟩
  by_cases h7 : o = 7
  · subst h7
    exact .inl ⟨_, _, stepP_7⟩
  by_cases h8 : o = 8
  · subst h8
    exact .inl ⟨_, _, stepP_8⟩
  by_cases h9 : o = 9
  · subst h9
    by_cases hz : x.r a.toNat = 0
    · exact .inl ⟨_, _, stepP_9a _ _ _ _ _ hz⟩
    · exact .inl ⟨_, _, stepP_9b _ _ _ _ _ hz⟩
  by_cases h10 : o = 10
  · subst h10
    by_cases hm : x.cmds.length = 200
    · exact .inr (.inr (.inr (.inl (stepP_10a _ _ _ _ _ hm))))
    · exact .inr (.inl ⟨_, _, hm, stepP_10b _ _ _ _ _ hm⟩)
  by_cases h11 : o = 11
  · subst h11
    by_cases hm : x.cmds.length = 200
    · exact .inr (.inr (.inr (.inl (stepP_11a _ _ _ _ _ hm))))
    · exact .inr (.inl ⟨_, _, hm, stepP_11b _ _ _ _ _ hm⟩)
  by_cases h12 : o = 12
  · subst h12
    by_cases hm : x.cmds.length = 200
    · exact .inr (.inr (.inr (.inl (stepP_12a _ _ _ _ _ hm))))
    · exact .inr (.inl ⟨_, _, hm, stepP_12b _ _ _ _ _ hm⟩)
  by_cases h13 : o = 13
  · subst h13
    by_cases hn : 1 ≤ x.r b.toNat ∧ x.r b.toNat ≤ x.cmds.length
    · cases h1 : look (x.r b.toNat) with
      | none => exact .inr (.inr (.inr (.inr (.inl ⟨_, h1, hn.1, hn.2, stepP_13n _ _ _ _ _ hn h1⟩))))
      | some o => exact .inl ⟨_, _, stepP_13g _ _ _ _ _ hn h1⟩
    · exact .inl ⟨_, _, stepP_13o _ _ _ _ _ hn⟩
  by_cases h14 : o = 14
  · subst h14
    cases h1 : sg x.sig with
    | none => exact .inr (.inr (.inr (.inr (.inr (.inl ⟨rfl, stepP_14n _ _ _ _ _ h1⟩)))))
    | some v => exact .inr (.inr (.inl ⟨_, _, rfl, stepP_14g _ _ _ _ _ h1⟩))
  by_cases h15 : o = 15
  · subst h15
    exact .inr (.inr (.inr (.inr (.inr (.inr ⟨_, _, stepP_15⟩)))))
  by_cases h16 : o = 16
  · subst h16
    exact .inr (.inr (.inr (.inr (.inr (.inr ⟨_, _, stepP_16⟩)))))
  left
  refine ⟨x.r, x.pc + 1, ?_⟩
  unfold stepP
  simp only [h1, h2, h3, h4, h5, h6, h7, h8, h9, h10, h11, h12, h13, h14, h15, h16, if_false]

theorem step_more {i : Ins} {look : Int → Option Out} {sg : Nat → Option Int} {x y : Rs} {b : Bool} (h : stepP i look sg x = (b, y)) : x.cmds <+: y.cmds ∧ (b = false → y.st ≠ 4 ∧ y.cmds = x.cmds ∧ y.sig = x.sig) ∧ x.sig ≤ y.sig ∧ x.steps ≤ y.steps := by
  rcases step_form i look sg x with ⟨r, pc, e⟩ | ⟨r, c, hm, e⟩ | ⟨r, v, hv, e⟩ | e | ⟨m, h1, h2, h3, e⟩ | ⟨hv, e⟩ | ⟨os, ov, e⟩
  all_goals
    rw [e] at h
    injection h with h1 h2
    subst h1 h2
    refine ⟨by first | exact List.prefix_rfl | exact List.prefix_append _ _, by first | (intro h; cases h; done) | (intro _; refine ⟨?_, rfl, rfl⟩; simp), by simp, by simp⟩
theorem runP_more (I : Nat → Ins) (look : Int → Option Out) (sg : Nat → Option Int) : ∀ (n : Nat) (x : Rs), x.cmds <+: (runP I look sg n x).cmds ∧ x.sig ≤ (runP I look sg n x).sig ∧ x.steps ≤ (runP I look sg n x).steps
  | 0, x => ⟨List.prefix_rfl, Nat.le_refl _, Nat.le_refl _⟩
  | n + 1, x => by
    rcases hs : stepP (I x.pc.toNat) look sg x with ⟨b, y⟩
    obtain ⟨h1, h2, h3, h4⟩ := step_more hs
    cases b
    · rw [runP_stop hs]; exact ⟨h1, h3, h4⟩
    · rw [runP_go hs]
      obtain ⟨k1, k2, k3⟩ := runP_more I look sg n { y with steps := y.steps + 1 }
      exact ⟨h1.trans k1, Nat.le_trans h3 k2, Nat.le_trans h4 (Nat.le_trans (Nat.le_succ _) k3)⟩
theorem runP_fuel (I : Nat → Ins) (look : Int → Option Out) (sg : Nat → Option Int) (regs : Int) (len : Nat) (hf : ∀ i, i < len → fitsB regs len 20 (I i) = true) (hl : (I (len - 1)).op = 8 ∨ (I (len - 1)).op = 15 ∨ (I (len - 1)).op = 16) :
    ∀ (n m : Nat) (x : Rs), n ≤ m → 0 ≤ x.pc → x.pc < len → x.cmds.length ≤ 200 →
      (((runP I look sg n x).st ≠ 4 → runP I look sg m x = runP I look sg n x) ∧ ((runP I look sg n x).st = 4 → (runP I look sg n x).steps = x.steps + n ∧ (runP I look sg n x).steps ≤ (runP I look sg m x).steps ∧ (runP I look sg n x).cmds <+: (runP I look sg m x).cmds) ∧ (runP I look sg n x).steps ≤ x.steps + n ∧ (runP I look sg n x).cmds.length ≤ 200)
  | 0, m, x, _, p0, p1, hc => ⟨fun h => absurd rfl h, fun _ => ⟨rfl, (runP_more I look sg m x).2.2, (runP_more I look sg m x).1⟩, Nat.le_refl _, hc⟩
  | n + 1, 0, x, h, _, _, _ => absurd h (by omega)
  | n + 1, m + 1, x, h, p0, p1, hc => by
    rcases hs : stepP (I x.pc.toNat) look sg x with ⟨b, y⟩
    obtain ⟨h1, h2, h3, h4⟩ := step_more hs
    have hk := step_keeps look sg (hf x.pc.toNat (by omega)) (by
      by_cases hq : x.pc.toNat = len - 1
      · rw [hq]; exact .inr hl
      · left; omega) p0 hc hs
    cases b
    · rw [runP_stop hs, runP_stop hs]
      exact ⟨fun _ => rfl, fun h4 => absurd h4 (h2 rfl).1, by omega, hk.2.2.2.1⟩
    · rw [runP_go hs, runP_go hs]
      obtain ⟨q0, q1, q2⟩ := hk.1 rfl
      obtain ⟨k1, k2, k3, k4⟩ := runP_fuel I look sg regs len hf hl n m { y with steps := y.steps + 1 } (by omega) q0 q1 hk.2.2.2.1
      simp only [q2] at k1 k2 k3 k4 ⊢
      exact ⟨k1, fun h => by obtain ⟨a, b, c⟩ := k2 h; exact ⟨by omega, b, c⟩, by omega, k4⟩
/-- What of two lists' commands a slice of the second tells. -/
theorem getD_prefix {l m : List Cmd} (h : l <+: m) {i : Nat} (hi : i < l.length) : m.getD i default = l.getD i default := by
  obtain ⟨t, rfl⟩ := h
  simp [List.getD, List.getElem?_append_left hi]
/-- More is known. -/
def Below_ (l1 l2 : Int → Option Out) : Prop := ∀ n o, l1 n = some o → l2 n = some o
def Below2 (s1 s2 : Nat → Option Int) : Prop := ∀ k v, s1 k = some v → s2 k = some v
theorem step_grows {i : Ins} {l1 l2 : Int → Option Out} {s1 s2 : Nat → Option Int} (hl : Below_ l1 l2) (hs : Below2 s1 s2) {x : Rs} :
    stepP i l2 s2 x = stepP i l1 s1 x ∨ ((stepP i l1 s1 x).1 = false ∧ (((stepP i l1 s1 x).2.st = 2 ∧ l1 (stepP i l1 s1 x).2.on = none) ∨ ((stepP i l1 s1 x).2.st = 3 ∧ s1 x.sig = none))) := by
  obtain ⟨o, a, b, c, n, s⟩ := i
  by_cases h13 : o = 13
  · subst h13
    by_cases hn : 1 ≤ x.r b.toNat ∧ x.r b.toNat ≤ x.cmds.length
    · cases h1 : l1 (x.r b.toNat) with
      | none => right; rw [stepP_13n _ _ _ _ _ hn h1]; exact ⟨rfl, .inl ⟨rfl, h1⟩⟩
      | some o => left; rw [stepP_13g _ _ _ _ _ hn h1, stepP_13g _ _ _ _ _ hn (hl _ _ h1)]
    · left; rw [stepP_13o _ _ _ _ _ hn, stepP_13o _ _ _ _ _ hn]
  · by_cases h14 : o = 14
    · subst h14
      cases h1 : s1 x.sig with
      | none => right; rw [stepP_14n _ _ _ _ _ h1]; exact ⟨rfl, .inr ⟨rfl, rfl⟩⟩
      | some v => left; rw [stepP_14g _ _ _ _ _ h1, stepP_14g _ _ _ _ _ (hs _ _ h1)]
    · left
      unfold stepP
      simp only [h13, h14, if_false]
theorem runP_grows (I : Nat → Ins) {l1 l2 : Int → Option Out} {s1 s2 : Nat → Option Int} (hl : Below_ l1 l2) (hs : Below2 s1 s2) : ∀ (n : Nat) (x : Rs),
    runP I l2 s2 n x = runP I l1 s1 n x ∨ (((runP I l1 s1 n x).cmds <+: (runP I l2 s2 n x).cmds ∧ (runP I l1 s1 n x).steps ≤ (runP I l2 s2 n x).steps ∧ (runP I l1 s1 n x).sig ≤ (runP I l2 s2 n x).sig) ∧ ((runP I l1 s1 n x).st = 2 ∨ (runP I l1 s1 n x).st = 3))
  | 0, x => .inl rfl
  | n + 1, x => by
    rcases hq : stepP (I x.pc.toNat) l1 s1 x with ⟨b, y⟩
    obtain ⟨h1, h2, h3, h4⟩ := step_more hq
    rcases step_grows hl hs (i := I x.pc.toNat) (x := x) with h | ⟨hb, h⟩
    · rw [hq] at h
      cases b
      · left; rw [runP_stop hq, runP_stop h]
      · rw [runP_go hq, runP_go h]; exact runP_grows I hl hs n _
    · rw [hq] at hb h
      simp only at hb
      subst hb
      right
      rw [runP_stop hq]
      have hm := runP_more I l2 s2 (n + 1) x
      obtain ⟨_, e1, e2⟩ := h2 rfl
      refine ⟨⟨by rw [e1]; exact hm.1, ?_, by rw [e2]; exact hm.2.1⟩, by rcases h with h | h; exact .inl h.1; exact .inr h.1⟩
      have : y.steps = x.steps := by
        rcases h with h | h
        all_goals
          have h0 := h.1
          rcases step_form (I x.pc.toNat) l1 s1 x with ⟨r, pc, e⟩ | ⟨r, c, hm, e⟩ | ⟨r, v, hv, e⟩ | e | ⟨m, h1, h2, h3, e⟩ | ⟨hv, e⟩ | ⟨os, ov, e⟩
          all_goals
            rw [e] at hq
            injection hq with q1 q2
            subst q2
            first | rfl | (simp at h0; done) | (cases q1; done)
      rw [this]; exact hm.2.2
/-- Where a run stands for what it waits. -/
theorem runP_waits (I : Nat → Ins) (look : Int → Option Out) (sg : Nat → Option Int) : ∀ (n : Nat) (x : Rs), x.st = 0 →
    ((runP I look sg n x).st = 2 → look (runP I look sg n x).on = none ∧ 1 ≤ (runP I look sg n x).on ∧ (runP I look sg n x).on ≤ (runP I look sg n x).cmds.length) ∧ ((runP I look sg n x).st = 3 → sg (runP I look sg n x).sig = none)
  | 0, x, _ => ⟨fun h => by simp [runP] at h, fun h => by simp [runP] at h⟩
  | n + 1, x, h0 => by
    rcases hq : stepP (I x.pc.toNat) look sg x with ⟨b, y⟩
    rcases step_form (I x.pc.toNat) look sg x with ⟨r, pc, e⟩ | ⟨r, c, hm, e⟩ | ⟨r, v, hv, e⟩ | e | ⟨m, h1, h2, h3, e⟩ | ⟨hv, e⟩ | ⟨os, ov, e⟩
    all_goals
      rw [e] at hq
      injection hq with q1 q2
      subst q1 q2
    · rw [runP_go e]; exact runP_waits I look sg n _ h0
    · rw [runP_go e]; exact runP_waits I look sg n _ h0
    · rw [runP_go e]; exact runP_waits I look sg n _ h0
    · rw [runP_stop e]; exact ⟨fun h => by simp at h, fun h => by simp at h⟩
    · rw [runP_stop e]; exact ⟨fun _ => ⟨h1, h2, h3⟩, fun h => by simp at h⟩
    · rw [runP_stop e]; exact ⟨fun h => by simp at h, fun _ => hv⟩
    · rw [runP_stop e]; exact ⟨fun h => by simp at h, fun h => by simp at h⟩
theorem lookK_le {K : Nat → Kno} {m n : Nat} (h : m ≤ n) : Below_ (lookK K m) (lookK K n) := by
  intro v o ho
  obtain ⟨i, hi, hidx, rfl⟩ := look_some ho
  unfold idxF at hidx
  cases hf : (List.range m).find? (fun i => decide ((K i).n = v)) with
  | none => rw [hf] at hidx; simp at hidx; try omega
  | some j =>
    rw [hf] at hidx
    have hij : j = i := by simp only at hidx; omega
    subst hij
    rw [List.find?_eq_some_iff_getElem] at hf
    obtain ⟨h1, j', hj', he, hn⟩ := hf
    simp only [List.getElem_range] at he
    subst he
    unfold lookK
    have : (List.range n).find? (fun i => decide ((K i).n = v)) = some j' := by
      rw [List.find?_eq_some_iff_getElem]
      refine ⟨h1, j', by simp; omega, by simp, fun q hq => ?_⟩
      have := hn q hq
      simpa using this
    rw [this]
theorem sgF_le {S : Nat → Int} {m n : Nat} (h : m ≤ n) : Below2 (sgF S m) (sgF S n) := by
  intro k v hv
  unfold sgF at hv ⊢
  by_cases hk : k < m
  · rw [if_pos hk] at hv; rw [if_pos (by omega)]; exact hv
  · rw [if_neg hk] at hv; cases hv
end Go.Proofs.Ytpfkpdimjljeaaa

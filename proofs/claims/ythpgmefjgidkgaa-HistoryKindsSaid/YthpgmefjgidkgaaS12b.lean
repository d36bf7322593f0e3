/- Histories in plain Lean: what an event may, and does; which are right; what events come to. -/
import Derived.Test.YthpgmefjgidkgaaWv
namespace Go.Proofs.Ythpgmefjgidkgaa
set_option linter.unusedVariables false
set_option linter.unusedSimpArgs false
deriving instance DecidableEq for Kno
def emp : ByteArray := ⟨#[]⟩
theorem noneB_iff {s : ByteArray} : noneB s = true ↔ s = emp := by
  unfold noneB emp
  rw [decide_eq_true_eq, ByteArray.toList_eq]
  constructor
  · intro h
    obtain ⟨d⟩ := s
    have : d.toList = [] := h
    have h2 : d = #[] := by cases d; simp_all
    rw [h2]
  · rintro rfl; rfl
theorem noneB_emp : noneB emp = true := noneB_iff.2 rfl
/-- Is a command there, and not over? -/
def leftB (h : Hs) (n : Int) : Bool := decide (n ≤ h.cmds.length) && (knO h.known n).isNone
def tryB (h : Hs) (n p : Int) : Bool := leftB h n && (decide ((h.cmds.getD (n - 1).toNat default).kind = 1) && decide (p = h.tries.getD (n - 1).toNat default + 1))
/-- May a right event come next? -/
def mayB (h : Hs) (e : Ev) : Bool :=
  if e.at' < h.last ∨ h.closed = true ∨ (decide (e.k = 1) != decide (h.len = 0)) = true then false
  else if e.k = 2 then decide (e.n = h.cmds.length + 1)
  else if e.k = 3 then tryB h e.n e.p
  else if e.k = 4 then leftB h e.n
  else if e.k = 6 then !h.stopped
  else true
/-- What an event comes to. -/
def putH (h : Hs) (e : Ev) : Hs :=
  if e.k = 1 then { h with len := h.len + 1, last := e.at', prog := e.s, arg := e.a }
  else if e.k = 2 then { h with len := h.len + 1, last := e.at', cmds := h.cmds ++ [⟨e.n, e.p, e.s, e.a, e.b⟩], tries := h.tries ++ [0] }
  else if e.k = 3 then { h with len := h.len + 1, last := e.at', tries := h.tries.set (e.n - 1).toNat e.p }
  else if e.k = 4 then { h with len := h.len + 1, last := e.at', known := h.known ++ [⟨e.n, ⟨e.p, e.a⟩⟩] }
  else if e.k = 5 then { h with len := h.len + 1, last := e.at', sigs := h.sigs ++ [e.a] }
  else if e.k = 6 then { h with len := h.len + 1, last := e.at', stopped := true }
  else if e.k = 7 then { h with len := h.len + 1, last := e.at', closed := true, out := ⟨e.p, e.a⟩ }
  else { h with len := h.len + 1, last := e.at' }
/-- Is the command in place i right? -/
def cmdOk (h : Hs) (i : Nat) : Bool :=
  decide ((h.cmds.getD i default).n = i + 1) && (evR ⟨2, 0, (h.cmds.getD i default).n, (h.cmds.getD i default).kind, (h.cmds.getD i default).arg, (h.cmds.getD i default).policy, (h.cmds.getD i default).s⟩ &&
    (decide (0 ≤ h.tries.getD i default) && (decide (h.tries.getD i default ≤ 100) && (decide (h.tries.getD i default ≤ 0) || decide ((h.cmds.getD i default).kind = 1)))))
def cmdsK (h : Hs) : Nat → Bool
  | 0 => true
  | k + 1 => cmdsK h k && cmdOk h k
def cmdsB (h : Hs) : Bool := decide (h.tries.length = h.cmds.length) && cmdsK h h.cmds.length
/-- Is what is over in place i right? -/
def seenB (L : List Kno) (k : Nat) (n : Int) : Bool := (L.take k).any fun x => decide (x.n = n)
def knoOk (h : Hs) (i : Nat) : Bool :=
  decide (1 ≤ (h.known.getD i default).n) && (decide ((h.known.getD i default).n ≤ h.cmds.length) && (!seenB h.known i (h.known.getD i default).n &&
    evR ⟨4, 0, (h.known.getD i default).n, (h.known.getD i default).out.st, (h.known.getD i default).out.v, 0, emp⟩))
def knosK (h : Hs) : Nat → Bool
  | 0 => true
  | k + 1 => knosK h k && knoOk h k
def knosB (h : Hs) : Bool := knosK h h.known.length
def b2i (b : Bool) : Int := if b then 1 else 0
def sumI : List Int → Int
  | [] => 0
  | a :: l => a + sumI l
def manyI (h : Hs) : Int := 1 + h.cmds.length + h.known.length + h.sigs.length + sumI h.tries + b2i h.stopped + b2i h.closed
def zeroB (h : Hs) : Bool := decide ((h.cmds.length : Int) + h.tries.length + h.known.length + h.sigs.length = 0) && (noneB h.prog && (decide (h.arg = 0) && (!h.stopped && (!h.closed && (decide (h.out = ⟨0, 0⟩) && decide (h.last = 0))))))
/-- Is a history right? -/
def hrB (h : Hs) : Bool :=
  if h.len = 0 then zeroB h
  else evR ⟨1, h.last, 0, 0, h.arg, 0, h.prog⟩ && (cmdsB h && (knosB h && ((h.closed || decide (h.out = ⟨0, 0⟩)) && (evR ⟨7, 0, 0, h.out.st, h.out.v, 0, emp⟩ && decide (h.len = manyI h)))))
theorem cmdsK_iff (h : Hs) : ∀ k, cmdsK h k = true ↔ ∀ i, i < k → cmdOk h i = true
  | 0 => by simp [cmdsK]
  | k + 1 => by
    rw [cmdsK, Bool.and_eq_true, cmdsK_iff h k]
    exact ⟨fun ⟨a, b⟩ i hi => by by_cases e : i = k; rw [e]; exact b; exact a i (by omega), fun a => ⟨fun i hi => a i (by omega), a k (by omega)⟩⟩
theorem knosK_iff (h : Hs) : ∀ k, knosK h k = true ↔ ∀ i, i < k → knoOk h i = true
  | 0 => by simp [knosK]
  | k + 1 => by
    rw [knosK, Bool.and_eq_true, knosK_iff h k]
    exact ⟨fun ⟨a, b⟩ i hi => by by_cases e : i = k; rw [e]; exact b; exact a i (by omega), fun a => ⟨fun i hi => a i (by omega), a k (by omega)⟩⟩
theorem sumI_append : ∀ (a b : List Int), sumI (a ++ b) = sumI a + sumI b
  | [], b => by simp [sumI]
  | x :: a, b => by rw [List.cons_append, sumI, sumI, sumI_append a b]; omega
theorem sumI_set : ∀ (l : List Int) (i : Nat) (x : Int), i < l.length → sumI (l.set i x) = sumI l - l.getD i default + x
  | [], i, x, h => by simp at h
  | a :: l, 0, x, h => by simp [sumI]; omega
  | a :: l, i + 1, x, h => by
    rw [List.set_cons_succ, sumI, sumI, sumI_set l i x (by simpa using h)]
    simp; omega
theorem sumI_bd (l : List Int) (m : Int) (hm : 0 ≤ m) (h : ∀ i, i < l.length → 0 ≤ l.getD i default ∧ l.getD i default ≤ m) : 0 ≤ sumI l ∧ sumI l ≤ l.length * m := by
  induction l with
  | nil => simp [sumI]
  | cons a l ih =>
    have h0 := h 0 (by simp)
    have h1 := ih (fun i hi => by have := h (i + 1) (by simpa using hi); simpa using this)
    simp only [List.getD_cons_zero] at h0
    rw [sumI, List.length_cons, Int.natCast_add, Int.add_mul]
    omega
/-- A history that some events come to, as propositions. -/
structure HrP (h : Hs) : Prop where
  len1 : 1 ≤ h.len
  ev1 : evR ⟨1, h.last, 0, 0, h.arg, 0, h.prog⟩ = true
  tl : h.tries.length = h.cmds.length
  cm : ∀ i, i < h.cmds.length → cmdOk h i = true
  kn : ∀ i, i < h.known.length → knoOk h i = true
  out0 : h.closed = false → h.out = ⟨0, 0⟩
  ev7 : evR ⟨7, 0, 0, h.out.st, h.out.v, 0, emp⟩ = true
  many : h.len = manyI h
theorem cmdOk_p {h : Hs} {i : Nat} (hc : cmdOk h i = true) : (h.cmds.getD i default).n = i + 1 ∧ (0 ≤ h.tries.getD i default ∧ h.tries.getD i default ≤ 100) ∧ (h.tries.getD i default ≤ 0 ∨ (h.cmds.getD i default).kind = 1) ∧ evR ⟨2, 0, (h.cmds.getD i default).n, (h.cmds.getD i default).kind, (h.cmds.getD i default).arg, (h.cmds.getD i default).policy, (h.cmds.getD i default).s⟩ = true := by
  unfold cmdOk at hc
  simp only [Bool.and_eq_true, Bool.or_eq_true, decide_eq_true_eq] at hc
  exact ⟨hc.1, ⟨hc.2.2.1, hc.2.2.2.1⟩, hc.2.2.2.2, hc.2.1⟩
theorem many_ge {h : Hs} (tl : h.tries.length = h.cmds.length) (cm : ∀ i, i < h.cmds.length → cmdOk h i = true) : 1 + (h.cmds.length : Int) + h.known.length + h.sigs.length ≤ manyI h := by
  have := (sumI_bd h.tries 100 (by omega) (fun i hi => (cmdOk_p (cm i (by omega))).2.1)).1
  unfold manyI b2i
  split <;> split <;> omega
theorem hrB_of {h : Hs} (r : HrP h) : hrB h = true := by
  have h0 : ¬ h.len = 0 := by have := r.len1; omega
  unfold hrB
  rw [if_neg h0, r.ev1, r.ev7]
  have h1 : cmdsB h = true := by unfold cmdsB; rw [(cmdsK_iff h _).2 r.cm]; simp [r.tl]
  have h2 : knosB h = true := (knosK_iff h _).2 r.kn
  have h3 : (h.closed || decide (h.out = ⟨0, 0⟩)) = true := by
    cases hc : h.closed
    · simp [r.out0 hc]
    · rfl
  have h4 : decide (h.len = manyI h) = true := by simpa using r.many
  rw [h1, h2, h3, h4]; rfl
theorem hrP_of {h : Hs} (hr : hrB h = true) (h0 : h.len ≠ 0) : HrP h := by
  unfold hrB at hr
  rw [if_neg h0] at hr
  simp only [Bool.and_eq_true, cmdsB, knosB, decide_eq_true_eq, Bool.or_eq_true] at hr
  obtain ⟨a, ⟨b, c⟩, d, e, f, g⟩ := hr
  have cm := (cmdsK_iff h _).1 c
  have := many_ge b cm
  exact ⟨by omega, a, b, cm, (knosK_iff h _).1 d, fun hc => by rw [hc] at e; simpa using e, f, g⟩
theorem hs0_of {h : Hs} (hr : hrB h = true) (h0 : h.len = 0) : h = ⟨emp, 0, [], [], [], [], false, false, ⟨0, 0⟩, 0, 0⟩ := by
  unfold hrB zeroB at hr
  rw [if_pos h0] at hr
  simp only [Bool.and_eq_true, decide_eq_true_eq, noneB_iff, Bool.not_eq_true'] at hr
  obtain ⟨a, b, c, d, e, f, g⟩ := hr
  obtain ⟨prog, arg, cmds, tries, known, sigs, st, cl, out, len, last⟩ := h
  simp only at *
  have h1 : cmds = [] := List.eq_nil_of_length_eq_zero (by omega)
  have h2 : tries = [] := List.eq_nil_of_length_eq_zero (by omega)
  have h3 : known = [] := List.eq_nil_of_length_eq_zero (by omega)
  have h4 : sigs = [] := List.eq_nil_of_length_eq_zero (by omega)
  subst b c d e f g h0 h1 h2 h3 h4
  rfl
theorem getD_app {α : Type} [Inhabited α] (l : List α) (x : α) (i : Nat) : (l ++ [x]).getD i default = if i < l.length then l.getD i default else if i = l.length then x else default := by
  simp only [List.getD_eq_getElem?_getD]
  by_cases h : i < l.length
  · rw [if_pos h, List.getElem?_append_left h]
  · rw [if_neg h, List.getElem?_append_right (by omega)]
    by_cases e : i = l.length
    · rw [if_pos e, e]; simp
    · rw [if_neg e, List.getElem?_eq_none (by simp; omega)]; rfl
theorem getD_set_ {α : Type} [Inhabited α] (l : List α) (x : α) (i j : Nat) (hi : i < l.length) : (l.set i x).getD j default = if j = i then x else l.getD j default := by
  simp only [List.getD_eq_getElem?_getD, List.getElem?_set]
  by_cases h : i = j
  · subst h; simp [hi]
  · rw [if_neg h, if_neg (Ne.symm h)]
/-- What may come next, kind by kind. -/
theorem may_parts {h : Hs} {e : Ev} (hm : mayB h e = true) : h.last ≤ e.at' ∧ h.closed = false ∧ (e.k = 1 ↔ h.len = 0) ∧ (e.k = 2 → e.n = h.cmds.length + 1) ∧ (e.k = 3 → tryB h e.n e.p = true) ∧ (e.k = 4 → leftB h e.n = true) ∧ (e.k = 6 → h.stopped = false) := by
  unfold mayB at hm
  split at hm
  · cases hm
  · rename_i h0
    have h1 : h.last ≤ e.at' := by
      rcases Int.lt_or_le e.at' h.last with h' | h'
      · exact absurd (.inl h') h0
      · exact h'
    have h2 : h.closed = false := by
      cases hc : h.closed
      · rfl
      · exact absurd (.inr (.inl hc)) h0
    have h3 : e.k = 1 ↔ h.len = 0 := by
      have : ¬ ((decide (e.k = 1) != decide (h.len = 0)) = true) := fun h' => h0 (.inr (.inr h'))
      simp only [bne_iff_ne, ne_eq, decide_eq_decide, Classical.not_not] at this
      exact this
    refine ⟨h1, h2, h3, ?_, ?_, ?_, ?_⟩
    · intro hk; rw [if_pos hk] at hm; simpa using hm
    · intro hk; rw [if_neg (by omega), if_pos hk] at hm; exact hm
    · intro hk; rw [if_neg (by omega), if_neg (by omega), if_pos hk] at hm; exact hm
    · intro hk; rw [if_neg (by omega), if_neg (by omega), if_neg (by omega), if_pos hk] at hm; simpa using hm
theorem evR_parts {e : Ev} (h : evR e = true) : 1 ≤ e.k ∧ e.k ≤ 7 ∧ 0 ≤ e.at' ∧ e.at' ≤ 1099511627776 ∧ kindB e = true := by
  unfold evR at h
  simp only [Bool.and_eq_true, decide_eq_true_eq] at h
  exact ⟨h.1, h.2.1, h.2.2.1, h.2.2.2.1, h.2.2.2.2⟩
theorem evR_mk {e : Ev} (h1 : 1 ≤ e.k) (h2 : e.k ≤ 7) (h3 : 0 ≤ e.at') (h4 : e.at' ≤ 1099511627776) (h5 : kindB e = true) : evR e = true := by
  unfold evR; simp [h1, h2, h3, h4, h5]
theorem knO_none {L : List Kno} {n : Int} : (knO L n).isNone = true ↔ ∀ j, j < L.length → (L.getD j default).n ≠ n := by
  rcases knI_spec L n with ⟨_, h2, h3⟩ | ⟨i, hi, _, h2, h3, h4⟩
  · rw [h2]; simp only [Option.isNone_none, true_iff]; exact h3
  · rw [h2]; simp only [Option.isNone_some, Bool.false_eq_true, false_iff]
    intro h; exact h i hi h3
theorem seenB_iff {L : List Kno} {k : Nat} {n : Int} (hk : k ≤ L.length) : seenB L k n = false ↔ ∀ j, j < k → (L.getD j default).n ≠ n := by
  unfold seenB
  rw [← Bool.not_eq_true, List.any_eq_true]
  constructor
  · intro h j hj hn
    refine h ⟨L.getD j default, ?_, by simpa using hn⟩
    rw [List.mem_iff_getElem?]
    refine ⟨j, ?_⟩
    rw [List.getElem?_take_of_lt hj, List.getD_eq_getElem?_getD, List.getElem?_eq_getElem (by omega)]; rfl
  · rintro h ⟨x, hx, hn⟩
    obtain ⟨j, hj⟩ := List.mem_iff_getElem?.1 hx
    have hjk : j < k := by
      rcases Nat.lt_or_ge j k with h' | h'
      · exact h'
      · rw [List.getElem?_eq_none (by simp; omega)] at hj; cases hj
    rw [List.getElem?_take_of_lt hjk] at hj
    refine h j hjk ?_
    rw [List.getD_eq_getElem?_getD, hj]; simpa using hn
theorem knoOk_p {h : Hs} {i : Nat} (hi : i < h.known.length) (hc : knoOk h i = true) : 1 ≤ (h.known.getD i default).n ∧ (h.known.getD i default).n ≤ h.cmds.length ∧ (∀ j, j < i → (h.known.getD j default).n ≠ (h.known.getD i default).n) ∧ evR ⟨4, 0, (h.known.getD i default).n, (h.known.getD i default).out.st, (h.known.getD i default).out.v, 0, emp⟩ = true := by
  unfold knoOk at hc
  simp only [Bool.and_eq_true, decide_eq_true_eq, Bool.not_eq_true'] at hc
  exact ⟨hc.1, hc.2.1, (seenB_iff (by omega)).1 hc.2.2.1, hc.2.2.2⟩
theorem knoOk_mk {h : Hs} {i : Nat} (hi : i < h.known.length) (h1 : 1 ≤ (h.known.getD i default).n) (h2 : (h.known.getD i default).n ≤ h.cmds.length) (h3 : ∀ j, j < i → (h.known.getD j default).n ≠ (h.known.getD i default).n) (h4 : evR ⟨4, 0, (h.known.getD i default).n, (h.known.getD i default).out.st, (h.known.getD i default).out.v, 0, emp⟩ = true) : knoOk h i = true := by
  unfold knoOk
  rw [(seenB_iff (by omega)).2 h3, h4]
  simp only [h1, h2, decide_true, Bool.not_false, Bool.and_self]
theorem cmdOk_mk {h : Hs} {i : Nat} (h1 : (h.cmds.getD i default).n = i + 1) (h2 : 0 ≤ h.tries.getD i default) (h3 : h.tries.getD i default ≤ 100) (h4 : h.tries.getD i default ≤ 0 ∨ (h.cmds.getD i default).kind = 1) (h5 : evR ⟨2, 0, (h.cmds.getD i default).n, (h.cmds.getD i default).kind, (h.cmds.getD i default).arg, (h.cmds.getD i default).policy, (h.cmds.getD i default).s⟩ = true) : cmdOk h i = true := by
  unfold cmdOk
  rw [h5]
  simp only [h1, decide_true, Bool.true_and, Bool.and_eq_true, Bool.or_eq_true, decide_eq_true_eq]
  exact ⟨h2, h3, h4⟩
/-- Knowns stay right where commands grow. -/
theorem knoOk_cong {h h' : Hs} {i : Nat} (hk : h'.known = h.known) (hc : h.cmds.length ≤ h'.cmds.length) (hi : i < h.known.length) (ho : knoOk h i = true) : knoOk h' i = true := by
  obtain ⟨a, b, c, d⟩ := knoOk_p hi ho
  refine knoOk_mk (by rw [hk]; exact hi) ?_ ?_ ?_ ?_ <;> rw [hk]
  · exact a
  · omega
  · exact c
  · exact d
theorem ev1_at {h : Hs} {e : Ev} (r : evR ⟨1, h.last, 0, 0, h.arg, 0, h.prog⟩ = true) (he : evR e = true) : evR ⟨1, e.at', 0, 0, h.arg, 0, h.prog⟩ = true := by
  obtain ⟨_, _, a, b, _⟩ := evR_parts he
  obtain ⟨_, _, _, _, c⟩ := evR_parts r
  exact evR_mk (by simp) (by simp) a b c
theorem ev7_00 : evR ⟨7, 0, 0, 0, 0, 0, emp⟩ = true := by simp [evR, kindB, statB, plainB, noneB_emp]
/-- **An event that may come next comes to a right history.** -/
theorem hr_put {h : Hs} {e : Ev} (hr : hrB h = true) (he : evR e = true) (hm : mayB h e = true) : HrP (putH h e) := by
  obtain ⟨m1, m2, m3, m4, m5, m6, m7⟩ := may_parts hm
  obtain ⟨k1, k7, a0, a1, hk⟩ := evR_parts he
  by_cases e1 : e.k = 1
  · have h0 := m3.1 e1
    obtain rfl := hs0_of hr h0
    unfold kindB at hk
    rw [if_pos e1] at hk
    unfold putH
    rw [if_pos e1]
    refine ⟨by simp, evR_mk (by simp) (by simp) a0 a1 ?_, rfl, by simp, by simp, fun _ => rfl, ev7_00, by simp [manyI, sumI, b2i]⟩
    unfold kindB
    simp only [Bool.and_eq_true] at hk
    simp [hk.1]
  · have r := hrP_of hr (fun h0 => e1 (m3.2 h0))
    have hl := r.len1
    have hk' := r.kn
    have E1 := ev1_at r.ev1 he
    have hms := r.many
    unfold manyI at hms
    by_cases e2 : e.k = 2
    · unfold putH
      rw [if_neg e1, if_pos e2]
      have hn := m4 e2
      unfold kindB at hk
      rw [if_neg e1, if_pos e2] at hk
      refine ⟨by simp; omega, E1, by simp [r.tl], fun i hi => ?_, fun i hi => knoOk_cong (h := h) rfl (by simp) hi (r.kn i hi), r.out0, r.ev7, ?_⟩
      · simp only [List.length_append, List.length_cons, List.length_nil] at hi
        by_cases hlt : i < h.cmds.length
        · obtain ⟨p1, ⟨p2, p3⟩, p4, p5⟩ := cmdOk_p (r.cm i hlt)
          have ht : i < h.tries.length := by rw [r.tl]; exact hlt
          apply cmdOk_mk <;> simp only [getD_app, if_pos hlt, if_pos ht] <;> assumption
        · have hi2 : i = h.cmds.length := by omega
          have hi3 : i = h.tries.length := by rw [r.tl]; exact hi2
          apply cmdOk_mk <;> simp only [getD_app, if_neg hlt, if_pos hi2, if_pos hi3, if_neg (show ¬ i < h.tries.length by omega)]
          · omega
          · exact Int.le_refl _
          · omega
          · exact .inl (Int.le_refl _)
          · refine evR_mk (by simp) (by simp) (by simp) (by simp) ?_
            unfold kindB
            simp only [Int.reduceEq, if_false, if_true]
            exact hk
      · simp only [manyI, sumI_append, List.length_append, List.length_cons, List.length_nil, sumI]; omega
    · by_cases e3 : e.k = 3
      · unfold putH
        rw [if_neg e1, if_neg e2, if_pos e3]
        have ht := m5 e3
        unfold tryB leftB at ht
        simp only [Bool.and_eq_true, decide_eq_true_eq] at ht
        obtain ⟨⟨hn1, _⟩, hkd, hp⟩ := ht
        unfold kindB at hk
        rw [if_neg e1, if_neg e2, if_pos e3] at hk
        simp only [Bool.and_eq_true, decide_eq_true_eq, numB] at hk
        obtain ⟨⟨hn0, _⟩, hp1, hp2, _⟩ := hk
        have hi0 : (e.n - 1).toNat < h.tries.length := by rw [r.tl]; omega
        refine ⟨by simp; omega, E1, by simp [r.tl], fun i hi => ?_, fun i hi => knoOk_cong (h := h) rfl (by simp) hi (r.kn i hi), r.out0, r.ev7, ?_⟩
        · obtain ⟨p1, ⟨p2, p3⟩, p4, p5⟩ := cmdOk_p (r.cm i hi)
          by_cases hie : i = (e.n - 1).toNat
          · subst hie
            apply cmdOk_mk <;> simp only [getD_set_ _ _ _ _ hi0, if_true]
            · exact p1
            · omega
            · omega
            · exact .inr hkd
            · exact p5
          · apply cmdOk_mk <;> simp only [getD_set_ _ _ _ _ hi0, if_neg hie] <;> assumption
        · simp only [manyI, sumI_set _ _ _ hi0]; omega
      · by_cases e4 : e.k = 4
        · unfold putH
          rw [if_neg e1, if_neg e2, if_neg e3, if_pos e4]
          have ht := m6 e4
          unfold leftB at ht
          simp only [Bool.and_eq_true, decide_eq_true_eq] at ht
          have hno := knO_none.1 ht.2
          unfold kindB at hk
          rw [if_neg e1, if_neg e2, if_neg e3, if_pos e4] at hk
          simp only [Bool.and_eq_true] at hk
          obtain ⟨hn0, hst, _⟩ := hk
          have hn1 : 1 ≤ e.n := by unfold numB at hn0; simp only [Bool.and_eq_true, decide_eq_true_eq] at hn0; exact hn0.1
          refine ⟨by simp; omega, E1, r.tl, fun i hi => r.cm i hi, fun i hi => ?_, r.out0, r.ev7, ?_⟩
          · simp only [List.length_append, List.length_cons, List.length_nil] at hi
            have hi' : i < (h.known ++ [(⟨e.n, ⟨e.p, e.a⟩⟩ : Kno)]).length := by simp; omega
            by_cases hlt : i < h.known.length
            · obtain ⟨p1, p2, p3, p4⟩ := knoOk_p hlt (r.kn i hlt)
              apply knoOk_mk hi' <;> simp only [getD_app, if_pos hlt]
              · exact p1
              · exact p2
              · intro j hj; rw [if_pos (by omega)]; exact p3 j hj
              · exact p4
            · have hi2 : i = h.known.length := by omega
              apply knoOk_mk hi' <;> simp only [getD_app, if_neg hlt, if_pos hi2]
              · exact hn1
              · exact ht.1
              · intro j hj; rw [if_pos (by omega)]; exact hno j (by omega)
              · refine evR_mk (by simp) (by simp) (by simp) (by simp) ?_
                unfold kindB plainB
                simp only [Int.reduceEq, if_false, if_true, hn0, hst, noneB_emp, decide_true, Bool.and_self]
          · simp only [manyI, List.length_append, List.length_cons, List.length_nil]; omega
        · by_cases e5 : e.k = 5
          · unfold putH
            rw [if_neg e1, if_neg e2, if_neg e3, if_neg e4, if_pos e5]
            refine ⟨by simp; omega, E1, r.tl, r.cm, fun i hi => knoOk_cong (h := h) rfl (by simp) hi (r.kn i hi), r.out0, r.ev7, ?_⟩
            simp only [manyI, List.length_append, List.length_cons, List.length_nil]; omega
          · by_cases e6 : e.k = 6
            · unfold putH
              rw [if_neg e1, if_neg e2, if_neg e3, if_neg e4, if_neg e5, if_pos e6]
              refine ⟨by simp; omega, E1, r.tl, r.cm, fun i hi => knoOk_cong (h := h) rfl (by simp) hi (r.kn i hi), r.out0, r.ev7, ?_⟩
              have hs := m7 e6
              rw [hs] at hms
              simp only [b2i, if_true, manyI] at hms ⊢; simp at hms; omega
            · have e7 : e.k = 7 := by omega
              unfold putH
              rw [if_neg e1, if_neg e2, if_neg e3, if_neg e4, if_neg e5, if_neg e6, if_pos e7]
              unfold kindB at hk
              rw [if_neg e1, if_neg e2, if_neg e3, if_neg e4, if_neg e5, if_neg e6, if_pos e7] at hk
              simp only [Bool.and_eq_true] at hk
              refine ⟨by simp; omega, E1, r.tl, r.cm, fun i hi => knoOk_cong (h := h) rfl (by simp) hi (r.kn i hi), (fun hc => by cases hc), evR_mk (by simp) (by simp) (by simp) (by simp) ?_, ?_⟩
              · unfold kindB plainB
                simp only [Int.reduceEq, if_false, if_true, hk.2.1, noneB_emp, decide_true, Bool.and_self]
              · rw [m2] at hms
                simp only [b2i, if_true, manyI] at hms ⊢; simp at hms; omega
theorem put_len {h : Hs} {e : Ev} : (putH h e).len = h.len + 1 := by
  unfold putH
  split; · rfl
  split; · rfl
  split; · rfl
  split; · rfl
  split; · rfl
  split; · rfl
  split <;> rfl
theorem put_last {h : Hs} {e : Ev} : (putH h e).last = e.at' := by
  unfold putH
  split; · rfl
  split; · rfl
  split; · rfl
  split; · rfl
  split; · rfl
  split; · rfl
  split <;> rfl
end Go.Proofs.Ythpgmefjgidkgaa

/- A region that draws its order, by an invariant: one proof for each operation, whatever has come up. -/
import Derived.Deep.RegionHeld3
namespace Go.Proofs.Ytkicofagjebnjaa
open Go
set_option linter.unusedVariables false
set_option linter.unusedSimpArgs false
section
variable {P : Program} {md : Region.Mode} {ops : Array Oper} {Q : Exit → Act → World → Prop} {S : World → Prop}
/-- What has come up, with one more. -/
def upd (L : Nat → Bool) (i : Nat) : Nat → Bool := fun j => if j = i then true else L j
theorem upd_self (L : Nat → Bool) (i : Nat) : upd L i i = true := by simp [upd]
theorem upd_ne (L : Nat → Bool) {i j : Nat} (h : j ≠ i) : upd L i j = L j := by simp [upd, h]
/-- What has come up, of an array. -/
def lsd (l : Array Bool) : Nat → Bool := fun j => l.getD j false
theorem lsd_set {l : Array Bool} {i : Nat} (h : i < l.size) : lsd (l.setIfInBounds i true) = upd (lsd l) i := by
  funext j
  unfold lsd upd
  by_cases e : j = i
  · subst e; simp [h]
  · simp only [if_neg e]
    rw [getD_set_ne' e]
where
  getD_set_ne' {l : Array Bool} {i j : Nat} (e : j ≠ i) : (l.setIfInBounds i true).getD j false = l.getD j false := by
    simp [Array.getD_eq_getD_getElem?, Array.getElem?_setIfInBounds_ne (Ne.symm e)]
/-- The operations that one waits for. -/
def dirPre (md : Region.Mode) (ops : Array Oper) (i : Nat) : List Nat := ((ops[i]?).map fun o => (o.after.toList.filter (Region.binds md)).map (·.on)).getD []
/-- All that one waits for, through others. -/
def allPre (md : Region.Mode) (ops : Array Oper) : Nat → Nat → List Nat
  | 0, _ => []
  | k + 1, i => (dirPre md ops i).flatMap fun j => j :: allPre md ops k j
def Closed (md : Region.Mode) (ops : Array Oper) (L : Nat → Bool) : Prop := ∀ i, L i = true → ∀ j ∈ dirPre md ops i, L j = true
theorem Closed.all {L : Nat → Bool} (h : Closed md ops L) : ∀ k i, L i = true → ∀ j ∈ allPre md ops k i, L j = true
  | 0, _, _, _, hj => by cases hj
  | k + 1, i, hi, j, hj => by
    obtain ⟨x, hx, hj⟩ := List.mem_flatMap.1 hj
    have h1 := h i hi x hx
    rcases List.mem_cons.1 hj with rfl | hj
    · exact h1
    · exact h.all k x h1 j hj
theorem Closed.upd {L : Nat → Bool} (h : Closed md ops L) {i : Nat} (hp : ∀ j ∈ dirPre md ops i, L j = true) : Closed md ops (upd L i) := by
  intro x hx j hj
  by_cases e : x = i
  · subst e
    have := hp j hj
    by_cases e2 : j = x
    · subst e2; exact upd_self _ _
    · rw [upd_ne _ e2]; exact this
  · rw [upd_ne _ e] at hx
    have := h x hx j hj
    by_cases e2 : j = i
    · subst e2; exact upd_self _ _
    · rw [upd_ne _ e2]; exact this
/-- No operation is told to come up ahead of itself: all in a list, each behind those that it waits for. -/
def inOrder (md : Region.Mode) (ops : Array Oper) : List Nat → List Nat → Bool
  | _, [] => true
  | done, i :: r => (dirPre md ops i).all (fun j => done.contains j) && inOrder md ops (i :: done) r
theorem inOrder_all {L : Nat → Bool} (hstuck : ∀ i, i < ops.size → (∀ j ∈ dirPre md ops i, L j = true) → L i = true) : ∀ (rest done : List Nat), (∀ i ∈ rest, i < ops.size) → (∀ i ∈ done, L i = true) → inOrder md ops done rest = true → ∀ i ∈ rest, L i = true := by
  intro rest
  induction rest with
  | nil => intro _ _ _ _ i hi; cases hi
  | cons x r ih =>
    intro done hlt hd ho i hi
    simp only [inOrder, Bool.and_eq_true, List.all_eq_true] at ho
    have hx : L x = true := hstuck x (hlt x (by simp)) fun j hj => hd j (by simpa using ho.1 j hj)
    rcases List.mem_cons.1 hi with rfl | hi
    · exact hx
    · exact ih (x :: done) (fun i h => hlt i (by simp [h])) (fun i h => by rcases List.mem_cons.1 h with rfl | h; exact hx; exact hd i h) ho.2 i hi
theorem ready_iff {l : Array Bool} {i : Nat} (hl : l.size = ops.size) : i ∈ Region.ready md ops l ↔ i < ops.size ∧ lsd l i = false ∧ ∀ j ∈ dirPre md ops i, lsd l j = true := by
  rw [mem_ready]
  unfold lsd dirPre
  constructor
  · rintro ⟨h1, o, ho, h2⟩
    have hi : i < ops.size := by
      rcases Nat.lt_or_ge i ops.size with h | h
      · exact h
      · rw [Array.getElem?_eq_none h] at ho; cases ho
    refine ⟨hi, ?_, ?_⟩
    · have : i < l.size := by omega
      simp [Array.getD_eq_getD_getElem?, this] at h1 ⊢
      exact h1
    · intro j hj
      simp only [ho, Option.map_some, Option.getD_some, List.mem_map, List.mem_filter] at hj
      obtain ⟨e, ⟨he, hb⟩, rfl⟩ := hj
      exact h2 e (by simpa using he) hb
  · rintro ⟨hi, h1, h2⟩
    have hil : i < l.size := by omega
    refine ⟨by simp [Array.getD_eq_getD_getElem?, hil] at h1 ⊢; exact h1, ops[i], by simp [hi], ?_⟩
    intro e he hb
    refine h2 e.on ?_
    simp only [Array.getElem?_eq_getElem hi, Option.map_some, Option.getD_some, List.mem_map, List.mem_filter]
    exact ⟨e, ⟨by simpa using he, hb⟩, rfl⟩

/-- A goal that no tactic looks into till it is opened. -/
structure Stp (p : Prop) : Prop where
  mk ::
  out : p
/-- One operation's step under the invariant. -/
def StepI (P : Program) (md : Region.Mode) (ops : Array Oper) (Q : Exit → Act → World → Prop) (I : (Nat → Bool) → Act → World → Prop) (i : Nat) : Prop :=
  ∀ L a w, L i = false → (∀ j ∈ dirPre md ops i, L j = true) → Closed md ops L → I L a w → wpOp P ops Q i (fun a' w' => I (upd L i) a' w') a w
def StepsI (P : Program) (md : Region.Mode) (ops : Array Oper) (Q : Exit → Act → World → Prop) (I : (Nat → Bool) → Act → World → Prop) (l : List Nat) : Prop := ∀ i ∈ l, StepI P md ops Q I i
theorem StepsI.nil {I : (Nat → Bool) → Act → World → Prop} : StepsI P md ops Q I [] := fun _ h => by cases h
/-- The step of one: all that it waits for has come up; none of 'nots' (that wait for it) has. -/
theorem StepsI.cons {I : (Nat → Bool) → Act → World → Prop} {i : Nat} {o : Oper} {l : List Nat} (pre nots : List Nat) (k : Nat) (ho : ops[i]? = some o)
    (hp : pre.all (fun j => (allPre md ops k i).contains j) = true) (hn : nots.all (fun x => (allPre md ops k x).contains i) = true)
    (h : ∀ (L : Nat → Bool) (a : Act) (w : World) (K' : Act → World → Prop), L i = false → (∀ j ∈ pre, L j = true) → (∀ j ∈ nots, L j = false) → I L a w → Shut (∀ a' w', I (upd L i) a' w' → K' a' w') →
      Stp (if Region.wanted o (yielded ops a.tmps) = true then Oper.wp P o a w K' Q else K' (a.put o.dst undef) w))
    (hs : StepsI P md ops Q I l) : StepsI P md ops Q I (i :: l) := fun j hj => by
  rcases List.mem_cons.1 hj with rfl | hj
  · intro L a w h1 h2 h3 hI
    have hpre : ∀ x ∈ allPre md ops k j, L x = true := by
      intro x hx
      cases k with
      | zero => cases hx
      | succ k =>
        obtain ⟨y, hy, hx⟩ := List.mem_flatMap.1 hx
        rcases List.mem_cons.1 hx with rfl | hx
        · exact h2 _ hy
        · exact h3.all k y (h2 _ hy) x hx
    refine wpOp_step ho fun K' hK => Stp.out <| h L a w K' h1 (fun x hx => hpre x ?_) (fun x hx => ?_) hI (fun a' w' h' => hK a' w' h')
    · have := List.all_eq_true.1 hp x hx; simpa using this
    · have h4 := List.all_eq_true.1 hn x hx
      cases hLx : L x with
      | false => rfl
      | true => have := h3.all k x hLx j (by simpa using h4); rw [h1] at this; cases this
  · exact hs j hj
/-- **By an invariant**: whatever has come up. -/
theorem wpAnyH_inv (I : (Nat → Bool) → Act → World → Prop) (rest : List Nat) (ord : List Nat)
    (hord : ((List.range ops.size).all fun i => ord.contains i) && (ord.all fun i => decide (i < ops.size)) && inOrder md ops [] ord = true)
    (hS : ∀ L a w, I L a w → S w)
    (hstep : StepsI P md ops Q I rest)
    (hend : ∀ L a w, (∀ i, i < ops.size → L i = true) → I L a w → Q .normal a w) :
    ∀ (fuel : Nat) (l : Array Bool) (a : Act) (w : World), l.size = ops.size → l.toList.count false = fuel → ((List.range ops.size).all fun i => l.getD i false || rest.contains i) = true → Closed md ops (lsd l) → I (lsd l) a w → wpAnyH P md ops Q S fuel l a w := by
  simp only [Bool.and_eq_true, List.all_eq_true, List.mem_range, List.contains_iff_mem, decide_eq_true_eq] at hord
  obtain ⟨⟨ho1, ho2⟩, ho3⟩ := hord
  have hdone : ∀ (l : Array Bool) (a : Act) (w : World), l.size = ops.size → I (lsd l) a w → Region.ready md ops l = [] → Q .normal a w := by
    intro l a w hl hI hr
    refine hend (lsd l) a w ?_ hI
    intro i hi
    refine inOrder_all (L := lsd l) (fun i hi hp => ?_) ord [] ho2 (by simp) ho3 i (ho1 i hi)
    cases h : lsd l i with
    | true => rfl
    | false =>
      have : i ∈ Region.ready md ops l := (ready_iff hl).2 ⟨hi, h, hp⟩
      rw [hr] at this; cases this
  intro fuel
  induction fuel with
  | zero =>
    intro l a w hl hc hrest hcl hI
    have hr : Region.ready md ops l = [] := by
      rw [List.eq_nil_iff_forall_not_mem]
      intro i hi
      obtain ⟨h1, h2, _⟩ := (ready_iff hl).1 hi
      have : false ∈ l.toList := by
        have hil : i < l.size := by omega
        have : l[i] = false := by simpa [lsd, Array.getD_eq_getD_getElem?, hil] using h2
        rw [← this]; exact Array.getElem_mem_toList hil
      have := List.count_pos_iff.2 this
      omega
    exact ⟨hr, hdone l a w hl hI hr⟩
  | succ fuel ih =>
    intro l a w hl hc hrest hcl hI
    refine ⟨hdone l a w hl hI, fun i hi => ?_⟩
    obtain ⟨h1, h2, h3⟩ := (ready_iff hl).1 hi
    have hil : i < l.size := by omega
    have hmem : i ∈ rest := by
      have := List.all_eq_true.1 hrest i (by simpa using h1)
      have h4 : l.getD i false = false := h2
      rw [h4] at this
      simpa using this
    refine wpOp_mono (fun a' w' hI' => ?_) (hstep i hmem (lsd l) a w h2 h3 hcl hI)
    refine ⟨hS _ _ _ hI', ?_⟩
    rw [← lsd_set hil] at hI'
    refine ih _ a' w' (by simpa using hl) ?_ ?_ (by rw [lsd_set hil]; exact hcl.upd h3) hI'
    · have hf : l[i] = false := by simpa [lsd, Array.getD_eq_getD_getElem?, hil] using h2
      have : (l.setIfInBounds i true).toList = l.toList.set i true := by simp
      rw [this]
      have hc2 := List.count_set (l := l.toList) (a := true) (b := false) (i := i) (by simpa using hil)
      have hf2 : l.toList[i]'(by simpa using hil) = false := by simpa using hf
      rw [hc2, hf2, hc]
      rfl
    · rw [List.all_eq_true] at hrest ⊢
      intro j hj
      have := hrest j hj
      by_cases e : j = i
      · subst e; simp [hmem]
      · have h5 : (l.setIfInBounds i true).getD j false = l.getD j false := by
          simp [Array.getD_eq_getD_getElem?, Array.getElem?_setIfInBounds_ne (Ne.symm e)]
        rw [h5]; exact this
/-- Closed, by reckoning. -/
theorem closed_of {l : Array Bool} (h : ((List.range l.size).all fun i => !l.getD i false || (dirPre md ops i).all fun j => l.getD j false) = true) : Closed md ops (lsd l) := by
  intro i hi j hj
  have hil : i < l.size := by
    rcases Nat.lt_or_ge i l.size with h | h
    · exact h
    · unfold lsd at hi; simp [Array.getD_eq_getD_getElem?, Array.getElem?_eq_none h] at hi
  have := List.all_eq_true.1 h i (by simpa using hil)
  have h1 : l.getD i false = true := hi
  rw [h1] at this
  simp only [Bool.not_true, Bool.false_or, List.all_eq_true] at this
  exact this j hj
/-- The law as it is used: behind the takes. -/
theorem wpAnyH_by (I : (Nat → Bool) → Act → World → Prop) (rest ord : List Nat) {fuel : Nat} {l : Array Bool} {a : Act} {w : World}
    (hord : ((List.range ops.size).all fun i => ord.contains i) && (ord.all fun i => decide (i < ops.size)) && inOrder md ops [] ord = true)
    (hl : (decide (l.size = ops.size) && decide (l.toList.count false = fuel) && ((List.range ops.size).all fun i => l.getD i false || rest.contains i) && ((List.range l.size).all fun i => !l.getD i false || (dirPre md ops i).all fun j => l.getD j false)) = true)
    (hS : ∀ L a w, I L a w → S w)
    (h0 : I (lsd l) a w)
    (hstep : StepsI P md ops Q I rest)
    (hend : ∀ L a w, (∀ i, i < ops.size → L i = true) → I L a w → Q .normal a w) : wpAnyH P md ops Q S fuel l a w := by
  simp only [Bool.and_eq_true, decide_eq_true_eq] at hl
  exact wpAnyH_inv I rest ord hord hS hstep hend fuel l a w hl.1.1.1 hl.1.1.2 hl.1.2 (closed_of hl.2) h0
/-- The frame with other values in some slots. -/
def frm : List (Nat × Value) → Act → Act
  | [], a => a
  | p :: l, a => frm l (a.put (some p.1) p.2)
@[go_sem] theorem frm_nil (a : Act) : frm [] a = a := rfl
@[go_sem] theorem frm_cons (d : Nat) (v : Value) (l : List (Nat × Value)) (a : Act) : frm ((d, v) :: l) a = frm l (a.put (some d) v) := rfl
theorem nope {b : Bool} {p : Prop} (h : b = true) (e : b = false) : p := by rw [e] at h; cases h
/-- Known as soon as it has come up (not to be laid open by the walk). -/
def Aft (b : Bool) (p : Prop) : Prop := b = true → p
theorem Aft.get {b : Bool} {p : Prop} (h : Aft b p) (e : b = true) : p := h e
theorem Aft.new {b : Bool} {p : Prop} (h : p) : Aft b p := fun _ => h
theorem Aft.no {b : Bool} {p : Prop} (e : b = false) : Aft b p := fun h => nope h e
theorem Aft.map {b : Bool} {p q : Prop} (h : Aft b p) (f : p → q) : Aft b q := fun e => f (h e)
/-- What a slot holds. -/
def rd (a : Act) (d : Nat) : Value := (a.tmps[d]?).getD undef
theorem frm_rd : ∀ (ds : List Nat) (a : Act), frm (ds.map fun d => (d, rd a d)) a = a
  | [], _ => rfl
  | d :: ds, a => by
    have e : a.put (some d) (rd a d) = a := by
      cases a with
      | mk t f =>
        simp only [Act.put, rd, Act.mk.injEq, and_true]
        refine Array.ext_getElem? fun i => ?_
        rw [Array.getElem?_setIfInBounds]
        split
        · rename_i h; subst h
          split
          · rename_i h; simp [h]
          · rename_i h; rw [Array.getElem?_eq_none (by omega)]
        · rfl
    rw [List.map_cons, frm_cons, e]
    exact frm_rd ds a
/-- Taking an operation first, its slot named. -/
theorem wpAnyH_take' {i : Nat} {oi : Oper} {v : Value} {fuel : Nat} {listed : Array Bool} {a : Act} {w : World} (d : Option Tmp) (hi : ops[i]? = some oi) (hd : oi.dst = d)
    (hs : Region.noSelect ops = true) (hf : Region.free md ops listed i = true) (hr : (Region.ready md ops listed).contains i = true)
    (hQ : ∀ c a w, Q (.panic c) (a.put oi.dst v) w → Q (.panic c) a w) (hy : YieldsIf P ops S oi v a) (hS : S w)
    (h : wpAnyH P md ops Q S fuel (listed.setIfInBounds i true) (a.put d v) w) : wpAnyH P md ops Q S (fuel + 1) listed a w := by
  subst hd
  exact wpAnyH_take hi hs hf hr hQ hy hS h
/-- The law with the frame and the world that it begins with. -/
theorem wpAnyH_at (n : Nat) (I : Act → World → (Nat → Bool) → Act → World → Prop) (rest ord : List Nat) {fuel : Nat} {l : Array Bool} {a : Act} {w : World}
    (hn : ops.size = n)
    (hord : ((List.range ops.size).all fun i => ord.contains i) && (ord.all fun i => decide (i < ops.size)) && inOrder md ops [] ord = true)
    (hl : (decide (l.size = ops.size) && decide (l.toList.count false = fuel) && ((List.range ops.size).all fun i => l.getD i false || rest.contains i) && ((List.range l.size).all fun i => !l.getD i false || (dirPre md ops i).all fun j => l.getD j false)) = true)
    (hS : ∀ L a' w', I a w L a' w' → S w')
    (h0 : I a w (lsd l) a w)
    (hstep : StepsI P md ops Q (I a w) rest)
    (hend : ∀ L a' w', (∀ i, i < n → L i = true) → I a w L a' w' → Q .normal a' w') : wpAnyH P md ops Q S fuel l a w :=
  wpAnyH_by (I a w) rest ord hord hl hS h0 hstep (fun L a' w' h => hend L a' w' (fun i hi => h i (by omega)))
end
end Go.Proofs.Ytkicofagjebnjaa

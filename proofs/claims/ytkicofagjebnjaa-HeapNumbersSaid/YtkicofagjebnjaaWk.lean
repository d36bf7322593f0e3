/- Maps whose keys are whole numbers, as lists of pairs in the order in which the keys came: a look-up, an entry, a key struck out, how many. -/
import Derived.Test.YtkicofagjebnjaaWb
import Derived.MapKept
import Derived.Maps.OwnSet
import Derived.Maps.OwnOps
namespace Go.Proofs.Ytkicofagjebnjaa
set_option linter.unusedVariables false
set_option linter.unusedSimpArgs false
open Go.RowKit Go.MapKept

def mlook (i : Int) : List (Int × Value) → Option Value
  | [] => none
  | x :: L => if x.1 = i then some x.2 else mlook i L
def mput (i : Int) (v : Value) : List (Int × Value) → List (Int × Value)
  | [] => [(i, v)]
  | x :: L => if x.1 = i then (i, v) :: L else x :: mput i v L
def mdel (i : Int) : List (Int × Value) → List (Int × Value)
  | [] => []
  | x :: L => if x.1 = i then L else x :: mdel i L
def ents (k : IntKind) (L : List (Int × Value)) : List (Value × Value) := L.map fun x => (.int k x.1, x.2)
def pairs (l : List MapEntry) : List (Value × Value) := l.map fun e => (e.key, e.val)
/-- Block b is a map that holds these. -/
def Mp (w : World) (b : Nat) (k : IntKind) (L : List (Int × Value)) : Prop := ∃ es c, w.heap[b]? = some (.map es c) ∧ pairs es.toList = ents k L
theorem Mp.lt {w : World} {b : Nat} {k : IntKind} {L : List (Int × Value)} (h : Mp w b k L) : b < w.heap.size := by
  obtain ⟨es, c, hb, _⟩ := h
  exact (Array.getElem?_eq_some_iff.1 hb).1
theorem Mp.block {w w' : World} {b : Nat} {k : IntKind} {L : List (Int × Value)} (h : Mp w b k L) (hb : w'.heap[b]? = w.heap[b]?) : Mp w' b k L := by
  obtain ⟨es, c, h1, h2⟩ := h
  exact ⟨es, c, hb.trans h1, h2⟩
theorem Mp.ext {w w' : World} {b : Nat} {k : IntKind} {L : List (Int × Value)} (h : Mp w b k L) (hx : Ext w w') : Mp w' b k L := h.block (hx.block b h.lt)
theorem Mp.chg {S : Nat → Prop} {w w' : World} {b : Nat} {k : IntKind} {L : List (Int × Value)} (h : Mp w b k L) (hx : Chg S w w') (hn : ¬ S b) : Mp w' b k L := h.block (hx.block b h.lt hn)
theorem mp_new {X W : World} {k : IntKind} (h : Ext (X.alloc (.map #[] 0)) W) : Mp W X.heap.size k [] := by
  refine Mp.ext ⟨#[], 0, heap_alloc_new X _, rfl⟩ h
theorem find_spec (k : IntKind) (i : Int) : ∀ (l : List MapEntry) (L : List (Int × Value)) (s : Nat), pairs l = ents k L →
    (mlook i L = none ∧ Instr.findNow (.int k) (.int k i) l s = some none ∧ (∀ u, mput i u L = L ++ [(i, u)]) ∧ mdel i L = L) ∨
    (∃ n v, mlook i L = some v ∧ Instr.findNow (.int k) (.int k i) l s = some (some (s + n, v)) ∧ (l[n]?).map (·.key) = some (.int k i) ∧
      (∀ u, pairs (l.modify n fun e => { e with key := .int k i, val := u }) = ents k (mput i u L)) ∧ pairs (l.eraseIdx n) = ents k (mdel i L) ∧ n < l.length)
  | [], [], s, _ => .inl ⟨rfl, rfl, fun _ => rfl, rfl⟩
  | [], x :: L, s, h => by simp [pairs, ents] at h
  | e :: l, [], s, h => by simp [pairs, ents] at h
  | e :: l, x :: L, s, h => by
    simp only [pairs, ents, List.map_cons, List.cons.injEq, Prod.mk.injEq] at h
    obtain ⟨⟨h1, h2⟩, h3⟩ := h
    by_cases hx : x.1 = i
    · right
      refine ⟨0, x.2, by simp [mlook, hx], ?_, ?_, ?_, ?_, by simp⟩
      · unfold Instr.findNow
        rw [h1, hx]
        simp [Instr.sameNow, h2]
      · simp [h1, hx]
      · intro u
        simp only [List.modify_zero_cons, mput, if_pos hx, pairs, ents, List.map_cons]
        rw [h3]
      · simp only [List.eraseIdx_cons_zero, mdel, if_pos hx, pairs, ents]
        exact h3
    · have hs : Instr.sameNow (.int k) (.int k i) e.key = some false := by
        rw [h1]
        simp only [Instr.sameNow, if_true]
        rw [beq_eq_false_iff_ne.2 (Ne.symm hx)]
      rcases find_spec k i l L (s + 1) h3 with ⟨q1, q2, q3, q4⟩ | ⟨n, v, q1, q2, q3, q4, q5, q6⟩
      · left
        refine ⟨by simp [mlook, hx, q1], ?_, fun u => by simp [mput, hx, q3 u], by simp [mdel, hx, q4]⟩
        unfold Instr.findNow
        rw [hs]; exact q2
      · right
        refine ⟨n + 1, v, by simp [mlook, hx, q1], ?_, by simpa using q3, ?_, ?_, by simp; omega⟩
        · unfold Instr.findNow
          rw [hs]
          have : s + 1 + n = s + (n + 1) := by omega
          rw [← this]; exact q2
        · intro u
          simp only [List.modify_succ_cons, mput, if_neg hx, pairs, ents, List.map_cons]
          have := q4 u
          simp only [pairs, ents] at this
          rw [this, h1, h2]
        · simp only [List.eraseIdx_cons_succ, mdel, if_neg hx, pairs, ents, List.map_cons]
          simp only [pairs, ents] at q5
          rw [q5, h1, h2]
theorem same_bits (k : IntKind) (i : Int) : Instr.sameBits 10000 (.int k i) (.int k i) = true := by
  unfold Instr.sameBits; simp
section
variable {P : Program} {w : World} {t kt e : TypeId} {b : Nat} {k : IntKind} {L : List (Int × Value)}
theorem mp_set {w : World} {b : Nat} {o o' : Obj} (hb : w.heap[b]? = some o) : Chg (fun q => q = b) w { w with heap := w.heap.setIfInBounds b o' } ∧ ({ w with heap := w.heap.setIfInBounds b o' } : World).heap[b]? = some o' :=
  ⟨⟨rfl, rfl, rfl, by simp, fun q _ hne => (heap_set hb).2 q hne⟩, (heap_set hb).1⟩
/-- An entry. -/
theorem run_mput (ht : P.underlying t = some (.map kt e)) (hd : P.underlying kt = some (.int k)) (h : Mp w b k L) (i : Int) (v : Value) :
    ∃ w', (Instr.mapUpdate t (.map (some b)) (.int k i) v).run P w = .ok () w' ∧ Mp w' b k (mput i v L) ∧ Chg (fun q => q = b) w w' ∧ w'.heap.size = w.heap.size := by
  obtain ⟨es, c, hb, hL⟩ := h
  rcases find_spec k i es.toList L 0 hL with ⟨q1, q2, q3, q4⟩ | ⟨n, v0, q1, q2, q3, q4, q5, q6⟩
  · obtain ⟨hc, hb'⟩ := mp_set (o' := .map (es.push { key := .int k i, val := v, born := c }) (c + 1)) hb
    refine ⟨_, ?_, ⟨_, _, hb', ?_⟩, hc, by simp⟩
    · unfold Instr.mapUpdate
      simp only [Sem.run_bind, run_underlying ht, Result.andThen, MapKept.run_getObj_map hb, run_checkKey hd (show IsKey (.int k) (.int k i) from rfl), run_findKey hd q2, MapKept.run_setObj_map _ hb]
    · rw [q3 v]
      simp only [pairs, ents, Array.toList_push, List.map_append, List.map_cons, List.map_nil] at hL ⊢
      rw [hL]
  · rw [Nat.zero_add] at q2
    obtain ⟨hc, hb'⟩ := mp_set (o' := .map (es.modify n fun e => { e with key := .int k i, val := v }) c) hb
    have hk : (((es[n]?).map (·.key)).getD (.int k i)) = .int k i := by
      have h3 := q3
      rw [Array.getElem?_toList] at h3
      rw [h3]; rfl
    refine ⟨_, ?_, ⟨_, _, hb', ?_⟩, hc, by simp⟩
    · unfold Instr.mapUpdate
      simp only [Sem.run_bind, run_underlying ht, Result.andThen, MapKept.run_getObj_map hb, run_checkKey hd (show IsKey (.int k) (.int k i) from rfl), run_findKey hd q2, hk, Instr.keyThatStays, same_bits, if_true, Sem.run_pure, MapKept.run_setObj_map _ hb]
    · rw [Array.toList_modify]; exact q4 v
theorem run_mlook (ht : P.underlying t = some (.map kt e)) (hd : P.underlying kt = some (.int k)) (h : Mp w b k L) (i : Int) {z : Value} (hz : (zeroValue e).run P w = .ok z w) :
    (Instr.lookup t (.map (some b)) (.int k i) false).run P w = .ok ((mlook i L).getD z) w ∧ (Instr.lookup t (.map (some b)) (.int k i) true).run P w = .ok (.tuple #[(mlook i L).getD z, .bool (mlook i L).isSome]) w := by
  obtain ⟨es, c, hb, hL⟩ := h
  rcases find_spec k i es.toList L 0 hL with ⟨q1, q2, q3, q4⟩ | ⟨n, v0, q1, q2, q3, q4, q5, q6⟩
  · rw [q1]
    constructor
    all_goals
      unfold Instr.lookup
      simp only [Sem.run_bind, run_underlying ht, Result.andThen, MapKept.run_getObj_map hb, Sem.run_pure, run_checkKey hd (show IsKey (.int k) (.int k i) from rfl), run_findKey hd q2, hz]
      rfl
  · rw [q1]
    constructor
    all_goals
      unfold Instr.lookup
      simp only [Sem.run_bind, run_underlying ht, Result.andThen, MapKept.run_getObj_map hb, Sem.run_pure, run_checkKey hd (show IsKey (.int k) (.int k i) from rfl), run_findKey hd q2]
      rfl
/-- A key struck out. -/
theorem run_mdel {ty : TypeId} (ht : P.underlying t = some (.map kt e)) (hd : P.underlying kt = some (.int k)) (h : Mp w b k L) (i : Int) (t2 : TypeId) :
    ∃ w', (Builtin.delete_ #[t, t2] ty #[.map (some b), .int k i]).run P w = .ok (.tuple #[]) w' ∧ Mp w' b k (mdel i L) ∧ Chg (fun q => q = b) w w' ∧ w'.heap.size = w.heap.size := by
  obtain ⟨es, c, hb, hL⟩ := h
  rcases find_spec k i es.toList L 0 hL with ⟨q1, q2, q3, q4⟩ | ⟨n, v0, q1, q2, q3, q4, q5, q6⟩
  · obtain ⟨hc, hb'⟩ := mp_set (o' := .map es c) hb
    refine ⟨_, ?_, ⟨_, _, hb', by rw [q4]; exact hL⟩, hc, by simp⟩
    unfold Builtin.delete_
    simp [Sem.run_bind, run_underlying ht, Result.andThen, MapKept.run_getObj_map hb, Sem.run_pure, run_checkKey hd (show IsKey (.int k) (.int k i) from rfl), run_findKey hd q2, MapKept.run_setObj_map _ hb]
  · rw [Nat.zero_add] at q2
    obtain ⟨hc, hb'⟩ := mp_set (o' := .map (es.eraseIdxIfInBounds n) c) hb
    refine ⟨_, ?_, ⟨_, _, hb', ?_⟩, hc, by simp⟩
    · unfold Builtin.delete_
      simp [Sem.run_bind, run_underlying ht, Result.andThen, MapKept.run_getObj_map hb, Sem.run_pure, run_checkKey hd (show IsKey (.int k) (.int k i) from rfl), run_findKey hd q2, MapKept.run_setObj_map _ hb]
    · have : (es.eraseIdxIfInBounds n).toList = es.toList.eraseIdx n := by
        unfold Array.eraseIdxIfInBounds
        rw [dif_pos (by simpa using q6), Array.toList_eraseIdx]
      rw [this]; exact q5
end
/-- An entry, at the operation. -/
theorem list_mput {P : Program} {w : World} {ops : Array Oper} {rest : List Oper} {o : Oper} {a : Act} {Q : Exit → Act → World → Prop} (hg : o.guard = none) (m x v : Operand) (t : TypeId) (hop : o.op = Op.mapUpdate t m x v ∨ o.op = Op.insert t m x v)
    (kt e : TypeId) (k : IntKind) (ht : P.underlying t = some (.map kt e)) (hd : P.underlying kt = some (.int k)) (b : Nat) (L : List (Int × Value)) (hm : a.eval m = .map (some b)) (h : Mp w b k L) (i : Int) (val : Value) (hx : a.eval x = .int k i) (hv : a.eval v = val)
    (hK : ∀ w', Mp w' b k (mput i val L) → Chg (fun q => q = b) w w' → wpList P ops Q rest (a.put o.dst undef) w') : wpList P ops Q (o :: rest) a w := by
  refine wpList_plain hg fun K' hK' => ?_
  obtain ⟨w', hrun, r1, r2, _⟩ := run_mput ht hd h i val
  unfold Oper.wp
  rcases hop with hop | hop
  all_goals
    simp [execOp, hop, hm, hx, hv, hrun, Result.andThen]
    exact hK' _ _ (hK w' r1 r2)
theorem list_mupd {P : Program} {w : World} {ops : Array Oper} {rest : List Oper} {o : Oper} {a : Act} {Q : Exit → Act → World → Prop} (hg : o.guard = none) (m x v : Operand) (t : TypeId) (hop : o.op = Op.mapUpdate t m x v)
    (kt e : TypeId) (k : IntKind) (ht : P.underlying t = some (.map kt e)) (hd : P.underlying kt = some (.int k)) (b : Nat) (L : List (Int × Value)) (hm : a.eval m = .map (some b)) (h : Mp w b k L) (i : Int) (val : Value) (hx : a.eval x = .int k i) (hv : a.eval v = val)
    (hK : ∀ w', Mp w' b k (mput i val L) → Chg (fun q => q = b) w w' → wpList P ops Q rest (a.put o.dst undef) w') : wpList P ops Q (o :: rest) a w :=
  list_mput hg m x v t (.inl hop) kt e k ht hd b L hm h i val hx hv hK
theorem list_mins {P : Program} {w : World} {ops : Array Oper} {rest : List Oper} {o : Oper} {a : Act} {Q : Exit → Act → World → Prop} (hg : o.guard = none) (m x v : Operand) (t : TypeId) (hop : o.op = Op.insert t m x v)
    (kt e : TypeId) (k : IntKind) (ht : P.underlying t = some (.map kt e)) (hd : P.underlying kt = some (.int k)) (b : Nat) (L : List (Int × Value)) (hm : a.eval m = .map (some b)) (h : Mp w b k L) (i : Int) (val : Value) (hx : a.eval x = .int k i) (hv : a.eval v = val)
    (hK : ∀ w', Mp w' b k (mput i val L) → Chg (fun q => q = b) w w' → wpList P ops Q rest (a.put o.dst undef) w') : wpList P ops Q (o :: rest) a w :=
  list_mput hg m x v t (.inr hop) kt e k ht hd b L hm h i val hx hv hK
/-- A key struck out, at the operation. -/
theorem list_mdel {P : Program} {w : World} {ops : Array Oper} {rest : List Oper} {o : Oper} {a : Act} {Q : Exit → Act → World → Prop} (hg : o.guard = none) (m x : Operand) (t t2 : TypeId) (hop : o.op = .call { callee := .builtin .delete, args := #[m, x], argTypes := #[t, t2] })
    (kt e : TypeId) (k : IntKind) (ht : P.underlying t = some (.map kt e)) (hd : P.underlying kt = some (.int k)) (b : Nat) (L : List (Int × Value)) (hm : a.eval m = .map (some b)) (h : Mp w b k L) (i : Int) (hx : a.eval x = .int k i)
    (hK : ∀ w', Mp w' b k (mdel i L) → Chg (fun q => q = b) w w' → wpList P ops Q rest (a.put o.dst (.tuple #[])) w') : wpList P ops Q (o :: rest) a w := by
  refine wpList_plain hg fun K' hK' => ?_
  obtain ⟨w', hrun, r1, r2, _⟩ := run_mdel (ty := o.type) ht hd h i t2
  unfold Oper.wp execOp
  simp only [hop, resolve, invoke, builtin, Sem.run_bind, Sem.run_pure, Result.andThen_ok, List.map_toArray, List.map_cons, List.map_nil, hm, hx, hrun]
  exact hK' _ _ (hK w' r1 r2)
/-- A look-up, at the operation. -/
theorem list_mlook {P : Program} {w : World} {ops : Array Oper} {rest : List Oper} {o : Oper} {a : Act} {Q : Exit → Act → World → Prop} (hg : o.guard = none) (m x : Operand) (t : TypeId) (c : Bool) (hop : o.op = Op.lookup t m x c)
    (kt e : TypeId) (k : IntKind) (ht : P.underlying t = some (.map kt e)) (hd : P.underlying kt = some (.int k)) {z : Value} (hz : (zeroValue e).run P w = .ok z w) (b : Nat) (L : List (Int × Value)) (hm : a.eval m = .map (some b)) (h : Mp w b k L) (i : Int) (hx : a.eval x = .int k i)
    (hK : wpList P ops Q rest (a.put o.dst (if c then .tuple #[(mlook i L).getD z, .bool (mlook i L).isSome] else (mlook i L).getD z)) w) : wpList P ops Q (o :: rest) a w := by
  refine wpList_plain hg fun K' hK' => ?_
  obtain ⟨r1, r2⟩ := run_mlook ht hd h i hz
  unfold Oper.wp
  cases c
  · simp [execOp, hop, hm, hx, r1, Result.andThen]
    exact hK' _ _ hK
  · simp [execOp, hop, hm, hx, r2, Result.andThen]
    exact hK' _ _ hK
/-- Pairs whose keys are told apart. -/
def Keys (L : List (Int × Value)) : Prop := (L.map (·.1)).Nodup
theorem mlook_put (i j : Int) (v : Value) : ∀ L, mlook j (mput i v L) = if j = i then some v else mlook j L
  | [] => by
    by_cases h : j = i
    · subst h; simp [mput, mlook]
    · simp [mput, mlook, h, Ne.symm h]
  | x :: L => by
    have ih := mlook_put i j v L
    unfold mput
    by_cases hx : x.1 = i
    · rw [if_pos hx]
      by_cases h : j = i
      · subst h; simp [mlook]
      · simp [mlook, h, Ne.symm h, hx]
    · rw [if_neg hx]
      by_cases hj : x.1 = j
      · have : j ≠ i := by rw [← hj]; exact hx
        simp [mlook, hj, this]
      · simp only [mlook, if_neg hj, ih]
theorem mlook_none {i : Int} : ∀ {L : List (Int × Value)}, mlook i L = none ↔ i ∉ L.map (·.1)
  | [] => by simp [mlook]
  | x :: L => by
    have ih := mlook_none (i := i) (L := L)
    by_cases h : x.1 = i
    · simp [mlook, h]
    · simp only [mlook, if_neg h, ih, List.map_cons, List.mem_cons, not_or]
      exact ⟨fun hh => ⟨Ne.symm h, hh⟩, fun hh => hh.2⟩
theorem mput_new {i : Int} (v : Value) : ∀ {L : List (Int × Value)}, mlook i L = none → mput i v L = L ++ [(i, v)]
  | [], _ => rfl
  | x :: L, h => by
    by_cases hx : x.1 = i
    · simp [mlook, hx] at h
    · simp only [mlook, if_neg hx] at h
      simp [mput, hx, mput_new v h]
theorem mput_len {i : Int} (v : Value) : ∀ {L : List (Int × Value)}, mlook i L ≠ none → (mput i v L).map (·.1) = L.map (·.1)
  | [], h => absurd rfl h
  | x :: L, h => by
    by_cases hx : x.1 = i
    · simp [mput, hx]
    · simp only [mlook, if_neg hx] at h
      simp [mput, hx, mput_len v h]
theorem keys_put {i : Int} {v : Value} {L : List (Int × Value)} (h : Keys L) : Keys (mput i v L) := by
  unfold Keys at h ⊢
  cases hl : mlook i L with
  | none =>
    rw [mput_new v hl, List.map_append, List.nodup_append]
    refine ⟨h, by simp, fun a ha b hb => ?_⟩
    simp only [List.map_cons, List.map_nil, List.mem_singleton] at hb
    subst hb
    rintro rfl
    exact mlook_none.1 hl ha
  | some x => rw [mput_len v (by rw [hl]; simp)]; exact h
theorem mdel_sub (i : Int) : ∀ L : List (Int × Value), (mdel i L).Sublist L
  | [] => List.Sublist.slnil
  | x :: L => by
    unfold mdel
    split
    · exact List.sublist_cons_self _ _
    · exact (mdel_sub i L).cons_cons _
theorem keys_del {i : Int} {L : List (Int × Value)} (h : Keys L) : Keys (mdel i L) := List.Nodup.sublist ((mdel_sub i L).map _) h
theorem mlook_del {i : Int} (j : Int) : ∀ {L : List (Int × Value)}, Keys L → mlook j (mdel i L) = if j = i then none else mlook j L
  | [], _ => by simp [mdel, mlook]
  | x :: L, h => by
    have h' : x.1 ∉ L.map (·.1) ∧ Keys L := by simpa [Keys] using h
    have ih := mlook_del (i := i) j h'.2
    unfold mdel
    by_cases hx : x.1 = i
    · rw [if_pos hx]
      by_cases hj : j = i
      · rw [if_pos hj, mlook_none]
        rw [hj, ← hx]; exact h'.1
      · rw [if_neg hj]
        simp [mlook, hx, Ne.symm hj]
    · rw [if_neg hx]
      by_cases hj : x.1 = j
      · have : j ≠ i := by rw [← hj]; exact hx
        simp [mlook, hj, this]
      · simp only [mlook, if_neg hj, ih]
theorem mdel_len {i : Int} : ∀ {L : List (Int × Value)}, mlook i L ≠ none → (mdel i L).length + 1 = L.length
  | [], h => absurd rfl h
  | x :: L, h => by
    unfold mdel
    by_cases hx : x.1 = i
    · rw [if_pos hx]; simp
    · simp only [mlook, if_neg hx] at h
      rw [if_neg hx]
      have := mdel_len h
      simp; omega
end Go.Proofs.Ytkicofagjebnjaa

/- Heaps among what a walk has in memory: what is due, what is told. -/
import Derived.Test.YtkicofagjebnjaaSp7
import Derived.Test.YtkicofagjebnjaaQ07
namespace Go.Proofs.Ytkicofagjebnjaa
set_option linter.unusedVariables false
set_option linter.unusedSimpArgs false
open Go.RowKit
/-- One is changed, and one more is made. -/
theorem Has.chgNew {w w' : World} {l : List Res} {S : Nat → Prop} (h : Has w l) (i : Nat) {r : Res} (hi : l[i]? = some r) (c : Chg S w w') (hS : ∀ k, k < w.heap.size → S k → r.F k) (r' : Res) (hr : r'.R w') (hF : ∀ k, r'.F k → r.F k) (q : Res) (hq : q.R w') (hQ : ∀ k, q.F k → w.heap.size ≤ k) : Has w' (l.set i r' ++ [q]) := by
  have h1 := h.chg i hi c hS r' hr (fun k f => .inl (hF k f))
  refine ⟨fun a ha => ?_, List.pairwise_append.2 ⟨h1.2, List.pairwise_singleton _ _, fun a ha b hb k fa fb => ?_⟩⟩
  · rcases List.mem_append.1 ha with ha | ha
    · exact h1.1 a ha
    · rw [List.mem_singleton.1 ha]; exact hq
  · rw [List.mem_singleton.1 hb] at fb
    have h2 := hQ k fb
    obtain ⟨j, hj, rfl⟩ := List.mem_iff_getElem.1 ha
    rw [List.length_set] at hj
    rw [List.getElem_set] at fa
    by_cases e : i = j
    · rw [if_pos e] at fa
      have := r.low w k (h.at i hi) (hF k fa); omega
    · rw [if_neg e] at fa
      have := (l[j]).low w k (h.at j (by simp [hj])) fa; omega
theorem row_F {T : TypeId} {sz n base : Nat} {v : Value} {xs : List Value} {w' : World} (ho : w'.ownsRow base T sz v n xs) : ∀ k, v.ownBlock = some k → base ≤ k := fun k e => by
  rcases ho.2 with ⟨rfl, _⟩ | ⟨g, cap, cur, rfl, hb, _⟩
  · simp [Value.ownBlock] at e
  · simp only [Value.ownBlock, Option.some.injEq] at e
    omega
abbrev tRow (ms : Option Addr) (cap : Nat) (D : List Tmr) : Res := rowR 29 2 (.slice ms D.length cap) D.length (D.flatMap tmrC)
theorem Has.due {w w' : World} {L : List Res} {hb mb : Nat} {rg : Option Nat} {S : List Tmr} {most now : Int} {e : Ending} (h : Has w L) (i : Nat) (hi : L[i]? = some (heapR hb mb rg S most)) (p : DuePost w hb mb rg S most now e w') :
    ∃ ms cap, e = .returned (.slice ms (S.takeWhile (dueB now)).length cap) ∧ Has w' (L.set i (heapR hb mb rg (S.dropWhile (dueB now)) most) ++ [tRow ms cap (S.takeWhile (dueB now))]) := by
  obtain ⟨ms, cap, he, ho, ha, hc⟩ := p
  exact ⟨ms, cap, he, h.chgNew i hi hc (fun k _ e => e) (heapR hb mb rg (S.dropWhile (dueB now)) most) ha (fun k e => e) _ (own_low ho (Nat.zero_le _)) (row_F ho)⟩
theorem Has.all {w w' : World} {L : List Res} {S : List Tmr} {e : Ending} (h : Has w L) (p : AllPost w S e w') : ∃ ms cap, e = .returned (.slice ms S.length cap) ∧ Has w' (L ++ [tRow ms cap S]) := by
  obtain ⟨ms, cap, he, ho, hx⟩ := p
  exact ⟨ms, cap, he, h.row hx ho⟩
theorem tRow_rows {w : World} {L : List Res} {ms : Option Addr} {cap : Nat} {D : List Tmr} (h : Has w L) (i : Nat) (hi : L[i]? = some (tRow ms cap D)) : Rows_ w ms D.length 2 (fun i => tmrC (at_ D i)) := rows_of_own (g := tmrC) (fun _ => rfl) (h.rowAt i hi)
theorem tRow_cap {w : World} {L : List Res} {ms : Option Addr} {cap : Nat} {D : List Tmr} (h : Has w L) (i : Nat) (hi : L[i]? = some (tRow ms cap D)) : D.length ≤ cap ∧ cap ≤ maxLen := cap_of_own (n := 2) (h.rowAt i hi)
/-- Two rows of the same timers. -/
theorem Has.same {w : World} {L : List Res} {m1 m2 : Option Addr} {c1 c2 : Nat} {D : List Tmr} (h : Has w L) (i j : Nat) (hi : L[i]? = some (tRow m1 c1 D)) (hj : L[j]? = some (tRow m2 c2 D)) (hl : D.length ≤ 1000000) :
    Calls Try.prog 19 #[.slice m1 D.length c1, .slice m2 D.length c2] w fun e w' => e = .returned (.bool true) ∧ Ext w w' := same7_calls m1 m2 c1 c2 D w hl (tRow_rows h i hi) (tRow_rows h j hj)
/-- Timers put behind others. -/
theorem list_appT {w : World} {L : List Res} {ms A : Option Addr} {cap c : Nat} {D E : List Tmr} {ops : Array Oper} {rest : List Oper} {o : Oper} {a : Act} {Q : Exit → Act → World → Prop} (h : Has w L) (i : Nat) (hi : L[i]? = some (tRow ms cap D))
    (hr : Rows_ w A E.length 2 (fun i => tmrC (at_ E i))) (hb : D.length + E.length ≤ 1000000) (s x : Operand) (hgd : o.guard = none) (ho : o.op = .call { callee := .builtin .append, args := #[s, x], argTypes := #[22, 22] })
    (hs : a.eval s = .slice ms D.length cap) (hx : a.eval x = .slice A E.length c)
    (K : ∀ ms' cap' w', Has w' (L.set i (tRow ms' cap' (D ++ E))) → wpList Try.prog ops Q rest (a.put o.dst (.slice ms' (D ++ E).length cap')) w') : wpList Try.prog ops Q (o :: rest) a w := by
  have hinf := tmr_info
  cases hq : Try.prog.info? 29 with
  | none => rw [hq] at hinf; cases hinf
  | some ik =>
    rw [hq] at hinf
    simp only [Option.map_some, Option.some.injEq, Prod.mk.injEq] at hinf
    obtain ⟨z1, z2, z3⟩ := hinf
    refine list_app3 hgd s x 22 ho 0 29 ik _ 2 16 Try.underlying22 hq z1 z2 z3 rfl (by decide) (.slice ms D.length cap) D.length (D.flatMap tmrC) hs (h.rowAt i hi) A E.length c (E.flatMap tmrC) hx (rds_of_rows (g := tmrC) (fun _ => rfl) (by decide) hr) (flat_one oneCell_tmr E) (by unfold maxLen; omega) (by omega) (Nat.zero_le _) ?_
    intro v6 w6 ho6 hg6 hb6
    have ho7 : w6.ownsRow 0 29 2 v6 (D ++ E).length ((D ++ E).flatMap tmrC) := by rw [List.length_append, List.flatMap_append]; exact ho6
    obtain ⟨ms', cap', rfl⟩ := own_slice ho7
    exact K ms' cap' w6 (h.grown i hi ho7 hg6 hb6)
/-- What Ids tell, by what of the timers. -/
def ThF (f : Tmr → Value) (M : List (Int × Value)) (S : List Tmr) : Prop := (∀ d, mlook d M = (fnd d S).map f) ∧ M.length = S.length ∧ Keys M
theorem thF_nil (f : Tmr → Value) : ThF f [] [] := ⟨fun d => rfl, rfl, List.nodup_nil⟩
theorem thF_ins {f : Tmr → Value} {M : List (Int × Value)} {t : Tmr} {S : List Tmr} (h : ThF f M S) (hi : Ids S) (hn : fnd t.id S = none) : ThF f (mput t.id (f t) M) (ins t S) := by
  refine ⟨fun d => ?_, ?_, keys_put h.2.2⟩
  · rw [mlook_put, fnd_ins hi hn]
    by_cases e : d = t.id
    · rw [if_pos e, if_pos e]; rfl
    · rw [if_neg e, if_neg e]; exact h.1 d
  · have h0 : mlook t.id M = none := by rw [h.1, hn]; rfl
    rw [mput_new _ h0, ins_length, List.length_append, h.2.1]; rfl
theorem thF_wo {f : Tmr → Value} {M : List (Int × Value)} {S : List Tmr} (h : ThF f M S) (hi : Ids S) (d : Int) : ThF f (mdel d M) (wo d S) := by
  refine ⟨fun i => ?_, ?_, keys_del h.2.2⟩
  · rw [mlook_del _ h.2.2, fnd_wo, h.1]
    by_cases e : i = d
    · rw [if_pos e, if_pos e]; rfl
    · rw [if_neg e, if_neg e]
  · cases hf : fnd d S with
    | none =>
      have h0 : mlook d M = none := by rw [h.1, hf]; rfl
      rw [mdel_same h0, h.2.1]
      congr 1
      rw [wo_none (fnd_none.1 hf)]
    | some t =>
      have h0 : mlook d M ≠ none := by rw [h.1, hf]; simp
      have h1 := mdel_len h0
      have h2 := wo_length hi hf
      have h3 := h.2.1
      omega
theorem thF_tail {f : Tmr → Value} {M : List (Int × Value)} {y : Tmr} {S : List Tmr} (h : ThF f M (y :: S)) (hi : Ids (y :: S)) : ThF f (mdel y.id M) S := by
  have := thF_wo h hi y.id
  rw [wo_head hi] at this; exact this
/-- What is due by the earlier of two times, and then by the later. -/
theorem take_two {a b : Int} (hab : a ≤ b) : ∀ S : List Tmr, S.takeWhile (dueB a) ++ (S.dropWhile (dueB a)).takeWhile (dueB b) = S.takeWhile (dueB b) ∧ (S.dropWhile (dueB a)).dropWhile (dueB b) = S.dropWhile (dueB b)
  | [] => ⟨rfl, rfl⟩
  | x :: S => by
    obtain ⟨h1, h2⟩ := take_two hab S
    by_cases hx : dueB a x = true
    · have hb : dueB b x = true := by unfold dueB at hx ⊢; simp at hx ⊢; omega
      simp only [List.takeWhile_cons, List.dropWhile_cons, hx, hb, if_true, List.cons_append]
      exact ⟨by rw [h1], h2⟩
    · have hx : dueB a x = false := by simpa using hx
      simp [List.takeWhile_cons, List.dropWhile_cons, hx]
theorem drop_none (a : Int) : ∀ S : List Tmr, (S.dropWhile (dueB a)).takeWhile (dueB a) = [] ∧ (S.dropWhile (dueB a)).dropWhile (dueB a) = S.dropWhile (dueB a)
  | [] => ⟨rfl, rfl⟩
  | x :: S => by
    by_cases hx : dueB a x = true
    · simp only [List.dropWhile_cons, hx, if_true]; exact drop_none a S
    · have hx : dueB a x = false := by simpa using hx
      simp [List.dropWhile_cons, List.takeWhile_cons, hx]
theorem take_drop_len (p : Tmr → Bool) : ∀ S : List Tmr, (S.takeWhile p).length + (S.dropWhile p).length = S.length
  | [] => rfl
  | x :: S => by
    by_cases hx : p x = true
    · have := take_drop_len p S
      simp only [List.takeWhile_cons, List.dropWhile_cons, hx, if_true, List.length_cons]; omega
    · have hx : p x = false := by simpa using hx
      simp [List.takeWhile_cons, List.dropWhile_cons, hx]
theorem take_due {a : Int} : ∀ {S : List Tmr} {i : Nat}, i < (S.takeWhile (dueB a)).length → (at_ (S.takeWhile (dueB a)) i).due ≤ a
  | [], i, h => by simp at h
  | x :: S, i, h => by
    by_cases hx : dueB a x = true
    · simp only [List.takeWhile_cons, hx, if_true] at h ⊢
      cases i with
      | zero => simpa [at_, dueB] using hx
      | succ i =>
        have := take_due (S := S) (i := i) (by simpa using h)
        simpa [at_] using this
    · have hx : dueB a x = false := by simpa using hx
      simp [List.takeWhile_cons, hx] at h
theorem take_srt {a : Int} {S : List Tmr} (h : Srt S) : Srt (S.takeWhile (dueB a)) := List.Pairwise.sublist (List.takeWhile_sublist _) h
theorem srt_at {S : List Tmr} (h : Srt S) {i : Nat} (hi : i + 1 < S.length) : Ahd (at_ S i) (at_ S (i + 1)) := by
  rw [at_eq (by omega), at_eq hi]
  exact List.pairwise_iff_getElem.1 h i (i + 1) (by omega) hi (by omega)
theorem drop_head {a : Int} : ∀ {S : List Tmr} {x : Tmr}, (S.dropWhile (dueB a)).head? = some x → ¬ x.due ≤ a
  | [], x, h => by simp at h
  | y :: S, x, h => by
    by_cases hy : dueB a y = true
    · simp only [List.dropWhile_cons, hy, if_true] at h; exact drop_head h
    · have hy : dueB a y = false := by simpa using hy
      simp only [List.dropWhile_cons, hy, Bool.false_eq_true, if_false, List.head?_cons, Option.some.injEq] at h
      subst h
      simpa [dueB] using hy
end Go.Proofs.Ytkicofagjebnjaa

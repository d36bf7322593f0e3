/- Timers put behind others where the order is drawn; parts of a slice. -/
import Derived.Test.YtkicofagjebnjaaSp7b
namespace Go.Proofs.Ytkicofagjebnjaa
set_option linter.unusedVariables false
set_option linter.unusedSimpArgs false
open Go.RowKit
/-- .. where the order is drawn. -/
theorem step_appT {w : World} {L : List Res} {ms A : Option Addr} {cap c : Nat} {D E : List Tmr} {ops : Array Oper} {o : Oper} {a : Act} {K : Act → World → Prop} {Q : Exit → Act → World → Prop} {X : Prop} (h : Has w L) (i : Nat) (hi : L[i]? = some (tRow ms cap D))
    (hr : Rows_ w A E.length 2 (fun i => tmrC (at_ E i))) (hb : D.length + E.length ≤ 1000000) (s x : Operand) (hgd : o.guard = none) (ho : o.op = .call { callee := .builtin .append, args := #[s, x], argTypes := #[22, 22] })
    (hs : a.eval s = .slice ms D.length cap) (hx : a.eval x = .slice A E.length c)
    (k : ∀ ms' cap' w', Has w' (L.set i (tRow ms' cap' (D ++ E))) → K (a.put o.dst (.slice ms' (D ++ E).length cap')) w') : if Region.wanted o (yielded ops a.tmps) = true then Oper.wp Try.prog o a w K Q else X := by
  have hinf := tmr_info
  cases hq : Try.prog.info? 29 with
  | none => rw [hq] at hinf; cases hinf
  | some ik =>
    rw [hq] at hinf
    simp only [Option.map_some, Option.some.injEq, Prod.mk.injEq] at hinf
    obtain ⟨z1, z2, z3⟩ := hinf
    refine step_app3 hgd s x 22 ho 0 29 ik _ 2 16 Try.underlying22 hq z1 z2 z3 rfl (by decide) (.slice ms D.length cap) D.length (D.flatMap tmrC) _ hs rfl (h.rowAt i hi) A E.length c (E.flatMap tmrC) _ hx rfl (rds_of_rows (g := tmrC) (fun _ => rfl) (by decide) hr) (flat_one oneCell_tmr E) (by unfold maxLen; omega) (by omega) (Nat.zero_le _) ?_
    intro v6 w6 ho6 hg6 hb6
    have ho7 : w6.ownsRow 0 29 2 v6 (D ++ E).length ((D ++ E).flatMap tmrC) := by rw [List.length_append, List.flatMap_append]; exact ho6
    obtain ⟨ms', cap', rfl⟩ := own_slice ho7
    exact k ms' cap' w6 (h.grown i hi ho7 hg6 hb6)
theorem rows_sub {w : World} {ms : Option Addr} {T : List Tmr} (h : Rows_ w ms T.length 2 (fun i => tmrC (at_ T i))) (q : Nat) (hq : q ≤ T.length) : Rows_ w ms (T.take q).length 2 (fun i => tmrC (at_ (T.take q) i)) := by
  have hl : (T.take q).length = q := by rw [List.length_take]; omega
  rw [hl]
  intro h0
  obtain ⟨b, o, e, hb, hr⟩ := h (by omega)
  refine ⟨b, o, e, hb, fun i hi => ?_⟩
  have : at_ (T.take q) i = at_ T i := by unfold at_; rw [List.getD_eq_getElem?_getD, List.getD_eq_getElem?_getD, List.getElem?_take_of_lt hi]
  show (tmrC (at_ (T.take q) i)).length = 2 ∧ ∀ k, k < 2 → w.cell? ⟨b, o + (i * 2 + k), none⟩ = (tmrC (at_ (T.take q) i))[k]?
  rw [this]; exact hr i (by omega)
theorem rows_from {w : World} {ms : Option Addr} {T : List Tmr} (h : Rows_ w ms T.length 2 (fun i => tmrC (at_ T i))) (q c : Nat) (hq : q ≤ T.length) (hc : T.length ≤ c) : Rows_ w (if c = q then ms else ms.map (·.add (q * 2))) (T.drop q).length 2 (fun i => tmrC (at_ (T.drop q) i)) := by
  have hl : (T.drop q).length = T.length - q := List.length_drop ..
  intro h0
  rw [hl] at h0
  obtain ⟨b, o, rfl, hb, hr⟩ := h (by omega)
  rw [if_neg (by omega)]
  refine ⟨b, o + q * 2, by simp only [Option.map_some, Addr.add]; split <;> simp_all, hb, fun i hi => ?_⟩
  rw [hl] at hi
  have : at_ (T.drop q) i = at_ T (q + i) := by unfold at_; rw [List.getD_eq_getElem?_getD, List.getD_eq_getElem?_getD, List.getElem?_drop]
  show (tmrC (at_ (T.drop q) i)).length = 2 ∧ ∀ k, k < 2 → w.cell? ⟨b, o + q * 2 + (i * 2 + k), none⟩ = (tmrC (at_ (T.drop q) i))[k]?
  rw [this]
  have h2 := hr (q + i) (by omega)
  refine ⟨h2.1, fun k hk => ?_⟩
  have h3 := h2.2 k hk
  rw [show o + q * 2 + (i * 2 + k) = o + ((q + i) * 2 + k) by omega]; exact h3
/-- What a piece of the walk has made, put to what there was ahead of it. -/
theorem Has.join {w w' : World} {L M : List Res} {r : Res} (h : Has w L) (g : Has w' M) (h0 : M[0]? = some (oldR w)) (j : Nat) (hj : M[j]? = some r) (hne : j ≠ 0) : Has w' (L ++ [r]) :=
  h.new (g.oldAt 0 h0) r (g.at j hj) (fun k f => Nat.le_of_not_lt fun hlt => g.apart h0 hj (Ne.symm hne) k hlt f)
end Go.Proofs.Ytkicofagjebnjaa

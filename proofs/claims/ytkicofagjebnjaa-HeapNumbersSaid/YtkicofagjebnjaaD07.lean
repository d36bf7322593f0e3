/- Is it a heap? What is left where one goes. -/
import Derived.Test.YtkicofagjebnjaaC07
namespace Go.Proofs.Ytkicofagjebnjaa
open Go.RowKit
set_option linter.unusedVariables false
set_option linter.unusedSimpArgs false

set_option maxRecDepth 100000 in
set_option maxHeartbeats 4000000 in
theorem made_calls (hb mb : Nat) (w : World) (lb : hb < w.heap.size) (h1 : w.cell? ⟨hb, 1, none⟩ = some (.map (some mb))) : Calls Try.prog 33 #[.pointer (some ⟨hb, 0, none⟩)] w fun e w' => e = .returned (.bool true) ∧ Ext w w' := by
  have hq : ∀ w : World, (binOp .neq 49 (.map (some mb)) (.map none)).run Try.prog w = .ok (.bool true) w := fun _ => by first | kernel_rfl | rfl
  go_enter Try.func33, Try.ntmps33
  go_wp2
  go_ret
  exact ⟨by simp, by repeat (first | exact ext_refl _ | assumption | refine ext_more' ?_ _ _ | refine ext_drew ?_ | refine ext_drewN ?_ _ | refine ext_alloc ?_ _)⟩
set_option maxRecDepth 100000 in
set_option maxHeartbeats 4000000 in
theorem made_nil (w : World) : Calls Try.prog 33 #[.pointer none] w fun e w' => e = .returned (.bool false) ∧ Ext w w' := by
  go_enter Try.func33, Try.ntmps33
  go_wp2
  go_ret
  exact ⟨by simp, by repeat (first | exact ext_refl _ | assumption | refine ext_more' ?_ _ _ | refine ext_drew ?_ | refine ext_drewN ?_ _ | refine ext_alloc ?_ _)⟩
set_option maxRecDepth 100000 in
set_option maxHeartbeats 4000000 in
theorem made_not (hb : Nat) (w : World) (lb : hb < w.heap.size) (h1 : w.cell? ⟨hb, 1, none⟩ = some (.map none)) : Calls Try.prog 33 #[.pointer (some ⟨hb, 0, none⟩)] w fun e w' => e = .returned (.bool false) ∧ Ext w w' := by
  have hq : ∀ w : World, (binOp .neq 49 (.map none) (.map none)).run Try.prog w = .ok (.bool false) w := fun _ => by first | kernel_rfl | rfl
  go_enter Try.func33, Try.ntmps33
  go_wp2
  go_ret
  exact ⟨by simp, by repeat (first | exact ext_refl _ | assumption | refine ext_more' ?_ _ _ | refine ext_drew ?_ | refine ext_drewN ?_ _ | refine ext_alloc ?_ _)⟩
theorem chg_new {S : Nat → Prop} {b : Nat} {w w1 w2 : World} (h : Chg S w w1) (g : Chg (fun q => q = b) w1 w2) (hb : w.heap.size ≤ b) : Chg S w w2 := by
  have g2 : Chg (fun q => S q ∨ q = b) w w2 := (h.mono fun _ _ h => .inl h).trans (g.mono fun _ _ h => .inr h)
  exact ⟨g2.os, g2.tape, g2.output, g2.size, fun k hk hs => g2.block k hk (fun e => by
    rcases e with e | e
    · exact hs e
    · omega)⟩
theorem HpS.chg {S : Nat → Prop} {w w' : World} {hb mb g cap : Nat} {most : Int} {l : List Tmr} {M : List (Int × Value)} (h : HpS w hb mb g cap most l M) (c : Chg S w w') (h1 : ¬ S hb) (h2 : ¬ S mb) (h3 : ¬ S g) : HpS w' hb mb g cap most l M :=
  ⟨at_chg h.box (by simp) c h1, own_chgS h.row c (fun q e hq => by simp only [Value.ownBlock, Option.some.injEq] at e; subst e; exact h3 hq), h.map.chg c h2, h.fits, h.keys⟩
/-- What take leaves: all but the one at i. -/
def TakePost (w : World) (hb mb g cap : Nat) (most : Int) (l : List Tmr) (i : Nat) : Prop := ∃ l' M', l'.Perm (rep l i) ∧ Hp l' ∧ HpS w hb mb g cap most l' M'
theorem own_rep {w : World} {g cap : Nat} {l : List Tmr} {i : Nat} (hi : i < l.length) (h : w.ownsRow 0 29 2 (.slice (some ⟨g, 0, none⟩) l.length cap) l.length ((l.set i (at_ l (l.length - 1))).flatMap tmrC)) :
    w.ownsRow 0 29 2 (.slice (some ⟨g, 0, none⟩) (rep l i).length cap) (rep l i).length ((rep l i).flatMap tmrC) := by
  have hl := rep_length hi
  have e1 : ((rep l i).flatMap tmrC) = ((l.set i (at_ l (l.length - 1))).flatMap tmrC).take ((l.length - 1) * 2) := by
    apply List.ext_getElem?
    intro j
    have hlen : ((l.set i (at_ l (l.length - 1))).flatMap tmrC).length = l.length * 2 := by rw [flat_len (g := tmrC) (n := 2) (fun _ => rfl)]; simp
    have hlen2 : ((rep l i).flatMap tmrC).length = (l.length - 1) * 2 := by rw [flat_len (g := tmrC) (n := 2) (fun _ => rfl), hl]
    by_cases hj : j < (l.length - 1) * 2
    · rw [List.getElem?_take_of_lt hj]
      have e : j = j / 2 * 2 + j % 2 := by omega
      have f1 := flat_get (g := tmrC) (n := 2) (fun _ => rfl) (rep l i) (j / 2) (j % 2) (by omega) (by omega)
      have f2 := flat_get (g := tmrC) (n := 2) (fun _ => rfl) (l.set i (at_ l (l.length - 1))) (j / 2) (j % 2) (by simp; omega) (by omega)
      rw [← e] at f1 f2
      rw [f1, f2]
      have : at_ (rep l i) (j / 2) = at_ (l.set i (at_ l (l.length - 1))) (j / 2) := by rw [at_rep hi (by omega), at_set_ hi]
      unfold at_ at this
      rw [this]
    · rw [List.getElem?_eq_none (by omega), List.getElem?_eq_none (by rw [List.length_take]; omega)]
  rw [e1, hl]
  refine ⟨by rw [List.length_take, h.1]; omega, ?_⟩
  rcases h.2 with ⟨h', _⟩ | ⟨g', cap', cur, h', hb, hg, hn, hm, hs, ht⟩
  · simp at h'
  · simp only [Value.slice.injEq, Option.some.injEq, Addr.mk.injEq, and_true, true_and] at h'
    obtain ⟨rfl, rfl⟩ := h'
    refine .inr ⟨g, cap, cur, rfl, hb, hg, by omega, hm, hs, ?_⟩
    rw [← ht, List.take_take]
    congr 1
    omega
end Go.Proofs.Ytkicofagjebnjaa

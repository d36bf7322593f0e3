/- A copy of timers. -/
import Derived.Test.YtkicofagjebnjaaI07
namespace Go.Proofs.Ytkicofagjebnjaa
open Go.RowKit
set_option linter.unusedVariables false
set_option linter.unusedSimpArgs false

def ClonePost7 (w : World) (len : Nat) (xs : List Value) (e : Ending) (w' : World) : Prop :=
  ∃ ms cap, e = .returned (.slice ms len cap) ∧ w'.ownsRow w.heap.size 29 2 (.slice ms len cap) len xs ∧ Ext w w'
set_option maxRecDepth 100000 in
set_option maxHeartbeats 4000000 in
theorem clone_tmr (s : Option Addr) (cap : Nat) (L : List Tmr) (w : World) (hr : Rows_ w s L.length 2 (fun i => tmrC (L.getD i default))) (hl : L.length ≤ 1000000) :
    Calls Try.prog 36 #[.slice s L.length cap] w (ClonePost7 w L.length (L.flatMap tmrC)) := by
  have HR := Lib.hid hr; clear hr
  obtain ⟨i0, hi0, hz0, hz1, hz2⟩ := info_parts tmr_info
  have M63 := Lib.hid (show 0 + L.length ≤ maxLen by unfold maxLen; omega)
  have M47 := Lib.hid (show (0 + L.length) * 16 ≤ 140737488355328 by omega)
  have HD := Lib.hid (show ∀ w', Ext w w' → Rds w' s L.length 2 (L.flatMap tmrC) from fun w' h' => (rds_of_rows (g := tmrC) (fun _ => rfl) (by decide) HR.out).ext h')
  have HN0 := Lib.hid (show ∀ w', Ext (w.alloc (.cells #[] 29)) w' → w'.ownsRow w.heap.size 29 2 (.slice (some ⟨w.heap.size, 0, none⟩) 0 0) 0 [] from fun w' h' => own_new (X := w) h' rfl (Nat.le_refl _) (by unfold maxLen; omega))
  have hnl := fun (w : World) (a : Option Addr) (n c : Nat) => Lib.run_eql_slice_nil (P := Try.prog) w 22 29 a n c 0 0 Try.underlying22
  cases s with
  | none =>
    have h0 : L.length = 0 := by
      rcases Nat.eq_zero_or_pos L.length with h | h
      · exact h
      · obtain ⟨b, o, hs, _⟩ := HR.out h; cases hs
    obtain rfl : L = [] := List.eq_nil_of_length_eq_zero h0
    clear HD HN0 HR
    go_enter Try.func36, Try.ntmps36
    go_wp2
    go_ret
    exact ⟨none, 0, rfl, ⟨rfl, .inl ⟨rfl, rfl⟩⟩, by repeat (first | exact ext_refl _ | assumption | refine ext_more' ?_ _ _ | refine ext_drew ?_ | refine ext_drewN ?_ _ | refine ext_alloc ?_ _)⟩
  | some a =>
    go_enter Try.func36, Try.ntmps36
    go_wp2_with (at_builtin; refine list_app rfl (.tmp 5) (.tmp 6) 22 rfl w.heap.size 29 i0 _ 2 16 Try.underlying22 hi0 hz0 hz1 hz2 rfl (by decide) (.slice (some ⟨w.heap.size, 0, none⟩) 0 0) 0 [] rfl (HN0.out _ (by repeat (first | exact ext_refl _ | assumption | refine ext_more' ?_ _ _ | refine ext_drew ?_ | refine ext_drewN ?_ _ | refine ext_alloc ?_ _))) _ _ _ (L.flatMap tmrC) rfl (HD.out _ (by repeat (first | exact ext_refl _ | assumption | refine ext_more' ?_ _ _ | refine ext_drew ?_ | refine ext_drewN ?_ _ | refine ext_alloc ?_ _))) (flat_one oneCell_tmr L) M63.out M47.out (by simp) ?_; intro v6 w6 hown6 hg6; obtain ⟨msA, cpA, rfl⟩ := own_slice hown6; have HX6 := Lib.hid (ext_grown (w := w) (by repeat (first | exact ext_refl _ | assumption | refine ext_more' ?_ _ _ | refine ext_drew ?_ | refine ext_drewN ?_ _ | refine ext_alloc ?_ _)) hg6 (fun q e => by simp [Value.ownBlock] at e; omega)); have HOWN6 := Lib.hid hown6; clear hown6 hg6)
    go_ret
    have hn0 : 0 + L.length = L.length := Nat.zero_add _
    have h := HOWN6.out
    rw [hn0] at h
    exact ⟨msA, cpA, by simp, h, HX6.out⟩
end Go.Proofs.Ytkicofagjebnjaa

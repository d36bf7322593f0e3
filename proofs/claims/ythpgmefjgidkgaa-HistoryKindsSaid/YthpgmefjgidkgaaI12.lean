/- Lists in memory of their own. -/
import Derived.Test.YthpgmefjgidkgaaH12
namespace Go.Proofs.Ythpgmefjgidkgaa
open Go.RowKit
set_option linter.unusedVariables false
set_option linter.unusedSimpArgs false

theorem int_info : (Try.prog.info? 3).map (fun i => (i.zero, i.size, i.bytes)) = some (some (.int .i64 0), 1, 8) := by kernel_rfl
theorem int64_info : (Try.prog.info? 2).map (fun i => (i.zero, i.size, i.bytes)) = some (some (.int .i64 0), 1, 8) := by kernel_rfl
def ClonePost (w : World) (T : TypeId) (n len : Nat) (xs : List Value) (e : Ending) (w' : World) : Prop :=
  ∃ ms cap, e = .returned (.slice ms len cap) ∧ w'.ownsRow w.heap.size T n (.slice ms len cap) len xs ∧ Ext w w'

set_option maxRecDepth 100000 in
set_option maxHeartbeats 4000000 in
theorem clone_int (s : Option Addr) (cap : Nat) (L : List Int) (w : World) (hr : Rows_ w s L.length 1 (fun i => numC (L.getD i default))) (hl : L.length ≤ 1000000) :
    Calls Try.prog 45 #[.slice s L.length cap] w (ClonePost w 3 1 L.length (L.flatMap numC)) := by
  have HR := Lib.hid hr; clear hr
  obtain ⟨i0, hi0, hz0, hz1, hz2⟩ := info_parts int_info
  have M63 := Lib.hid (show 0 + L.length ≤ maxLen by unfold maxLen; omega)
  have M47 := Lib.hid (show (0 + L.length) * 8 ≤ 140737488355328 by omega)
  have HD := Lib.hid (show ∀ w', Ext w w' → Rds w' s L.length 1 (L.flatMap numC) from fun w' h' => (rds_of_rows (g := numC) (fun _ => rfl) (by decide) HR.out).ext h')
  have HN0 := Lib.hid (show ∀ w', Ext (w.alloc (.cells #[] 3)) w' → w'.ownsRow w.heap.size 3 1 (.slice (some ⟨w.heap.size, 0, none⟩) 0 0) 0 [] from fun w' h' => own_new (X := w) h' rfl (Nat.le_refl _) (by unfold maxLen; omega))
  have hnl := fun (w : World) (a : Option Addr) (n c : Nat) => Lib.run_eql_slice_nil (P := Try.prog) w 26 3 a n c 0 0 Try.underlying26
  cases s with
  | none =>
    have h0 : L.length = 0 := by
      rcases Nat.eq_zero_or_pos L.length with h | h
      · exact h
      · obtain ⟨b, o, hs, _⟩ := HR.out h; cases hs
    obtain rfl : L = [] := List.eq_nil_of_length_eq_zero h0
    clear HD HN0 HR
    go_enter Try.func45, Try.ntmps45
    go_wp2
    go_ret
    exact ⟨none, 0, rfl, ⟨rfl, .inl ⟨rfl, rfl⟩⟩, by repeat (first | exact ext_refl _ | assumption | refine ext_more' ?_ _ _ | refine ext_drew ?_ | refine ext_drewN ?_ _ | refine ext_alloc ?_ _)⟩
  | some a =>
    go_enter Try.func45, Try.ntmps45
    go_wp2_with (at_builtin; refine list_app rfl (.tmp 5) (.tmp 6) 26 rfl w.heap.size 3 i0 _ 1 8 Try.underlying26 hi0 hz0 hz1 hz2 rfl (by decide) (.slice (some ⟨w.heap.size, 0, none⟩) 0 0) 0 [] rfl (HN0.out _ (by repeat (first | exact ext_refl _ | assumption | refine ext_more' ?_ _ _ | refine ext_drew ?_ | refine ext_drewN ?_ _ | refine ext_alloc ?_ _))) _ _ _ (L.flatMap numC) rfl (HD.out _ (by repeat (first | exact ext_refl _ | assumption | refine ext_more' ?_ _ _ | refine ext_drew ?_ | refine ext_drewN ?_ _ | refine ext_alloc ?_ _))) (flat_one oneCell_num L) M63.out M47.out (by simp) ?_; intro v6 w6 hown6 hg6; obtain ⟨msA, cpA, rfl⟩ := own_slice hown6; have HX6 := Lib.hid (ext_grown (w := w) (by repeat (first | exact ext_refl _ | assumption | refine ext_more' ?_ _ _ | refine ext_drew ?_ | refine ext_drewN ?_ _ | refine ext_alloc ?_ _)) hg6 (fun q e => by simp [Value.ownBlock] at e; omega)); have HOWN6 := Lib.hid hown6; clear hown6 hg6)
    go_ret
    have hn0 : 0 + L.length = L.length := Nat.zero_add _
    have h := HOWN6.out
    rw [hn0] at h
    exact ⟨msA, cpA, by simp, h, HX6.out⟩

set_option maxRecDepth 100000 in
set_option maxHeartbeats 4000000 in
theorem clone_i64 (s : Option Addr) (cap : Nat) (L : List Int) (w : World) (hr : Rows_ w s L.length 1 (fun i => numC (L.getD i default))) (hl : L.length ≤ 1000000) :
    Calls Try.prog 47 #[.slice s L.length cap] w (ClonePost w 2 1 L.length (L.flatMap numC)) := by
  have HR := Lib.hid hr; clear hr
  obtain ⟨i0, hi0, hz0, hz1, hz2⟩ := info_parts int64_info
  have M63 := Lib.hid (show 0 + L.length ≤ maxLen by unfold maxLen; omega)
  have M47 := Lib.hid (show (0 + L.length) * 8 ≤ 140737488355328 by omega)
  have HD := Lib.hid (show ∀ w', Ext w w' → Rds w' s L.length 1 (L.flatMap numC) from fun w' h' => (rds_of_rows (g := numC) (fun _ => rfl) (by decide) HR.out).ext h')
  have HN0 := Lib.hid (show ∀ w', Ext (w.alloc (.cells #[] 2)) w' → w'.ownsRow w.heap.size 2 1 (.slice (some ⟨w.heap.size, 0, none⟩) 0 0) 0 [] from fun w' h' => own_new (X := w) h' rfl (Nat.le_refl _) (by unfold maxLen; omega))
  have hnl := fun (w : World) (a : Option Addr) (n c : Nat) => Lib.run_eql_slice_nil (P := Try.prog) w 28 2 a n c 0 0 Try.underlying28
  cases s with
  | none =>
    have h0 : L.length = 0 := by
      rcases Nat.eq_zero_or_pos L.length with h | h
      · exact h
      · obtain ⟨b, o, hs, _⟩ := HR.out h; cases hs
    obtain rfl : L = [] := List.eq_nil_of_length_eq_zero h0
    clear HD HN0 HR
    go_enter Try.func47, Try.ntmps47
    go_wp2
    go_ret
    exact ⟨none, 0, rfl, ⟨rfl, .inl ⟨rfl, rfl⟩⟩, by repeat (first | exact ext_refl _ | assumption | refine ext_more' ?_ _ _ | refine ext_drew ?_ | refine ext_drewN ?_ _ | refine ext_alloc ?_ _)⟩
  | some a =>
    go_enter Try.func47, Try.ntmps47
    go_wp2_with (at_builtin; refine list_app rfl (.tmp 5) (.tmp 6) 28 rfl w.heap.size 2 i0 _ 1 8 Try.underlying28 hi0 hz0 hz1 hz2 rfl (by decide) (.slice (some ⟨w.heap.size, 0, none⟩) 0 0) 0 [] rfl (HN0.out _ (by repeat (first | exact ext_refl _ | assumption | refine ext_more' ?_ _ _ | refine ext_drew ?_ | refine ext_drewN ?_ _ | refine ext_alloc ?_ _))) _ _ _ (L.flatMap numC) rfl (HD.out _ (by repeat (first | exact ext_refl _ | assumption | refine ext_more' ?_ _ _ | refine ext_drew ?_ | refine ext_drewN ?_ _ | refine ext_alloc ?_ _))) (flat_one oneCell_num L) M63.out M47.out (by simp) ?_; intro v6 w6 hown6 hg6; obtain ⟨msA, cpA, rfl⟩ := own_slice hown6; have HX6 := Lib.hid (ext_grown (w := w) (by repeat (first | exact ext_refl _ | assumption | refine ext_more' ?_ _ _ | refine ext_drew ?_ | refine ext_drewN ?_ _ | refine ext_alloc ?_ _)) hg6 (fun q e => by simp [Value.ownBlock] at e; omega)); have HOWN6 := Lib.hid hown6; clear hown6 hg6)
    go_ret
    have hn0 : 0 + L.length = L.length := Nat.zero_add _
    have h := HOWN6.out
    rw [hn0] at h
    exact ⟨msA, cpA, by simp, h, HX6.out⟩

set_option maxRecDepth 100000 in
set_option maxHeartbeats 4000000 in
theorem clone_cmd (s : Option Addr) (cap : Nat) (L : List Cmd) (w : World) (hr : Rows_ w s L.length 5 (fun i => cmdC (L.getD i default))) (hl : L.length ≤ 1000000) :
    Calls Try.prog 44 #[.slice s L.length cap] w (ClonePost w 56 5 L.length (L.flatMap cmdC)) := by
  have HR := Lib.hid hr; clear hr
  obtain ⟨i0, hi0, hz0, hz1, hz2⟩ := info_parts cmd_info
  have M63 := Lib.hid (show 0 + L.length ≤ maxLen by unfold maxLen; omega)
  have M47 := Lib.hid (show (0 + L.length) * 48 ≤ 140737488355328 by omega)
  have HD := Lib.hid (show ∀ w', Ext w w' → Rds w' s L.length 5 (L.flatMap cmdC) from fun w' h' => (rds_of_rows (g := cmdC) (fun _ => rfl) (by decide) HR.out).ext h')
  have HN0 := Lib.hid (show ∀ w', Ext (w.alloc (.cells #[] 56)) w' → w'.ownsRow w.heap.size 56 5 (.slice (some ⟨w.heap.size, 0, none⟩) 0 0) 0 [] from fun w' h' => own_new (X := w) h' rfl (Nat.le_refl _) (by unfold maxLen; omega))
  have hnl := fun (w : World) (a : Option Addr) (n c : Nat) => Lib.run_eql_slice_nil (P := Try.prog) w 25 56 a n c 0 0 Try.underlying25
  cases s with
  | none =>
    have h0 : L.length = 0 := by
      rcases Nat.eq_zero_or_pos L.length with h | h
      · exact h
      · obtain ⟨b, o, hs, _⟩ := HR.out h; cases hs
    obtain rfl : L = [] := List.eq_nil_of_length_eq_zero h0
    clear HD HN0 HR
    go_enter Try.func44, Try.ntmps44
    go_wp2
    go_ret
    exact ⟨none, 0, rfl, ⟨rfl, .inl ⟨rfl, rfl⟩⟩, by repeat (first | exact ext_refl _ | assumption | refine ext_more' ?_ _ _ | refine ext_drew ?_ | refine ext_drewN ?_ _ | refine ext_alloc ?_ _)⟩
  | some a =>
    go_enter Try.func44, Try.ntmps44
    go_wp2_with (at_builtin; refine list_app rfl (.tmp 5) (.tmp 6) 25 rfl w.heap.size 56 i0 _ 5 48 Try.underlying25 hi0 hz0 hz1 hz2 rfl (by decide) (.slice (some ⟨w.heap.size, 0, none⟩) 0 0) 0 [] rfl (HN0.out _ (by repeat (first | exact ext_refl _ | assumption | refine ext_more' ?_ _ _ | refine ext_drew ?_ | refine ext_drewN ?_ _ | refine ext_alloc ?_ _))) _ _ _ (L.flatMap cmdC) rfl (HD.out _ (by repeat (first | exact ext_refl _ | assumption | refine ext_more' ?_ _ _ | refine ext_drew ?_ | refine ext_drewN ?_ _ | refine ext_alloc ?_ _))) (flat_one oneCell_cmd L) M63.out M47.out (by simp) ?_; intro v6 w6 hown6 hg6; obtain ⟨msA, cpA, rfl⟩ := own_slice hown6; have HX6 := Lib.hid (ext_grown (w := w) (by repeat (first | exact ext_refl _ | assumption | refine ext_more' ?_ _ _ | refine ext_drew ?_ | refine ext_drewN ?_ _ | refine ext_alloc ?_ _)) hg6 (fun q e => by simp [Value.ownBlock] at e; omega)); have HOWN6 := Lib.hid hown6; clear hown6 hg6)
    go_ret
    have hn0 : 0 + L.length = L.length := Nat.zero_add _
    have h := HOWN6.out
    rw [hn0] at h
    exact ⟨msA, cpA, by simp, h, HX6.out⟩

set_option maxRecDepth 100000 in
set_option maxHeartbeats 4000000 in
theorem clone_kno (s : Option Addr) (cap : Nat) (L : List Kno) (w : World) (hr : Rows_ w s L.length 3 (fun i => knoC (L.getD i default))) (hl : L.length ≤ 1000000) :
    Calls Try.prog 46 #[.slice s L.length cap] w (ClonePost w 44 3 L.length (L.flatMap knoC)) := by
  have HR := Lib.hid hr; clear hr
  obtain ⟨i0, hi0, hz0, hz1, hz2⟩ := info_parts kno_info
  have M63 := Lib.hid (show 0 + L.length ≤ maxLen by unfold maxLen; omega)
  have M47 := Lib.hid (show (0 + L.length) * 24 ≤ 140737488355328 by omega)
  have HD := Lib.hid (show ∀ w', Ext w w' → Rds w' s L.length 3 (L.flatMap knoC) from fun w' h' => (rds_of_rows (g := knoC) (fun _ => rfl) (by decide) HR.out).ext h')
  have HN0 := Lib.hid (show ∀ w', Ext (w.alloc (.cells #[] 44)) w' → w'.ownsRow w.heap.size 44 3 (.slice (some ⟨w.heap.size, 0, none⟩) 0 0) 0 [] from fun w' h' => own_new (X := w) h' rfl (Nat.le_refl _) (by unfold maxLen; omega))
  have hnl := fun (w : World) (a : Option Addr) (n c : Nat) => Lib.run_eql_slice_nil (P := Try.prog) w 27 44 a n c 0 0 Try.underlying27
  cases s with
  | none =>
    have h0 : L.length = 0 := by
      rcases Nat.eq_zero_or_pos L.length with h | h
      · exact h
      · obtain ⟨b, o, hs, _⟩ := HR.out h; cases hs
    obtain rfl : L = [] := List.eq_nil_of_length_eq_zero h0
    clear HD HN0 HR
    go_enter Try.func46, Try.ntmps46
    go_wp2
    go_ret
    exact ⟨none, 0, rfl, ⟨rfl, .inl ⟨rfl, rfl⟩⟩, by repeat (first | exact ext_refl _ | assumption | refine ext_more' ?_ _ _ | refine ext_drew ?_ | refine ext_drewN ?_ _ | refine ext_alloc ?_ _)⟩
  | some a =>
    go_enter Try.func46, Try.ntmps46
    go_wp2_with (at_builtin; refine list_app rfl (.tmp 5) (.tmp 6) 27 rfl w.heap.size 44 i0 _ 3 24 Try.underlying27 hi0 hz0 hz1 hz2 rfl (by decide) (.slice (some ⟨w.heap.size, 0, none⟩) 0 0) 0 [] rfl (HN0.out _ (by repeat (first | exact ext_refl _ | assumption | refine ext_more' ?_ _ _ | refine ext_drew ?_ | refine ext_drewN ?_ _ | refine ext_alloc ?_ _))) _ _ _ (L.flatMap knoC) rfl (HD.out _ (by repeat (first | exact ext_refl _ | assumption | refine ext_more' ?_ _ _ | refine ext_drew ?_ | refine ext_drewN ?_ _ | refine ext_alloc ?_ _))) (flat_one oneCell_kno L) M63.out M47.out (by simp) ?_; intro v6 w6 hown6 hg6; obtain ⟨msA, cpA, rfl⟩ := own_slice hown6; have HX6 := Lib.hid (ext_grown (w := w) (by repeat (first | exact ext_refl _ | assumption | refine ext_more' ?_ _ _ | refine ext_drew ?_ | refine ext_drewN ?_ _ | refine ext_alloc ?_ _)) hg6 (fun q e => by simp [Value.ownBlock] at e; omega)); have HOWN6 := Lib.hid hown6; clear hown6 hg6)
    go_ret
    have hn0 : 0 + L.length = L.length := Nat.zero_add _
    have h := HOWN6.out
    rw [hn0] at h
    exact ⟨msA, cpA, by simp, h, HX6.out⟩
end Go.Proofs.Ythpgmefjgidkgaa

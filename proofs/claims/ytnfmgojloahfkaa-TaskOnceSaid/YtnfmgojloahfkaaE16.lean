/- What task's functions do: times. -/
import Derived.Test.YtnfmgojloahfkaaD16
namespace Go.Proofs.Ytnfmgojloahfkaa
open Go.RowKit
set_option linter.unusedVariables false
set_option linter.unusedSimpArgs false

set_option maxHeartbeats 1000000 in
theorem times_calls (a0 a1 a2 a3 a4 a5 a6 a7 a8 a9 : Int) (w : World) (h0 : 0 ≤ a2) (h1 : a2 ≤ 255) :
    Calls Try.prog 18 #[.agg #[.int .i64 a0, .int .i64 a1, .int .u8 a2, .int .i64 a3, .int .i64 a4, .int .i64 a5, .int .i64 a6, .int .i64 a7, .int .i64 a8, .int .i64 a9]] w fun e w' => e = .returned (.agg #[.int .i64 (timesF ⟨a0, a1, a2, a3, a4, a5, a6, a7, a8, a9⟩).put, .int .i64 (timesF ⟨a0, a1, a2, a3, a4, a5, a6, a7, a8, a9⟩).since, .int .i64 (timesF ⟨a0, a1, a2, a3, a4, a5, a6, a7, a8, a9⟩).tried, .int .i64 (timesF ⟨a0, a1, a2, a3, a4, a5, a6, a7, a8, a9⟩).beat]) ∧ Ext w w' := by
  have hc : a2 = 2 ∨ a2 = 3 ∨ a2 = 4 ∨ (a2 ≠ 2 ∧ a2 ≠ 3 ∧ a2 ≠ 4) := by omega
  rcases hc with rfl | rfl | rfl | ⟨n2, n3, n4⟩
  · go_enter Try.func18, Try.ntmps18
    go_wp2
    refine bodyPost_ret (v := .agg #[.int .i64 (timesF ⟨a0, a1, 2, a3, a4, a5, a6, a7, a8, a9⟩).put, .int .i64 (timesF ⟨a0, a1, 2, a3, a4, a5, a6, a7, a8, a9⟩).since, .int .i64 (timesF ⟨a0, a1, 2, a3, a4, a5, a6, a7, a8, a9⟩).tried, .int .i64 (timesF ⟨a0, a1, 2, a3, a4, a5, a6, a7, a8, a9⟩).beat]) (by simp [results, Try.results18, go_sem, timesF]) rfl ⟨rfl, ?_⟩
    repeat (first | exact ext_refl _ | assumption | refine ext_more' ?_ _ _ | refine ext_drew ?_ | refine ext_drewN ?_ _ | refine ext_alloc ?_ _)
  · go_enter Try.func18, Try.ntmps18
    go_wp2
    go_region
    all_goals
      go_wp2
      refine bodyPost_ret (v := .agg #[.int .i64 (timesF ⟨a0, a1, 3, a3, a4, a5, a6, a7, a8, a9⟩).put, .int .i64 (timesF ⟨a0, a1, 3, a3, a4, a5, a6, a7, a8, a9⟩).since, .int .i64 (timesF ⟨a0, a1, 3, a3, a4, a5, a6, a7, a8, a9⟩).tried, .int .i64 (timesF ⟨a0, a1, 3, a3, a4, a5, a6, a7, a8, a9⟩).beat]) (by simp [results, Try.results18, go_sem, timesF]) rfl ⟨rfl, ?_⟩
      repeat (first | exact ext_refl _ | assumption | refine ext_more' ?_ _ _ | refine ext_drew ?_ | refine ext_drewN ?_ _ | refine ext_alloc ?_ _)
  · go_enter Try.func18, Try.ntmps18
    go_wp2
    refine bodyPost_ret (v := .agg #[.int .i64 (timesF ⟨a0, a1, 4, a3, a4, a5, a6, a7, a8, a9⟩).put, .int .i64 (timesF ⟨a0, a1, 4, a3, a4, a5, a6, a7, a8, a9⟩).since, .int .i64 (timesF ⟨a0, a1, 4, a3, a4, a5, a6, a7, a8, a9⟩).tried, .int .i64 (timesF ⟨a0, a1, 4, a3, a4, a5, a6, a7, a8, a9⟩).beat]) (by simp [results, Try.results18, go_sem, timesF]) rfl ⟨rfl, ?_⟩
    repeat (first | exact ext_refl _ | assumption | refine ext_more' ?_ _ _ | refine ext_drew ?_ | refine ext_drewN ?_ _ | refine ext_alloc ?_ _)
  · have b2 : (a2 == 2) = false := by simpa using n2
    have b3 : (a2 == 3) = false := by simpa using n3
    have b4 : (a2 == 4) = false := by simpa using n4
    have H := Lib.hid (show timesF ⟨a0, a1, a2, a3, a4, a5, a6, a7, a8, a9⟩ = ⟨a0, -1, -1, -1⟩ from by simp [timesF, n2, n3, n4])
    go_enter Try.func18, Try.ntmps18
    go_wp2
    rw [H.out]
    refine bodyPost_ret (v := .agg #[.int .i64 a0, .int .i64 (-1), .int .i64 (-1), .int .i64 (-1)]) (by simp [results, Try.results18, go_sem]) rfl ⟨rfl, ?_⟩
    repeat (first | exact ext_refl _ | assumption | refine ext_more' ?_ _ _ | refine ext_drew ?_ | refine ext_drewN ?_ _ | refine ext_alloc ?_ _)
end Go.Proofs.Ytnfmgojloahfkaa

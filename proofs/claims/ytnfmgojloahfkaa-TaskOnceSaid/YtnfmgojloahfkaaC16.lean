/- What task's functions do. -/
import Derived.Test.YtnfmgojloahfkaaS16
import Derived.Test.YtnfmgojloahfkaaC15
namespace Go.Proofs.Ytnfmgojloahfkaa
open Go.RowKit
set_option linter.unusedVariables false
set_option linter.unusedSimpArgs false

theorem bare_calls (a0 a1 a2 a3 a4 a5 a6 a7 a8 a9 s : Int) (w : World) :
    Calls Try.prog 30 #[.agg #[.int .i64 a0, .int .i64 a1, .int .u8 a2, .int .i64 a3, .int .i64 a4, .int .i64 a5, .int .i64 a6, .int .i64 a7, .int .i64 a8, .int .i64 a9], .int .u8 s] w fun e w' => e = .returned (.agg #[.int .i64 (bareF ⟨a0, a1, a2, a3, a4, a5, a6, a7, a8, a9⟩ s).put, .int .i64 (bareF ⟨a0, a1, a2, a3, a4, a5, a6, a7, a8, a9⟩ s).tries, .int .u8 (bareF ⟨a0, a1, a2, a3, a4, a5, a6, a7, a8, a9⟩ s).state, .int .i64 (bareF ⟨a0, a1, a2, a3, a4, a5, a6, a7, a8, a9⟩ s).ready, .int .i64 (bareF ⟨a0, a1, a2, a3, a4, a5, a6, a7, a8, a9⟩ s).since, .int .i64 (bareF ⟨a0, a1, a2, a3, a4, a5, a6, a7, a8, a9⟩ s).worker, .int .i64 (bareF ⟨a0, a1, a2, a3, a4, a5, a6, a7, a8, a9⟩ s).tried, .int .i64 (bareF ⟨a0, a1, a2, a3, a4, a5, a6, a7, a8, a9⟩ s).beat, .int .i64 (bareF ⟨a0, a1, a2, a3, a4, a5, a6, a7, a8, a9⟩ s).os, .int .i64 (bareF ⟨a0, a1, a2, a3, a4, a5, a6, a7, a8, a9⟩ s).ov]) ∧ Ext w w' := by
  go_enter Try.func30, Try.ntmps30
  go_wp2
  refine bodyPost_ret (v := .agg #[.int .i64 (bareF ⟨a0, a1, a2, a3, a4, a5, a6, a7, a8, a9⟩ s).put, .int .i64 (bareF ⟨a0, a1, a2, a3, a4, a5, a6, a7, a8, a9⟩ s).tries, .int .u8 (bareF ⟨a0, a1, a2, a3, a4, a5, a6, a7, a8, a9⟩ s).state, .int .i64 (bareF ⟨a0, a1, a2, a3, a4, a5, a6, a7, a8, a9⟩ s).ready, .int .i64 (bareF ⟨a0, a1, a2, a3, a4, a5, a6, a7, a8, a9⟩ s).since, .int .i64 (bareF ⟨a0, a1, a2, a3, a4, a5, a6, a7, a8, a9⟩ s).worker, .int .i64 (bareF ⟨a0, a1, a2, a3, a4, a5, a6, a7, a8, a9⟩ s).tried, .int .i64 (bareF ⟨a0, a1, a2, a3, a4, a5, a6, a7, a8, a9⟩ s).beat, .int .i64 (bareF ⟨a0, a1, a2, a3, a4, a5, a6, a7, a8, a9⟩ s).os, .int .i64 (bareF ⟨a0, a1, a2, a3, a4, a5, a6, a7, a8, a9⟩ s).ov]) (by simp [results, Try.results30, go_sem, bareF]) rfl ⟨rfl, ?_⟩
  repeat (first | exact ext_refl _ | assumption | refine ext_drew ?_ | refine ext_drewN ?_ _ | refine ext_alloc ?_ _)

set_option maxHeartbeats 400000 in
theorem over_calls (a0 a1 a2 a3 a4 a5 a6 a7 a8 a9 os ov : Int) (w : World) :
    Calls Try.prog 32 #[.agg #[.int .i64 a0, .int .i64 a1, .int .u8 a2, .int .i64 a3, .int .i64 a4, .int .i64 a5, .int .i64 a6, .int .i64 a7, .int .i64 a8, .int .i64 a9], .agg #[.int .i64 os, .int .i64 ov]] w fun e w' => e = .returned (.agg #[.int .i64 (overF ⟨a0, a1, a2, a3, a4, a5, a6, a7, a8, a9⟩ os ov).put, .int .i64 (overF ⟨a0, a1, a2, a3, a4, a5, a6, a7, a8, a9⟩ os ov).tries, .int .u8 (overF ⟨a0, a1, a2, a3, a4, a5, a6, a7, a8, a9⟩ os ov).state, .int .i64 (overF ⟨a0, a1, a2, a3, a4, a5, a6, a7, a8, a9⟩ os ov).ready, .int .i64 (overF ⟨a0, a1, a2, a3, a4, a5, a6, a7, a8, a9⟩ os ov).since, .int .i64 (overF ⟨a0, a1, a2, a3, a4, a5, a6, a7, a8, a9⟩ os ov).worker, .int .i64 (overF ⟨a0, a1, a2, a3, a4, a5, a6, a7, a8, a9⟩ os ov).tried, .int .i64 (overF ⟨a0, a1, a2, a3, a4, a5, a6, a7, a8, a9⟩ os ov).beat, .int .i64 (overF ⟨a0, a1, a2, a3, a4, a5, a6, a7, a8, a9⟩ os ov).os, .int .i64 (overF ⟨a0, a1, a2, a3, a4, a5, a6, a7, a8, a9⟩ os ov).ov]) ∧ Ext w w' := by
  go_enter Try.func32, Try.ntmps32
  go_wp2
  refine bodyPost_ret (v := .agg #[.int .i64 a0, .int .i64 a1, .int .u8 4, .int .i64 0, .int .i64 0, .int .i64 0, .int .i64 0, .int .i64 0, .int .i64 0, .int .i64 0]) (by simp [results, Try.results30, go_sem]) rfl ?_
  go_wp2
  refine bodyPost_ret (v := .agg #[.int .i64 (overF ⟨a0, a1, a2, a3, a4, a5, a6, a7, a8, a9⟩ os ov).put, .int .i64 (overF ⟨a0, a1, a2, a3, a4, a5, a6, a7, a8, a9⟩ os ov).tries, .int .u8 (overF ⟨a0, a1, a2, a3, a4, a5, a6, a7, a8, a9⟩ os ov).state, .int .i64 (overF ⟨a0, a1, a2, a3, a4, a5, a6, a7, a8, a9⟩ os ov).ready, .int .i64 (overF ⟨a0, a1, a2, a3, a4, a5, a6, a7, a8, a9⟩ os ov).since, .int .i64 (overF ⟨a0, a1, a2, a3, a4, a5, a6, a7, a8, a9⟩ os ov).worker, .int .i64 (overF ⟨a0, a1, a2, a3, a4, a5, a6, a7, a8, a9⟩ os ov).tried, .int .i64 (overF ⟨a0, a1, a2, a3, a4, a5, a6, a7, a8, a9⟩ os ov).beat, .int .i64 (overF ⟨a0, a1, a2, a3, a4, a5, a6, a7, a8, a9⟩ os ov).os, .int .i64 (overF ⟨a0, a1, a2, a3, a4, a5, a6, a7, a8, a9⟩ os ov).ov]) (by simp [results, Try.results32, go_sem, overF]) rfl ⟨rfl, ?_⟩
  trace_state
  repeat (first | exact ext_refl _ | assumption | refine ext_drew ?_ | refine ext_drewN ?_ _ | refine ext_alloc ?_ _)

theorem begin_calls (n : Int) (w : World) :
    Calls Try.prog 10 #[.int .i64 n] w fun e w' => e = .returned (.agg #[.int .i64 (beginF n).put, .int .i64 (beginF n).tries, .int .u8 (beginF n).state, .int .i64 (beginF n).ready, .int .i64 (beginF n).since, .int .i64 (beginF n).worker, .int .i64 (beginF n).tried, .int .i64 (beginF n).beat, .int .i64 (beginF n).os, .int .i64 (beginF n).ov]) ∧ Ext w w' := by
  go_enter Try.func10, Try.ntmps10
  go_wp2
  refine bodyPost_ret (v := .agg #[.int .i64 (beginF n).put, .int .i64 (beginF n).tries, .int .u8 (beginF n).state, .int .i64 (beginF n).ready, .int .i64 (beginF n).since, .int .i64 (beginF n).worker, .int .i64 (beginF n).tried, .int .i64 (beginF n).beat, .int .i64 (beginF n).os, .int .i64 (beginF n).ov]) (by simp [results, Try.results10, go_sem, beginF]) rfl ⟨rfl, ?_⟩
  repeat (first | exact ext_refl _ | assumption | refine ext_drew ?_ | refine ext_drewN ?_ _ | refine ext_alloc ?_ _)
end Go.Proofs.Ytnfmgojloahfkaa

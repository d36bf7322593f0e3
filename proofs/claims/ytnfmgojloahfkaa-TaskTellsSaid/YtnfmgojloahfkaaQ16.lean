/- The document's functions of layer 16: within, Begin. -/
import Derived.Test.YtnfmgojloahfkaaD16
import Derived.Test.YtnfmgojloahfkaaR15
namespace Go.Proofs.Ytnfmgojloahfkaa
open Go.RowKit
set_option linter.unusedVariables false
set_option linter.unusedSimpArgs false

set_option maxRecDepth 100000 in
set_option maxHeartbeats 4000000 in
theorem rwithin16_calls (n m : Int) (w : World)  :
    Calls Try.prog 46 #[.int .i64 n, .int .i64 m] w fun e w' => e = .returned (.bool (decide (m ≤ n) && decide (n ≤ 1099511627776) && decide (0 ≤ n))) ∧ w = w' := by
  go_enter Try.func46, Try.ntmps46
  go_wp2
  all_goals (go_ret; refine ⟨?_, rfl⟩)
  all_goals (simp; try omega)

set_option maxRecDepth 100000 in
set_option maxHeartbeats 4000000 in
theorem rbegin_calls (n : Int) (w : World)  :
    Calls Try.prog 20 #[.int .i64 n] w fun e w' => e = .returned (.agg #[.int .i64 (beginF n).put, .int .i64 (beginF n).tries, .int .u8 (beginF n).state, .int .i64 (beginF n).ready, .int .i64 (beginF n).since, .int .i64 (beginF n).worker, .int .i64 (beginF n).tried, .int .i64 (beginF n).beat, .int .i64 (beginF n).os, .int .i64 (beginF n).ov]) ∧ Ext w w' := by
  go_enter Try.func20, Try.ntmps20
  go_wp2
  all_goals (refine bodyPost_ret (by simp [results, Try.results20, go_sem]; rfl) rfl ?_; refine ⟨?_, by repeat (first | exact ext_refl _ | assumption | refine ext_more' ?_ _ _ | refine ext_drew ?_ | refine ext_drewN ?_ _ | refine ext_alloc ?_ _)⟩)
  all_goals (congr 1; simp only [beginF, mn, mx])
  all_goals ((repeat' split) <;> first | rfl | omega | (simp; omega))
end Go.Proofs.Ytnfmgojloahfkaa

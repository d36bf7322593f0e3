/- What task's functions do: right. -/
import Derived.Test.YtnfmgojloahfkaaD16
namespace Go.Proofs.Ytnfmgojloahfkaa
open Go.RowKit
set_option linter.unusedVariables false
set_option linter.unusedSimpArgs false

set_option maxRecDepth 100000 in
set_option maxHeartbeats 8000000 in
theorem tright_calls (p0 p1 p2 p3 p4 p5 p6 p7 a0 a1 a2 a3 a4 a5 a6 a7 a8 a9 : Int) (w : World) (h0 : 0 ≤ a2) (h1 : a2 ≤ 255) :
    Calls Try.prog 16 #[.agg #[.int .i64 p0, .int .i64 p1, .int .i64 p2, .int .i64 p3, .int .i64 p4, .int .i64 p5, .int .i64 p6, .int .i64 p7], .agg #[.int .i64 a0, .int .i64 a1, .int .u8 a2, .int .i64 a3, .int .i64 a4, .int .i64 a5, .int .i64 a6, .int .i64 a7, .int .i64 a8, .int .i64 a9]] w fun e w' => e = .returned (.bool (rightT ⟨p0, p1, p2, p3, p4, p5, p6, p7⟩ ⟨a0, a1, a2, a3, a4, a5, a6, a7, a8, a9⟩)) ∧ Ext w w' := by
  have i0 : ∀ w, (Instr.index 63 (.agg #[.int .i64 a0, .int .i64 a3, .int .i64 a4, .int .i64 a6, .int .i64 a7]) (.int .i64 0)).run Try.prog w = .ok (.int .i64 a0) w := fun _ => by kernel_rfl
  have i1 : ∀ w, (Instr.index 63 (.agg #[.int .i64 a0, .int .i64 a3, .int .i64 a4, .int .i64 a6, .int .i64 a7]) (.int .i64 1)).run Try.prog w = .ok (.int .i64 a3) w := fun _ => by kernel_rfl
  have i2 : ∀ w, (Instr.index 63 (.agg #[.int .i64 a0, .int .i64 a3, .int .i64 a4, .int .i64 a6, .int .i64 a7]) (.int .i64 2)).run Try.prog w = .ok (.int .i64 a4) w := fun _ => by kernel_rfl
  have i3 : ∀ w, (Instr.index 63 (.agg #[.int .i64 a0, .int .i64 a3, .int .i64 a4, .int .i64 a6, .int .i64 a7]) (.int .i64 3)).run Try.prog w = .ok (.int .i64 a6) w := fun _ => by kernel_rfl
  have i4 : ∀ w, (Instr.index 63 (.agg #[.int .i64 a0, .int .i64 a3, .int .i64 a4, .int .i64 a6, .int .i64 a7]) (.int .i64 4)).run Try.prog w = .ok (.int .i64 a7) w := fun _ => by kernel_rfl
  go_enter Try.func16, Try.ntmps16
  go_wp2_with (go_at_call 8; refine (right_calls _ _ _ _ _ _ _ _ _).mono ?_; rintro e w1 ⟨rfl, hb⟩; obtain ⟨r, d, rfl⟩ := ext_form hb; clear hb)
  all_goals try (refine wp_loop_rounds 6 ?_)
  all_goals try (rw [rounds_succ]; go_wp2)
  all_goals try (rw [rounds_succ]; go_wp2)
  all_goals try (rw [rounds_succ]; go_wp2)
  all_goals try (rw [rounds_succ]; go_wp2)
  all_goals try (rw [rounds_succ]; go_wp2)
  all_goals try (rw [rounds_succ]; go_wp2_with (go_at_call 30; refine (bare_calls _ _ _ _ _ _ _ _ _ _ _ _).mono ?_; rintro e w1 ⟨rfl, hb⟩; obtain ⟨r, d, rfl⟩ := ext_form hb; clear hb; simp only [bareF]))
  all_goals try (go_region; go_wp2)
  all_goals (go_ret; refine ⟨?_, by repeat (first | exact ext_refl _ | assumption | refine ext_more' ?_ _ _ | refine ext_drew ?_ | refine ext_drewN ?_ _ | refine ext_alloc ?_ _)⟩)
  all_goals (clear i0 i1 i2 i3 i4)
  all_goals (try simp only [beq_iff_eq, beq_eq_false_iff_ne, Bool.not_eq_true] at *)
  all_goals first | (simp [rightT, tm]; done) | (simp [rightT, tm, *]; done) | (simp [rightT, tm]; omega) | (simp [rightT, tm, *]; omega) | (simp [rightT, shapeT, tm, *]; done) | (simp [rightT, shapeT, tm, *]; omega) | (simp [rightT, shapeT, tm, *]; (repeat' split) <;> omega) | (simp [rightT, shapeT, tm]; (repeat' split) <;> omega)
end Go.Proofs.Ytnfmgojloahfkaa

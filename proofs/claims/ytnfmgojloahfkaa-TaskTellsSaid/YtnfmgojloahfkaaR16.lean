/- The document's functions of layer 16: Right. -/
import Derived.Test.YtnfmgojloahfkaaQ16
namespace Go.Proofs.Ytnfmgojloahfkaa
open Go.RowKit
set_option linter.unusedVariables false
set_option linter.unusedSimpArgs false

set_option maxRecDepth 100000 in
set_option maxHeartbeats 4000000 in
theorem rtright_calls (p0 p1 p2 p3 p4 p5 p6 p7 a0 a1 a2 a3 a4 a5 a6 a7 a8 a9 : Int) (w : World) (h0 : 0 ≤ a2) (h1 : a2 ≤ 255) :
    Calls Try.prog 17 #[.agg #[.int .i64 p0, .int .i64 p1, .int .i64 p2, .int .i64 p3, .int .i64 p4, .int .i64 p5, .int .i64 p6, .int .i64 p7], .agg #[.int .i64 a0, .int .i64 a1, .int .u8 a2, .int .i64 a3, .int .i64 a4, .int .i64 a5, .int .i64 a6, .int .i64 a7, .int .i64 a8, .int .i64 a9]] w fun e w' => e = .returned (.bool (rightT ⟨p0, p1, p2, p3, p4, p5, p6, p7⟩ ⟨a0, a1, a2, a3, a4, a5, a6, a7, a8, a9⟩)) ∧ Ext w w' := by
  go_enter Try.func17, Try.ntmps17
  go_wp2_with (first | (go_at_call 45; refine (rright_calls _ _ _ _ _ _ _ _ _).mono ?_; rintro e w1 ⟨rfl, hb⟩; obtain ⟨r, d, rfl⟩ := ext_form hb; clear hb) | (go_at_call 46; refine (rwithin16_calls _ _ _).mono ?_; rintro e w2 ⟨rfl, rfl⟩))
  all_goals (go_ret; refine ⟨?_, by repeat (first | exact ext_refl _ | assumption | refine ext_more' ?_ _ _ | refine ext_drew ?_ | refine ext_drewN ?_ _ | refine ext_alloc ?_ _)⟩)
  all_goals (try simp only [bne_eq_false_iff_eq, beq_iff_eq, beq_eq_false_iff_ne, bne_iff_ne, ne_eq, Bool.not_eq_true, decide_eq_true_eq, decide_eq_false_iff_not] at *)
  all_goals first | (simp [rightT, tm]; done) | (simp [rightT, tm, *]; done) | (simp [rightT, tm]; omega) | (simp [rightT, tm, *]; omega) | (simp [rightT, shapeT, tm, *]; done) | (simp [rightT, shapeT, tm, *]; omega) | (simp [rightT, shapeT, tm, *]; (repeat' split) <;> omega) | (simp [rightT, shapeT, tm]; (repeat' split) <;> omega)
end Go.Proofs.Ytnfmgojloahfkaa

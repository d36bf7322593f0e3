/- The law LimitsTell walked. -/
import Derived.Test.YtnjagdhpiehlpaaL15
import Derived.Test.YtnjagdhpiehlpaaR15
namespace Go.Proofs.Ytnjagdhpiehlpaa
open Go.RowKit

set_option maxRecDepth 100000 in
set_option maxHeartbeats 4000000 in
theorem tells15_walk (p0 p1 p2 p3 p4 p5 p6 p7 t0 t1 t2 t3 n : Int) (w : World) :
    Calls Try.prog 11 #[.agg #[.int .i64 p0, .int .i64 p1, .int .i64 p2, .int .i64 p3, .int .i64 p4, .int .i64 p5, .int .i64 p6, .int .i64 p7], .agg #[.int .i64 t0, .int .i64 t1, .int .i64 t2, .int .i64 t3], .int .i64 n] w fun e w' => e = .returned (.bool true) ∧ Ext w w' := by
  have hb : dueOk ⟨p0, p1, p2, p3, p4, p5, p6, p7⟩ ⟨t0, t1, t2, t3⟩ = true ∨ dueOk ⟨p0, p1, p2, p3, p4, p5, p6, p7⟩ ⟨t0, t1, t2, t3⟩ = false := by cases dueOk ⟨p0, p1, p2, p3, p4, p5, p6, p7⟩ ⟨t0, t1, t2, t3⟩ <;> simp
  go_enter Try.func11, Try.ntmps11
  go_wp2_with fail
  obtain ⟨W0, hW, hxw, hall, hal2⟩ := box2 w #[.int .i64 p0, .int .i64 p1, .int .i64 p2, .int .i64 p3, .int .i64 p4, .int .i64 p5, .int .i64 p6, .int .i64 p7] 23 #[.int .i64 t0, .int .i64 t1, .int .i64 t2, .int .i64 t3] 36
  rw [← hW]; clear hW
  have hx := ext_refl W0
  go_wp2_with (first | (go_at_call 21; refine (due_calls _ _ _ _ _ _ _ _ _ _ _ _ _).mono ?_; rintro e w1 ⟨rfl, hb⟩; replace hx := ext_trans hx hb; clear hb) | (go_at_call 23; refine (rdue_calls _ _ _ _ _ _ _ _ _ _ _ _ _).mono ?_; rintro e w1 ⟨rfl, hb⟩; replace hx := ext_trans hx hb; clear hb) | (go_at_call 24; refine (ends_calls _ _).mono ?_; rintro e w2 ⟨rfl, rfl⟩) | (go_at_call 25; refine (rends_calls _ _).mono ?_; rintro e w2 ⟨rfl, rfl⟩) | (go_at_call 22; refine (awake15_calls _).mono ?_; rintro e w1 ⟨rfl, hb⟩; replace hx := ext_trans hx hb; clear hb))
  all_goals (go_ret; exact ⟨by first | rfl | simp, ext_trans hxw hx⟩)
end Go.Proofs.Ytnjagdhpiehlpaa

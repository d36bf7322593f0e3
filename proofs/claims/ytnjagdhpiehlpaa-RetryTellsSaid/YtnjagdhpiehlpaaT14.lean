/- The law RetryTells walked: the program's answers are the document's. -/
import Derived.Test.YtnjagdhpiehlpaaL14
import Derived.Test.YtnjagdhpiehlpaaR14
namespace Go.Proofs.Ytnjagdhpiehlpaa
open Go.RowKit

set_option maxRecDepth 100000 in
set_option maxHeartbeats 4000000 in
theorem tells14_walk (p0 p1 p2 p3 p4 p5 p6 p7 n x0 x1 x2 : Int) (w : World) (hn : n ≤ 9223372036854775807) :
    Calls Try.prog 6 #[.agg #[.int .i64 p0, .int .i64 p1, .int .i64 p2, .int .i64 p3, .int .i64 p4, .int .i64 p5, .int .i64 p6, .int .i64 p7], .int .i64 n, .agg #[.int .i64 x0, .int .i64 x1, .int .i64 x2]] w fun e w' => e = .returned (.bool true) ∧ Ext w w' := by
  go_enter Try.func6, Try.ntmps6
  go_wp2_with fail
  obtain ⟨W0, hW, hxw, hall, hal2⟩ := box2 w #[.int .i64 p0, .int .i64 p1, .int .i64 p2, .int .i64 p3, .int .i64 p4, .int .i64 p5, .int .i64 p6, .int .i64 p7] 23 #[.int .i64 x0, .int .i64 x1, .int .i64 x2] 32
  rw [← hW]; clear hW
  have hx := ext_refl W0
  go_region_held3 (fun w' => Ext W0 w') (first | exact ext_drew hx | assumption | (exact ext_trans (by assumption) (by assumption)))
    (first | (go_at_call 13; refine (right_calls _ _ _ _ _ _ _ _ _).mono ?_; rintro e w1 ⟨rfl, hb⟩) | (go_at_call 16; refine (rright_calls _ _ _ _ _ _ _ _ _).mono ?_; rintro e w1 ⟨rfl, hb⟩) | (go_at_call 17; refine (more_calls _ _ _ _ _ _ _ _ _ _).mono ?_; rintro e w1 ⟨rfl, hb⟩) | (go_at_call 18; refine (rmore_calls _ _ _ _ _ _ _ _ _ _).mono ?_; rintro e w1 ⟨rfl, hb⟩) | (go_at_call 12; refine (wait_calls _ _ _ _ _ _ _ _ _ _ _ hn).mono ?_; rintro e w1 ⟨rfl, hb⟩) | (go_at_call 19; refine (rwait_calls _ _ _ _ _ _ _ _ _ _ _ hn).mono ?_; rintro e w1 ⟨rfl, hb⟩) | (go_at_call 15; refine (plus_calls _ _ _).mono ?_; rintro e w1 ⟨rfl, rfl⟩) | (go_at_call 20; refine (rplus_calls _ _ _).mono ?_; rintro e w1 ⟨rfl, rfl⟩) | (go_at_call 14; refine (awake14_calls _).mono ?_; rintro e w1 ⟨rfl, hb⟩))
  clear hx
  rename_i wr hx
  go_wp2
  go_ret
  exact ⟨rfl, ext_trans hxw hx⟩
end Go.Proofs.Ytnjagdhpiehlpaa

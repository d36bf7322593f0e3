/- What task's functions do: tried again. -/
import Derived.Test.YtnfmgojloahfkaaC16
import Derived.Test.YtnfmgojloahfkaaWe
namespace Go.Proofs.Ytnfmgojloahfkaa
open Go.RowKit
set_option linter.unusedVariables false
set_option linter.unusedSimpArgs false

set_option maxHeartbeats 1000000 in
theorem again_calls (p0 p1 p2 p3 p4 p5 p6 p7 a0 a1 a2 a3 a4 a5 a6 a7 a8 a9 os ov n j : Int) (w : World) (h1 : a1 ≤ 9223372036854775807) :
    Calls Try.prog 33 #[.agg #[.int .i64 p0, .int .i64 p1, .int .i64 p2, .int .i64 p3, .int .i64 p4, .int .i64 p5, .int .i64 p6, .int .i64 p7], .agg #[.int .i64 a0, .int .i64 a1, .int .u8 a2, .int .i64 a3, .int .i64 a4, .int .i64 a5, .int .i64 a6, .int .i64 a7, .int .i64 a8, .int .i64 a9], .agg #[.int .i64 os, .int .i64 ov], .int .i64 n, .int .i64 j] w fun e w' => e = .returned (.agg #[.int .i64 (againF ⟨p0, p1, p2, p3, p4, p5, p6, p7⟩ ⟨a0, a1, a2, a3, a4, a5, a6, a7, a8, a9⟩ os ov n j).put, .int .i64 (againF ⟨p0, p1, p2, p3, p4, p5, p6, p7⟩ ⟨a0, a1, a2, a3, a4, a5, a6, a7, a8, a9⟩ os ov n j).tries, .int .u8 (againF ⟨p0, p1, p2, p3, p4, p5, p6, p7⟩ ⟨a0, a1, a2, a3, a4, a5, a6, a7, a8, a9⟩ os ov n j).state, .int .i64 (againF ⟨p0, p1, p2, p3, p4, p5, p6, p7⟩ ⟨a0, a1, a2, a3, a4, a5, a6, a7, a8, a9⟩ os ov n j).ready, .int .i64 (againF ⟨p0, p1, p2, p3, p4, p5, p6, p7⟩ ⟨a0, a1, a2, a3, a4, a5, a6, a7, a8, a9⟩ os ov n j).since, .int .i64 (againF ⟨p0, p1, p2, p3, p4, p5, p6, p7⟩ ⟨a0, a1, a2, a3, a4, a5, a6, a7, a8, a9⟩ os ov n j).worker, .int .i64 (againF ⟨p0, p1, p2, p3, p4, p5, p6, p7⟩ ⟨a0, a1, a2, a3, a4, a5, a6, a7, a8, a9⟩ os ov n j).tried, .int .i64 (againF ⟨p0, p1, p2, p3, p4, p5, p6, p7⟩ ⟨a0, a1, a2, a3, a4, a5, a6, a7, a8, a9⟩ os ov n j).beat, .int .i64 (againF ⟨p0, p1, p2, p3, p4, p5, p6, p7⟩ ⟨a0, a1, a2, a3, a4, a5, a6, a7, a8, a9⟩ os ov n j).os, .int .i64 (againF ⟨p0, p1, p2, p3, p4, p5, p6, p7⟩ ⟨a0, a1, a2, a3, a4, a5, a6, a7, a8, a9⟩ os ov n j).ov]) ∧ Ext w w' := by
  by_cases hm : moreB ⟨p0, p1, p2, p3, p4, p5, p6, p7⟩ a1 = true
  · have H := Lib.hid (show againF ⟨p0, p1, p2, p3, p4, p5, p6, p7⟩ ⟨a0, a1, a2, a3, a4, a5, a6, a7, a8, a9⟩ os ov n j = ⟨a0, a1, 1, plusF n (waitF ⟨p0, p1, p2, p3, p4, p5, p6, p7⟩ a1 j), 0, 0, 0, 0, 0, 0⟩ from by unfold againF; simp only; rw [if_pos hm])
    go_enter Try.func33, Try.ntmps33
    go_wp2_with (first | (go_at_call 48; refine (more_calls _ _ _ _ _ _ _ _ _ _).mono ?_; rintro e w1 ⟨rfl, hb⟩; obtain ⟨r, d, rfl⟩ := ext_form hb; clear hb) | (go_at_call 30; refine (bare_calls _ _ _ _ _ _ _ _ _ _ _ _).mono ?_; rintro e w1 ⟨rfl, hb⟩; obtain ⟨r, d, rfl⟩ := ext_form hb; clear hb; simp only [bareF]) | (go_at_call 24; refine (wait_calls _ _ _ _ _ _ _ _ _ _ _ (by assumption)).mono ?_; rintro e w1 ⟨rfl, hb⟩; obtain ⟨r, d, rfl⟩ := ext_form hb; clear hb) | (go_at_call 23; refine (plus_calls _ _ _).mono ?_; rintro e w2 ⟨rfl, rfl⟩))
    rw [H.out]
    refine bodyPost_ret (v := .agg #[.int .i64 a0, .int .i64 a1, .int .u8 1, .int .i64 (plusF n (waitF ⟨p0, p1, p2, p3, p4, p5, p6, p7⟩ a1 j)), .int .i64 0, .int .i64 0, .int .i64 0, .int .i64 0, .int .i64 0, .int .i64 0]) (by simp [results, Try.results33, go_sem]) rfl ⟨rfl, ?_⟩
    repeat (first | exact ext_refl _ | assumption | refine ext_more' ?_ _ _ | refine ext_drew ?_ | refine ext_drewN ?_ _ | refine ext_alloc ?_ _)
  · replace hm : moreB ⟨p0, p1, p2, p3, p4, p5, p6, p7⟩ a1 = false := by simpa using hm
    have H := Lib.hid (show againF ⟨p0, p1, p2, p3, p4, p5, p6, p7⟩ ⟨a0, a1, a2, a3, a4, a5, a6, a7, a8, a9⟩ os ov n j = overF ⟨a0, a1, a2, a3, a4, a5, a6, a7, a8, a9⟩ os ov from by unfold againF; simp only; rw [if_neg (by simp [hm])])
    go_enter Try.func33, Try.ntmps33
    go_wp2_with (first | (go_at_call 48; refine (more_calls _ _ _ _ _ _ _ _ _ _).mono ?_; rintro e w1 ⟨rfl, hb⟩; obtain ⟨r, d, rfl⟩ := ext_form hb; clear hb) | (go_at_call 32; refine (over_calls _ _ _ _ _ _ _ _ _ _ _ _ _).mono ?_; rintro e w1 ⟨rfl, hb⟩; obtain ⟨r, d, rfl⟩ := ext_form hb; clear hb; simp only [overF]))
    rw [H.out]
    refine bodyPost_ret (v := .agg #[.int .i64 (overF ⟨a0, a1, a2, a3, a4, a5, a6, a7, a8, a9⟩ os ov).put, .int .i64 (overF ⟨a0, a1, a2, a3, a4, a5, a6, a7, a8, a9⟩ os ov).tries, .int .u8 (overF ⟨a0, a1, a2, a3, a4, a5, a6, a7, a8, a9⟩ os ov).state, .int .i64 (overF ⟨a0, a1, a2, a3, a4, a5, a6, a7, a8, a9⟩ os ov).ready, .int .i64 (overF ⟨a0, a1, a2, a3, a4, a5, a6, a7, a8, a9⟩ os ov).since, .int .i64 (overF ⟨a0, a1, a2, a3, a4, a5, a6, a7, a8, a9⟩ os ov).worker, .int .i64 (overF ⟨a0, a1, a2, a3, a4, a5, a6, a7, a8, a9⟩ os ov).tried, .int .i64 (overF ⟨a0, a1, a2, a3, a4, a5, a6, a7, a8, a9⟩ os ov).beat, .int .i64 (overF ⟨a0, a1, a2, a3, a4, a5, a6, a7, a8, a9⟩ os ov).os, .int .i64 (overF ⟨a0, a1, a2, a3, a4, a5, a6, a7, a8, a9⟩ os ov).ov]) (by simp [results, Try.results33, go_sem, overF]) rfl ⟨rfl, ?_⟩
    repeat (first | exact ext_refl _ | assumption | refine ext_more' ?_ _ _ | refine ext_drew ?_ | refine ext_drewN ?_ _ | refine ext_alloc ?_ _)
end Go.Proofs.Ytnfmgojloahfkaa

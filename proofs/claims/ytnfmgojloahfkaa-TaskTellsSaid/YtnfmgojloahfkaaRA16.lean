/- The document's functions of layer 16: may, over, again, Times. -/
import Derived.Test.YtnfmgojloahfkaaR16
namespace Go.Proofs.Ytnfmgojloahfkaa
open Go.RowKit
set_option linter.unusedVariables false
set_option linter.unusedSimpArgs false

set_option maxRecDepth 100000 in
set_option maxHeartbeats 4000000 in
theorem rmay_calls (p0 p1 p2 p3 p4 p5 p6 p7 a0 a1 a2 a3 a4 a5 a6 a7 a8 a9 n : Int) (w : World) (h0 : 0 ≤ a2) (h1 : a2 ≤ 255) :
    Calls Try.prog 52 #[.agg #[.int .i64 p0, .int .i64 p1, .int .i64 p2, .int .i64 p3, .int .i64 p4, .int .i64 p5, .int .i64 p6, .int .i64 p7], .agg #[.int .i64 a0, .int .i64 a1, .int .u8 a2, .int .i64 a3, .int .i64 a4, .int .i64 a5, .int .i64 a6, .int .i64 a7, .int .i64 a8, .int .i64 a9], .int .i64 n] w fun e w' => e = .returned (.int .i64 (mayF ⟨p0, p1, p2, p3, p4, p5, p6, p7⟩ ⟨a0, a1, a2, a3, a4, a5, a6, a7, a8, a9⟩ n)) ∧ Ext w w' := by
  by_cases hr : rightT ⟨p0, p1, p2, p3, p4, p5, p6, p7⟩ ⟨a0, a1, a2, a3, a4, a5, a6, a7, a8, a9⟩ = true
  · have H := Lib.hid (show mayF ⟨p0, p1, p2, p3, p4, p5, p6, p7⟩ ⟨a0, a1, a2, a3, a4, a5, a6, a7, a8, a9⟩ n = if n < mx (mx (mx a0 a4) a6) a7 ∨ 1099511627776 < n then 2 else 0 from by unfold mayF; rw [if_pos hr])
    have hp : 0 ≤ a0 := by
      simp only [rightT, tm, Bool.and_eq_true, decide_eq_true_eq] at hr; exact hr.1.1.1.1.1.2.1
    go_enter Try.func52, Try.ntmps52
    go_wp2_with (first | (go_at_call 17; refine (rtright_calls _ _ _ _ _ _ _ _ _ _ _ _ _ _ _ _ _ _ _ (by assumption) (by assumption)).mono ?_; rw [hr]; rintro e w1 ⟨rfl, hb⟩; obtain ⟨r, d, rfl⟩ := ext_form hb; clear hb) | (go_at_call 46; refine (rwithin16_calls _ _ _).mono ?_; rintro e w2 ⟨rfl, rfl⟩))
    all_goals (go_ret; refine ⟨?_, by repeat (first | exact ext_refl _ | assumption | refine ext_more' ?_ _ _ | refine ext_drew ?_ | refine ext_drewN ?_ _ | refine ext_alloc ?_ _)⟩)
    all_goals (rw [H.out]; refine ret_int ?_; clear H hr; unfold mx)
    all_goals (try simp only [beq_iff_eq, beq_eq_false_iff_ne, bne_iff_ne, ne_eq, Bool.not_eq_true, Bool.not_eq_false', Bool.not_eq_true', Bool.and_eq_true, Bool.and_eq_false_imp, decide_eq_true_eq, decide_eq_false_iff_not] at *)
    all_goals (first | (split <;> first | rfl | omega) | ((repeat' split) <;> first | rfl | omega))
  · replace hr : rightT ⟨p0, p1, p2, p3, p4, p5, p6, p7⟩ ⟨a0, a1, a2, a3, a4, a5, a6, a7, a8, a9⟩ = false := by simpa using hr
    have H := Lib.hid (show mayF ⟨p0, p1, p2, p3, p4, p5, p6, p7⟩ ⟨a0, a1, a2, a3, a4, a5, a6, a7, a8, a9⟩ n = 112 from by unfold mayF; rw [if_neg (by simp [hr])])
    go_enter Try.func52, Try.ntmps52
    go_wp2_with (first | (go_at_call 17; refine (rtright_calls _ _ _ _ _ _ _ _ _ _ _ _ _ _ _ _ _ _ _ (by assumption) (by assumption)).mono ?_; rw [hr]; rintro e w1 ⟨rfl, hb⟩; obtain ⟨r, d, rfl⟩ := ext_form hb; clear hb) | (go_at_call 46; refine (rwithin16_calls _ _ _).mono ?_; rintro e w2 ⟨rfl, rfl⟩))
    rw [H.out]
    go_ret
    exact ⟨rfl, by repeat (first | exact ext_refl _ | assumption | refine ext_more' ?_ _ _ | refine ext_drew ?_ | refine ext_drewN ?_ _ | refine ext_alloc ?_ _)⟩

set_option maxRecDepth 100000 in
set_option maxHeartbeats 4000000 in
theorem rover_calls (a0 a1 a2 a3 a4 a5 a6 a7 a8 a9 os ov : Int) (w : World)  :
    Calls Try.prog 53 #[.agg #[.int .i64 a0, .int .i64 a1, .int .u8 a2, .int .i64 a3, .int .i64 a4, .int .i64 a5, .int .i64 a6, .int .i64 a7, .int .i64 a8, .int .i64 a9], .agg #[.int .i64 os, .int .i64 ov]] w fun e w' => e = .returned (.agg #[.int .i64 (overF ⟨a0, a1, a2, a3, a4, a5, a6, a7, a8, a9⟩ os ov).put, .int .i64 (overF ⟨a0, a1, a2, a3, a4, a5, a6, a7, a8, a9⟩ os ov).tries, .int .u8 (overF ⟨a0, a1, a2, a3, a4, a5, a6, a7, a8, a9⟩ os ov).state, .int .i64 (overF ⟨a0, a1, a2, a3, a4, a5, a6, a7, a8, a9⟩ os ov).ready, .int .i64 (overF ⟨a0, a1, a2, a3, a4, a5, a6, a7, a8, a9⟩ os ov).since, .int .i64 (overF ⟨a0, a1, a2, a3, a4, a5, a6, a7, a8, a9⟩ os ov).worker, .int .i64 (overF ⟨a0, a1, a2, a3, a4, a5, a6, a7, a8, a9⟩ os ov).tried, .int .i64 (overF ⟨a0, a1, a2, a3, a4, a5, a6, a7, a8, a9⟩ os ov).beat, .int .i64 (overF ⟨a0, a1, a2, a3, a4, a5, a6, a7, a8, a9⟩ os ov).os, .int .i64 (overF ⟨a0, a1, a2, a3, a4, a5, a6, a7, a8, a9⟩ os ov).ov]) ∧ Ext w w' := by
  go_enter Try.func53, Try.ntmps53
  go_wp2
  refine bodyPost_ret (by simp [results, Try.results53, go_sem]; rfl) rfl ?_; refine ⟨?_, by repeat (first | exact ext_refl _ | assumption | refine ext_more' ?_ _ _ | refine ext_drew ?_ | refine ext_drewN ?_ _ | refine ext_alloc ?_ _)⟩
  rfl

set_option maxRecDepth 100000 in
set_option maxHeartbeats 4000000 in
theorem ragain_calls (p0 p1 p2 p3 p4 p5 p6 p7 a0 a1 a2 a3 a4 a5 a6 a7 a8 a9 os ov n j : Int) (w : World) (h1 : a1 ≤ 9223372036854775807) :
    Calls Try.prog 54 #[.agg #[.int .i64 p0, .int .i64 p1, .int .i64 p2, .int .i64 p3, .int .i64 p4, .int .i64 p5, .int .i64 p6, .int .i64 p7], .agg #[.int .i64 a0, .int .i64 a1, .int .u8 a2, .int .i64 a3, .int .i64 a4, .int .i64 a5, .int .i64 a6, .int .i64 a7, .int .i64 a8, .int .i64 a9], .agg #[.int .i64 os, .int .i64 ov], .int .i64 n, .int .i64 j] w fun e w' => e = .returned (.agg #[.int .i64 (againF ⟨p0, p1, p2, p3, p4, p5, p6, p7⟩ ⟨a0, a1, a2, a3, a4, a5, a6, a7, a8, a9⟩ os ov n j).put, .int .i64 (againF ⟨p0, p1, p2, p3, p4, p5, p6, p7⟩ ⟨a0, a1, a2, a3, a4, a5, a6, a7, a8, a9⟩ os ov n j).tries, .int .u8 (againF ⟨p0, p1, p2, p3, p4, p5, p6, p7⟩ ⟨a0, a1, a2, a3, a4, a5, a6, a7, a8, a9⟩ os ov n j).state, .int .i64 (againF ⟨p0, p1, p2, p3, p4, p5, p6, p7⟩ ⟨a0, a1, a2, a3, a4, a5, a6, a7, a8, a9⟩ os ov n j).ready, .int .i64 (againF ⟨p0, p1, p2, p3, p4, p5, p6, p7⟩ ⟨a0, a1, a2, a3, a4, a5, a6, a7, a8, a9⟩ os ov n j).since, .int .i64 (againF ⟨p0, p1, p2, p3, p4, p5, p6, p7⟩ ⟨a0, a1, a2, a3, a4, a5, a6, a7, a8, a9⟩ os ov n j).worker, .int .i64 (againF ⟨p0, p1, p2, p3, p4, p5, p6, p7⟩ ⟨a0, a1, a2, a3, a4, a5, a6, a7, a8, a9⟩ os ov n j).tried, .int .i64 (againF ⟨p0, p1, p2, p3, p4, p5, p6, p7⟩ ⟨a0, a1, a2, a3, a4, a5, a6, a7, a8, a9⟩ os ov n j).beat, .int .i64 (againF ⟨p0, p1, p2, p3, p4, p5, p6, p7⟩ ⟨a0, a1, a2, a3, a4, a5, a6, a7, a8, a9⟩ os ov n j).os, .int .i64 (againF ⟨p0, p1, p2, p3, p4, p5, p6, p7⟩ ⟨a0, a1, a2, a3, a4, a5, a6, a7, a8, a9⟩ os ov n j).ov]) ∧ Ext w w' := by
  by_cases hm : moreB ⟨p0, p1, p2, p3, p4, p5, p6, p7⟩ a1 = true
  · have H := Lib.hid (show againF ⟨p0, p1, p2, p3, p4, p5, p6, p7⟩ ⟨a0, a1, a2, a3, a4, a5, a6, a7, a8, a9⟩ os ov n j = ⟨a0, a1, 1, plusF n (waitF ⟨p0, p1, p2, p3, p4, p5, p6, p7⟩ a1 j), 0, 0, 0, 0, 0, 0⟩ from by unfold againF; simp only; rw [if_pos hm])
    go_enter Try.func54, Try.ntmps54
    go_wp2_with (go_at_call 59; refine (rmore_calls _ _ _ _ _ _ _ _ _ _).mono ?_; rintro e w1 ⟨rfl, hb⟩; obtain ⟨r, d, rfl⟩ := ext_form hb; clear hb)
    obtain ⟨W0, hW0, hx0, hP, hT, hO⟩ := box3e w #[.int .i64 p0, .int .i64 p1, .int .i64 p2, .int .i64 p3, .int .i64 p4, .int .i64 p5, .int .i64 p6, .int .i64 p7] 23 #[.int .i64 a0, .int .i64 a1, .int .u8 a2, .int .i64 a3, .int .i64 a4, .int .i64 a5, .int .i64 a6, .int .i64 a7, .int .i64 a8, .int .i64 a9] 30 #[.int .i64 os, .int .i64 ov] 28
    have hz : w.heap.size + 1 + 1 + 1 = W0.heap.size := by rw [hW0]; simp
    rw [← hW0]
    clear hW0
    try rw [hz]
    clear hz
    go_region_held3 (fun w' => Ext W0 w') (repeat (first | exact ext_refl _ | assumption | refine ext_more' ?_ _ _ | refine ext_drew ?_ | refine ext_drewN ?_ _ | refine ext_alloc ?_ _)) (first | (go_at_call 61; refine (rwait_calls _ _ _ _ _ _ _ _ _ _ _ (by omega)).mono ?_; rintro e w1 ⟨rfl, hb⟩; obtain ⟨r, d, rfl⟩ := ext_form hb; clear hb) | (go_at_call 60; refine (rplus_calls _ _ _).mono ?_; rintro e w2 ⟨rfl, rfl⟩))
    all_goals go_wp2
    all_goals rw [H.out]
    all_goals (refine bodyPost_ret (by simp [results, Try.results54, go_sem]; rfl) rfl ?_; exact ⟨rfl, by repeat (first | exact ext_refl _ | assumption | refine ext_more' ?_ _ _ | refine ext_drew ?_ | refine ext_drewN ?_ _ | refine ext_alloc ?_ _)⟩)
  · replace hm : moreB ⟨p0, p1, p2, p3, p4, p5, p6, p7⟩ a1 = false := by simpa using hm
    have H := Lib.hid (show againF ⟨p0, p1, p2, p3, p4, p5, p6, p7⟩ ⟨a0, a1, a2, a3, a4, a5, a6, a7, a8, a9⟩ os ov n j = overF ⟨a0, a1, a2, a3, a4, a5, a6, a7, a8, a9⟩ os ov from by unfold againF; simp only; rw [if_neg (by simp [hm])])
    go_enter Try.func54, Try.ntmps54
    go_wp2_with (first | (go_at_call 59; refine (rmore_calls _ _ _ _ _ _ _ _ _ _).mono ?_; rintro e w1 ⟨rfl, hb⟩; obtain ⟨r, d, rfl⟩ := ext_form hb; clear hb) | (go_at_call 53; refine (rover_calls _ _ _ _ _ _ _ _ _ _ _ _ _).mono ?_; rintro e w1 ⟨rfl, hb⟩; obtain ⟨r, d, rfl⟩ := ext_form hb; clear hb))
    rw [H.out]
    all_goals (refine bodyPost_ret (by simp [results, Try.results54, go_sem]; rfl) rfl ?_; exact ⟨rfl, by repeat (first | exact ext_refl _ | assumption | refine ext_more' ?_ _ _ | refine ext_drew ?_ | refine ext_drewN ?_ _ | refine ext_alloc ?_ _)⟩)

set_option maxRecDepth 100000 in
set_option maxHeartbeats 4000000 in
theorem rtimes_calls (a0 a1 a2 a3 a4 a5 a6 a7 a8 a9 : Int) (w : World) (h0 : 0 ≤ a2) (h1 : a2 ≤ 255) :
    Calls Try.prog 19 #[.agg #[.int .i64 a0, .int .i64 a1, .int .u8 a2, .int .i64 a3, .int .i64 a4, .int .i64 a5, .int .i64 a6, .int .i64 a7, .int .i64 a8, .int .i64 a9]] w fun e w' => e = .returned (.agg #[.int .i64 (timesF ⟨a0, a1, a2, a3, a4, a5, a6, a7, a8, a9⟩).put, .int .i64 (timesF ⟨a0, a1, a2, a3, a4, a5, a6, a7, a8, a9⟩).since, .int .i64 (timesF ⟨a0, a1, a2, a3, a4, a5, a6, a7, a8, a9⟩).tried, .int .i64 (timesF ⟨a0, a1, a2, a3, a4, a5, a6, a7, a8, a9⟩).beat]) ∧ Ext w w' := by
  go_enter Try.func19, Try.ntmps19
  go_wp2
  all_goals try (go_region; go_wp2)
  all_goals (refine bodyPost_ret (by simp [results, Try.results19, go_sem]; rfl) rfl ?_; refine ⟨?_, by repeat (first | exact ext_refl _ | assumption | refine ext_more' ?_ _ _ | refine ext_drew ?_ | refine ext_drewN ?_ _ | refine ext_alloc ?_ _)⟩)
  all_goals (try simp only [bne_eq_false_iff_eq, beq_iff_eq, beq_eq_false_iff_ne, bne_iff_ne, ne_eq, Bool.not_eq_true, decide_eq_true_eq, decide_eq_false_iff_not] at *)
  all_goals (simp [timesF, *]; done)
end Go.Proofs.Ytnfmgojloahfkaa

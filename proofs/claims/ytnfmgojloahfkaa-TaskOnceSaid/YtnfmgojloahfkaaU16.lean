/- What the laws of layer 16 do, by the program. -/
import Derived.Test.YtnfmgojloahfkaaN16
import Derived.Test.YtnfmgojloahfkaaSU16
namespace Go.Proofs.Ytnfmgojloahfkaa
open Go.RowKit
set_option linter.unusedVariables false
set_option linter.unusedSimpArgs false

set_option maxRecDepth 100000 in
set_option maxHeartbeats 4000000 in
theorem do16_calls (p0 p1 p2 p3 p4 p5 p6 p7 a0 a1 a2 a3 a4 a5 a6 a7 a8 a9 o0 o1 o2 o3 o4 o5 o6 n : Int) (w : World) (h0 : 0 ≤ a2) (h1 : a2 ≤ 255) :
    Calls Try.prog 14 #[.agg #[.int .i64 p0, .int .i64 p1, .int .i64 p2, .int .i64 p3, .int .i64 p4, .int .i64 p5, .int .i64 p6, .int .i64 p7], .agg #[.int .i64 a0, .int .i64 a1, .int .u8 a2, .int .i64 a3, .int .i64 a4, .int .i64 a5, .int .i64 a6, .int .i64 a7, .int .i64 a8, .int .i64 a9], .agg #[.int .i64 o0, .int .i64 o1, .int .i64 o2, .int .i64 o3, .int .i64 o4, .int .i64 o5, .int .i64 o6], .int .i64 n] w fun e w' => e = .returned (.tuple #[.agg #[.int .i64 ((doF ⟨p0, p1, p2, p3, p4, p5, p6, p7⟩ ⟨a0, a1, a2, a3, a4, a5, a6, a7, a8, a9⟩ o0 o1 o2 o3 o4 o5 o6 n).1).put, .int .i64 ((doF ⟨p0, p1, p2, p3, p4, p5, p6, p7⟩ ⟨a0, a1, a2, a3, a4, a5, a6, a7, a8, a9⟩ o0 o1 o2 o3 o4 o5 o6 n).1).tries, .int .u8 ((doF ⟨p0, p1, p2, p3, p4, p5, p6, p7⟩ ⟨a0, a1, a2, a3, a4, a5, a6, a7, a8, a9⟩ o0 o1 o2 o3 o4 o5 o6 n).1).state, .int .i64 ((doF ⟨p0, p1, p2, p3, p4, p5, p6, p7⟩ ⟨a0, a1, a2, a3, a4, a5, a6, a7, a8, a9⟩ o0 o1 o2 o3 o4 o5 o6 n).1).ready, .int .i64 ((doF ⟨p0, p1, p2, p3, p4, p5, p6, p7⟩ ⟨a0, a1, a2, a3, a4, a5, a6, a7, a8, a9⟩ o0 o1 o2 o3 o4 o5 o6 n).1).since, .int .i64 ((doF ⟨p0, p1, p2, p3, p4, p5, p6, p7⟩ ⟨a0, a1, a2, a3, a4, a5, a6, a7, a8, a9⟩ o0 o1 o2 o3 o4 o5 o6 n).1).worker, .int .i64 ((doF ⟨p0, p1, p2, p3, p4, p5, p6, p7⟩ ⟨a0, a1, a2, a3, a4, a5, a6, a7, a8, a9⟩ o0 o1 o2 o3 o4 o5 o6 n).1).tried, .int .i64 ((doF ⟨p0, p1, p2, p3, p4, p5, p6, p7⟩ ⟨a0, a1, a2, a3, a4, a5, a6, a7, a8, a9⟩ o0 o1 o2 o3 o4 o5 o6 n).1).beat, .int .i64 ((doF ⟨p0, p1, p2, p3, p4, p5, p6, p7⟩ ⟨a0, a1, a2, a3, a4, a5, a6, a7, a8, a9⟩ o0 o1 o2 o3 o4 o5 o6 n).1).os, .int .i64 ((doF ⟨p0, p1, p2, p3, p4, p5, p6, p7⟩ ⟨a0, a1, a2, a3, a4, a5, a6, a7, a8, a9⟩ o0 o1 o2 o3 o4 o5 o6 n).1).ov], .int .i64 (doF ⟨p0, p1, p2, p3, p4, p5, p6, p7⟩ ⟨a0, a1, a2, a3, a4, a5, a6, a7, a8, a9⟩ o0 o1 o2 o3 o4 o5 o6 n).2]) ∧ Ext w w' := by
  by_cases c0 : o0 = 0 ∨ o0 = 1 ∨ o0 = 2 ∨ o0 = 3 ∨ o0 = 4
  · rcases c0 with rfl | rfl | rfl | rfl | rfl
    · go_enter Try.func14, Try.ntmps14
      go_wp2_with (go_at_call 11; refine (ttake_calls _ _ _ _ _ _ _ _ _ _ _ _ _ _ _ _ _ _ _ _ _ (by assumption) (by assumption)).mono ?_; rintro e w1 ⟨rfl, hb⟩; obtain ⟨r, d, rfl⟩ := ext_form hb; clear hb)
      refine bodyPost_ret (by simp [results, Try.results14, go_sem]; rfl) rfl ?_
      exact ⟨rfl, by repeat (first | exact ext_refl _ | assumption | refine ext_more' ?_ _ _ | refine ext_drew ?_ | refine ext_drewN ?_ _ | refine ext_alloc ?_ _)⟩
    · go_enter Try.func14, Try.ntmps14
      go_wp2_with (go_at_call 26; refine (tbeat_calls _ _ _ _ _ _ _ _ _ _ _ _ _ _ _ _ _ _ _ _ _ (by assumption) (by assumption)).mono ?_; rintro e w1 ⟨rfl, hb⟩; obtain ⟨r, d, rfl⟩ := ext_form hb; clear hb)
      refine bodyPost_ret (by simp [results, Try.results14, go_sem]; rfl) rfl ?_
      exact ⟨rfl, by repeat (first | exact ext_refl _ | assumption | refine ext_more' ?_ _ _ | refine ext_drew ?_ | refine ext_drewN ?_ _ | refine ext_alloc ?_ _)⟩
    · go_enter Try.func14, Try.ntmps14
      go_wp2_with (go_at_call 12; refine (ttell_calls _ _ _ _ _ _ _ _ _ _ _ _ _ _ _ _ _ _ _ _ _ _ _ _ (by assumption) (by assumption)).mono ?_; rintro e w1 ⟨rfl, hb⟩; obtain ⟨r, d, rfl⟩ := ext_form hb; clear hb)
      refine bodyPost_ret (by simp [results, Try.results14, go_sem]; rfl) rfl ?_
      exact ⟨rfl, by repeat (first | exact ext_refl _ | assumption | refine ext_more' ?_ _ _ | refine ext_drew ?_ | refine ext_drewN ?_ _ | refine ext_alloc ?_ _)⟩
    · go_enter Try.func14, Try.ntmps14
      go_wp2_with (go_at_call 37; refine (tlost_calls _ _ _ _ _ _ _ _ _ _ _ _ _ _ _ _ _ _ _ _ (by assumption) (by assumption)).mono ?_; rintro e w1 ⟨rfl, hb⟩; obtain ⟨r, d, rfl⟩ := ext_form hb; clear hb)
      refine bodyPost_ret (by simp [results, Try.results14, go_sem]; rfl) rfl ?_
      exact ⟨rfl, by repeat (first | exact ext_refl _ | assumption | refine ext_more' ?_ _ _ | refine ext_drew ?_ | refine ext_drewN ?_ _ | refine ext_alloc ?_ _)⟩
    · go_enter Try.func14, Try.ntmps14
      go_wp2_with (go_at_call 38; refine (tstop_calls _ _ _ _ _ _ _ _ _ _ _ _ _ _ _ _ _ _ _ (by assumption) (by assumption)).mono ?_; rintro e w1 ⟨rfl, hb⟩; obtain ⟨r, d, rfl⟩ := ext_form hb; clear hb)
      refine bodyPost_ret (by simp [results, Try.results14, go_sem]; rfl) rfl ?_
      exact ⟨rfl, by repeat (first | exact ext_refl _ | assumption | refine ext_more' ?_ _ _ | refine ext_drew ?_ | refine ext_drewN ?_ _ | refine ext_alloc ?_ _)⟩
  · have b0 : (o0 == 0) = false := by simp; omega
    have b1 : (o0 == 1) = false := by simp; omega
    have b2 : (o0 == 2) = false := by simp; omega
    have b3 : (o0 == 3) = false := by simp; omega
    have b4 : (o0 == 4) = false := by simp; omega
    rw [doF_else b0 b1 b2 b3 b4]
    clear c0
    go_enter Try.func14, Try.ntmps14
    go_wp2_with (go_at_call 13; refine (ttick_calls _ _ _ _ _ _ _ _ _ _ _ _ _ _ _ _ _ _ _ _ (by assumption) (by assumption)).mono ?_; rintro e w1 ⟨rfl, hb⟩; obtain ⟨r, d, rfl⟩ := ext_form hb; clear hb)
    refine bodyPost_ret (by simp [results, Try.results14, go_sem]; rfl) rfl ?_
    exact ⟨rfl, by repeat (first | exact ext_refl _ | assumption | refine ext_more' ?_ _ _ | refine ext_drew ?_ | refine ext_drewN ?_ _ | refine ext_alloc ?_ _)⟩
end Go.Proofs.Ytnfmgojloahfkaa

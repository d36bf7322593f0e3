/- What task's functions do: Take, way by way. -/
import Derived.Test.YtnfmgojloahfkaaF16
namespace Go.Proofs.Ytnfmgojloahfkaa
open Go.RowKit
set_option linter.unusedVariables false
set_option linter.unusedSimpArgs false

set_option maxRecDepth 100000 in
set_option maxHeartbeats 4000000 in
theorem take_bad (p0 p1 p2 p3 p4 p5 p6 p7 a0 a1 a2 a3 a4 a5 a6 a7 a8 a9 k n : Int) (w : World) (h0 : 0 ≤ a2) (h1 : a2 ≤ 255) (hr : rightT ⟨p0, p1, p2, p3, p4, p5, p6, p7⟩ ⟨a0, a1, a2, a3, a4, a5, a6, a7, a8, a9⟩ = false) :
    Calls Try.prog 11 #[.agg #[.int .i64 p0, .int .i64 p1, .int .i64 p2, .int .i64 p3, .int .i64 p4, .int .i64 p5, .int .i64 p6, .int .i64 p7], .agg #[.int .i64 a0, .int .i64 a1, .int .u8 a2, .int .i64 a3, .int .i64 a4, .int .i64 a5, .int .i64 a6, .int .i64 a7, .int .i64 a8, .int .i64 a9], .int .i64 k, .int .i64 n] w fun e w' => e = .returned (.tuple #[.agg #[.int .i64 a0, .int .i64 a1, .int .u8 a2, .int .i64 a3, .int .i64 a4, .int .i64 a5, .int .i64 a6, .int .i64 a7, .int .i64 a8, .int .i64 a9], .int .i64 112]) ∧ Ext w w' := by
  go_enter Try.func11, Try.ntmps11
  go_wp2_with (first | (go_at_call 16; refine (tright_calls _ _ _ _ _ _ _ _ _ _ _ _ _ _ _ _ _ _ _ h0 h1).mono ?_; rintro e w1 ⟨rfl, hb⟩; obtain ⟨r, d, rfl⟩ := ext_form hb; clear hb) | go_in)
  refine bodyPost_ret (by simp [results, Try.results28, go_sem]; rfl) rfl ?_
  go_wp2
  refine bodyPost_ret (by simp [results, Try.results11, go_sem]; rfl) rfl ?_
  exact ⟨rfl, by repeat (first | exact ext_refl _ | assumption | refine ext_more' ?_ _ _ | refine ext_drew ?_ | refine ext_drewN ?_ _ | refine ext_alloc ?_ _)⟩

set_option maxRecDepth 100000 in
set_option maxHeartbeats 4000000 in
theorem take_late (p0 p1 p2 p3 p4 p5 p6 p7 a0 a1 a2 a3 a4 a5 a6 a7 a8 a9 k n : Int) (w : World) (h0 : 0 ≤ a2) (h1 : a2 ≤ 255) (hr : rightT ⟨p0, p1, p2, p3, p4, p5, p6, p7⟩ ⟨a0, a1, a2, a3, a4, a5, a6, a7, a8, a9⟩ = true) (hn : n < mx (mx (mx a0 a4) a6) a7) :
    Calls Try.prog 11 #[.agg #[.int .i64 p0, .int .i64 p1, .int .i64 p2, .int .i64 p3, .int .i64 p4, .int .i64 p5, .int .i64 p6, .int .i64 p7], .agg #[.int .i64 a0, .int .i64 a1, .int .u8 a2, .int .i64 a3, .int .i64 a4, .int .i64 a5, .int .i64 a6, .int .i64 a7, .int .i64 a8, .int .i64 a9], .int .i64 k, .int .i64 n] w fun e w' => e = .returned (.tuple #[.agg #[.int .i64 a0, .int .i64 a1, .int .u8 a2, .int .i64 a3, .int .i64 a4, .int .i64 a5, .int .i64 a6, .int .i64 a7, .int .i64 a8, .int .i64 a9], .int .i64 2]) ∧ Ext w w' := by
  go_enter Try.func11, Try.ntmps11
  go_wp2_with (first | (go_at_call 16; refine (tright_calls _ _ _ _ _ _ _ _ _ _ _ _ _ _ _ _ _ _ _ h0 h1).mono ?_; rintro e w1 ⟨rfl, hb⟩; obtain ⟨r, d, rfl⟩ := ext_form hb; clear hb) | go_in)
  refine bodyPost_ret (by simp [results, Try.results28, go_sem]; rfl) rfl ?_
  go_wp2
  refine bodyPost_ret (by simp [results, Try.results11, go_sem]; rfl) rfl ?_
  exact ⟨rfl, by repeat (first | exact ext_refl _ | assumption | refine ext_more' ?_ _ _ | refine ext_drew ?_ | refine ext_drewN ?_ _ | refine ext_alloc ?_ _)⟩

set_option maxRecDepth 100000 in
set_option maxHeartbeats 4000000 in
theorem take_end (p0 p1 p2 p3 p4 p5 p6 p7 a0 a1 a2 a3 a4 a5 a6 a7 a8 a9 k n : Int) (w : World) (h0 : 0 ≤ a2) (h1 : a2 ≤ 255) (hr : rightT ⟨p0, p1, p2, p3, p4, p5, p6, p7⟩ ⟨a0, a1, a2, a3, a4, a5, a6, a7, a8, a9⟩ = true) (hn : mx (mx (mx a0 a4) a6) a7 ≤ n) (hn' : 1099511627776 < n) :
    Calls Try.prog 11 #[.agg #[.int .i64 p0, .int .i64 p1, .int .i64 p2, .int .i64 p3, .int .i64 p4, .int .i64 p5, .int .i64 p6, .int .i64 p7], .agg #[.int .i64 a0, .int .i64 a1, .int .u8 a2, .int .i64 a3, .int .i64 a4, .int .i64 a5, .int .i64 a6, .int .i64 a7, .int .i64 a8, .int .i64 a9], .int .i64 k, .int .i64 n] w fun e w' => e = .returned (.tuple #[.agg #[.int .i64 a0, .int .i64 a1, .int .u8 a2, .int .i64 a3, .int .i64 a4, .int .i64 a5, .int .i64 a6, .int .i64 a7, .int .i64 a8, .int .i64 a9], .int .i64 2]) ∧ Ext w w' := by
  go_enter Try.func11, Try.ntmps11
  go_wp2_with (first | (go_at_call 16; refine (tright_calls _ _ _ _ _ _ _ _ _ _ _ _ _ _ _ _ _ _ _ h0 h1).mono ?_; rintro e w1 ⟨rfl, hb⟩; obtain ⟨r, d, rfl⟩ := ext_form hb; clear hb) | go_in)
  refine bodyPost_ret (by simp [results, Try.results28, go_sem]; rfl) rfl ?_
  go_wp2
  refine bodyPost_ret (by simp [results, Try.results11, go_sem]; rfl) rfl ?_
  exact ⟨rfl, by repeat (first | exact ext_refl _ | assumption | refine ext_more' ?_ _ _ | refine ext_drew ?_ | refine ext_drewN ?_ _ | refine ext_alloc ?_ _)⟩

set_option maxRecDepth 100000 in
set_option maxHeartbeats 4000000 in
theorem take_no (p0 p1 p2 p3 p4 p5 p6 p7 a0 a1 a2 a3 a4 a5 a6 a7 a8 a9 k n : Int) (w : World) (h0 : 0 ≤ a2) (h1 : a2 ≤ 255) (hr : rightT ⟨p0, p1, p2, p3, p4, p5, p6, p7⟩ ⟨a0, a1, a2, a3, a4, a5, a6, a7, a8, a9⟩ = true) (hn : mx (mx (mx a0 a4) a6) a7 ≤ n) (hn' : n ≤ 1099511627776) (hs : (a2 == 2) = false) (hs' : (a2 != 2) = true) :
    Calls Try.prog 11 #[.agg #[.int .i64 p0, .int .i64 p1, .int .i64 p2, .int .i64 p3, .int .i64 p4, .int .i64 p5, .int .i64 p6, .int .i64 p7], .agg #[.int .i64 a0, .int .i64 a1, .int .u8 a2, .int .i64 a3, .int .i64 a4, .int .i64 a5, .int .i64 a6, .int .i64 a7, .int .i64 a8, .int .i64 a9], .int .i64 k, .int .i64 n] w fun e w' => e = .returned (.tuple #[.agg #[.int .i64 a0, .int .i64 a1, .int .u8 a2, .int .i64 a3, .int .i64 a4, .int .i64 a5, .int .i64 a6, .int .i64 a7, .int .i64 a8, .int .i64 a9], .int .i64 70]) ∧ Ext w w' := by
  go_enter Try.func11, Try.ntmps11
  go_wp2_with (first | (go_at_call 16; refine (tright_calls _ _ _ _ _ _ _ _ _ _ _ _ _ _ _ _ _ _ _ h0 h1).mono ?_; rintro e w1 ⟨rfl, hb⟩; obtain ⟨r, d, rfl⟩ := ext_form hb; clear hb) | go_in)
  refine bodyPost_ret (by simp [results, Try.results29, go_sem]; rfl) rfl ?_
  go_wp2
  refine bodyPost_ret (by simp [results, Try.results28, go_sem]; rfl) rfl ?_
  go_wp2
  refine bodyPost_ret (by simp [results, Try.results11, go_sem]; rfl) rfl ?_
  exact ⟨rfl, by repeat (first | exact ext_refl _ | assumption | refine ext_more' ?_ _ _ | refine ext_drew ?_ | refine ext_drewN ?_ _ | refine ext_alloc ?_ _)⟩

set_option maxRecDepth 100000 in
set_option maxHeartbeats 4000000 in
theorem take_worker (p0 p1 p2 p3 p4 p5 p6 p7 a0 a1 a2 a3 a4 a5 a6 a7 a8 a9 k n : Int) (w : World) (h0 : 0 ≤ a2) (h1 : a2 ≤ 255) (hr : rightT ⟨p0, p1, p2, p3, p4, p5, p6, p7⟩ ⟨a0, a1, a2, a3, a4, a5, a6, a7, a8, a9⟩ = true) (hn : mx (mx (mx a0 a4) a6) a7 ≤ n) (hn' : n ≤ 1099511627776) (hs : a2 = 2) (hk : k < 1) :
    Calls Try.prog 11 #[.agg #[.int .i64 p0, .int .i64 p1, .int .i64 p2, .int .i64 p3, .int .i64 p4, .int .i64 p5, .int .i64 p6, .int .i64 p7], .agg #[.int .i64 a0, .int .i64 a1, .int .u8 a2, .int .i64 a3, .int .i64 a4, .int .i64 a5, .int .i64 a6, .int .i64 a7, .int .i64 a8, .int .i64 a9], .int .i64 k, .int .i64 n] w fun e w' => e = .returned (.tuple #[.agg #[.int .i64 a0, .int .i64 a1, .int .u8 a2, .int .i64 a3, .int .i64 a4, .int .i64 a5, .int .i64 a6, .int .i64 a7, .int .i64 a8, .int .i64 a9], .int .i64 110]) ∧ Ext w w' := by
  subst hs
  go_enter Try.func11, Try.ntmps11
  go_wp2_with (first | (go_at_call 16; refine (tright_calls _ _ _ _ _ _ _ _ _ _ _ _ _ _ _ _ _ _ _ h0 h1).mono ?_; rintro e w1 ⟨rfl, hb⟩; obtain ⟨r, d, rfl⟩ := ext_form hb; clear hb) | go_in)
  refine bodyPost_ret (by simp [results, Try.results29, go_sem]; rfl) rfl ?_
  go_wp2
  refine bodyPost_ret (by simp [results, Try.results28, go_sem]; rfl) rfl ?_
  go_wp2
  refine bodyPost_ret (by simp [results, Try.results11, go_sem]; rfl) rfl ?_
  exact ⟨rfl, by repeat (first | exact ext_refl _ | assumption | refine ext_more' ?_ _ _ | refine ext_drew ?_ | refine ext_drewN ?_ _ | refine ext_alloc ?_ _)⟩

set_option maxRecDepth 100000 in
set_option maxHeartbeats 4000000 in
theorem take_ok (p0 p1 p2 p3 p4 p5 p6 p7 a0 a1 a2 a3 a4 a5 a6 a7 a8 a9 k n : Int) (w : World) (h0 : 0 ≤ a2) (h1 : a2 ≤ 255) (hr : rightT ⟨p0, p1, p2, p3, p4, p5, p6, p7⟩ ⟨a0, a1, a2, a3, a4, a5, a6, a7, a8, a9⟩ = true) (hn : mx (mx (mx a0 a4) a6) a7 ≤ n) (hn' : n ≤ 1099511627776) (hs : a2 = 2) (hk : 1 ≤ k) (ht : a1 ≤ 100) (ht' : 0 ≤ a1) :
    Calls Try.prog 11 #[.agg #[.int .i64 p0, .int .i64 p1, .int .i64 p2, .int .i64 p3, .int .i64 p4, .int .i64 p5, .int .i64 p6, .int .i64 p7], .agg #[.int .i64 a0, .int .i64 a1, .int .u8 a2, .int .i64 a3, .int .i64 a4, .int .i64 a5, .int .i64 a6, .int .i64 a7, .int .i64 a8, .int .i64 a9], .int .i64 k, .int .i64 n] w fun e w' => e = .returned (.tuple #[.agg #[.int .i64 a0, .int .i64 (a1 + 1), .int .u8 3, .int .i64 0, .int .i64 0, .int .i64 k, .int .i64 n, .int .i64 n, .int .i64 0, .int .i64 0], .int .i64 0]) ∧ Ext w w' := by
  subst hs
  go_enter Try.func11, Try.ntmps11
  go_wp2_with (first | (go_at_call 16; refine (tright_calls _ _ _ _ _ _ _ _ _ _ _ _ _ _ _ _ _ _ _ h0 h1).mono ?_; rintro e w1 ⟨rfl, hb⟩; obtain ⟨r, d, rfl⟩ := ext_form hb; clear hb) | go_in)
  refine bodyPost_ret (by simp [results, Try.results30, go_sem]; rfl) rfl ?_
  go_wp2
  go_region
  go_wp2
  refine bodyPost_ret (by simp [results, Try.results29, go_sem]; rfl) rfl ?_
  go_wp2
  refine bodyPost_ret (by simp [results, Try.results28, go_sem]; rfl) rfl ?_
  go_wp2
  refine bodyPost_ret (by simp [results, Try.results11, go_sem]; rfl) rfl ?_
  exact ⟨rfl, by repeat (first | exact ext_refl _ | assumption | refine ext_more' ?_ _ _ | refine ext_drew ?_ | refine ext_drewN ?_ _ | refine ext_alloc ?_ _)⟩
end Go.Proofs.Ytnfmgojloahfkaa

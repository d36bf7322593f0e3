/- Which events are right: beginnings. -/
import Derived.Test.YthpgmefjgidkgaaE12
namespace Go.Proofs.Ythpgmefjgidkgaa
open Go.RowKit
set_option linter.unusedVariables false
set_option linter.unusedSimpArgs false

set_option maxRecDepth 100000 in
set_option maxHeartbeats 4000000 in
theorem begin_calls (k at' n p a b : Int) (s : ByteArray) (w : World) (hp0 : 0 ≤ p) (hp3 : p ≤ 3) : Calls Try.prog 28 #[.agg #[.int .u8 k, .int .i64 at', .int .i64 n, .int .i64 p, .int .i64 a, .int .i64 b, .string s]] w fun e w' => e = .returned (.bool (beginB p a b s)) ∧ Ext w w' := by
  have hp : p = 0 ∨ p = 1 ∨ p = 2 ∨ p = 3 := by omega
  rcases hp with rfl | rfl | rfl | rfl
  · go_enter Try.func28, Try.ntmps28
    go_wp2
    go_ret
    exact ⟨rfl, by repeat (first | exact ext_refl _ | assumption | refine ext_more' ?_ _ _ | refine ext_drew ?_ | refine ext_drewN ?_ _ | refine ext_alloc ?_ _)⟩
  · cases hn : nameB s
    · go_enter Try.func28, Try.ntmps28
      go_wp2_with (go_at_call 25; refine (named_calls _ _).mono ?_; rintro e w' ⟨rfl, rfl⟩)
      go_ret
      exact ⟨by simp [beginB, hn], by repeat (first | exact ext_refl _ | assumption | refine ext_more' ?_ _ _ | refine ext_drew ?_ | refine ext_drewN ?_ _ | refine ext_alloc ?_ _)⟩
    · have hc : (0 ≤ b ∧ b < 20) ∨ (b < 0) ∨ (0 ≤ b ∧ 20 ≤ b) := by omega
      rcases hc with ⟨h1, h2⟩ | h1 | ⟨h1, h2⟩
      all_goals
        go_enter Try.func28, Try.ntmps28
        go_wp2_with (go_at_call 25; refine (named_calls _ _).mono ?_; rintro e w' ⟨rfl, rfl⟩)
        all_goals
          go_ret
          exact ⟨by first | (simp [beginB, hn, h1, h2]; done) | (simp [beginB, hn]; done) | (simp [beginB, hn]; omega), by repeat (first | exact ext_refl _ | assumption | refine ext_more' ?_ _ _ | refine ext_drew ?_ | refine ext_drewN ?_ _ | refine ext_alloc ?_ _)⟩
  · by_cases h0 : s.toList = [] <;> by_cases h1 : 0 ≤ a <;> by_cases h2 : b = 0
    all_goals
      have g2 : (b == 0) = decide (b = 0) := by rw [Bool.eq_iff_iff]; simp
      go_enter Try.func28, Try.ntmps28
      go_wp2
      all_goals
        go_ret
        exact ⟨by first | (simp [beginB, noneB, h0, h1, h2]; done) | (simp [beginB, noneB, h0, h1, h2]; intros; omega), by repeat (first | exact ext_refl _ | assumption | refine ext_more' ?_ _ _ | refine ext_drew ?_ | refine ext_drewN ?_ _ | refine ext_alloc ?_ _)⟩
  · cases hn : nameB s
    · go_enter Try.func28, Try.ntmps28
      go_wp2_with (go_at_call 25; refine (named_calls _ _).mono ?_; rintro e w' ⟨rfl, rfl⟩)
      go_ret
      exact ⟨by simp [beginB, hn], by repeat (first | exact ext_refl _ | assumption | refine ext_more' ?_ _ _ | refine ext_drew ?_ | refine ext_drewN ?_ _ | refine ext_alloc ?_ _)⟩
    · go_enter Try.func28, Try.ntmps28
      go_wp2_with (go_at_call 25; refine (named_calls _ _).mono ?_; rintro e w' ⟨rfl, rfl⟩)
      go_ret
      exact ⟨by simp [beginB, hn]; rw [Bool.eq_iff_iff]; simp, by repeat (first | exact ext_refl _ | assumption | refine ext_more' ?_ _ _ | refine ext_drew ?_ | refine ext_drewN ?_ _ | refine ext_alloc ?_ _)⟩
set_option maxRecDepth 100000 in
set_option maxHeartbeats 4000000 in
theorem clo2_calls (x : Ev) (be : Nat) (w : World) (hx : ∀ i, w.cell? ⟨be, i, none⟩ = (#[.int .u8 x.k, .int .i64 x.at', .int .i64 x.n, .int .i64 x.p, .int .i64 x.a, .int .i64 x.b, .string x.s] : Array Value)[i]?) :
    Calls Try.prog 26 #[.pointer (some ⟨be, 0, none⟩)] w fun e w' => e = .returned (.bool (numB x.n && (decide (0 ≤ x.p) && (decide (x.p ≤ 3) && beginB x.p x.a x.b x.s)))) ∧ Ext w w' := by
  cases h0 : numB x.n
  · go_enter Try.func26, Try.ntmps26
    go_wp2_with (go_at_call 27; refine (numbered_calls _ _).mono ?_; rintro e w' ⟨rfl, rfl⟩)
    go_ret
    exact ⟨by simp, ext_refl _⟩
  · by_cases h1 : 0 ≤ x.p
    · by_cases h2 : x.p ≤ 3
      · go_enter Try.func26, Try.ntmps26
        go_wp2_with (first | (go_at_call 27; refine (numbered_calls _ _).mono ?_; rintro e w' ⟨rfl, rfl⟩) | (go_at_call 28; refine (begin_calls _ _ _ _ _ _ _ _ h1 h2).mono ?_; rintro e w' ⟨rfl, hb⟩))
        go_ret
        exact ⟨by simp [h1, h2], hb⟩
      · go_enter Try.func26, Try.ntmps26
        go_wp2_with (go_at_call 27; refine (numbered_calls _ _).mono ?_; rintro e w' ⟨rfl, rfl⟩)
        go_ret
        exact ⟨by simp [h1, h2]; intros; omega, ext_refl _⟩
    · go_enter Try.func26, Try.ntmps26
      go_wp2_with (go_at_call 27; refine (numbered_calls _ _).mono ?_; rintro e w' ⟨rfl, rfl⟩)
      go_ret
      exact ⟨by simp [h1]; intros; omega, ext_refl _⟩
end Go.Proofs.Ythpgmefjgidkgaa

/- The laws of layer 14: each is walked, and returns true. -/
import Derived.Test.YtnjagdhpiehlpaaC14
namespace Go.Proofs.Ytnjagdhpiehlpaa
open Go.RowKit

set_option maxHeartbeats 2000000 in
theorem awake14_calls (w : World) :
    Calls Try.prog 14 #[] w fun e w' => e = .returned (.bool true) ∧ Ext w w' := by
  have e1 : Hid (waitF ⟨9, 3, 20, 0, 0, 0, 0, 1⟩ 1 0 = 3) := Lib.hid (by decide)
  have e2 : Hid (waitF ⟨9, 3, 20, 0, 0, 0, 0, 1⟩ 2 0 = 6) := Lib.hid (by decide)
  have e3 : Hid (waitF ⟨9, 3, 20, 0, 0, 0, 0, 1⟩ 3 0 = 12) := Lib.hid (by decide)
  have e4 : Hid (waitF ⟨9, 3, 20, 0, 0, 0, 0, 1⟩ 4 0 = 20) := Lib.hid (by decide)
  have e5 : Hid (waitF ⟨9, 3, 20, 0, 0, 0, 0, 1⟩ 2 5 = 11) := Lib.hid (by decide)
  have e6 : Hid (plusF 1099511627776 1 = 1099511627776) := Lib.hid (by decide)
  have e7 : Hid (plusF (-4) 3 = 3) := Lib.hid (by decide)
  go_enter Try.func14, Try.ntmps14
  go_wp2
  obtain ⟨W0, hW, hxw, hall⟩ := box1 w #[.int .i64 9, .int .i64 3, .int .i64 20, .int .i64 0, .int .i64 0, .int .i64 0, .int .i64 0, .int .i64 1] 23
  rw [← hW]; clear hW
  have hx := ext_refl W0
  have i0 : ∀ w, (Instr.index 41 (.agg #[.int .i64 3, .int .i64 6, .int .i64 12, .int .i64 20]) (.int .i64 0)).run Try.prog w = .ok (.int .i64 3) w := fun _ => by kernel_rfl
  have i1 : ∀ w, (Instr.index 41 (.agg #[.int .i64 3, .int .i64 6, .int .i64 12, .int .i64 20]) (.int .i64 1)).run Try.prog w = .ok (.int .i64 6) w := fun _ => by kernel_rfl
  have i2 : ∀ w, (Instr.index 41 (.agg #[.int .i64 3, .int .i64 6, .int .i64 12, .int .i64 20]) (.int .i64 2)).run Try.prog w = .ok (.int .i64 12) w := fun _ => by kernel_rfl
  have i3 : ∀ w, (Instr.index 41 (.agg #[.int .i64 3, .int .i64 6, .int .i64 12, .int .i64 20]) (.int .i64 3)).run Try.prog w = .ok (.int .i64 20) w := fun _ => by kernel_rfl
  refine wp_loop_rounds 5 ?_
  rw [rounds_succ]; go_wp2_with (go_at_call 12; refine (wait_calls _ _ _ _ _ _ _ _ _ _ _ (by omega)).mono ?_; rintro e w1 ⟨rfl, hb⟩; rw [e1.out]; replace hx := ext_trans hx hb; clear hb)
  rw [rounds_succ]; go_wp2_with (go_at_call 12; refine (wait_calls _ _ _ _ _ _ _ _ _ _ _ (by omega)).mono ?_; rintro e w1 ⟨rfl, hb⟩; rw [e2.out]; replace hx := ext_trans hx hb; clear hb)
  rw [rounds_succ]; go_wp2_with (go_at_call 12; refine (wait_calls _ _ _ _ _ _ _ _ _ _ _ (by omega)).mono ?_; rintro e w1 ⟨rfl, hb⟩; rw [e3.out]; replace hx := ext_trans hx hb; clear hb)
  rw [rounds_succ]; go_wp2_with (go_at_call 12; refine (wait_calls _ _ _ _ _ _ _ _ _ _ _ (by omega)).mono ?_; rintro e w1 ⟨rfl, hb⟩; rw [e4.out]; replace hx := ext_trans hx hb; clear hb)
  rw [rounds_succ]; go_wp2_with (first | (go_at_call 12; refine (wait_calls _ _ _ _ _ _ _ _ _ _ _ (by omega)).mono ?_; rintro e w1 ⟨rfl, hb⟩; rw [e5.out]; replace hx := ext_trans hx hb; clear hb) | (go_at_call 15; refine (plus_calls _ _ _).mono ?_; rintro e w2 ⟨rfl, rfl⟩; first | rw [e6.out] | rw [e7.out]))
  go_ret
  exact ⟨rfl, ext_trans hxw hx⟩

set_option maxHeartbeats 2000000 in
theorem waits_walk (p0 p1 p2 p3 p4 p5 p6 p7 n j : Int) (w : World) (hn0 : 0 ≤ n) (hn : n < 65536) :
    Calls Try.prog 3 #[.agg #[.int .i64 p0, .int .i64 p1, .int .i64 p2, .int .i64 p3, .int .i64 p4, .int .i64 p5, .int .i64 p6, .int .i64 p7], .int .u16 n, .int .i64 j] w fun e w' => e = .returned (.bool true) ∧ Ext w w' := by
  have hw1 : IntKind.i64.wrap (1 + n % 1000 + 1) = 1 + n % 1000 + 1 := IntWalk.i64_in _ (by omega)
  by_cases hr : rightB ⟨p0, p1, p2, p3, p4, p5, p6, p7⟩ = true
  · have ⟨g1, g2, g3, g4, g5, g6, g7, g8⟩ := waits_pure ⟨p0, p1, p2, p3, p4, p5, p6, p7⟩ (1 + n % 1000) j (by omega) hr
    replace g8 := beq_iff_eq.2 g8
    replace g7 := fun x y => (bne_eq_false_iff_eq).2 (g7 x y)
    simp only at g1 g2 g3 g4 g5 g6 g7
    go_enter Try.func3, Try.ntmps3
    go_wp2
    obtain ⟨W0, hW, hxw, hall⟩ := box1 w #[.int .i64 p0, .int .i64 p1, .int .i64 p2, .int .i64 p3, .int .i64 p4, .int .i64 p5, .int .i64 p6, .int .i64 p7] 23
    rw [← hW]; clear hW
    have hx := ext_refl W0
    go_region_held3 (fun w' => Ext W0 w') (first | exact ext_drew hx | assumption | (exact ext_trans (by assumption) (by assumption)))
      (first | (go_at_call 12; refine (wait_calls _ _ _ _ _ _ _ _ _ _ _ (by omega)).mono ?_; rintro e w1 ⟨rfl, hb⟩))
    clear hx
    rename_i wr hx
    go_wp2_with (first | (go_at_call 13; refine (right_calls _ _ _ _ _ _ _ _ _).mono ?_; rintro e w1 ⟨rfl, hb⟩; replace hx := ext_trans hx hb; clear hb) | (go_at_call 14; refine (awake14_calls _).mono ?_; rintro e w1 ⟨rfl, hb⟩; replace hx := ext_trans hx hb; clear hb) | (go_at_call 15; refine (plus_calls _ _ _).mono ?_; rintro e w2 ⟨rfl, rfl⟩))
    all_goals (go_ret; exact ⟨rfl, ext_trans hxw hx⟩)
  · have g0 : Hid (∀ n j, waitF ⟨p0, p1, p2, p3, p4, p5, p6, p7⟩ n j = 0) := fun n j => by unfold waitF; rw [if_neg (by simp [hr])]
    replace hr : rightB ⟨p0, p1, p2, p3, p4, p5, p6, p7⟩ = false := by simpa using hr
    go_enter Try.func3, Try.ntmps3
    go_wp2
    obtain ⟨W0, hW, hxw, hall⟩ := box1 w #[.int .i64 p0, .int .i64 p1, .int .i64 p2, .int .i64 p3, .int .i64 p4, .int .i64 p5, .int .i64 p6, .int .i64 p7] 23
    rw [← hW]; clear hW
    have hx := ext_refl W0
    go_region_held3 (fun w' => Ext W0 w') (first | exact ext_drew hx | assumption | (exact ext_trans (by assumption) (by assumption)))
      (first | (go_at_call 12; refine (wait_calls _ _ _ _ _ _ _ _ _ _ _ (by omega)).mono ?_; rw [g0.out]; rintro e w1 ⟨rfl, hb⟩))
    clear hx
    rename_i wr hx
    go_wp2_with (first | (go_at_call 13; refine (right_calls _ _ _ _ _ _ _ _ _).mono ?_; rintro e w1 ⟨rfl, hb⟩; replace hx := ext_trans hx hb; clear hb) | (go_at_call 14; refine (awake14_calls _).mono ?_; rintro e w1 ⟨rfl, hb⟩; replace hx := ext_trans hx hb; clear hb) | (go_at_call 15; refine (plus_calls _ _ _).mono ?_; rintro e w2 ⟨rfl, rfl⟩))
    all_goals (go_ret; exact ⟨rfl, ext_trans hxw hx⟩)

set_option maxHeartbeats 2000000 in
theorem doubles_walk (p0 p1 p2 p3 p4 p5 p6 p7 n : Int) (w : World) (hn0 : 0 ≤ n) (hn : n < 256) :
    Calls Try.prog 4 #[.agg #[.int .i64 p0, .int .i64 p1, .int .i64 p2, .int .i64 p3, .int .i64 p4, .int .i64 p5, .int .i64 p6, .int .i64 p7], .int .u8 n] w fun e w' => e = .returned (.bool true) ∧ Ext w w' := by
  have hw1 : IntKind.i64.wrap (1 + n % 60 + 1) = 1 + n % 60 + 1 := IntWalk.i64_in _ (by omega)
  by_cases hr : rightB ⟨p0, p1, p2, p3, p4, p5, p6, p7⟩ = true
  · have ⟨g1, g2, g3⟩ := doubles_pure ⟨p0, p1, p2, p3, p4, p5, p6, p7⟩ (1 + n % 60) (by omega) (by omega) hr
    simp only at g1 g2 g3
    generalize ha : waitF ⟨p0, p1, p2, p3, p4, p5, p6, p7⟩ (1 + n % 60) 0 = a at *
    generalize hb : waitF ⟨p0, p1, p2, p3, p4, p5, p6, p7⟩ (1 + n % 60 + 1) 0 = b at *
    have Ha := Lib.hid ha; clear ha
    have Hb := Lib.hid hb; clear hb
    by_cases h2 : 2 * a ≤ p2
    · rw [if_pos h2] at g3
      replace g3 := beq_iff_eq.2 g3
      go_enter Try.func4, Try.ntmps4
      go_wp2_with fail
      obtain ⟨W0, hW, hxw, hall⟩ := box1 w #[.int .i64 p0, .int .i64 p1, .int .i64 p2, .int .i64 p3, .int .i64 p4, .int .i64 p5, .int .i64 p6, .int .i64 p7] 23
      rw [← hW]; clear hW
      have hx := ext_refl W0
      go_wp2_with (go_at_call 13; refine (right_calls _ _ _ _ _ _ _ _ _).mono ?_; rintro e w1 ⟨rfl, hb⟩; replace hx := ext_trans hx hb; clear hb)
      go_region_held3 (fun w' => Ext W0 w') (first | exact ext_drew hx | assumption | (exact ext_trans (by assumption) (by assumption)))
        (first | (go_at_call 12; refine (wait_calls _ _ _ _ _ _ _ _ _ _ _ (by omega)).mono ?_; (first | rw [Ha.out] | rw [Hb.out]); rintro e w1 ⟨rfl, hb⟩))
      clear hx
      rename_i wr hx
      go_wp2_with (first | (go_at_call 13; refine (right_calls _ _ _ _ _ _ _ _ _).mono ?_; rintro e w1 ⟨rfl, hb⟩; replace hx := ext_trans hx hb; clear hb) | (go_at_call 14; refine (awake14_calls _).mono ?_; rintro e w1 ⟨rfl, hb⟩; replace hx := ext_trans hx hb; clear hb) | (go_at_call 15; refine (plus_calls _ _ _).mono ?_; rintro e w2 ⟨rfl, rfl⟩))
      all_goals (go_ret; exact ⟨rfl, ext_trans hxw hx⟩)
    · rw [if_neg h2] at g3
      replace g3 := beq_iff_eq.2 g3
      go_enter Try.func4, Try.ntmps4
      go_wp2_with fail
      obtain ⟨W0, hW, hxw, hall⟩ := box1 w #[.int .i64 p0, .int .i64 p1, .int .i64 p2, .int .i64 p3, .int .i64 p4, .int .i64 p5, .int .i64 p6, .int .i64 p7] 23
      rw [← hW]; clear hW
      have hx := ext_refl W0
      go_wp2_with (go_at_call 13; refine (right_calls _ _ _ _ _ _ _ _ _).mono ?_; rintro e w1 ⟨rfl, hb⟩; replace hx := ext_trans hx hb; clear hb)
      go_region_held3 (fun w' => Ext W0 w') (first | exact ext_drew hx | assumption | (exact ext_trans (by assumption) (by assumption)))
        (first | (go_at_call 12; refine (wait_calls _ _ _ _ _ _ _ _ _ _ _ (by omega)).mono ?_; (first | rw [Ha.out] | rw [Hb.out]); rintro e w1 ⟨rfl, hb⟩))
      clear hx
      rename_i wr hx
      go_wp2_with (first | (go_at_call 13; refine (right_calls _ _ _ _ _ _ _ _ _).mono ?_; rintro e w1 ⟨rfl, hb⟩; replace hx := ext_trans hx hb; clear hb) | (go_at_call 14; refine (awake14_calls _).mono ?_; rintro e w1 ⟨rfl, hb⟩; replace hx := ext_trans hx hb; clear hb) | (go_at_call 15; refine (plus_calls _ _ _).mono ?_; rintro e w2 ⟨rfl, rfl⟩))
      all_goals (go_ret; exact ⟨rfl, ext_trans hxw hx⟩)
  · replace hr : rightB ⟨p0, p1, p2, p3, p4, p5, p6, p7⟩ = false := by simpa using hr
    go_enter Try.func4, Try.ntmps4
    go_wp2_with fail
    obtain ⟨W0, hW, hxw, hall⟩ := box1 w #[.int .i64 p0, .int .i64 p1, .int .i64 p2, .int .i64 p3, .int .i64 p4, .int .i64 p5, .int .i64 p6, .int .i64 p7] 23
    rw [← hW]; clear hW
    have hx := ext_refl W0
    go_wp2_with (first | (go_at_call 13; refine (right_calls _ _ _ _ _ _ _ _ _).mono ?_; rintro e w1 ⟨rfl, hb⟩; replace hx := ext_trans hx hb; clear hb) | (go_at_call 14; refine (awake14_calls _).mono ?_; rintro e w1 ⟨rfl, hb⟩; replace hx := ext_trans hx hb; clear hb))
    all_goals (go_ret; exact ⟨rfl, ext_trans hxw hx⟩)

theorem rplus_walk (a b c : Int) (w : World) :
    Calls Try.prog 5 #[.int .i64 a, .int .i64 b, .int .i64 c] w fun e w' => e = .returned (.bool true) ∧ Ext w w' := by
  have ⟨g1, g2⟩ := plusF_bd a b
  have g3 : (plusF a b != plusF b a) = false := by rw [plusF_comm]; simp
  have g4 : (plusF (plusF a b) c != plusF a (plusF b c)) = false := by rw [plusF_assoc]; simp
  have g5 : mn a 1099511627776 ≤ plusF a b := by unfold plusF mx mn; (repeat' split) <;> omega
  have g6 : mn b 1099511627776 ≤ plusF a b := by unfold plusF mx mn; (repeat' split) <;> omega
  have g7 : (plusF (plusF a b) (-1) == plusF a b) = true := by rw [plusF_of g1 g2]; simp
  have g8 : 0 < b ∨ (plusF a b == plusF a 0) = true := by
    by_cases h : 0 < b
    · exact .inl h
    · right; simp only [beq_iff_eq, plusF_eq]; congr 2; unfold mx; (repeat' split) <;> omega
  have hx := ext_refl w
  rcases g8 with g8 | g8
  all_goals
    go_enter Try.func5, Try.ntmps5
    go_wp2_with (first | (go_at_call 14; refine (awake14_calls _).mono ?_; rintro e w1 ⟨rfl, hb⟩; replace hx := ext_trans hx hb; clear hb) | (go_at_call 15; refine (plus_calls _ _ _).mono ?_; rintro e w2 ⟨rfl, rfl⟩))
    all_goals (go_ret; exact ⟨by first | rfl | simp, hx⟩)

theorem sum_walk (p0 p1 p2 p3 p4 p5 p6 p7 : Int) (w : World) :
    Calls Try.prog 7 #[.agg #[.int .i64 p0, .int .i64 p1, .int .i64 p2, .int .i64 p3, .int .i64 p4, .int .i64 p5, .int .i64 p6, .int .i64 p7]] w fun e w' => e = .returned (.bool true) ∧ Ext w w' := by
  by_cases hr : rightB ⟨p0, p1, p2, p3, p4, p5, p6, p7⟩ = true
  · have R := (rightB_iff _).1 hr
    have ⟨m1, m2⟩ := R.most; have ⟨i1, i2⟩ := R.init; have ⟨c1, c2⟩ := R.cap
    simp only at m1 m2 i1 i2 c1 c2
    clear R
    go_enter Try.func7, Try.ntmps7
    go_wp2_with fail
    obtain ⟨W0, hW, hxw, hall⟩ := box1 w #[.int .i64 p0, .int .i64 p1, .int .i64 p2, .int .i64 p3, .int .i64 p4, .int .i64 p5, .int .i64 p6, .int .i64 p7] 23
    rw [← hW]; clear hW
    have hx := ext_refl W0
    go_wp2_with (go_at_call 13; refine (right_calls _ _ _ _ _ _ _ _ _).mono ?_; rintro e w1 ⟨rfl, hb⟩; replace hx := ext_trans hx hb; clear hb)
    go_loopw [3, 4, 5] (fun s n t wr => ∃ k : Nat, 1 ≤ k ∧ (k : Int) ≤ p0 ∧ t = .int .i64 k ∧ n = .int .i64 ((k : Int) - 1) ∧ s = .int .i64 (sumW ⟨p0, p1, p2, p3, p4, p5, p6, p7⟩ (k - 1)) ∧ Ext W0 wr) (fun _ _ t _ => (p0 - intOf t).toNat)
    case atStart => exact ⟨1, by omega, by omega, rfl, rfl, rfl, hx⟩
    case round =>
      obtain ⟨k, hk, hk', rfl, rfl, rfl, hx⟩ := hrel
      have ⟨s1, s2, s3, s4⟩ := sumW_bd ⟨p0, p1, p2, p3, p4, p5, p6, p7⟩ hr (k - 1)
      have ⟨x1, x2⟩ := waitF_bd ⟨p0, p1, p2, p3, p4, p5, p6, p7⟩ k 0
      have hk1 : ((k - 1 : Nat) : Int) = (k : Int) - 1 := by omega
      rw [hk1] at s1 s2 s4
      simp only at s1 s2 s4
      have hk99 : ((k : Int) - 1) * p2 ≤ 99 * 1099511627776 := by
        have := Int.mul_le_mul (show (k : Int) - 1 ≤ 99 by omega) c2 c1 (by omega); omega
      have hk98 : 0 ≤ ((k : Int) - 1) * p2 := Int.mul_nonneg (by omega) c1
      by_cases hlt : (k : Int) < p0
      · have hm : moreB ⟨p0, p1, p2, p3, p4, p5, p6, p7⟩ k = true := by simp [moreB, hr]; omega
        have hs : Hid (sumW ⟨p0, p1, p2, p3, p4, p5, p6, p7⟩ k = sumW ⟨p0, p1, p2, p3, p4, p5, p6, p7⟩ (k - 1) + waitF ⟨p0, p1, p2, p3, p4, p5, p6, p7⟩ k 0) := by
          obtain ⟨j, rfl⟩ : ∃ j, k = j + 1 := ⟨k - 1, by omega⟩
          show sumW _ (j + 1) = _
          simp only [sumW, Nat.add_sub_cancel]; rfl
        generalize sumW ⟨p0, p1, p2, p3, p4, p5, p6, p7⟩ (k - 1) = s at *
        go_wp2_with (first | (go_at_call 17; refine (more_calls _ _ _ _ _ _ _ _ _ _).mono ?_; rintro e w1 ⟨rfl, hb⟩; replace hx := ext_trans hx hb; clear hb) | (go_at_call 12; refine (wait_calls _ _ _ _ _ _ _ _ _ _ _ (by omega)).mono ?_; rintro e w1 ⟨rfl, hb⟩; replace hx := ext_trans hx hb; clear hb))
        go_roundw
        case rel => exact ⟨k + 1, by omega, by omega, by go_num, by go_num, by rw [Nat.add_sub_cancel, hs.out], hx⟩
        case measure => simp [intOf]; omega
      · have hm : moreB ⟨p0, p1, p2, p3, p4, p5, p6, p7⟩ k = false := by simp [moreB]; omega
        obtain rfl : p0 = (k : Int) := by omega
        have mb : 0 ≤ mn p1 p2 ∧ mn p1 p2 ≤ 1099511627776 := by unfold mn; split <;> omega
        obtain ⟨mb1, mb2⟩ := mb
        have hk97 : ((k : Int) - 1) * mn p1 p2 ≤ 99 * 1099511627776 := by
          have := Int.mul_le_mul (show (k : Int) - 1 ≤ 99 by omega) mb2 mb1 (by omega); omega
        have hk96 : 0 ≤ ((k : Int) - 1) * mn p1 p2 := Int.mul_nonneg (by omega) mb1
        generalize sumW ⟨↑k, p1, p2, p3, p4, p5, p6, p7⟩ (k - 1) = s at *
        go_wp2_with (first | (go_at_call 17; refine (more_calls _ _ _ _ _ _ _ _ _ _).mono ?_; rintro e w1 ⟨rfl, hb⟩; replace hx := ext_trans hx hb; clear hb) | (go_at_call 14; refine (awake14_calls _).mono ?_; rintro e w1 ⟨rfl, hb⟩; replace hx := ext_trans hx hb; clear hb))
        go_ret
        exact ⟨by first | rfl | simp, ext_trans hxw hx⟩
  · have hm : moreB ⟨p0, p1, p2, p3, p4, p5, p6, p7⟩ 0 = false := by simp [moreB, hr]
    replace hr : rightB ⟨p0, p1, p2, p3, p4, p5, p6, p7⟩ = false := by simpa using hr
    go_enter Try.func7, Try.ntmps7
    go_wp2_with fail
    obtain ⟨W0, hW, hxw, hall⟩ := box1 w #[.int .i64 p0, .int .i64 p1, .int .i64 p2, .int .i64 p3, .int .i64 p4, .int .i64 p5, .int .i64 p6, .int .i64 p7] 23
    rw [← hW]; clear hW
    have hx := ext_refl W0
    go_wp2_with (first | (go_at_call 13; refine (right_calls _ _ _ _ _ _ _ _ _).mono ?_; rintro e w1 ⟨rfl, hb⟩; replace hx := ext_trans hx hb; clear hb) | (go_at_call 17; refine (more_calls _ _ _ _ _ _ _ _ _ _).mono ?_; rintro e w1 ⟨rfl, hb⟩; replace hx := ext_trans hx hb; clear hb) | (go_at_call 14; refine (awake14_calls _).mono ?_; rintro e w1 ⟨rfl, hb⟩; replace hx := ext_trans hx hb; clear hb))
    all_goals (go_ret; exact ⟨rfl, ext_trans hxw hx⟩)
end Go.Proofs.Ytnjagdhpiehlpaa

/- What retry's functions do: right, more, plus, wait, each for every argument. -/
import Derived.Test.YtnfmgojloahfkaaWd
namespace Go.Proofs.Ytnfmgojloahfkaa
set_option linter.unusedVariables false
set_option linter.unusedSimpArgs false
open Go.RowKit

set_option maxHeartbeats 4000000 in
theorem right_calls (p0 p1 p2 p3 p4 p5 p6 p7 : Int) (w : World) :
    Calls Try.prog 8 #[.agg #[.int .i64 p0, .int .i64 p1, .int .i64 p2, .int .i64 p3, .int .i64 p4, .int .i64 p5, .int .i64 p6, .int .i64 p7]] w fun e w' => e = .returned (.bool (rightB ⟨p0, p1, p2, p3, p4, p5, p6, p7⟩)) ∧ Ext w w' := by
  go_enter Try.func8, Try.ntmps8
  go_wp2
  have i0 : ∀ w, (Instr.index 53 (.agg #[.int .i64 p1, .int .i64 p2, .int .i64 p3, .int .i64 p4, .int .i64 p5, .int .i64 p6]) (.int .i64 0)).run Try.prog w = .ok (.int .i64 p1) w := fun _ => by kernel_rfl
  have i1 : ∀ w, (Instr.index 53 (.agg #[.int .i64 p1, .int .i64 p2, .int .i64 p3, .int .i64 p4, .int .i64 p5, .int .i64 p6]) (.int .i64 1)).run Try.prog w = .ok (.int .i64 p2) w := fun _ => by kernel_rfl
  have i2 : ∀ w, (Instr.index 53 (.agg #[.int .i64 p1, .int .i64 p2, .int .i64 p3, .int .i64 p4, .int .i64 p5, .int .i64 p6]) (.int .i64 2)).run Try.prog w = .ok (.int .i64 p3) w := fun _ => by kernel_rfl
  have i3 : ∀ w, (Instr.index 53 (.agg #[.int .i64 p1, .int .i64 p2, .int .i64 p3, .int .i64 p4, .int .i64 p5, .int .i64 p6]) (.int .i64 3)).run Try.prog w = .ok (.int .i64 p4) w := fun _ => by kernel_rfl
  have i4 : ∀ w, (Instr.index 53 (.agg #[.int .i64 p1, .int .i64 p2, .int .i64 p3, .int .i64 p4, .int .i64 p5, .int .i64 p6]) (.int .i64 4)).run Try.prog w = .ok (.int .i64 p5) w := fun _ => by kernel_rfl
  have i5 : ∀ w, (Instr.index 53 (.agg #[.int .i64 p1, .int .i64 p2, .int .i64 p3, .int .i64 p4, .int .i64 p5, .int .i64 p6]) (.int .i64 5)).run Try.prog w = .ok (.int .i64 p6) w := fun _ => by kernel_rfl
  refine wp_loop_rounds 7 ?_
  rw [rounds_succ]; go_wp2
  all_goals try (rw [rounds_succ]; go_wp2)
  all_goals try (rw [rounds_succ]; go_wp2)
  all_goals try (rw [rounds_succ]; go_wp2)
  all_goals try (rw [rounds_succ]; go_wp2)
  all_goals try (rw [rounds_succ]; go_wp2)
  all_goals try (rw [rounds_succ]; go_wp2)
  all_goals go_ret
  all_goals (refine ⟨?_, ?_⟩)
  all_goals first | (simp [rightB, tm]; omega) | (simp [*, rightB, tm]; done) | (repeat (first | exact ext_refl _ | assumption | refine ext_drew ?_ | refine ext_alloc ?_ _))

theorem plus_calls (a b : Int) (w : World) :
    Calls Try.prog 23 #[.int .i64 a, .int .i64 b] w fun e w' => e = .returned (.int .i64 (plusF a b)) ∧ w = w' := by
  have ⟨ha, ha'⟩ := ti_bd a
  have ⟨hb, hb'⟩ := ti_bd b
  go_enter Try.func23, Try.ntmps23
  go_wp2
  go_ret
  exact ⟨rfl, rfl⟩

theorem more_calls (p0 p1 p2 p3 p4 p5 p6 p7 n : Int) (w : World) :
    Calls Try.prog 48 #[.agg #[.int .i64 p0, .int .i64 p1, .int .i64 p2, .int .i64 p3, .int .i64 p4, .int .i64 p5, .int .i64 p6, .int .i64 p7], .int .i64 n] w fun e w' => e = .returned (.bool (moreB ⟨p0, p1, p2, p3, p4, p5, p6, p7⟩ n)) ∧ Ext w w' := by
  by_cases hr : rightB ⟨p0, p1, p2, p3, p4, p5, p6, p7⟩ = true
  · have HM : Hid (moreB ⟨p0, p1, p2, p3, p4, p5, p6, p7⟩ n = (decide (0 ≤ n) && decide (n < p0))) := by unfold moreB; rw [hr]; simp [Hid]
    go_enter Try.func48, Try.ntmps48
    go_wp2_with (go_at_call 8; refine (right_calls _ _ _ _ _ _ _ _ _).mono ?_; rintro e w1 ⟨rfl, hb⟩; obtain ⟨hc, hf⟩ := bcell hb)
    all_goals (go_ret; refine ⟨by rw [HM.out]; first | rfl | (simp; done) | (simp [*]; done) | (simp [*]; omega), ext_trans (ext_alloc (ext_refl _) _) hb⟩)
  · have HM : Hid (moreB ⟨p0, p1, p2, p3, p4, p5, p6, p7⟩ n = false) := by unfold moreB; simp [Hid, hr]
    replace hr : rightB ⟨p0, p1, p2, p3, p4, p5, p6, p7⟩ = false := by simpa using hr
    go_enter Try.func48, Try.ntmps48
    go_wp2_with (go_at_call 8; refine (right_calls _ _ _ _ _ _ _ _ _).mono ?_; rintro e w1 ⟨rfl, hb⟩; obtain ⟨hc, hf⟩ := bcell hb)
    all_goals (go_ret; refine ⟨by rw [HM.out]; first | rfl | (simp; done) | (simp [*]; done) | (simp [*]; omega), ext_trans (ext_alloc (ext_refl _) _) hb⟩)

theorem wait_calls (p0 p1 p2 p3 p4 p5 p6 p7 n j : Int) (w : World) (hn : n ≤ 9223372036854775807) :
    Calls Try.prog 24 #[.agg #[.int .i64 p0, .int .i64 p1, .int .i64 p2, .int .i64 p3, .int .i64 p4, .int .i64 p5, .int .i64 p6, .int .i64 p7], .int .i64 n, .int .i64 j] w fun e w' => e = .returned (.int .i64 (waitF ⟨p0, p1, p2, p3, p4, p5, p6, p7⟩ n j)) ∧ Ext w w' := by
  by_cases hr : rightB ⟨p0, p1, p2, p3, p4, p5, p6, p7⟩ = true
  · by_cases h1 : 1 ≤ n
    · have hcc : mn (n - 1) 64 ≤ 64 ∧ 0 ≤ mn (n - 1) 64 := by unfold mn; split <;> omega
      obtain ⟨hcc, hcc'⟩ := hcc
      obtain ⟨m, hm⟩ : ∃ m : Nat, mn (n - 1) 64 = (m : Int) := ⟨(mn (n - 1) 64).toNat, by omega⟩
      have hR := (rightB_iff _).1 hr
      have ⟨q1, _⟩ := hR.init
      have ⟨q2, q3⟩ := hR.cap
      simp only at q1 q2 q3
      clear hR
      have HF : Hid (waitF ⟨p0, p1, p2, p3, p4, p5, p6, p7⟩ n j = plusF (waitW p1 p2 m) j) := by unfold waitF; rw [if_pos ⟨hr, h1⟩]; simp only [hm]; rfl
      have hm64 : m ≤ 64 := by omega
      go_enter Try.func24, Try.ntmps24
      go_wp2_with (go_at_call 8; refine (right_calls _ _ _ _ _ _ _ _ _).mono ?_; rintro e w1 ⟨rfl, hb⟩; obtain ⟨hc, hf⟩ := bcell hb)
      go_loopw [7, 23] (fun v i wr => ∃ k : Nat, k ≤ m ∧ i = .int .i64 k ∧ v = .int .i64 (waitW p1 p2 k) ∧ Ext w1 wr) (fun _ i _ => m - (intOf i).toNat)
      case atStart => exact ⟨0, by omega, rfl, rfl, ext_refl _⟩
      case round =>
        obtain ⟨k, hk, rfl, rfl, hwr⟩ := hrel
        have ⟨b1, b2⟩ := waitW_bd q1 q2 q3 k
        have hz1 : w.heap.size < w1.heap.size := by have := hb.size; simp at this; omega
        have hq := fun o => (hwr.cell (p := ⟨w.heap.size, o, none⟩) hz1).trans (hc _ o (by simp))
        by_cases hlt : k < m
        · go_wp2
          go_roundw
          case rel => exact ⟨k + 1, by omega, by go_num, rfl, hwr⟩
          case measure => simp [intOf]; omega
        · obtain rfl : k = m := by omega
          go_wp2_with (go_at_call 23; refine (plus_calls _ _ _).mono ?_; rintro e w2 ⟨rfl, rfl⟩)
          go_ret
          exact ⟨by rw [HF.out]; rfl, ext_trans (ext_trans (ext_alloc (ext_refl _) _) hb) hwr⟩
    · have HF : Hid (waitF ⟨p0, p1, p2, p3, p4, p5, p6, p7⟩ n j = 0) := by unfold waitF; rw [if_neg (by omega)]; rfl
      go_enter Try.func24, Try.ntmps24
      go_wp2_with (go_at_call 8; refine (right_calls _ _ _ _ _ _ _ _ _).mono ?_; rintro e w1 ⟨rfl, hb⟩; obtain ⟨hc, hf⟩ := bcell hb)
      go_ret
      exact ⟨by rw [HF.out]; rfl, ext_trans (ext_alloc (ext_refl _) _) hb⟩
  · have HF : Hid (waitF ⟨p0, p1, p2, p3, p4, p5, p6, p7⟩ n j = 0) := by unfold waitF; rw [if_neg (by simp [hr])]; rfl
    replace hr : rightB ⟨p0, p1, p2, p3, p4, p5, p6, p7⟩ = false := by simpa using hr
    go_enter Try.func24, Try.ntmps24
    go_wp2_with (go_at_call 8; refine (right_calls _ _ _ _ _ _ _ _ _).mono ?_; rintro e w1 ⟨rfl, hb⟩; obtain ⟨hc, hf⟩ := bcell hb)
    go_ret
    exact ⟨by rw [HF.out]; rfl, ext_trans (ext_alloc (ext_refl _) _) hb⟩
end Go.Proofs.Ytnfmgojloahfkaa

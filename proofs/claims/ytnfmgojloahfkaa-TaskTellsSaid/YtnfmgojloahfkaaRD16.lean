/- The document's functions of layer 16: Tick. -/
import Derived.Test.YtnfmgojloahfkaaRA16
import Derived.Test.YtnfmgojloahfkaaN16
import Derived.Test.YtnfmgojloahfkaaWg
namespace Go.Proofs.Ytnfmgojloahfkaa
open Go.RowKit
set_option linter.unusedVariables false
set_option linter.unusedSimpArgs false

set_option maxRecDepth 100000 in
set_option maxHeartbeats 8000000 in
theorem rtick_calls (p0 p1 p2 p3 p4 p5 p6 p7 a0 a1 a2 a3 a4 a5 a6 a7 a8 a9 n : Int) (w : World) (h0 : 0 ≤ a2) (h1 : a2 ≤ 255) :
    Calls Try.prog 44 #[.agg #[.int .i64 p0, .int .i64 p1, .int .i64 p2, .int .i64 p3, .int .i64 p4, .int .i64 p5, .int .i64 p6, .int .i64 p7], .agg #[.int .i64 a0, .int .i64 a1, .int .u8 a2, .int .i64 a3, .int .i64 a4, .int .i64 a5, .int .i64 a6, .int .i64 a7, .int .i64 a8, .int .i64 a9], .int .i64 n] w fun e w' => e = .returned (.tuple #[.agg #[.int .i64 ((tickF ⟨p0, p1, p2, p3, p4, p5, p6, p7⟩ ⟨a0, a1, a2, a3, a4, a5, a6, a7, a8, a9⟩ n).1).put, .int .i64 ((tickF ⟨p0, p1, p2, p3, p4, p5, p6, p7⟩ ⟨a0, a1, a2, a3, a4, a5, a6, a7, a8, a9⟩ n).1).tries, .int .u8 ((tickF ⟨p0, p1, p2, p3, p4, p5, p6, p7⟩ ⟨a0, a1, a2, a3, a4, a5, a6, a7, a8, a9⟩ n).1).state, .int .i64 ((tickF ⟨p0, p1, p2, p3, p4, p5, p6, p7⟩ ⟨a0, a1, a2, a3, a4, a5, a6, a7, a8, a9⟩ n).1).ready, .int .i64 ((tickF ⟨p0, p1, p2, p3, p4, p5, p6, p7⟩ ⟨a0, a1, a2, a3, a4, a5, a6, a7, a8, a9⟩ n).1).since, .int .i64 ((tickF ⟨p0, p1, p2, p3, p4, p5, p6, p7⟩ ⟨a0, a1, a2, a3, a4, a5, a6, a7, a8, a9⟩ n).1).worker, .int .i64 ((tickF ⟨p0, p1, p2, p3, p4, p5, p6, p7⟩ ⟨a0, a1, a2, a3, a4, a5, a6, a7, a8, a9⟩ n).1).tried, .int .i64 ((tickF ⟨p0, p1, p2, p3, p4, p5, p6, p7⟩ ⟨a0, a1, a2, a3, a4, a5, a6, a7, a8, a9⟩ n).1).beat, .int .i64 ((tickF ⟨p0, p1, p2, p3, p4, p5, p6, p7⟩ ⟨a0, a1, a2, a3, a4, a5, a6, a7, a8, a9⟩ n).1).os, .int .i64 ((tickF ⟨p0, p1, p2, p3, p4, p5, p6, p7⟩ ⟨a0, a1, a2, a3, a4, a5, a6, a7, a8, a9⟩ n).1).ov], .int .i64 (tickF ⟨p0, p1, p2, p3, p4, p5, p6, p7⟩ ⟨a0, a1, a2, a3, a4, a5, a6, a7, a8, a9⟩ n).2]) ∧ Ext w w' := by
  by_cases hm : mayF ⟨p0, p1, p2, p3, p4, p5, p6, p7⟩ ⟨a0, a1, a2, a3, a4, a5, a6, a7, a8, a9⟩ n = 0
  · have he := hm
    have HF : tickF ⟨p0, p1, p2, p3, p4, p5, p6, p7⟩ ⟨a0, a1, a2, a3, a4, a5, a6, a7, a8, a9⟩ n = (tickE (tickS ⟨p0, p1, p2, p3, p4, p5, p6, p7⟩ (tickS ⟨p0, p1, p2, p3, p4, p5, p6, p7⟩ ⟨a0, a1, a2, a3, a4, a5, a6, a7, a8, a9⟩ n) n) n, 0) := by unfold tickF; rw [chgF_ok hm, if_neg (by simp)]
    have ht1 : a1 ≤ 100 := by
      have : rightT ⟨p0, p1, p2, p3, p4, p5, p6, p7⟩ ⟨a0, a1, a2, a3, a4, a5, a6, a7, a8, a9⟩ = true := by
        cases h : rightT ⟨p0, p1, p2, p3, p4, p5, p6, p7⟩ ⟨a0, a1, a2, a3, a4, a5, a6, a7, a8, a9⟩
        · rw [mayF_bad h] at hm; simp at hm
        · rfl
      exact (rightT_tries this).2
    rw [HF]
    clear HF hm
    go_enter Try.func44, Try.ntmps44
    go_wp2_with (go_at_call 52; refine (rmay_calls _ _ _ _ _ _ _ _ _ _ _ _ _ _ _ _ _ _ _ _ (by assumption) (by assumption)).mono ?_; rw [he]; rintro e w1 ⟨rfl, hb⟩; obtain ⟨r, d, rfl⟩ := ext_form hb; clear hb)
    clear he
    go_loopg [9] 2 (fun g k wr => ∃ (x0 x1 x2 x3 x4 x5 x6 x7 x8 x9 : Int) (r : Array Obj) (d : Nat), wr = more (((w.alloc (.cells #[.int .i64 p0, .int .i64 p1, .int .i64 p2, .int .i64 p3, .int .i64 p4, .int .i64 p5, .int .i64 p6, .int .i64 p7] 23)).alloc (.cells #[.int .i64 x0, .int .i64 x1, .int .u8 x2, .int .i64 x3, .int .i64 x4, .int .i64 x5, .int .i64 x6, .int .i64 x7, .int .i64 x8, .int .i64 x9] 30)).alloc (.cells #[.int .i64 0, .int .i64 0, .int .u8 0, .int .i64 0, .int .i64 0, .int .i64 0, .int .i64 0, .int .i64 0, .int .i64 0, .int .i64 0] 30)) r d ∧ k = .int .i64 (2 - (g : Int)) ∧ 0 ≤ x2 ∧ x2 ≤ 255 ∧ x1 ≤ 100 ∧ ((g = 2 ∧ (⟨x0, x1, x2, x3, x4, x5, x6, x7, x8, x9⟩ : Tsk) = ⟨a0, a1, a2, a3, a4, a5, a6, a7, a8, a9⟩) ∨ (g = 1 ∧ (⟨x0, x1, x2, x3, x4, x5, x6, x7, x8, x9⟩ : Tsk) = tickS ⟨p0, p1, p2, p3, p4, p5, p6, p7⟩ ⟨a0, a1, a2, a3, a4, a5, a6, a7, a8, a9⟩ n) ∨ (g = 0 ∧ (⟨x0, x1, x2, x3, x4, x5, x6, x7, x8, x9⟩ : Tsk) = tickS ⟨p0, p1, p2, p3, p4, p5, p6, p7⟩ (tickS ⟨p0, p1, p2, p3, p4, p5, p6, p7⟩ ⟨a0, a1, a2, a3, a4, a5, a6, a7, a8, a9⟩ n) n)))
    case atStart => exact ⟨a0, a1, a2, a3, a4, a5, a6, a7, a8, a9, r, d, rfl, rfl, h0, h1, ht1, .inl ⟨rfl, rfl⟩⟩
    case round =>
      obtain ⟨x0, x1, x2, x3, x4, x5, x6, x7, x8, x9, r, d, rfl, rfl, g0, g1, g2, hk⟩ := hrel
      have hgk : gk ≤ 2 := by rcases hk with h | h | h <;> omega
      have hk3 : (2 - (gk : Int)) < 3 := by omega
      have hk4 : decide ((2 - (gk : Int)) < 3) = true := by simpa using hk3
      by_cases hd : dueNow ⟨p0, p1, p2, p3, p4, p5, p6, p7⟩ ⟨x0, x1, x2, x3, x4, x5, x6, x7, x8, x9⟩ n = true
      · have hd' : dueOk ⟨p0, p1, p2, p3, p4, p5, p6, p7⟩ (timesF ⟨x0, x1, x2, x3, x4, x5, x6, x7, x8, x9⟩) = true ∧ dueAt ⟨p0, p1, p2, p3, p4, p5, p6, p7⟩ (timesF ⟨x0, x1, x2, x3, x4, x5, x6, x7, x8, x9⟩) ≤ n := by simpa [dueNow] using hd
        obtain ⟨d1, d2⟩ := hd'
        have d3 : ¬ (n < dueAt ⟨p0, p1, p2, p3, p4, p5, p6, p7⟩ (timesF ⟨x0, x1, x2, x3, x4, x5, x6, x7, x8, x9⟩)) := by omega
        have d4 : decide (n < dueAt ⟨p0, p1, p2, p3, p4, p5, p6, p7⟩ (timesF ⟨x0, x1, x2, x3, x4, x5, x6, x7, x8, x9⟩)) = false := by simpa using d2
        have hk1 : gk = 2 ∨ gk = 1 := by
          rcases hk with h | h | ⟨_, h⟩
          · exact .inl h.1
          · exact .inr h.1
          · rw [h, tick_twice] at hd; cases hd
        by_cases hw : dueWhich ⟨p0, p1, p2, p3, p4, p5, p6, p7⟩ (timesF ⟨x0, x1, x2, x3, x4, x5, x6, x7, x8, x9⟩) = 3 ∨ dueWhich ⟨p0, p1, p2, p3, p4, p5, p6, p7⟩ (timesF ⟨x0, x1, x2, x3, x4, x5, x6, x7, x8, x9⟩) = 1
        · have he : (decide (dueWhich ⟨p0, p1, p2, p3, p4, p5, p6, p7⟩ (timesF ⟨x0, x1, x2, x3, x4, x5, x6, x7, x8, x9⟩) = 3) || decide (dueWhich ⟨p0, p1, p2, p3, p4, p5, p6, p7⟩ (timesF ⟨x0, x1, x2, x3, x4, x5, x6, x7, x8, x9⟩) = 1)) = true := by simpa using hw
          have HS := Lib.hid (show tickS ⟨p0, p1, p2, p3, p4, p5, p6, p7⟩ ⟨x0, x1, x2, x3, x4, x5, x6, x7, x8, x9⟩ n = overF ⟨x0, x1, x2, x3, x4, x5, x6, x7, x8, x9⟩ 2 (dueWhich ⟨p0, p1, p2, p3, p4, p5, p6, p7⟩ (timesF ⟨x0, x1, x2, x3, x4, x5, x6, x7, x8, x9⟩)) from by unfold tickS; rw [if_pos ⟨d1, d2⟩, if_pos hw])
          have HK := Lib.hid hk; clear hk hd hw
          go_wp2_with fail
          refine wp_at ?_
          intro W1 hW1
          have hx1 : Ext (((w.alloc (.cells #[.int .i64 p0, .int .i64 p1, .int .i64 p2, .int .i64 p3, .int .i64 p4, .int .i64 p5, .int .i64 p6, .int .i64 p7] 23)).alloc (.cells #[.int .i64 x0, .int .i64 x1, .int .u8 x2, .int .i64 x3, .int .i64 x4, .int .i64 x5, .int .i64 x6, .int .i64 x7, .int .i64 x8, .int .i64 x9] 30)).alloc (.cells #[.int .i64 0, .int .i64 0, .int .u8 0, .int .i64 0, .int .i64 0, .int .i64 0, .int .i64 0, .int .i64 0, .int .i64 0, .int .i64 0] 30)) W1 := by rw [hW1]; repeat (first | exact ext_refl _ | assumption | refine ext_more' ?_ _ _ | refine ext_drew ?_ | refine ext_drewN ?_ _ | refine ext_alloc ?_ _)
          clear hW1
          obtain ⟨W2, hW2, _, hP, hT, hR⟩ := box3e w #[.int .i64 p0, .int .i64 p1, .int .i64 p2, .int .i64 p3, .int .i64 p4, .int .i64 p5, .int .i64 p6, .int .i64 p7] 23 #[.int .i64 x0, .int .i64 x1, .int .u8 x2, .int .i64 x3, .int .i64 x4, .int .i64 x5, .int .i64 x6, .int .i64 x7, .int .i64 x8, .int .i64 x9] 30 #[.int .i64 0, .int .i64 0, .int .u8 0, .int .i64 0, .int .i64 0, .int .i64 0, .int .i64 0, .int .i64 0, .int .i64 0, .int .i64 0] 30
          rw [← hW2] at hx1
          replace hP := fun w' (h : Ext W1 w') => hP w' (ext_trans hx1 h)
          replace hT := fun w' (h : Ext W1 w') => hT w' (ext_trans hx1 h)
          clear hR
          have HW2 := Lib.hid hW2; clear hW2
          go_region_held3 (fun w' => Ext W1 w') (first | exact ext_drew (ext_refl _) | assumption | (exact ext_trans (by assumption) (by assumption)))
            (first | (go_at_call 19; refine (rtimes_calls _ _ _ _ _ _ _ _ _ _ _ (by first | assumption | decide) (by first | assumption | decide)).mono ?_; rintro e w1 ⟨rfl, hb⟩) | (go_at_call 55; refine (rdue_calls _ _ _ _ _ _ _ _ _ _ _ _ _).mono ?_; rintro e w1 ⟨rfl, hb⟩))
          rename_i wr2 hx2
          obtain ⟨r2, d2, hf⟩ := ext_form (ext_trans hx1 hx2)
          rw [HW2.out] at hf
          clear hx1 hx2 hP hT HW2
          subst hf
          go_wp2_with (first | (go_at_call 56; refine (rends_calls _ _).mono ?_; rintro e w2 ⟨rfl, rfl⟩) | (go_at_call 53; refine (rover_calls _ _ _ _ _ _ _ _ _ _ _ _ _).mono ?_; rintro e w1 ⟨rfl, hb⟩; obtain ⟨r, d, rfl⟩ := ext_form hb; clear hb))
          go_roundg (gk - 1)
          case measure => omega
          case rel => refine ⟨x0, x1, 4, 0, 0, 0, 0, 0, 2, (dueWhich ⟨p0, p1, p2, p3, p4, p5, p6, p7⟩ (timesF ⟨x0, x1, x2, x3, x4, x5, x6, x7, x8, x9⟩)), ext_ex (by repeat (first | exact ext_refl _ | assumption | refine ext_more' ?_ _ _ | refine ext_drew ?_ | refine ext_drewN ?_ _ | refine ext_alloc ?_ _)) ⟨by go_num, by decide, by decide, g2, ?_⟩⟩
                      rcases HK.out with ⟨h, hh⟩ | ⟨h, hh⟩ | ⟨h, _⟩
                      · exact .inr (.inl ⟨by omega, by rw [← hh]; exact HS.out.symm⟩)
                      · exact .inr (.inr ⟨by omega, by rw [← hh]; exact HS.out.symm⟩)
                      · omega
        · have he : (decide (dueWhich ⟨p0, p1, p2, p3, p4, p5, p6, p7⟩ (timesF ⟨x0, x1, x2, x3, x4, x5, x6, x7, x8, x9⟩) = 3) || decide (dueWhich ⟨p0, p1, p2, p3, p4, p5, p6, p7⟩ (timesF ⟨x0, x1, x2, x3, x4, x5, x6, x7, x8, x9⟩) = 1)) = false := by simpa using hw
          have HS := Lib.hid (show tickS ⟨p0, p1, p2, p3, p4, p5, p6, p7⟩ ⟨x0, x1, x2, x3, x4, x5, x6, x7, x8, x9⟩ n = againF ⟨p0, p1, p2, p3, p4, p5, p6, p7⟩ ⟨x0, x1, x2, x3, x4, x5, x6, x7, x8, x9⟩ 2 (dueWhich ⟨p0, p1, p2, p3, p4, p5, p6, p7⟩ (timesF ⟨x0, x1, x2, x3, x4, x5, x6, x7, x8, x9⟩)) n 0 from by unfold tickS; rw [if_pos ⟨d1, d2⟩, if_neg hw])
          have ⟨A0, A1, A2⟩ := again_bd ⟨p0, p1, p2, p3, p4, p5, p6, p7⟩ ⟨x0, x1, x2, x3, x4, x5, x6, x7, x8, x9⟩ 2 (dueWhich ⟨p0, p1, p2, p3, p4, p5, p6, p7⟩ (timesF ⟨x0, x1, x2, x3, x4, x5, x6, x7, x8, x9⟩)) n 0 g2
          have HK := Lib.hid hk; clear hk hd hw
          go_wp2_with fail
          refine wp_at ?_
          intro W1 hW1
          have hx1 : Ext (((w.alloc (.cells #[.int .i64 p0, .int .i64 p1, .int .i64 p2, .int .i64 p3, .int .i64 p4, .int .i64 p5, .int .i64 p6, .int .i64 p7] 23)).alloc (.cells #[.int .i64 x0, .int .i64 x1, .int .u8 x2, .int .i64 x3, .int .i64 x4, .int .i64 x5, .int .i64 x6, .int .i64 x7, .int .i64 x8, .int .i64 x9] 30)).alloc (.cells #[.int .i64 0, .int .i64 0, .int .u8 0, .int .i64 0, .int .i64 0, .int .i64 0, .int .i64 0, .int .i64 0, .int .i64 0, .int .i64 0] 30)) W1 := by rw [hW1]; repeat (first | exact ext_refl _ | assumption | refine ext_more' ?_ _ _ | refine ext_drew ?_ | refine ext_drewN ?_ _ | refine ext_alloc ?_ _)
          clear hW1
          obtain ⟨W2, hW2, _, hP, hT, hR⟩ := box3e w #[.int .i64 p0, .int .i64 p1, .int .i64 p2, .int .i64 p3, .int .i64 p4, .int .i64 p5, .int .i64 p6, .int .i64 p7] 23 #[.int .i64 x0, .int .i64 x1, .int .u8 x2, .int .i64 x3, .int .i64 x4, .int .i64 x5, .int .i64 x6, .int .i64 x7, .int .i64 x8, .int .i64 x9] 30 #[.int .i64 0, .int .i64 0, .int .u8 0, .int .i64 0, .int .i64 0, .int .i64 0, .int .i64 0, .int .i64 0, .int .i64 0, .int .i64 0] 30
          rw [← hW2] at hx1
          replace hP := fun w' (h : Ext W1 w') => hP w' (ext_trans hx1 h)
          replace hT := fun w' (h : Ext W1 w') => hT w' (ext_trans hx1 h)
          clear hR
          have HW2 := Lib.hid hW2; clear hW2
          go_region_held3 (fun w' => Ext W1 w') (first | exact ext_drew (ext_refl _) | assumption | (exact ext_trans (by assumption) (by assumption)))
            (first | (go_at_call 19; refine (rtimes_calls _ _ _ _ _ _ _ _ _ _ _ (by first | assumption | decide) (by first | assumption | decide)).mono ?_; rintro e w1 ⟨rfl, hb⟩) | (go_at_call 55; refine (rdue_calls _ _ _ _ _ _ _ _ _ _ _ _ _).mono ?_; rintro e w1 ⟨rfl, hb⟩))
          rename_i wr2 hx2
          obtain ⟨r2, d2, hf⟩ := ext_form (ext_trans hx1 hx2)
          rw [HW2.out] at hf
          clear hx1 hx2 hP hT HW2
          subst hf
          go_wp2_with (first | (go_at_call 56; refine (rends_calls _ _).mono ?_; rintro e w2 ⟨rfl, rfl⟩) | (go_at_call 54; refine (ragain_calls _ _ _ _ _ _ _ _ _ _ _ _ _ _ _ _ _ _ _ _ _ _ _ (by omega)).mono ?_; rintro e w1 ⟨rfl, hb⟩; obtain ⟨r, d, rfl⟩ := ext_form hb; clear hb))
          go_roundg (gk - 1)
          case measure => omega
          case rel => refine ⟨(againF ⟨p0, p1, p2, p3, p4, p5, p6, p7⟩ ⟨x0, x1, x2, x3, x4, x5, x6, x7, x8, x9⟩ 2 (dueWhich ⟨p0, p1, p2, p3, p4, p5, p6, p7⟩ (timesF ⟨x0, x1, x2, x3, x4, x5, x6, x7, x8, x9⟩)) n 0).put, (againF ⟨p0, p1, p2, p3, p4, p5, p6, p7⟩ ⟨x0, x1, x2, x3, x4, x5, x6, x7, x8, x9⟩ 2 (dueWhich ⟨p0, p1, p2, p3, p4, p5, p6, p7⟩ (timesF ⟨x0, x1, x2, x3, x4, x5, x6, x7, x8, x9⟩)) n 0).tries, (againF ⟨p0, p1, p2, p3, p4, p5, p6, p7⟩ ⟨x0, x1, x2, x3, x4, x5, x6, x7, x8, x9⟩ 2 (dueWhich ⟨p0, p1, p2, p3, p4, p5, p6, p7⟩ (timesF ⟨x0, x1, x2, x3, x4, x5, x6, x7, x8, x9⟩)) n 0).state, (againF ⟨p0, p1, p2, p3, p4, p5, p6, p7⟩ ⟨x0, x1, x2, x3, x4, x5, x6, x7, x8, x9⟩ 2 (dueWhich ⟨p0, p1, p2, p3, p4, p5, p6, p7⟩ (timesF ⟨x0, x1, x2, x3, x4, x5, x6, x7, x8, x9⟩)) n 0).ready, (againF ⟨p0, p1, p2, p3, p4, p5, p6, p7⟩ ⟨x0, x1, x2, x3, x4, x5, x6, x7, x8, x9⟩ 2 (dueWhich ⟨p0, p1, p2, p3, p4, p5, p6, p7⟩ (timesF ⟨x0, x1, x2, x3, x4, x5, x6, x7, x8, x9⟩)) n 0).since, (againF ⟨p0, p1, p2, p3, p4, p5, p6, p7⟩ ⟨x0, x1, x2, x3, x4, x5, x6, x7, x8, x9⟩ 2 (dueWhich ⟨p0, p1, p2, p3, p4, p5, p6, p7⟩ (timesF ⟨x0, x1, x2, x3, x4, x5, x6, x7, x8, x9⟩)) n 0).worker, (againF ⟨p0, p1, p2, p3, p4, p5, p6, p7⟩ ⟨x0, x1, x2, x3, x4, x5, x6, x7, x8, x9⟩ 2 (dueWhich ⟨p0, p1, p2, p3, p4, p5, p6, p7⟩ (timesF ⟨x0, x1, x2, x3, x4, x5, x6, x7, x8, x9⟩)) n 0).tried, (againF ⟨p0, p1, p2, p3, p4, p5, p6, p7⟩ ⟨x0, x1, x2, x3, x4, x5, x6, x7, x8, x9⟩ 2 (dueWhich ⟨p0, p1, p2, p3, p4, p5, p6, p7⟩ (timesF ⟨x0, x1, x2, x3, x4, x5, x6, x7, x8, x9⟩)) n 0).beat, (againF ⟨p0, p1, p2, p3, p4, p5, p6, p7⟩ ⟨x0, x1, x2, x3, x4, x5, x6, x7, x8, x9⟩ 2 (dueWhich ⟨p0, p1, p2, p3, p4, p5, p6, p7⟩ (timesF ⟨x0, x1, x2, x3, x4, x5, x6, x7, x8, x9⟩)) n 0).os, (againF ⟨p0, p1, p2, p3, p4, p5, p6, p7⟩ ⟨x0, x1, x2, x3, x4, x5, x6, x7, x8, x9⟩ 2 (dueWhich ⟨p0, p1, p2, p3, p4, p5, p6, p7⟩ (timesF ⟨x0, x1, x2, x3, x4, x5, x6, x7, x8, x9⟩)) n 0).ov, ext_ex (by repeat (first | exact ext_refl _ | assumption | refine ext_more' ?_ _ _ | refine ext_drew ?_ | refine ext_drewN ?_ _ | refine ext_alloc ?_ _)) ⟨by go_num, A0, A1, A2, ?_⟩⟩
                      rcases HK.out with ⟨h, hh⟩ | ⟨h, hh⟩ | ⟨h, _⟩
                      · exact .inr (.inl ⟨by omega, by rw [← hh]; exact HS.out.symm⟩)
                      · exact .inr (.inr ⟨by omega, by rw [← hh]; exact HS.out.symm⟩)
                      · omega
      · have hd' : dueNow ⟨p0, p1, p2, p3, p4, p5, p6, p7⟩ ⟨x0, x1, x2, x3, x4, x5, x6, x7, x8, x9⟩ n = false := by simpa using hd
        have hs := tickS_no hd'
        have hfin : tickS ⟨p0, p1, p2, p3, p4, p5, p6, p7⟩ (tickS ⟨p0, p1, p2, p3, p4, p5, p6, p7⟩ ⟨a0, a1, a2, a3, a4, a5, a6, a7, a8, a9⟩ n) n = ⟨x0, x1, x2, x3, x4, x5, x6, x7, x8, x9⟩ := by
          rcases hk with ⟨_, h⟩ | ⟨_, h⟩ | ⟨_, h⟩
          · rw [← h, hs, hs]
          · rw [← h, hs]
          · exact h.symm
        have HFIN := Lib.hid hfin
        have hq : dueOk ⟨p0, p1, p2, p3, p4, p5, p6, p7⟩ (timesF ⟨x0, x1, x2, x3, x4, x5, x6, x7, x8, x9⟩) = false ∨ (dueOk ⟨p0, p1, p2, p3, p4, p5, p6, p7⟩ (timesF ⟨x0, x1, x2, x3, x4, x5, x6, x7, x8, x9⟩) = true ∧ n < dueAt ⟨p0, p1, p2, p3, p4, p5, p6, p7⟩ (timesF ⟨x0, x1, x2, x3, x4, x5, x6, x7, x8, x9⟩)) := by
          unfold dueNow at hd'; cases h : dueOk ⟨p0, p1, p2, p3, p4, p5, p6, p7⟩ (timesF ⟨x0, x1, x2, x3, x4, x5, x6, x7, x8, x9⟩)
          · exact .inl rfl
          · rw [h] at hd'; right; exact ⟨rfl, by simpa using hd'⟩
        clear hk hd hd' hs hfin
        go_wp2_with fail
        refine wp_at ?_
        intro W1 hW1
        have hx1 : Ext (((w.alloc (.cells #[.int .i64 p0, .int .i64 p1, .int .i64 p2, .int .i64 p3, .int .i64 p4, .int .i64 p5, .int .i64 p6, .int .i64 p7] 23)).alloc (.cells #[.int .i64 x0, .int .i64 x1, .int .u8 x2, .int .i64 x3, .int .i64 x4, .int .i64 x5, .int .i64 x6, .int .i64 x7, .int .i64 x8, .int .i64 x9] 30)).alloc (.cells #[.int .i64 0, .int .i64 0, .int .u8 0, .int .i64 0, .int .i64 0, .int .i64 0, .int .i64 0, .int .i64 0, .int .i64 0, .int .i64 0] 30)) W1 := by rw [hW1]; repeat (first | exact ext_refl _ | assumption | refine ext_more' ?_ _ _ | refine ext_drew ?_ | refine ext_drewN ?_ _ | refine ext_alloc ?_ _)
        clear hW1
        obtain ⟨W2, hW2, _, hP, hT, hR⟩ := box3e w #[.int .i64 p0, .int .i64 p1, .int .i64 p2, .int .i64 p3, .int .i64 p4, .int .i64 p5, .int .i64 p6, .int .i64 p7] 23 #[.int .i64 x0, .int .i64 x1, .int .u8 x2, .int .i64 x3, .int .i64 x4, .int .i64 x5, .int .i64 x6, .int .i64 x7, .int .i64 x8, .int .i64 x9] 30 #[.int .i64 0, .int .i64 0, .int .u8 0, .int .i64 0, .int .i64 0, .int .i64 0, .int .i64 0, .int .i64 0, .int .i64 0, .int .i64 0] 30
        rw [← hW2] at hx1
        replace hP := fun w' (h : Ext W1 w') => hP w' (ext_trans hx1 h)
        replace hT := fun w' (h : Ext W1 w') => hT w' (ext_trans hx1 h)
        clear hR
        have HW2 := Lib.hid hW2; clear hW2
        go_region_held3 (fun w' => Ext W1 w') (first | exact ext_drew (ext_refl _) | assumption | (exact ext_trans (by assumption) (by assumption)))
          (first | (go_at_call 19; refine (rtimes_calls _ _ _ _ _ _ _ _ _ _ _ (by first | assumption | decide) (by first | assumption | decide)).mono ?_; rintro e w1 ⟨rfl, hb⟩) | (go_at_call 55; refine (rdue_calls _ _ _ _ _ _ _ _ _ _ _ _ _).mono ?_; rintro e w1 ⟨rfl, hb⟩))
        rename_i wr2 hx2
        obtain ⟨r2, d2, hf⟩ := ext_form (ext_trans hx1 hx2)
        rw [HW2.out] at hf
        clear hx1 hx2 hP hT HW2
        subst hf
        by_cases hx2 : x2 = 1 ∧ x3 ≤ n
        · obtain ⟨rfl, hx3⟩ := hx2
          have HE := Lib.hid (show tickE ⟨x0, x1, 1, x3, x4, x5, x6, x7, x8, x9⟩ n = ⟨x0, x1, 2, 0, n, 0, 0, 0, 0, 0⟩ from by unfold tickE; rw [if_pos ⟨rfl, hx3⟩])
          rcases hq with q1 | ⟨q1, q2⟩
          all_goals
            go_wp2
            refine bodyPost_ret (by simp [results, Try.results44, go_sem]; rfl) rfl ?_
            exact ⟨by rw [HFIN.out, HE.out] <;> rfl, by repeat (first | exact ext_refl _ | assumption | refine ext_more' ?_ _ _ | refine ext_drew ?_ | refine ext_drewN ?_ _ | refine ext_alloc ?_ _)⟩
        · have HE := Lib.hid (show tickE ⟨x0, x1, x2, x3, x4, x5, x6, x7, x8, x9⟩ n = ⟨x0, x1, x2, x3, x4, x5, x6, x7, x8, x9⟩ from by unfold tickE; rw [if_neg hx2])
          have hc : (x2 == 1) = false ∨ ((x2 == 1) = true ∧ n < x3) := by
            by_cases h : x2 = 1
            · right; exact ⟨by simpa using h, by omega⟩
            · left; simpa using h
          clear hx2
          rcases hq with q1 | ⟨q1, q2⟩
          all_goals
            rcases hc with hc | ⟨hc, hc'⟩
            all_goals
              go_wp2
              refine bodyPost_ret (by simp [results, Try.results44, go_sem]; rfl) rfl ?_
              exact ⟨by rw [HFIN.out, HE.out] <;> rfl, by repeat (first | exact ext_refl _ | assumption | refine ext_more' ?_ _ _ | refine ext_drew ?_ | refine ext_drewN ?_ _ | refine ext_alloc ?_ _)⟩
  · have HF : tickF ⟨p0, p1, p2, p3, p4, p5, p6, p7⟩ ⟨a0, a1, a2, a3, a4, a5, a6, a7, a8, a9⟩ n = (⟨a0, a1, a2, a3, a4, a5, a6, a7, a8, a9⟩, mayF ⟨p0, p1, p2, p3, p4, p5, p6, p7⟩ ⟨a0, a1, a2, a3, a4, a5, a6, a7, a8, a9⟩ n) := chgF_not rfl hm
    rw [HF]
    generalize he : mayF ⟨p0, p1, p2, p3, p4, p5, p6, p7⟩ ⟨a0, a1, a2, a3, a4, a5, a6, a7, a8, a9⟩ n = e0 at hm ⊢
    have hb1 : (e0 != 0) = true := by simpa using hm
    have hb2 : (e0 == 0) = false := by simpa using hm
    clear HF hm
    go_enter Try.func44, Try.ntmps44
    go_wp2_with (go_at_call 52; refine (rmay_calls _ _ _ _ _ _ _ _ _ _ _ _ _ _ _ _ _ _ _ _ (by assumption) (by assumption)).mono ?_; rw [he]; rintro e w1 ⟨rfl, hb⟩; obtain ⟨r, d, rfl⟩ := ext_form hb; clear hb)
    refine bodyPost_ret (by simp [results, Try.results44, go_sem]; rfl) rfl ?_
    exact ⟨rfl, by repeat (first | exact ext_refl _ | assumption | refine ext_more' ?_ _ _ | refine ext_drew ?_ | refine ext_drewN ?_ _ | refine ext_alloc ?_ _)⟩
end Go.Proofs.Ytnfmgojloahfkaa

/- The law LimitsEach walked. -/
import Derived.Test.YtnjagdhpiehlpaaL15
namespace Go.Proofs.Ytnjagdhpiehlpaa
open Go.RowKit

theorem step_in (k fr n : Int) (hk : 0 < n) (h0 : 0 ≤ fr) : stepF (0, 0) k fr n = (k, plusF fr n) := by unfold stepF; rw [if_pos ⟨⟨hk, h0⟩, .inl rfl⟩]
theorem plusF_small {a b : Int} (ha : 0 ≤ a) (hb : 0 ≤ b) (h : a + b ≤ 1099511627776) : plusF a b = a + b := by rw [plusF_of ha (by omega)]; (repeat' split) <;> omega
theorem step_none (k n : Int) (fd : Int × Int) : stepF fd k (-1) n = fd := step_neg fd k n
theorem each_walk0 (c a b t0 t1 t2 t3 : Int) (w : World) (hc : 0 ≤ c) (hc' : c ≤ 255) (ha : 0 ≤ a) (ha' : a ≤ 4294967295) (hb : 0 ≤ b) (hb' : b ≤ 4294967295) (hm : c % 4 = 0) :
    Calls Try.prog 10 #[.int .u8 c, .int .u32 a, .int .u32 b, .agg #[.int .i64 t0, .int .i64 t1, .int .i64 t2, .int .i64 t3]] w fun e w' => e = .returned (.bool true) ∧ Ext w w' := by
  have n1 : 1 ≤ 1 + a % 1073741824 ∧ 1 + a % 1073741824 ≤ 1073741824 := by omega
  have n2 : 0 ≤ b % 1073741824 ∧ b % 1073741824 ≤ 1073741823 := by omega
  obtain ⟨n1, n1'⟩ := n1; obtain ⟨n2, n2'⟩ := n2
  have hr : rightB ⟨1, 0, 0, 0, 0, (1 + a % 1073741824), 0, 1⟩ = true := by simp [rightB, tm]; omega
  have hz : rightB ⟨1, 0, 0, 0, 0, 0, 0, 1⟩ = true := by decide
  have hS : dueS ⟨1, 0, 0, 0, 0, (1 + a % 1073741824), 0, 1⟩ ⟨(b % 1073741824), t1, t2, t3⟩ = (3, b % 1073741824 + (1 + a % 1073741824)) := by
    simp only [dueS, step_zero]; rw [step_in _ _ _ (by omega) n2, plusF_small n2 (by omega) (by omega)]
  have hN : dueS ⟨1, 0, 0, 0, 0, (1 + a % 1073741824), 0, 1⟩ ⟨-1, -1, -1, -1⟩ = (0, 0) := by simp only [dueS, step_none, step_zero]
  have hZ : dueS ⟨1, 0, 0, 0, 0, 0, 0, 1⟩ ⟨(b % 1073741824), t1, t2, t3⟩ = (0, 0) := by simp only [dueS, step_zero]
  have A1 := Lib.hid (show dueAt ⟨1, 0, 0, 0, 0, (1 + a % 1073741824), 0, 1⟩ ⟨(b % 1073741824), t1, t2, t3⟩ = b % 1073741824 + (1 + a % 1073741824) from by unfold dueAt; rw [if_pos hr, hS])
  have A2 := Lib.hid (show dueWhich ⟨1, 0, 0, 0, 0, (1 + a % 1073741824), 0, 1⟩ ⟨(b % 1073741824), t1, t2, t3⟩ = 3 from by unfold dueWhich; rw [if_pos hr, hS])
  have A3 := Lib.hid (show dueOk ⟨1, 0, 0, 0, 0, (1 + a % 1073741824), 0, 1⟩ ⟨(b % 1073741824), t1, t2, t3⟩ = true from by unfold dueOk; rw [A2.out]; rfl)
  have B3 := Lib.hid (show dueOk ⟨1, 0, 0, 0, 0, (1 + a % 1073741824), 0, 1⟩ ⟨-1, -1, -1, -1⟩ = false from by unfold dueOk dueWhich; rw [if_pos hr, hN]; rfl)
  have C3 := Lib.hid (show dueOk ⟨1, 0, 0, 0, 0, 0, 0, 1⟩ ⟨(b % 1073741824), t1, t2, t3⟩ = false from by unfold dueOk dueWhich; rw [if_pos hz, hZ]; rfl)
  have i0 : ∀ w, (Instr.index 44 (.agg #[.int .i64 3, .int .i64 1, .int .i64 2, .int .i64 4]) (.int .u8 0)).run Try.prog w = .ok (.int .i64 3) w := fun _ => by kernel_rfl
  clear hr hz hS hN hZ
  go_enter Try.func10, Try.ntmps10
  go_wp2_with fail
  obtain ⟨W0, hW, hxw, hall, hal2⟩ := box2 w #[.int .i64 (b % 1073741824), .int .i64 t1, .int .i64 t2, .int .i64 t3] 36 #[.int .i64 1, .int .i64 0, .int .i64 0, .int .i64 0, .int .i64 0, .int .i64 (1 + a % 1073741824), .int .i64 0, .int .i64 1] 23
  rw [← hW]; clear hW
  have hx := ext_refl W0
  go_wp2_with (first | (go_at_call 21; refine (due_calls _ _ _ _ _ _ _ _ _ _ _ _ _).mono ?_; (first | rw [A1.out, A2.out, A3.out] | rw [B3.out] | rw [C3.out]); rintro e w1 ⟨rfl, hb⟩; replace hx := ext_trans hx hb; clear hb) | (go_at_call 22; refine (awake15_calls _).mono ?_; rintro e w1 ⟨rfl, hb⟩; replace hx := ext_trans hx hb; clear hb))
  go_ret
  exact ⟨by first | rfl | simp, ext_trans hxw hx⟩
theorem each_walk1 (c a b t0 t1 t2 t3 : Int) (w : World) (hc : 0 ≤ c) (hc' : c ≤ 255) (ha : 0 ≤ a) (ha' : a ≤ 4294967295) (hb : 0 ≤ b) (hb' : b ≤ 4294967295) (hm : c % 4 = 1) :
    Calls Try.prog 10 #[.int .u8 c, .int .u32 a, .int .u32 b, .agg #[.int .i64 t0, .int .i64 t1, .int .i64 t2, .int .i64 t3]] w fun e w' => e = .returned (.bool true) ∧ Ext w w' := by
  have n1 : 1 ≤ 1 + a % 1073741824 ∧ 1 + a % 1073741824 ≤ 1073741824 := by omega
  have n2 : 0 ≤ b % 1073741824 ∧ b % 1073741824 ≤ 1073741823 := by omega
  obtain ⟨n1, n1'⟩ := n1; obtain ⟨n2, n2'⟩ := n2
  have hr : rightB ⟨1, 0, 0, (1 + a % 1073741824), 0, 0, 0, 1⟩ = true := by simp [rightB, tm]; omega
  have hz : rightB ⟨1, 0, 0, 0, 0, 0, 0, 1⟩ = true := by decide
  have hS : dueS ⟨1, 0, 0, (1 + a % 1073741824), 0, 0, 0, 1⟩ ⟨t0, (b % 1073741824), t2, t3⟩ = (1, b % 1073741824 + (1 + a % 1073741824)) := by
    simp only [dueS, step_zero]; rw [step_in _ _ _ (by omega) n2, plusF_small n2 (by omega) (by omega)]
  have hN : dueS ⟨1, 0, 0, (1 + a % 1073741824), 0, 0, 0, 1⟩ ⟨-1, -1, -1, -1⟩ = (0, 0) := by simp only [dueS, step_none, step_zero]
  have hZ : dueS ⟨1, 0, 0, 0, 0, 0, 0, 1⟩ ⟨t0, (b % 1073741824), t2, t3⟩ = (0, 0) := by simp only [dueS, step_zero]
  have A1 := Lib.hid (show dueAt ⟨1, 0, 0, (1 + a % 1073741824), 0, 0, 0, 1⟩ ⟨t0, (b % 1073741824), t2, t3⟩ = b % 1073741824 + (1 + a % 1073741824) from by unfold dueAt; rw [if_pos hr, hS])
  have A2 := Lib.hid (show dueWhich ⟨1, 0, 0, (1 + a % 1073741824), 0, 0, 0, 1⟩ ⟨t0, (b % 1073741824), t2, t3⟩ = 1 from by unfold dueWhich; rw [if_pos hr, hS])
  have A3 := Lib.hid (show dueOk ⟨1, 0, 0, (1 + a % 1073741824), 0, 0, 0, 1⟩ ⟨t0, (b % 1073741824), t2, t3⟩ = true from by unfold dueOk; rw [A2.out]; rfl)
  have B3 := Lib.hid (show dueOk ⟨1, 0, 0, (1 + a % 1073741824), 0, 0, 0, 1⟩ ⟨-1, -1, -1, -1⟩ = false from by unfold dueOk dueWhich; rw [if_pos hr, hN]; rfl)
  have C3 := Lib.hid (show dueOk ⟨1, 0, 0, 0, 0, 0, 0, 1⟩ ⟨t0, (b % 1073741824), t2, t3⟩ = false from by unfold dueOk dueWhich; rw [if_pos hz, hZ]; rfl)
  have i0 : ∀ w, (Instr.index 44 (.agg #[.int .i64 3, .int .i64 1, .int .i64 2, .int .i64 4]) (.int .u8 1)).run Try.prog w = .ok (.int .i64 1) w := fun _ => by kernel_rfl
  clear hr hz hS hN hZ
  go_enter Try.func10, Try.ntmps10
  go_wp2_with fail
  obtain ⟨W0, hW, hxw, hall, hal2⟩ := box2 w #[.int .i64 t0, .int .i64 (b % 1073741824), .int .i64 t2, .int .i64 t3] 36 #[.int .i64 1, .int .i64 0, .int .i64 0, .int .i64 (1 + a % 1073741824), .int .i64 0, .int .i64 0, .int .i64 0, .int .i64 1] 23
  rw [← hW]; clear hW
  have hx := ext_refl W0
  go_wp2_with (first | (go_at_call 21; refine (due_calls _ _ _ _ _ _ _ _ _ _ _ _ _).mono ?_; (first | rw [A1.out, A2.out, A3.out] | rw [B3.out] | rw [C3.out]); rintro e w1 ⟨rfl, hb⟩; replace hx := ext_trans hx hb; clear hb) | (go_at_call 22; refine (awake15_calls _).mono ?_; rintro e w1 ⟨rfl, hb⟩; replace hx := ext_trans hx hb; clear hb))
  go_ret
  exact ⟨by first | rfl | simp, ext_trans hxw hx⟩
theorem each_walk2 (c a b t0 t1 t2 t3 : Int) (w : World) (hc : 0 ≤ c) (hc' : c ≤ 255) (ha : 0 ≤ a) (ha' : a ≤ 4294967295) (hb : 0 ≤ b) (hb' : b ≤ 4294967295) (hm : c % 4 = 2) :
    Calls Try.prog 10 #[.int .u8 c, .int .u32 a, .int .u32 b, .agg #[.int .i64 t0, .int .i64 t1, .int .i64 t2, .int .i64 t3]] w fun e w' => e = .returned (.bool true) ∧ Ext w w' := by
  have n1 : 1 ≤ 1 + a % 1073741824 ∧ 1 + a % 1073741824 ≤ 1073741824 := by omega
  have n2 : 0 ≤ b % 1073741824 ∧ b % 1073741824 ≤ 1073741823 := by omega
  obtain ⟨n1, n1'⟩ := n1; obtain ⟨n2, n2'⟩ := n2
  have hr : rightB ⟨1, 0, 0, 0, (1 + a % 1073741824), 0, 0, 1⟩ = true := by simp [rightB, tm]; omega
  have hz : rightB ⟨1, 0, 0, 0, 0, 0, 0, 1⟩ = true := by decide
  have hS : dueS ⟨1, 0, 0, 0, (1 + a % 1073741824), 0, 0, 1⟩ ⟨t0, t1, (b % 1073741824), t3⟩ = (2, b % 1073741824 + (1 + a % 1073741824)) := by
    simp only [dueS, step_zero]; rw [step_in _ _ _ (by omega) n2, plusF_small n2 (by omega) (by omega)]
  have hN : dueS ⟨1, 0, 0, 0, (1 + a % 1073741824), 0, 0, 1⟩ ⟨-1, -1, -1, -1⟩ = (0, 0) := by simp only [dueS, step_none, step_zero]
  have hZ : dueS ⟨1, 0, 0, 0, 0, 0, 0, 1⟩ ⟨t0, t1, (b % 1073741824), t3⟩ = (0, 0) := by simp only [dueS, step_zero]
  have A1 := Lib.hid (show dueAt ⟨1, 0, 0, 0, (1 + a % 1073741824), 0, 0, 1⟩ ⟨t0, t1, (b % 1073741824), t3⟩ = b % 1073741824 + (1 + a % 1073741824) from by unfold dueAt; rw [if_pos hr, hS])
  have A2 := Lib.hid (show dueWhich ⟨1, 0, 0, 0, (1 + a % 1073741824), 0, 0, 1⟩ ⟨t0, t1, (b % 1073741824), t3⟩ = 2 from by unfold dueWhich; rw [if_pos hr, hS])
  have A3 := Lib.hid (show dueOk ⟨1, 0, 0, 0, (1 + a % 1073741824), 0, 0, 1⟩ ⟨t0, t1, (b % 1073741824), t3⟩ = true from by unfold dueOk; rw [A2.out]; rfl)
  have B3 := Lib.hid (show dueOk ⟨1, 0, 0, 0, (1 + a % 1073741824), 0, 0, 1⟩ ⟨-1, -1, -1, -1⟩ = false from by unfold dueOk dueWhich; rw [if_pos hr, hN]; rfl)
  have C3 := Lib.hid (show dueOk ⟨1, 0, 0, 0, 0, 0, 0, 1⟩ ⟨t0, t1, (b % 1073741824), t3⟩ = false from by unfold dueOk dueWhich; rw [if_pos hz, hZ]; rfl)
  have i0 : ∀ w, (Instr.index 44 (.agg #[.int .i64 3, .int .i64 1, .int .i64 2, .int .i64 4]) (.int .u8 2)).run Try.prog w = .ok (.int .i64 2) w := fun _ => by kernel_rfl
  clear hr hz hS hN hZ
  go_enter Try.func10, Try.ntmps10
  go_wp2_with fail
  obtain ⟨W0, hW, hxw, hall, hal2⟩ := box2 w #[.int .i64 t0, .int .i64 t1, .int .i64 (b % 1073741824), .int .i64 t3] 36 #[.int .i64 1, .int .i64 0, .int .i64 0, .int .i64 0, .int .i64 (1 + a % 1073741824), .int .i64 0, .int .i64 0, .int .i64 1] 23
  rw [← hW]; clear hW
  have hx := ext_refl W0
  go_wp2_with (first | (go_at_call 21; refine (due_calls _ _ _ _ _ _ _ _ _ _ _ _ _).mono ?_; (first | rw [A1.out, A2.out, A3.out] | rw [B3.out] | rw [C3.out]); rintro e w1 ⟨rfl, hb⟩; replace hx := ext_trans hx hb; clear hb) | (go_at_call 22; refine (awake15_calls _).mono ?_; rintro e w1 ⟨rfl, hb⟩; replace hx := ext_trans hx hb; clear hb))
  go_ret
  exact ⟨by first | rfl | simp, ext_trans hxw hx⟩
theorem each_walk3 (c a b t0 t1 t2 t3 : Int) (w : World) (hc : 0 ≤ c) (hc' : c ≤ 255) (ha : 0 ≤ a) (ha' : a ≤ 4294967295) (hb : 0 ≤ b) (hb' : b ≤ 4294967295) (hm : c % 4 = 3) :
    Calls Try.prog 10 #[.int .u8 c, .int .u32 a, .int .u32 b, .agg #[.int .i64 t0, .int .i64 t1, .int .i64 t2, .int .i64 t3]] w fun e w' => e = .returned (.bool true) ∧ Ext w w' := by
  have n1 : 1 ≤ 1 + a % 1073741824 ∧ 1 + a % 1073741824 ≤ 1073741824 := by omega
  have n2 : 0 ≤ b % 1073741824 ∧ b % 1073741824 ≤ 1073741823 := by omega
  obtain ⟨n1, n1'⟩ := n1; obtain ⟨n2, n2'⟩ := n2
  have hr : rightB ⟨1, 0, 0, 0, 0, 0, (1 + a % 1073741824), 1⟩ = true := by simp [rightB, tm]; omega
  have hz : rightB ⟨1, 0, 0, 0, 0, 0, 0, 1⟩ = true := by decide
  have hS : dueS ⟨1, 0, 0, 0, 0, 0, (1 + a % 1073741824), 1⟩ ⟨t0, t1, t2, (b % 1073741824)⟩ = (4, b % 1073741824 + (1 + a % 1073741824)) := by
    simp only [dueS, step_zero]; rw [step_in _ _ _ (by omega) n2, plusF_small n2 (by omega) (by omega)]
  have hN : dueS ⟨1, 0, 0, 0, 0, 0, (1 + a % 1073741824), 1⟩ ⟨-1, -1, -1, -1⟩ = (0, 0) := by simp only [dueS, step_none, step_zero]
  have hZ : dueS ⟨1, 0, 0, 0, 0, 0, 0, 1⟩ ⟨t0, t1, t2, (b % 1073741824)⟩ = (0, 0) := by simp only [dueS, step_zero]
  have A1 := Lib.hid (show dueAt ⟨1, 0, 0, 0, 0, 0, (1 + a % 1073741824), 1⟩ ⟨t0, t1, t2, (b % 1073741824)⟩ = b % 1073741824 + (1 + a % 1073741824) from by unfold dueAt; rw [if_pos hr, hS])
  have A2 := Lib.hid (show dueWhich ⟨1, 0, 0, 0, 0, 0, (1 + a % 1073741824), 1⟩ ⟨t0, t1, t2, (b % 1073741824)⟩ = 4 from by unfold dueWhich; rw [if_pos hr, hS])
  have A3 := Lib.hid (show dueOk ⟨1, 0, 0, 0, 0, 0, (1 + a % 1073741824), 1⟩ ⟨t0, t1, t2, (b % 1073741824)⟩ = true from by unfold dueOk; rw [A2.out]; rfl)
  have B3 := Lib.hid (show dueOk ⟨1, 0, 0, 0, 0, 0, (1 + a % 1073741824), 1⟩ ⟨-1, -1, -1, -1⟩ = false from by unfold dueOk dueWhich; rw [if_pos hr, hN]; rfl)
  have C3 := Lib.hid (show dueOk ⟨1, 0, 0, 0, 0, 0, 0, 1⟩ ⟨t0, t1, t2, (b % 1073741824)⟩ = false from by unfold dueOk dueWhich; rw [if_pos hz, hZ]; rfl)
  have i0 : ∀ w, (Instr.index 44 (.agg #[.int .i64 3, .int .i64 1, .int .i64 2, .int .i64 4]) (.int .u8 3)).run Try.prog w = .ok (.int .i64 4) w := fun _ => by kernel_rfl
  clear hr hz hS hN hZ
  go_enter Try.func10, Try.ntmps10
  go_wp2_with fail
  obtain ⟨W0, hW, hxw, hall, hal2⟩ := box2 w #[.int .i64 t0, .int .i64 t1, .int .i64 t2, .int .i64 (b % 1073741824)] 36 #[.int .i64 1, .int .i64 0, .int .i64 0, .int .i64 0, .int .i64 0, .int .i64 0, .int .i64 (1 + a % 1073741824), .int .i64 1] 23
  rw [← hW]; clear hW
  have hx := ext_refl W0
  go_wp2_with (first | (go_at_call 21; refine (due_calls _ _ _ _ _ _ _ _ _ _ _ _ _).mono ?_; (first | rw [A1.out, A2.out, A3.out] | rw [B3.out] | rw [C3.out]); rintro e w1 ⟨rfl, hb⟩; replace hx := ext_trans hx hb; clear hb) | (go_at_call 22; refine (awake15_calls _).mono ?_; rintro e w1 ⟨rfl, hb⟩; replace hx := ext_trans hx hb; clear hb))
  go_ret
  exact ⟨by first | rfl | simp, ext_trans hxw hx⟩

theorem each_walk (c a b t0 t1 t2 t3 : Int) (w : World) (hc : 0 ≤ c) (hc' : c ≤ 255) (ha : 0 ≤ a) (ha' : a ≤ 4294967295) (hb : 0 ≤ b) (hb' : b ≤ 4294967295) :
    Calls Try.prog 10 #[.int .u8 c, .int .u32 a, .int .u32 b, .agg #[.int .i64 t0, .int .i64 t1, .int .i64 t2, .int .i64 t3]] w fun e w' => e = .returned (.bool true) ∧ Ext w w' := by
  have hm : c % 4 = 0 ∨ c % 4 = 1 ∨ c % 4 = 2 ∨ c % 4 = 3 := by omega
  rcases hm with hm | hm | hm | hm
  · exact each_walk0 c a b t0 t1 t2 t3 w hc hc' ha ha' hb hb' hm
  · exact each_walk1 c a b t0 t1 t2 t3 w hc hc' ha ha' hb hb' hm
  · exact each_walk2 c a b t0 t1 t2 t3 w hc hc' ha ha' hb hb' hm
  · exact each_walk3 c a b t0 t1 t2 t3 w hc hc' ha ha' hb hb' hm
end Go.Proofs.Ytnjagdhpiehlpaa

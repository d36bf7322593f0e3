/- The laws' helpers of layer 10: the chapter's examples. -/
import Derived.Test.YtpfkpdimjljeaaaH10b
namespace Go.Proofs.Ytpfkpdimjljeaaa
open Go.RowKit
set_option linter.unusedVariables false
set_option linter.unusedSimpArgs false

set_option maxRecDepth 100000 in
set_option maxHeartbeats 8000000 in
theorem awake10_calls (w : World) : Calls Try.prog 11 #[] w fun e w' => e = .returned (.bool true) ∧ Ext w w' := by
  go_enter Try.func11, Try.ntmps11
  go_wp2_with fail
  refine (pay_calls _).mono ?_
  rintro e w1 ⟨b1, rfl, hb, hr1⟩
  have x1 : Ext w w1 := hb
  clear hb
  have R1 := Lib.hid hr1; clear hr1
  go_wp2_with fail
  refine (ex_a b1 _ R1.out).mono ?_
  rintro e w2 ⟨ms2, cap2, rfl, hb, hr2⟩
  have x2 := ext_trans x1 hb
  have R2 := Lib.hid hr2
  clear hb hr2
  go_upto_region 2 with fail
  refine wp_at ?_
  intro W2 hW
  have y2 : Ext w2 W2 := by rw [hW]; repeat (first | exact ext_refl _ | assumption | refine ext_more' ?_ _ _ | refine ext_drew ?_ | refine ext_drewN ?_ _ | refine ext_alloc ?_ _)
  obtain ⟨l2, k2⟩ := box_facts (by rw [hW]; repeat (first | exact ext_refl _ | assumption | refine ext_more' ?_ _ _ | refine ext_drew ?_ | refine ext_drewN ?_ _ | refine ext_alloc ?_ _) : Ext (World.alloc w2 (.cells _ _)) W2)
  replace R2 := Lib.hid (rows_on2 R2.out y2)
  have x2' := ext_trans x2 y2
  clear hW x1 x2 y2 R1
  go_wp2_with fail
  refine (pay_calls _).mono ?_
  rintro e w3 ⟨b3, rfl, hb, hr3⟩
  obtain ⟨l2, k2⟩ := box_on hb l2 k2
  replace R2 := Lib.hid (rows_on2 R2.out hb)
  have x3 := ext_trans x2' hb
  have R3 := Lib.hid hr3
  clear hb hr3 x2'
  go_wp2_with fail
  refine (ex_b b3 w3.heap.size _ (rows_on2 R3.out (by repeat (first | exact ext_refl _ | assumption | refine ext_more' ?_ _ _ | refine ext_drew ?_ | refine ext_drewN ?_ _ | refine ext_alloc ?_ _))) (rows_of_box (by simp) (fun i => cell_alloc_new _ _ _ _) (fun i hi => ⟨rfl, fun k hk => by
    have hi' : i = 0 := by omega
    have hk' : k = 0 ∨ k = 1 ∨ k = 2 := by omega
    subst hi'
    rcases hk' with rfl | rfl | rfl <;> rfl⟩))).mono ?_
  rintro e w4 ⟨ms4, cap4, rfl, hb, hr4⟩
  have y4 : Ext w3 w4 := ext_trans (by repeat (first | exact ext_refl _ | assumption | refine ext_more' ?_ _ _ | refine ext_drew ?_ | refine ext_drewN ?_ _ | refine ext_alloc ?_ _)) hb
  obtain ⟨l2, k2⟩ := box_on y4 l2 k2
  replace R2 := Lib.hid (rows_on2 R2.out y4)
  have x4 := ext_trans x3 y4
  clear hb hr4 x3 y4 R3
  go_upto_region 3 with fail
  refine wp_at ?_
  intro W4 hW
  have y4 : Ext w4 W4 := by rw [hW]; repeat (first | exact ext_refl _ | assumption | refine ext_more' ?_ _ _ | refine ext_drew ?_ | refine ext_drewN ?_ _ | refine ext_alloc ?_ _)
  obtain ⟨l4, k4⟩ := box_facts (by rw [hW]; repeat (first | exact ext_refl _ | assumption | refine ext_more' ?_ _ _ | refine ext_drew ?_ | refine ext_drewN ?_ _ | refine ext_alloc ?_ _) : Ext (World.alloc w4 (.cells _ _)) W4)
  obtain ⟨l2, k2⟩ := box_on y4 l2 k2
  replace R2 := Lib.hid (rows_on2 R2.out y4)
  have x5 := ext_trans x4 y4
  clear hW x4 y4
  go_wp2_with fail
  refine (ex_c W4.heap.size _ (rows_of_box (by simp) (fun i => cell_alloc_new _ _ _ _) (fun i hi => ⟨rfl, fun k hk => by
    have hi' : i = 0 := by omega
    have hk' : k = 0 ∨ k = 1 ∨ k = 2 ∨ k = 3 ∨ k = 4 ∨ k = 5 := by omega
    subst hi'
    rcases hk' with rfl | rfl | rfl | rfl | rfl | rfl <;> rfl⟩))).mono ?_
  rintro e w6 ⟨ms6, cap6, rfl, hb, hr6⟩
  have y6 : Ext W4 w6 := ext_trans (by repeat (first | exact ext_refl _ | assumption | refine ext_more' ?_ _ _ | refine ext_drew ?_ | refine ext_drewN ?_ _ | refine ext_alloc ?_ _)) hb
  obtain ⟨l2, k2⟩ := box_on y6 l2 k2
  obtain ⟨l4, k4⟩ := box_on y6 l4 k4
  replace R2 := Lib.hid (rows_on2 R2.out y6)
  have x6 := ext_trans x5 y6
  clear hb hr6 x5 y6
  go_upto_region 4 with fail
  refine wp_at ?_
  intro W6 hW
  have y6 : Ext w6 W6 := by rw [hW]; repeat (first | exact ext_refl _ | assumption | refine ext_more' ?_ _ _ | refine ext_drew ?_ | refine ext_drewN ?_ _ | refine ext_alloc ?_ _)
  obtain ⟨l6, k6⟩ := box_facts (by rw [hW]; repeat (first | exact ext_refl _ | assumption | refine ext_more' ?_ _ _ | refine ext_drew ?_ | refine ext_drewN ?_ _ | refine ext_alloc ?_ _) : Ext (World.alloc w6 (.cells _ _)) W6)
  obtain ⟨l2, k2⟩ := box_on y6 l2 k2
  obtain ⟨l4, k4⟩ := box_on y6 l4 k4
  have x7 := ext_trans x6 y6
  obtain ⟨mb, mo, rfl, hmb, m0, m1, m2, m3, m4⟩ := cmd_cells R2.out y6 (show 0 < 1 by decide)
  simp only [List.getD_cons_zero, Nat.zero_mul, Nat.add_zero, paC] at m0 m1 m2 m3 m4
  clear hW x6 y6
  go_wp2
  go_ret
  exact ⟨rfl, x7⟩
end Go.Proofs.Ytpfkpdimjljeaaa

/- HeapNone. -/
import Derived.Test.YtkicofagjebnjaaN07n
namespace Go.Proofs.Ytkicofagjebnjaa
open Go.RowKit
set_option linter.unusedVariables false
set_option linter.unusedSimpArgs false

set_option maxRecDepth 100000 in
set_option maxHeartbeats 16000000 in
theorem none_walk (x : Tmr) (w : World) : Calls Try.prog 9 #[.agg #[.int .i64 x.due, .int .i64 x.id]] w fun e w' => e = .returned (.bool true) ∧ Ext w w' := by
  go_enter Try.func9, Try.ntmps9
  go_upto_region 3 with fail
  refine wp_at ?_
  intro W3 hW
  have x_W3 : Ext w W3 := by rw [hW]; repeat (first | exact ext_refl _ | assumption | refine ext_more' ?_ _ _ | refine ext_drew ?_ | refine ext_drewN ?_ _ | refine ext_alloc ?_ _)
  have hpb := at_new (by rw [hW]; repeat (first | exact ext_refl _ | assumption | refine ext_more' ?_ _ _ | refine ext_drew ?_ | refine ext_drewN ?_ _ | refine ext_alloc ?_ _) : Ext (World.alloc w (.cells _ _)) W3)
  have hzb := at_new (by rw [hW]; repeat (first | exact ext_refl _ | assumption | refine ext_more' ?_ _ _ | refine ext_drew ?_ | refine ext_drewN ?_ _ | refine ext_alloc ?_ _) : Ext ((World.alloc w (.cells _ _)).alloc (.cells _ _)) W3)
  have hab := at_new (by rw [hW]; repeat (first | exact ext_refl _ | assumption | refine ext_more' ?_ _ _ | refine ext_drew ?_ | refine ext_drewN ?_ _ | refine ext_alloc ?_ _) : Ext (((World.alloc w (.cells _ _)).alloc (.cells _ _)).alloc (.cells _ _)) W3)
  simp only [sz_alloc] at hzb hab
  clear hW
  have HPB := Lib.hid hpb; have HZB := Lib.hid hzb; have HAB := Lib.hid hab; have HX3 := Lib.hid x_W3
  clear hpb hzb hab x_W3
  go_loopg [19] 2 (fun gk k19 wr => ∃ (i : Nat), k19 = .int .i64 i ∧ gk + i = 2 ∧ Ext W3 wr)
  case atStart => exact ⟨0, rfl, rfl, by repeat (first | exact ext_refl _ | assumption | refine ext_more' ?_ _ _ | refine ext_drew ?_ | refine ext_drewN ?_ _ | refine ext_alloc ?_ _)⟩
  case round =>
    obtain ⟨i, rfl, hgi, hx⟩ := hrel
    have HX := Lib.hid hx
    clear hx
    by_cases hi : i < 2
    rotate_left
    · have n1 : ¬ ((i : Int) < 2) := by omega
      go_wp2_with (go_at_call 16; refine (awake07_calls _).mono ?_; rintro e wz ⟨rfl, hxa⟩; have HXA := Lib.hid hxa; clear hxa)
      go_ret
      exact ⟨rfl, ext_trans HX3.out (ext_trans HX.out (ext_trans (by repeat (first | exact ext_refl _ | assumption | refine ext_more' ?_ _ _ | refine ext_drew ?_ | refine ext_drewN ?_ _ | refine ext_alloc ?_ _)) HXA.out))⟩
    have n1 : (i : Int) < 2 := by omega
    have n0 : (0 : Int) ≤ (i : Int) := by omega
    obtain ⟨p, hpc, hpn⟩ : ∃ p, wr.cell? ⟨w.heap.size + 1 + 1, i, none⟩ = some p ∧ HNo wr p := by
      have ha := (at_ext HAB.out (by simp) HX.out).1 i
      rcases (show i = 0 ∨ i = 1 by omega) with rfl | rfl
      · exact ⟨_, ha, .inl rfl⟩
      · exact ⟨_, ha, .inr ⟨_, rfl, at_ext HZB.out (by simp) HX.out⟩⟩
    have hla := at_lt (at_ext HAB.out (by simp) HX.out) (by simp)
    have HNP := Lib.hid hpn
    have HPR := Lib.hid (at_ext HPB.out (sz2 _ _) HX.out)
    clear hpn
    go_upto_region 5 with fail
    refine wp_at ?_
    intro W5 hW
    have x_W5 : Ext wr W5 := by rw [hW]; repeat (first | exact ext_refl _ | assumption | refine ext_more' ?_ _ _ | refine ext_drew ?_ | refine ext_drewN ?_ _ | refine ext_alloc ?_ _)
    have HN5 := Lib.hid (HNP.out.ext x_W5)
    have P5 := Lib.hid (at_ext HPR.out (sz2 _ _) x_W5)
    have HX5 := Lib.hid (ext_trans HX.out x_W5)
    clear x_W5 hpc hla
    clear hW
    have kp := P5.out.1
    have lp := at_lt P5.out (sz2 _ _)
    go_upto_region 6 with (go_at_call 12; refine (drop_no p x.id _ (HN5.out.ext (by repeat (first | exact ext_refl _ | assumption | refine ext_more' ?_ _ _ | refine ext_drew ?_ | refine ext_drewN ?_ _ | refine ext_alloc ?_ _)))).mono ?_; rintro e v6 ⟨rfl, hx⟩; have HV6 := Lib.hid (ext_trans (show Ext W5 _ from by repeat (first | exact ext_refl _ | assumption | refine ext_more' ?_ _ _ | refine ext_drew ?_ | refine ext_drewN ?_ _ | refine ext_alloc ?_ _)) hx); clear hx)
    refine wp_at ?_
    intro W6 hW
    have x_W6 : Ext v6 W6 := by rw [hW]; repeat (first | exact ext_refl _ | assumption | refine ext_more' ?_ _ _ | refine ext_drew ?_ | refine ext_drewN ?_ _ | refine ext_alloc ?_ _)
    have e6 := ext_trans HV6.out x_W6
    have B6a := Lib.hid (at_new (by rw [hW]; repeat (first | exact ext_refl _ | assumption | refine ext_more' ?_ _ _ | refine ext_drew ?_ | refine ext_drewN ?_ _ | refine ext_alloc ?_ _) : Ext (World.alloc v6 (.cells _ _)) W6))
    have HN6 := Lib.hid (HN5.out.ext e6)
    have P6 := Lib.hid (at_ext P5.out (sz2 _ _) e6)
    have HX6 := Lib.hid (ext_trans HX5.out e6)
    clear x_W6 e6 HN5 P5 HX5 HV6 kp lp
    clear hW
    have kp := P6.out.1
    have lp := at_lt P6.out (sz2 _ _)
    go_upto_region 7 with (go_at_call 25; refine (get_no p x.id _ (HN6.out.ext (by repeat (first | exact ext_refl _ | assumption | refine ext_more' ?_ _ _ | refine ext_drew ?_ | refine ext_drewN ?_ _ | refine ext_alloc ?_ _)))).mono ?_; rintro e v7 ⟨rfl, hx⟩; have HV7 := Lib.hid (ext_trans (show Ext W6 _ from by repeat (first | exact ext_refl _ | assumption | refine ext_more' ?_ _ _ | refine ext_drew ?_ | refine ext_drewN ?_ _ | refine ext_alloc ?_ _)) hx); clear hx)
    refine wp_at ?_
    intro W7 hW
    have x_W7 : Ext v7 W7 := by rw [hW]; repeat (first | exact ext_refl _ | assumption | refine ext_more' ?_ _ _ | refine ext_drew ?_ | refine ext_drewN ?_ _ | refine ext_alloc ?_ _)
    have e7 := ext_trans HV7.out x_W7
    have B7b := Lib.hid (at_new (by rw [hW]; repeat (first | exact ext_refl _ | assumption | refine ext_more' ?_ _ _ | refine ext_drew ?_ | refine ext_drewN ?_ _ | refine ext_alloc ?_ _) : Ext (World.alloc v7 (.cells _ _)) W7))
    have B7a := Lib.hid (at_ext B6a.out (sz2 _ _) e7)
    have HN7 := Lib.hid (HN6.out.ext e7)
    have P7 := Lib.hid (at_ext P6.out (sz2 _ _) e7)
    have HX7 := Lib.hid (ext_trans HX6.out e7)
    clear x_W7 e7 HN6 P6 HX6 HV7 kp lp B6a
    clear hW
    have kp := P7.out.1
    have lp := at_lt P7.out (sz2 _ _)
    go_upto_region 8 with (go_at_call 18; refine (next_no p _ (HN7.out.ext (by repeat (first | exact ext_refl _ | assumption | refine ext_more' ?_ _ _ | refine ext_drew ?_ | refine ext_drewN ?_ _ | refine ext_alloc ?_ _)))).mono ?_; rintro e v8 ⟨rfl, hx⟩; have HV8 := Lib.hid (ext_trans (show Ext W7 _ from by repeat (first | exact ext_refl _ | assumption | refine ext_more' ?_ _ _ | refine ext_drew ?_ | refine ext_drewN ?_ _ | refine ext_alloc ?_ _)) hx); clear hx)
    refine wp_at ?_
    intro W8 hW
    have x_W8 : Ext v8 W8 := by rw [hW]; repeat (first | exact ext_refl _ | assumption | refine ext_more' ?_ _ _ | refine ext_drew ?_ | refine ext_drewN ?_ _ | refine ext_alloc ?_ _)
    have e8 := ext_trans HV8.out x_W8
    have B8c := Lib.hid (at_new (by rw [hW]; repeat (first | exact ext_refl _ | assumption | refine ext_more' ?_ _ _ | refine ext_drew ?_ | refine ext_drewN ?_ _ | refine ext_alloc ?_ _) : Ext (World.alloc v8 (.cells _ _)) W8))
    have B8a := Lib.hid (at_ext B7a.out (sz2 _ _) e8)
    have B8b := Lib.hid (at_ext B7b.out (sz2 _ _) e8)
    have HN8 := Lib.hid (HN7.out.ext e8)
    have P8 := Lib.hid (at_ext P7.out (sz2 _ _) e8)
    have HX8 := Lib.hid (ext_trans HX7.out e8)
    clear x_W8 e8 HN7 P7 HX7 HV8 kp lp B7a B7b
    clear hW
    have kp := P8.out.1
    have lp := at_lt P8.out (sz2 _ _)
    go_upto_region 9 with (go_at_call 13; refine (pop_no p _ (HN8.out.ext (by repeat (first | exact ext_refl _ | assumption | refine ext_more' ?_ _ _ | refine ext_drew ?_ | refine ext_drewN ?_ _ | refine ext_alloc ?_ _)))).mono ?_; rintro e v9 ⟨rfl, hx⟩; have HV9 := Lib.hid (ext_trans (show Ext W8 _ from by repeat (first | exact ext_refl _ | assumption | refine ext_more' ?_ _ _ | refine ext_drew ?_ | refine ext_drewN ?_ _ | refine ext_alloc ?_ _)) hx); clear hx)
    refine wp_at ?_
    intro W9 hW
    have x_W9 : Ext v9 W9 := by rw [hW]; repeat (first | exact ext_refl _ | assumption | refine ext_more' ?_ _ _ | refine ext_drew ?_ | refine ext_drewN ?_ _ | refine ext_alloc ?_ _)
    have e9 := ext_trans HV9.out x_W9
    have B9d := Lib.hid (at_new (by rw [hW]; repeat (first | exact ext_refl _ | assumption | refine ext_more' ?_ _ _ | refine ext_drew ?_ | refine ext_drewN ?_ _ | refine ext_alloc ?_ _) : Ext (World.alloc v9 (.cells _ _)) W9))
    have B9a := Lib.hid (at_ext B8a.out (sz2 _ _) e9)
    have B9b := Lib.hid (at_ext B8b.out (sz2 _ _) e9)
    have B9c := Lib.hid (at_ext B8c.out (sz2 _ _) e9)
    have HN9 := Lib.hid (HN8.out.ext e9)
    have P9 := Lib.hid (at_ext P8.out (sz2 _ _) e9)
    have HX9 := Lib.hid (ext_trans HX8.out e9)
    clear x_W9 e9 HN8 P8 HX8 HV9 kp lp B8a B8b B8c
    clear hW
    have kp := box_all (at_lt P9.out (sz2 _ _)) P9.out.1
    have kp0 := kp W9 (ext_refl _)
    have lp := at_lt P9.out (sz2 _ _)
    have ka := box_all (at_lt B9a.out (sz2 _ _)) B9a.out.1
    have ka0 := ka W9 (ext_refl _)
    have la := at_lt B9a.out (sz2 _ _)
    have kb := box_all (at_lt B9b.out (sz2 _ _)) B9b.out.1
    have kb0 := kb W9 (ext_refl _)
    have lb := at_lt B9b.out (sz2 _ _)
    have kc := box_all (at_lt B9c.out (sz2 _ _)) B9c.out.1
    have kc0 := kc W9 (ext_refl _)
    have lc := at_lt B9c.out (sz2 _ _)
    have kd := box_all (at_lt B9d.out (sz2 _ _)) B9d.out.1
    have kd0 := kd W9 (ext_refl _)
    have ld := at_lt B9d.out (sz2 _ _)
    go_upto_region 11 with (first
      | (go_at_call 22; refine (put_no p x _ (HN9.out.ext (by repeat (first | exact ext_refl _ | assumption | refine ext_more' ?_ _ _ | refine ext_drew ?_ | refine ext_drewN ?_ _ | refine ext_alloc ?_ _)))).mono ?_; rintro e q1 ⟨rfl, hx⟩; replace hx := ext_trans (show Ext W9 _ from by repeat (first | exact ext_refl _ | assumption | refine ext_more' ?_ _ _ | refine ext_drew ?_ | refine ext_drewN ?_ _ | refine ext_alloc ?_ _)) hx)
      | (go_at_call 17; refine (due_no p x.due _ (HN9.out.ext (by repeat (first | exact ext_refl _ | assumption | refine ext_more' ?_ _ _ | refine ext_drew ?_ | refine ext_drewN ?_ _ | refine ext_alloc ?_ _)))).mono ?_; rintro e q2 ⟨rfl, hx⟩; replace hx := ext_trans (show Ext W9 _ from by repeat (first | exact ext_refl _ | assumption | refine ext_more' ?_ _ _ | refine ext_drew ?_ | refine ext_drewN ?_ _ | refine ext_alloc ?_ _)) hx)
      | (go_at_call 20; refine (all_no p _ (HN9.out.ext (by repeat (first | exact ext_refl _ | assumption | refine ext_more' ?_ _ _ | refine ext_drew ?_ | refine ext_drewN ?_ _ | refine ext_alloc ?_ _)))).mono ?_; rintro e q3 ⟨⟨msq, capq, rfl⟩, hx⟩; replace hx := ext_trans (show Ext W9 _ from by repeat (first | exact ext_refl _ | assumption | refine ext_more' ?_ _ _ | refine ext_drew ?_ | refine ext_drewN ?_ _ | refine ext_alloc ?_ _)) hx)
      | (go_at_call 15; refine (len_no p _ (HN9.out.ext (by repeat (first | exact ext_refl _ | assumption | refine ext_more' ?_ _ _ | refine ext_drew ?_ | refine ext_drewN ?_ _ | refine ext_alloc ?_ _)))).mono ?_; rintro e q4 ⟨rfl, hx⟩; replace hx := ext_trans (show Ext W9 _ from by repeat (first | exact ext_refl _ | assumption | refine ext_more' ?_ _ _ | refine ext_drew ?_ | refine ext_drewN ?_ _ | refine ext_alloc ?_ _)) hx))
    refine wp_at ?_
    intro W11 hW
    have x11 : Ext W9 W11 := by rw [hW]; repeat (first | exact ext_refl _ | assumption | refine ext_more' ?_ _ _ | refine ext_drew ?_ | refine ext_drewN ?_ _ | refine ext_alloc ?_ _)
    have HX11 := Lib.hid (ext_trans HX9.out x11)
    clear hW x11 kp kp0 lp ka ka0 la kb kb0 lb kc kc0 lc kd kd0 ld
    go_wp2
    go_roundg (gk - 1)
    case measure => omega
    case rel => exact ⟨i + 1, by go_num, by omega, HX11.out⟩
end Go.Proofs.Ytkicofagjebnjaa

/- HistoryStops. -/
import Derived.Test.YthpgmefjgidkgaaVC12
import Derived.Test.YthpgmefjgidkgaaS12e
namespace Go.Proofs.Ythpgmefjgidkgaa
open Go.RowKit
set_option linter.unusedVariables false
set_option linter.unusedSimpArgs false

theorem mn_cast12 (a b : Nat) : mn (a : Int) (b : Int) = ((min a b : Nat) : Int) := by unfold mn; split <;> omega
set_option maxRecDepth 100000 in
set_option maxHeartbeats 4000000 in
theorem stops_walk (s : Option Addr) (cap : Nat) (l : List Ev) (w : World) (hrows : Rows_ w s l.length 7 (fun i => evC (l.getD i default))) (hcap : l.length ≤ cap) (hmax : cap ≤ maxLen) (hu : ∀ i, i < l.length → 0 ≤ (l.getD i default).k ∧ (l.getD i default).k ≤ 255) :
    Calls Try.prog 7 #[.slice s l.length cap] w fun e w' => e = .returned (.bool true) ∧ Ext w w' := by
  have HROWS := Lib.hid hrows; have HU := Lib.hid hu
  clear hrows hu
  have hm : cap ≤ 9223372036854775807 := by unfold maxLen at hmax; exact hmax
  obtain ⟨L, hL⟩ : ∃ L, L = l.take 80 := ⟨_, rfl⟩
  have hLl : L.length = min l.length 80 := by rw [hL, List.length_take]; omega
  have hget : ∀ i, i < L.length → L.getD i default = l.getD i default := fun i hi => by
    rw [hL]; simp only [List.getD_eq_getElem?_getD]; rw [List.getElem?_take_of_lt (by omega)]
  have HRL := Lib.hid (show Rows_ w s L.length 7 (fun i => evC (L.getD i default)) from rows_cong2 (rows_take HROWS.out (by omega)) (fun i hi => by rw [hget i hi]))
  have HUL := Lib.hid (show ∀ i, i < L.length → 0 ≤ (L.getD i default).k ∧ (L.getD i default).k ≤ 255 from fun i hi => by rw [hget i hi]; exact HU.out i (by omega))
  have q1 : mn (l.length : Int) 80 = (L.length : Int) := by rw [show (80 : Int) = ((80 : Nat) : Int) from rfl, mn_cast12, hLl]
  have hl80 : L.length ≤ 80 := by omega
  have hlc : L.length ≤ cap := by omega
  have hP := fh_P (foldN_ok L)
  have hn : foldN L ≤ 80 := by have := foldN_le L; omega
  have HP := Lib.hid (show FhP (foldH L) (foldN L) from hP)
  obtain ⟨h, hh⟩ : ∃ h, h = foldH L := ⟨_, rfl⟩
  obtain ⟨n, hnn⟩ : ∃ n, n = foldN L := ⟨_, rfl⟩
  rw [← hh, ← hnn] at HP
  rw [← hnn] at hn
  have HHH := Lib.hid hh.symm; have HNN := Lib.hid hnn.symm
  clear hL hLl hget hP hh hnn
  go_enter Try.func7, Try.ntmps7
  go_wp2_with fail
  refine (few_calls _ _ l _ hcap (by unfold maxLen at hmax; omega) HROWS.out).mono ?_
  rintro e w1 ⟨⟨g, rfl⟩, hb⟩
  have X1 := Lib.hid hb
  clear hb
  cases g
  · go_wp2_with (go_at_call 9; refine (awake12_calls _).mono ?_; rintro e w9 ⟨rfl, hb9⟩)
    go_ret
    exact ⟨rfl, ext_trans X1.out hb9⟩
  go_upto_region 4 with (go_at_call 16; refine (fold_calls _ cap L _ (rows_on2 HRL.out X1.out) (by omega) hlc HUL.out).mono ?_; rintro e v3 ⟨m3, rfl, hi3, hb3⟩; rw [HHH.out, HNN.out]; rw [HHH.out] at hi3; simp only [hC]; have HI3 := Lib.hid hi3; clear hi3)
  refine wp_at ?_
  intro W3 hW
  have x3 : Ext w1 W3 := by rw [hW]; repeat (first | exact ext_refl _ | assumption | refine ext_more' ?_ _ _ | refine ext_drew ?_ | refine ext_drewN ?_ _ | refine ext_alloc ?_ _)
  have bh := at_new (by rw [hW]; repeat (first | exact ext_refl _ | assumption | refine ext_more' ?_ _ _ | refine ext_drew ?_ | refine ext_drewN ?_ _ | refine ext_alloc ?_ _) : Ext (World.alloc v3 (.cells _ _)) W3)
  have y3 : Ext v3 W3 := by rw [hW]; repeat (first | exact ext_refl _ | assumption | refine ext_more' ?_ _ _ | refine ext_drew ?_ | refine ext_drewN ?_ _ | refine ext_alloc ?_ _)
  clear hW
  have HI3' := Lib.hid (HI3.out.ext y3)
  have HX3 := Lib.hid (ext_trans X1.out x3)
  clear y3 HI3 hb3 x3 X1
  have k_bh := bh.1
  have l_bh := at_lt bh (by simp)
  by_cases h0 : h.len = 0
  · have g0 : (h.len == 0) = true := by simpa using h0
    clear h0
    go_wp2_with (go_at_call 9; refine (awake12_calls _).mono ?_; rintro e w9 ⟨rfl, hb9⟩)
    go_ret
    exact ⟨rfl, ext_trans HX3.out hb9⟩
  have g0 : (h.len == 0) = false := by simpa using h0
  have H0 := Lib.hid h0; clear h0
  cases hc : h.closed
  rotate_left
  · go_wp2_with (go_at_call 9; refine (awake12_calls _).mono ?_; rintro e w9 ⟨rfl, hb9⟩)
    go_ret
    exact ⟨rfl, ext_trans HX3.out hb9⟩
  cases hs : h.stopped
  rotate_left
  · go_wp2_with (go_at_call 9; refine (awake12_calls _).mono ?_; rintro e w9 ⟨rfl, hb9⟩)
    go_ret
    exact ⟨rfl, ext_trans HX3.out hb9⟩
  have P1 := stop_1 HP.out H0.out hc hs
  have P2 := stop_2 HP.out H0.out hc
  have P3 := stop_3 HP.out H0.out hc
  have hst : (stopped h).stopped = true := rfl
  obtain ⟨x, hx⟩ : ∃ x, x = stopped h := ⟨_, rfl⟩
  obtain ⟨y, hy⟩ : ∃ y, y = putH (stopped h) (sigE h) := ⟨_, rfl⟩
  rw [← hy] at P3
  rw [← hx] at P1 P2 P3 hst
  have N1 := Lib.hid P1.1; have HPX := Lib.hid P1.2; have N2 := Lib.hid P2; have N3 := Lib.hid P3.1; have HSG := Lib.hid P3.2; have HST := Lib.hid hst
  clear P1 P2 P3 hst hx hy
  go_upto_region 7 with fail
  clear k_bh l_bh
  refine wp_at ?_
  intro W7 hW
  have x7 : Ext W3 W7 := by rw [hW]; repeat (first | exact ext_refl _ | assumption | refine ext_more' ?_ _ _ | refine ext_drew ?_ | refine ext_drewN ?_ _ | refine ext_alloc ?_ _)
  have be := at_new (by rw [hW]; repeat (first | exact ext_refl _ | assumption | refine ext_more' ?_ _ _ | refine ext_drew ?_ | refine ext_drewN ?_ _ | refine ext_alloc ?_ _) : Ext (World.alloc W3 (.cells _ _)) W7)
  clear hW
  replace bh := at_ext bh (by simp) x7
  have HI37 := Lib.hid (HI3'.out.ext x7)
  have HX7 := Lib.hid (ext_trans HX3.out x7)
  clear x7 HX3 HI3' hc hs g0
  have k_bh := bh.1
  have l_bh := at_lt bh (by simp)
  have k_be := be.1
  have l_be := at_lt be (by simp)
  go_upto_region 8 with (go_at_call 10; (refine (nextF_calls h m3 (stopE h) _ n HP.out ?lq81 (HI37.out.ext ?lq82) ?lq83 ?lq84).mono ?_); (case lq81 => omega); (case lq82 => repeat (first | exact ext_refl _ | assumption | refine ext_more' ?_ _ _ | refine ext_drew ?_ | refine ext_drewN ?_ _ | refine ext_alloc ?_ _)); (case lq83 => first | decide | simp [stopE, sigE]); (case lq84 => first | decide | simp [stopE, sigE]); rintro e v8 ⟨m8, rfl, hi8, hb8⟩; rw [N1.out]; rw [N1.out] at hi8; replace hi8 := OwnsH.hsin hi8; simp only [hC]; have HI8 := Lib.hid hi8; have HBB8 := Lib.hid hb8; clear hi8)
  clear k_bh l_bh k_be l_be
  refine wp_at ?_
  intro W8 hW
  have x8 : Ext W7 W8 := by rw [hW]; repeat (first | exact ext_refl _ | assumption | refine ext_more' ?_ _ _ | refine ext_drew ?_ | refine ext_drewN ?_ _ | refine ext_alloc ?_ _)
  have bx := at_new (by rw [hW]; repeat (first | exact ext_refl _ | assumption | refine ext_more' ?_ _ _ | refine ext_drew ?_ | refine ext_drewN ?_ _ | refine ext_alloc ?_ _) : Ext (World.alloc v8 (.cells _ _)) W8)
  have y8 : Ext v8 W8 := by rw [hW]; repeat (first | exact ext_refl _ | assumption | refine ext_more' ?_ _ _ | refine ext_drew ?_ | refine ext_drewN ?_ _ | refine ext_alloc ?_ _)
  clear hW
  replace bh := at_ext bh (by simp) x8
  replace be := at_ext be (by simp) x8
  have HI8' := Lib.hid (HI8.out.ext y8)
  have HX8 := Lib.hid (ext_trans HX7.out x8)
  clear x8 y8 HI8 HBB8 HX7 HI37
  have k_bx := bx.1
  have l_bx := at_lt bx (by simp)
  have k_be := be.1
  have l_be := at_lt be (by simp)
  go_upto_region 9 with (go_at_call 10; (refine (nextF_calls x m8 (stopE h) _ (n + 1) HPX.out ?lq91 (HI8'.out.ext ?lq92) ?lq93 ?lq94).mono ?_); (case lq91 => omega); (case lq92 => repeat (first | exact ext_refl _ | assumption | refine ext_more' ?_ _ _ | refine ext_drew ?_ | refine ext_drewN ?_ _ | refine ext_alloc ?_ _)); (case lq93 => first | decide | simp [stopE, sigE]); (case lq94 => first | decide | simp [stopE, sigE]); rintro e v9 ⟨m9, rfl, hi9, hb9⟩; rw [N2.out]; rw [N2.out] at hi9; replace hi9 := OwnsH.hsin hi9; simp only [hC]; have HI9 := Lib.hid hi9; have HBB9 := Lib.hid hb9; clear hi9)
  clear k_bx l_bx k_be l_be
  refine wp_at ?_
  intro W9 hW
  have x9 : Ext W8 W9 := by rw [hW]; repeat (first | exact ext_refl _ | assumption | refine ext_more' ?_ _ _ | refine ext_drew ?_ | refine ext_drewN ?_ _ | refine ext_alloc ?_ _)
  clear hW
  replace bh := at_ext bh (by simp) x9
  replace bx := at_ext bx (by simp) x9
  have HI89 := Lib.hid (HI8'.out.ext x9)
  have HX9 := Lib.hid (ext_trans HX8.out x9)
  clear x9 HI9 HBB9 HX8 HI8' be
  have k_bx := bx.1
  have l_bx := at_lt bx (by simp)
  have k_bh := bh.1
  have l_bh := at_lt bh (by simp)
  go_upto_region 10 with (go_at_call 10; (refine (nextF_calls x m8 (sigE h) _ (n + 1) HPX.out ?lq101 (HI89.out.ext ?lq102) ?lq103 ?lq104).mono ?_); (case lq101 => omega); (case lq102 => repeat (first | exact ext_refl _ | assumption | refine ext_more' ?_ _ _ | refine ext_drew ?_ | refine ext_drewN ?_ _ | refine ext_alloc ?_ _)); (case lq103 => first | decide | simp [stopE, sigE]); (case lq104 => first | decide | simp [stopE, sigE]); rintro e v10 ⟨m10, rfl, hi10, hb10⟩; rw [N3.out]; rw [N3.out] at hi10; replace hi10 := OwnsH.hsin hi10; simp only [hC]; have HI10 := Lib.hid hi10; have HBB10 := Lib.hid hb10; clear hi10)
  clear k_bx l_bx k_bh l_bh
  refine wp_at ?_
  intro W10 hW
  have x10 : Ext W9 W10 := by rw [hW]; repeat (first | exact ext_refl _ | assumption | refine ext_more' ?_ _ _ | refine ext_drew ?_ | refine ext_drewN ?_ _ | refine ext_alloc ?_ _)
  have by_ := at_new (by rw [hW]; repeat (first | exact ext_refl _ | assumption | refine ext_more' ?_ _ _ | refine ext_drew ?_ | refine ext_drewN ?_ _ | refine ext_alloc ?_ _) : Ext (World.alloc v10 (.cells _ _)) W10)
  clear hW
  replace bh := at_ext bh (by simp) x10
  replace bx := at_ext bx (by simp) x10
  have HX10 := Lib.hid (ext_trans HX9.out x10)
  clear x10 HI10 HBB10 HX9 HI89
  have k_bx := bx.1
  have l_bx := at_lt bx (by simp)
  have k_bh := bh.1
  have l_bh := at_lt bh (by simp)
  have k_by_ := by_.1
  have l_by_ := at_lt by_ (by simp)
  have g1 : ((y.sigs.length : Int) == (h.sigs.length : Int) + 1) = true := by rw [HSG.out]; simp
  have hx1 := HST.out
  have hsl : h.sigs.length ≤ 100000 := by have := HP.out.sl; omega
  go_wp2_with (go_at_call 9; refine (awake12_calls _).mono ?_; rintro e w12 ⟨rfl, hb12⟩)
  go_ret
  exact ⟨rfl, ext_trans HX10.out (by repeat (first | exact ext_refl _ | assumption | refine ext_more' ?_ _ _ | refine ext_drew ?_ | refine ext_drewN ?_ _ | refine ext_alloc ?_ _))⟩
end Go.Proofs.Ythpgmefjgidkgaa

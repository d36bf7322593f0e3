/- One of a heap goes. -/
import Derived.Test.YtkicofagjebnjaaD07
namespace Go.Proofs.Ytkicofagjebnjaa
open Go.RowKit
set_option linter.unusedVariables false
set_option linter.unusedSimpArgs false

set_option maxRecDepth 100000 in
set_option maxHeartbeats 8000000 in
theorem take_calls (l : List Tmr) (M : List (Int × Value)) (i hb mb g cap : Nat) (most : Int) (w : World) (hs : HpS w hb mb g cap most l M) (hp : Hp l) (hids : Ids l) (hil : i < l.length) (hln : l.length ≤ 100000) (hd1 : g ≠ hb) (hd2 : mb ≠ hb) (hd5 : g ≠ mb) :
    Calls Try.prog 34 #[.pointer (some ⟨hb, 0, none⟩), .int .i64 i] w fun e w' => e = .returned (.agg #[.int .i64 (at_ l i).due, .int .i64 (at_ l i).id]) ∧ Chg (fun q => q = hb ∨ q = g ∨ q = mb) w w' ∧ TakePost w' hb mb g cap most l i := by
  have HH := Lib.hid hs.box; have HO := Lib.hid hs.row; have HM := Lib.hid hs.map
  have hg0 : g < w.heap.size := own_lt hs.row
  have hb0 : hb < w.heap.size := at_lt hs.box (by simp)
  have hm0 : mb < w.heap.size := hs.map.lt
  have hcap : l.length ≤ cap := (cap_of_own (n := 2) hs.row).1
  obtain ⟨last, hlast⟩ : ∃ last, last = l.length - 1 := ⟨_, rfl⟩
  have hle : (l.length : Int) - 1 = (last : Int) := by omega
  have hll : last < l.length := by omega
  have hwl : IntKind.i64.wrap (last : Int) = (last : Int) := IntWalk.i64_in _ (by omega)
  have hlc : (last : Int) ≤ (cap : Int) := by omega
  obtain ⟨x, hx⟩ : ∃ x, x = at_ l i := ⟨_, rfl⟩
  obtain ⟨y, hy⟩ : ∃ y, y = at_ l last := ⟨_, rfl⟩
  have HYY := Lib.hid hy
  have HXX := Lib.hid hx
  have hlast' := Lib.hid hlast
  have HSI := Lib.hid (show at_ (l.set i y) i = y by rw [at_set_ hil, if_pos rfl])
  have HRP := Lib.hid (show rep l i = (l.set i y).take last by unfold rep; rw [hy, hlast])
  have HRL := Lib.hid (show (rep l i).length = last by rw [rep_length hil, hlast])
  have HFR := Lib.hid (fits_rep hs.fits hids hs.keys hil)
  have HKR := Lib.hid (show Keys (mdel x.id (mput y.id (.int .i64 (i : Nat)) M)) from keys_del (keys_put hs.keys))
  have HIR := Lib.hid (show Ids (rep l i) from (List.nodup_cons.1 (hids.perm (rep_perm hil).symm)).2)
  have HPB := Lib.hid (hp_rep hp hil)
  have HPL := Lib.hid (fun h : i = l.length - 1 => hp_rep_last hp h (by omega))
  have i0 : (0 : Int) ≤ (i : Int) := by omega
  have i1 : (i : Int) < (l.length : Int) := by omega
  have l0 : (0 : Int) ≤ (last : Int) := by omega
  have l1 : (last : Int) < (l.length : Int) := by omega
  rw [← hlast, ← hy, ← hx] at HFR
  rw [← hx]
  clear hs hp hids hx hy hlast
  go_enter Try.func34, Try.ntmps34
  go_upto_region 1 with fail
  refine wp_at ?_
  intro W1 hW
  have x1 : Ext w W1 := by rw [hW]; repeat (first | exact ext_refl _ | assumption | refine ext_more' ?_ _ _ | refine ext_drew ?_ | refine ext_drewN ?_ _ | refine ext_alloc ?_ _)
  have br := at_new (by rw [hW]; repeat (first | exact ext_refl _ | assumption | refine ext_more' ?_ _ _ | refine ext_drew ?_ | refine ext_drewN ?_ _ | refine ext_alloc ?_ _) : Ext (World.alloc w (.cells _ _)) W1)
  clear hW
  have hbh := at_ext HH.out (by simp) x1
  have hor := own_ext HO.out x1
  have hmr := HM.out.ext x1
  have lg := own_lt hor
  obtain ⟨a0, a1⟩ := row_cells rfl hor hil
  rw [← HXX.out] at a0 a1
  have z1 := x1.size
  refine wp_region_held_drew (S := fun w' => Ext W1 w') (by kernel_rfl) (ext_drew (ext_refl _)) (fun hHeld => ?_)
  refine wpAnyH_take' (i := 0) (v := ?v0_609) (some 7) rfl rfl (by kernel_rfl) (by kernel_rfl) (by kernel_rfl) (fun _ _ _ h => h) (Or.inl ⟨by kernel_rfl, ?y0_609⟩) (hHeld) ?_
  case y0_609 =>
    intro w' hSw
    go_simp
    try with_reducible rfl
  refine wpAnyH_take' (i := 1) (v := ?v1_610) (some 8) rfl rfl (by kernel_rfl) (by kernel_rfl) (by kernel_rfl) (fun _ _ _ h => h) (Or.inl ⟨by kernel_rfl, ?y1_610⟩) (hHeld) ?_
  case y1_610 =>
    intro w' hSw
    go_simp
    try with_reducible rfl
  refine wpAnyH_take' (i := 2) (v := ?v2_611) (some 9) rfl rfl (by kernel_rfl) (by kernel_rfl) (by kernel_rfl) (fun _ _ _ h => h) (Or.inl ⟨by kernel_rfl, ?y2_611⟩) (hHeld) ?_
  case y2_611 =>
    intro w' hSw
    go_simp
    try with_reducible rfl
  refine wpAnyH_take' (i := 3) (v := ?v3_612) (some 10) rfl rfl (by kernel_rfl) (by kernel_rfl) (by kernel_rfl) (fun _ _ _ h => h) (Or.inl ⟨by kernel_rfl, ?y3_612⟩) (hHeld) ?_
  case y3_612 =>
    intro w' hSw
    have kh' := (at_ext hbh (by simp) hSw).1; go_simp
    try with_reducible rfl
  refine wpAnyH_take' (i := 4) (v := ?v4_613) (some 11) rfl rfl (by kernel_rfl) (by kernel_rfl) (by kernel_rfl) (fun _ _ _ h => h) (Or.inl ⟨by kernel_rfl, ?y4_613⟩) (hHeld) ?_
  case y4_613 =>
    intro w' hSw
    go_simp
    try with_reducible rfl
  refine wpAnyH_take' (i := 5) (v := ?v5_614) (some 12) rfl rfl (by kernel_rfl) (by kernel_rfl) (by kernel_rfl) (fun _ _ _ h => h) (Or.inl ⟨by kernel_rfl, ?y5_614⟩) (hHeld) ?_
  case y5_614 =>
    intro w' hSw
    go_simp
    try with_reducible rfl
  refine wpAnyH_take' (i := 6) (v := ?v6_615) (some 13) rfl rfl (by kernel_rfl) (by kernel_rfl) (by kernel_rfl) (fun _ _ _ h => h) (Or.inl ⟨by kernel_rfl, ?y6_615⟩) (hHeld) ?_
  case y6_615 =>
    intro w' hSw
    have r0' := (hSw.cell (p := ⟨g, i * 2, none⟩) lg).trans a0; have r1' := (hSw.cell (p := ⟨g, i * 2 + 1, none⟩) lg).trans a1; go_simp
    try with_reducible rfl
  refine wpAnyH_take' (i := 7) (v := ?v7_616) (some 14) rfl rfl (by kernel_rfl) (by kernel_rfl) (by kernel_rfl) (fun _ _ _ h => h) (Or.inl ⟨by kernel_rfl, ?y7_616⟩) (hHeld) ?_
  case y7_616 =>
    intro w' hSw
    go_simp
    try with_reducible rfl
  refine wpAnyH_take' (i := 8) (v := ?v8_617) (some 15) rfl rfl (by kernel_rfl) (by kernel_rfl) (by kernel_rfl) (fun _ _ _ h => h) (Or.inl ⟨by kernel_rfl, ?y8_617⟩) (hHeld) ?_
  case y8_617 =>
    intro w' hSw
    go_simp
    try with_reducible rfl
  refine wpAnyH_take' (i := 9) (v := ?v9_618) (some 16) rfl rfl (by kernel_rfl) (by kernel_rfl) (by kernel_rfl) (fun _ _ _ h => h) (Or.inl ⟨by kernel_rfl, ?y9_618⟩) (hHeld) ?_
  case y9_618 =>
    intro w' hSw
    go_simp
    try with_reducible rfl
  refine wpAnyH_take' (i := 10) (v := ?v10_619) (some 17) rfl rfl (by kernel_rfl) (by kernel_rfl) (by kernel_rfl) (fun _ _ _ h => h) (Or.inl ⟨by kernel_rfl, ?y10_619⟩) (hHeld) ?_
  case y10_619 =>
    intro w' hSw
    have kh' := (at_ext hbh (by simp) hSw).1; go_simp
    try with_reducible rfl
  refine wpAnyH_take' (i := 11) (v := ?v11_620) (some 18) rfl rfl (by kernel_rfl) (by kernel_rfl) (by kernel_rfl) (fun _ _ _ h => h) (Or.inl ⟨by kernel_rfl, ?y11_620⟩) (hHeld) ?_
  case y11_620 =>
    intro w' hSw
    go_simp
    try with_reducible rfl
  refine wpAnyH_take' (i := 12) (v := ?v12_621) (some 19) rfl rfl (by kernel_rfl) (by kernel_rfl) (by kernel_rfl) (fun _ _ _ h => h) (Or.inl ⟨by kernel_rfl, ?y12_621⟩) (hHeld) ?_
  case y12_621 =>
    intro w' hSw
    go_simp
    try with_reducible rfl
  refine wpAnyH_ready (rs := [13]) (by kernel_rfl) (by simp) ?_
  refine AllReadyH.cons rfl (fun K hK => ?_) AllReadyH.nil
  rw [if_pos (by kernel_rfl)]
  go_simp
  refine hK.out _ _ (ext_alloc hHeld _) (fun hS => ?_)
  clear hK
  refine wpAnyH_ready (rs := [14]) (by kernel_rfl) (by simp) ?_
  refine AllReadyH.cons rfl (fun K hK => ?_) AllReadyH.nil
  rw [if_pos (by kernel_rfl)]
  go_simp
  refine hK.out _ _ (ext_alloc hHeld _) (fun hS => ?_)
  clear hK
  refine wpAnyH_take' (i := 15) (v := ?v15_622) (some 6) rfl rfl (by kernel_rfl) (by kernel_rfl) (by kernel_rfl) (fun _ _ _ h => h) (Or.inl ⟨by kernel_rfl, ?y15_622⟩) (hS) ?_
  case y15_622 =>
    intro w' hSw
    go_simp
    try with_reducible rfl
  refine wpAnyH_done (by kernel_rfl) ?_ _
  go_simp
  go_upto_region 2 with fail
  refine wp_at ?_
  intro W2 hW
  have x2 : Ext W1 W2 := by rw [hW]; repeat (first | exact ext_refl _ | assumption | refine ext_more' ?_ _ _ | refine ext_drew ?_ | refine ext_drewN ?_ _ | refine ext_alloc ?_ _)
  have hbt := show At W2 W1.heap.size _ from at_new (X := W1.drew) (by rw [hW]; repeat (first | exact ext_refl _ | assumption | refine ext_more' ?_ _ _ | refine ext_drew ?_ | refine ext_drewN ?_ _ | refine ext_alloc ?_ _) : Ext (World.alloc W1.drew (.cells _ _)) W2)
  clear hW hHeld hS
  have br := at_ext br (by simp) x2
  have hbh := at_ext hbh (by simp) x2
  have hor := own_ext hor x2
  have hmr := hmr.ext x2
  have hx2 := ext_trans x1 x2
  clear lg a0 a1 x2
  refine wp_region_held_drew (S := fun w' => Chg (fun q => q = g) W2 w') (by kernel_rfl) (Chg.drew (Chg.refl _ _)) (fun hHeld => ?_)
  refine wpAnyH_take' (i := 0) (v := ?v0_623) (some 20) rfl rfl (by kernel_rfl) (by kernel_rfl) (by kernel_rfl) (fun _ _ _ h => h) (Or.inl ⟨by kernel_rfl, ?y0_623⟩) (hHeld) ?_
  case y0_623 =>
    intro w' hSw
    go_simp
    try with_reducible rfl
  refine wpAnyH_take' (i := 1) (v := ?v1_624) (some 21) rfl rfl (by kernel_rfl) (by kernel_rfl) (by kernel_rfl) (fun _ _ _ h => h) (Or.inl ⟨by kernel_rfl, ?y1_624⟩) (hHeld) ?_
  case y1_624 =>
    intro w' hSw
    go_simp
    try with_reducible rfl
  refine wpAnyH_take' (i := 2) (v := ?v2_625) (some 22) rfl rfl (by kernel_rfl) (by kernel_rfl) (by kernel_rfl) (fun _ _ _ h => h) (Or.inl ⟨by kernel_rfl, ?y2_625⟩) (hHeld) ?_
  case y2_625 =>
    intro w' hSw
    go_simp
    try with_reducible rfl
  refine wpAnyH_take' (i := 3) (v := ?v3_626) (some 23) rfl rfl (by kernel_rfl) (by kernel_rfl) (by kernel_rfl) (fun _ _ _ h => h) (Or.inl ⟨by kernel_rfl, ?y3_626⟩) (hHeld) ?_
  case y3_626 =>
    intro w' hSw
    have kh' := (at_chg hbh (by simp) hSw (show ¬ (hb = g) by omega)).1; go_simp
    try with_reducible rfl
  refine wpAnyH_take' (i := 4) (v := ?v4_627) (some 24) rfl rfl (by kernel_rfl) (by kernel_rfl) (by kernel_rfl) (fun _ _ _ h => h) (Or.inl ⟨by kernel_rfl, ?y4_627⟩) (hHeld) ?_
  case y4_627 =>
    intro w' hSw
    go_simp
    try with_reducible rfl
  refine wpAnyH_take' (i := 5) (v := ?v5_628) (some 25) rfl rfl (by kernel_rfl) (by kernel_rfl) (by kernel_rfl) (fun _ _ _ h => h) (Or.inl ⟨by kernel_rfl, ?y5_628⟩) (hHeld) ?_
  case y5_628 =>
    intro w' hSw
    go_simp
    try with_reducible rfl
  refine wpAnyH_take' (i := 6) (v := ?v6_629) (some 26) rfl rfl (by kernel_rfl) (by kernel_rfl) (by kernel_rfl) (fun _ _ _ h => h) (Or.inl ⟨by kernel_rfl, ?y6_629⟩) (hHeld) ?_
  case y6_629 =>
    intro w' hSw
    go_simp
    try with_reducible rfl
  refine wpAnyH_take' (i := 7) (v := ?v7_630) (some 27) rfl rfl (by kernel_rfl) (by kernel_rfl) (by kernel_rfl) (fun _ _ _ h => h) (Or.inl ⟨by kernel_rfl, ?y7_630⟩) (hHeld) ?_
  case y7_630 =>
    intro w' hSw
    go_simp
    try with_reducible rfl
  refine wpAnyH_take' (i := 8) (v := ?v8_631) (some 28) rfl rfl (by kernel_rfl) (by kernel_rfl) (by kernel_rfl) (fun _ _ _ h => h) (Or.inl ⟨by kernel_rfl, ?y8_631⟩) (hHeld) ?_
  case y8_631 =>
    intro w' hSw
    have kh' := (at_chg hbh (by simp) hSw (show ¬ (hb = g) by omega)).1; go_simp
    try with_reducible rfl
  refine wpAnyH_take' (i := 9) (v := ?v9_632) (some 29) rfl rfl (by kernel_rfl) (by kernel_rfl) (by kernel_rfl) (fun _ _ _ h => h) (Or.inl ⟨by kernel_rfl, ?y9_632⟩) (hHeld) ?_
  case y9_632 =>
    intro w' hSw
    go_simp
    try with_reducible rfl
  refine wpAnyH_take' (i := 10) (v := ?v10_633) (some 30) rfl rfl (by kernel_rfl) (by kernel_rfl) (by kernel_rfl) (fun _ _ _ h => h) (Or.inl ⟨by kernel_rfl, ?y10_633⟩) (hHeld) ?_
  case y10_633 =>
    intro w' hSw
    go_simp
    try with_reducible rfl
  have ho2 := own_chgS hor (Chg.drew (Chg.refl (fun _ => False) W2)) (fun _ _ h => h)
  obtain ⟨b0, b1⟩ := row_cells rfl ho2 (show last < l.length by omega)
  rw [← HYY.out] at b0 b1
  have lg2 := own_lt ho2
  refine wpAnyH_ready (rs := [11]) (by kernel_rfl) (by simp) ?_
  refine AllReadyH.cons rfl (fun K hK => ?_) AllReadyH.nil
  rw [if_pos (by kernel_rfl)]
  go_simp
  refine hK.out _ _ (hHeld) (fun hS => ?_)
  clear hK
  refine wpAnyH_take' (i := 12) (v := ?v12_634) (some 32) rfl rfl (by kernel_rfl) (by kernel_rfl) (by kernel_rfl) (fun _ _ _ h => h) (Or.inl ⟨by kernel_rfl, ?y12_634⟩) (hHeld) ?_
  case y12_634 =>
    intro w' hSw
    go_simp
    try with_reducible rfl
  refine wpAnyH_ready (rs := [13]) (by kernel_rfl) (by simp) ?_
  refine AllReadyH.cons rfl (fun K hK => ?_) AllReadyH.nil
  rw [if_pos (by kernel_rfl)]
  with_reducible refine wp_storeR 29 (.tmp 32) (.tmp 31) ?sa13 (gf := tmrC) (l := l) i y ?sb13 ?sc13 ho2 ?sd13 ?se13 ?sf13 ?sg13 ?sh13 ?si13
  case sa13 => rfl
  case sb13 => kernel_rfl
  case sc13 => kernel_rfl
  case sd13 => rfl
  case se13 => omega
  case sf13 => exact fun _ => rfl
  case sg13 => kernel_rfl
  case sh13 => exact oneCell_tmr _
  intro w3 ho3 hc3
  refine hK.out _ _ (hHeld.trans hc3) (fun hS => ?_)
  clear hK
  refine wpAnyH_done (by kernel_rfl) ?_ _
  go_simp
  have hcA : Chg (fun q => q = hb ∨ q = g ∨ q = mb) w w3 := (Chg.ofExt hx2).trans (hS.mono fun _ _ h => .inr (.inl h))
  have br := at_chg br (by simp) hS (show ¬ (w.heap.size = g) by omega)
  have hbt := at_chg hbt (by simp) hS (show ¬ (W1.heap.size = g) by omega)
  have hbh := at_chg hbh (by simp) hS (show ¬ (hb = g) by omega)
  have hmr := hmr.chg hS (show ¬ (mb = g) by omega)
  have hor := ho3
  clear hHeld hS ho3 hc3 b0 b1 ho2 lg2
  obtain ⟨W3, hW3⟩ : ∃ W3, W3 = w3 := ⟨_, rfl⟩
  rw [← hW3] at hcA br hbt hbh hmr hor
  go_upto_region 3 with fail
  rw [← hW3]
  clear hW3
  refine wp_region_held_drew (S := fun w' => Chg (fun q => q = mb) W3 w') (by kernel_rfl) (Chg.drew (Chg.refl _ _)) (fun hHeld => ?_)
  refine wpAnyH_take' (i := 0) (v := ?v0_635) (some 33) rfl rfl (by kernel_rfl) (by kernel_rfl) (by kernel_rfl) (fun _ _ _ h => h) (Or.inl ⟨by kernel_rfl, ?y0_635⟩) (hHeld) ?_
  case y0_635 =>
    intro w' hSw
    go_simp
    try with_reducible rfl
  refine wpAnyH_take' (i := 1) (v := ?v1_636) (some 34) rfl rfl (by kernel_rfl) (by kernel_rfl) (by kernel_rfl) (fun _ _ _ h => h) (Or.inl ⟨by kernel_rfl, ?y1_636⟩) (hHeld) ?_
  case y1_636 =>
    intro w' hSw
    go_simp
    try with_reducible rfl
  refine wpAnyH_take' (i := 2) (v := ?v2_637) (some 35) rfl rfl (by kernel_rfl) (by kernel_rfl) (by kernel_rfl) (fun _ _ _ h => h) (Or.inl ⟨by kernel_rfl, ?y2_637⟩) (hHeld) ?_
  case y2_637 =>
    intro w' hSw
    go_simp
    try with_reducible rfl
  refine wpAnyH_take' (i := 3) (v := ?v3_638) (some 36) rfl rfl (by kernel_rfl) (by kernel_rfl) (by kernel_rfl) (fun _ _ _ h => h) (Or.inl ⟨by kernel_rfl, ?y3_638⟩) (hHeld) ?_
  case y3_638 =>
    intro w' hSw
    have kh' := (at_chg hbh (by simp) hSw (show ¬ (hb = mb) by omega)).1; go_simp
    try with_reducible rfl
  refine wpAnyH_take' (i := 4) (v := ?v4_639) (some 37) rfl rfl (by kernel_rfl) (by kernel_rfl) (by kernel_rfl) (fun _ _ _ h => h) (Or.inl ⟨by kernel_rfl, ?y4_639⟩) (hHeld) ?_
  case y4_639 =>
    intro w' hSw
    go_simp
    try with_reducible rfl
  refine wpAnyH_take' (i := 5) (v := ?v5_640) (some 38) rfl rfl (by kernel_rfl) (by kernel_rfl) (by kernel_rfl) (fun _ _ _ h => h) (Or.inl ⟨by kernel_rfl, ?y5_640⟩) (hHeld) ?_
  case y5_640 =>
    intro w' hSw
    go_simp
    try with_reducible rfl
  refine wpAnyH_take' (i := 6) (v := ?v6_641) (some 39) rfl rfl (by kernel_rfl) (by kernel_rfl) (by kernel_rfl) (fun _ _ _ h => h) (Or.inl ⟨by kernel_rfl, ?y6_641⟩) (hHeld) ?_
  case y6_641 =>
    intro w' hSw
    go_simp
    try with_reducible rfl
  refine wpAnyH_take' (i := 7) (v := ?v7_642) (some 40) rfl rfl (by kernel_rfl) (by kernel_rfl) (by kernel_rfl) (fun _ _ _ h => h) (Or.inl ⟨by kernel_rfl, ?y7_642⟩) (hHeld) ?_
  case y7_642 =>
    intro w' hSw
    have kh' := (at_chg hbh (by simp) hSw (show ¬ (hb = mb) by omega)).1; go_simp
    try with_reducible rfl
  refine wpAnyH_take' (i := 8) (v := ?v8_643) (some 41) rfl rfl (by kernel_rfl) (by kernel_rfl) (by kernel_rfl) (fun _ _ _ h => h) (Or.inl ⟨by kernel_rfl, ?y8_643⟩) (hHeld) ?_
  case y8_643 =>
    intro w' hSw
    go_simp
    try with_reducible rfl
  refine wpAnyH_take' (i := 9) (v := ?v9_644) (some 42) rfl rfl (by kernel_rfl) (by kernel_rfl) (by kernel_rfl) (fun _ _ _ h => h) (Or.inl ⟨by kernel_rfl, ?y9_644⟩) (hHeld) ?_
  case y9_644 =>
    intro w' hSw
    go_simp
    try with_reducible rfl
  refine wpAnyH_take' (i := 10) (v := ?v10_645) (some 43) rfl rfl (by kernel_rfl) (by kernel_rfl) (by kernel_rfl) (fun _ _ _ h => h) (Or.inl ⟨by kernel_rfl, ?y10_645⟩) (hHeld) ?_
  case y10_645 =>
    intro w' hSw
    go_simp
    try with_reducible rfl
  refine wpAnyH_take' (i := 11) (v := ?v11_646) (some 44) rfl rfl (by kernel_rfl) (by kernel_rfl) (by kernel_rfl) (fun _ _ _ h => h) (Or.inl ⟨by kernel_rfl, ?y11_646⟩) (hHeld) ?_
  case y11_646 =>
    intro w' hSw
    have ho9 := own_chgS hor hSw (fun q e (h : q = mb) => by simp [Value.ownBlock] at e; omega); obtain ⟨d0, d1⟩ := row_cells (List.length_set ..) ho9 (show i < (l.set i y).length by rw [List.length_set]; omega); rw [HSI.out] at d0 d1; have lg9 := own_lt ho9; go_simp
    try with_reducible rfl
  refine wpAnyH_take' (i := 12) (v := ?v12_647) (some 45) rfl rfl (by kernel_rfl) (by kernel_rfl) (by kernel_rfl) (fun _ _ _ h => h) (Or.inl ⟨by kernel_rfl, ?y12_647⟩) (hHeld) ?_
  case y12_647 =>
    intro w' hSw
    go_simp
    try with_reducible rfl
  have hm3 := hmr.chg (Chg.drew (Chg.refl (fun _ => False) W3)) (fun h => h)
  obtain ⟨w4, hrun4, hm4, hc4, hz4⟩ := run_sput (P := Try.prog) Try.underlying49 Try.underlying3 hm3 y.id (.int .i64 (i : Nat))
  refine wpAnyH_ready (rs := [13]) (by kernel_rfl) (by simp) ?_
  refine AllReadyH.cons rfl (fun K hK => ?_) AllReadyH.nil
  rw [if_pos (by kernel_rfl)]
  go_simp
  refine hK.out _ _ (hHeld.trans hc4) (fun hS => ?_)
  clear hK
  refine wpAnyH_done (by kernel_rfl) ?_ _
  go_simp
  have hcB := hcA.trans (hS.mono fun _ _ h => .inr (.inr h))
  have br := at_chg br (by simp) hS (show ¬ (w.heap.size = mb) by omega)
  have hbt := at_chg hbt (by simp) hS (show ¬ (W1.heap.size = mb) by omega)
  have hbh := at_chg hbh (by simp) hS (show ¬ (hb = mb) by omega)
  have hor := own_chgS hor hS (fun q e (h : q = mb) => by simp [Value.ownBlock] at e; omega)
  have hmr := hm4
  clear hHeld hS hm4 hc4 hz4 hrun4 hm3 hcA
  have kb := hbh.1
  have fb := hbh.2
  have lb := at_lt hbh (by simp)
  go_upto_region 5 with fail
  refine wp_at ?_
  intro W5 hW
  have hc5 : Chg (fun q => q = hb) w4 W5 := by rw [hW]; exact chg_put (Chg.refl _ _)
  have hbh5 : At W5 hb #[.slice (some ⟨g, 0, none⟩) last cap, .map (some mb), .int .i64 most] := by rw [hW]; exact at_put hbh (by simp) rfl
  clear hW kb fb lb
  have hcC := hcB.trans (hc5.mono fun _ _ h => .inl h)
  have br := at_chg br (by simp) hc5 (show ¬ (w.heap.size = hb) by omega)
  have hbt := at_chg hbt (by simp) hc5 (show ¬ (W1.heap.size = hb) by omega)
  have hor := own_chgS hor hc5 (fun q e (h : q = hb) => by simp [Value.ownBlock] at e; omega)
  have hmr := hmr.chg hc5 (show ¬ (mb = hb) by omega)
  replace hbh := hbh5
  clear hbh5 hc5 hcB
  refine wp_region_held_drew (S := fun w' => Chg (fun q => q = mb) W5 w') (by kernel_rfl) (Chg.drew (Chg.refl _ _)) (fun hHeld => ?_)
  refine wpAnyH_take' (i := 0) (v := ?v0_648) (some 55) rfl rfl (by kernel_rfl) (by kernel_rfl) (by kernel_rfl) (fun _ _ _ h => h) (Or.inl ⟨by kernel_rfl, ?y0_648⟩) (hHeld) ?_
  case y0_648 =>
    intro w' hSw
    go_simp
    try with_reducible rfl
  refine wpAnyH_take' (i := 1) (v := ?v1_649) (some 56) rfl rfl (by kernel_rfl) (by kernel_rfl) (by kernel_rfl) (fun _ _ _ h => h) (Or.inl ⟨by kernel_rfl, ?y1_649⟩) (hHeld) ?_
  case y1_649 =>
    intro w' hSw
    go_simp
    try with_reducible rfl
  refine wpAnyH_take' (i := 2) (v := ?v2_650) (some 57) rfl rfl (by kernel_rfl) (by kernel_rfl) (by kernel_rfl) (fun _ _ _ h => h) (Or.inl ⟨by kernel_rfl, ?y2_650⟩) (hHeld) ?_
  case y2_650 =>
    intro w' hSw
    go_simp
    try with_reducible rfl
  refine wpAnyH_take' (i := 3) (v := ?v3_651) (some 58) rfl rfl (by kernel_rfl) (by kernel_rfl) (by kernel_rfl) (fun _ _ _ h => h) (Or.inl ⟨by kernel_rfl, ?y3_651⟩) (hHeld) ?_
  case y3_651 =>
    intro w' hSw
    have kh' := (at_chg hbh (by simp) hSw (show ¬ (hb = mb) by omega)).1; go_simp
    try with_reducible rfl
  refine wpAnyH_take' (i := 4) (v := ?v4_652) (some 59) rfl rfl (by kernel_rfl) (by kernel_rfl) (by kernel_rfl) (fun _ _ _ h => h) (Or.inl ⟨by kernel_rfl, ?y4_652⟩) (hHeld) ?_
  case y4_652 =>
    intro w' hSw
    go_simp
    try with_reducible rfl
  refine wpAnyH_take' (i := 5) (v := ?v5_653) (some 60) rfl rfl (by kernel_rfl) (by kernel_rfl) (by kernel_rfl) (fun _ _ _ h => h) (Or.inl ⟨by kernel_rfl, ?y5_653⟩) (hHeld) ?_
  case y5_653 =>
    intro w' hSw
    have kt' := (at_chg hbt (by simp) hSw (show ¬ (W1.heap.size = mb) by omega)).1; have lt' := at_lt (at_chg hbt (by simp) hSw (show ¬ (W1.heap.size = mb) by omega)) (by simp); go_simp
    try with_reducible rfl
  have hm5 := hmr.chg (Chg.drew (Chg.refl (fun _ => False) W5)) (fun h => h)
  obtain ⟨w6, hrun6, hm6, hc6, hz6⟩ := run_sdel (P := Try.prog) (ty := 0) Try.underlying49 Try.underlying3 hm5 x.id 3
  refine wpAnyH_ready (rs := [6]) (by kernel_rfl) (by simp) ?_
  refine AllReadyH.cons rfl (fun K hK => ?_) AllReadyH.nil
  rw [if_pos (by kernel_rfl)]
  go_simp
  refine hK.out _ _ (hHeld.trans hc6) (fun hS => ?_)
  clear hK
  refine wpAnyH_done (by kernel_rfl) ?_ _
  go_simp
  have hcD := hcC.trans (hS.mono fun _ _ h => .inr (.inr h))
  have br := at_chg br (by simp) hS (show ¬ (w.heap.size = mb) by omega)
  have hbt := at_chg hbt (by simp) hS (show ¬ (W1.heap.size = mb) by omega)
  have hbh := at_chg hbh (by simp) hS (show ¬ (hb = mb) by omega)
  have hor := own_chgS hor hS (fun q e (h : q = mb) => by simp [Value.ownBlock] at e; omega)
  have hmr := hm6
  have hor2 := own_rep hil (show w6.ownsRow 0 29 2 (.slice (some ⟨g, 0, none⟩) l.length cap) l.length ((l.set i (at_ l (l.length - 1))).flatMap tmrC) by rw [← hlast'.out, ← HYY.out]; exact hor)
  clear hHeld hS hm6 hc6 hz6 hrun6 hm5 hcC hor
  by_cases hlt : i < last
  · have i2 : (i : Int) < (last : Int) := by omega
    rw [← HRL.out] at hbh
    have HBH := Lib.hid hbh; have HOR := Lib.hid hor2; have HMR := Lib.hid hmr; have HBR := Lib.hid br; have HBT := Lib.hid hbt
    clear hbh hor2 hmr br hbt
    go_upto_region 8 with (go_at_call 39; refine (right_calls (rep l i) _ i hb mb g cap most _ HBH.out HOR.out HMR.out HFR.out HKR.out HIR.out (by rw [HRL.out]; exact hlt) HPB.out (by rw [HRL.out]; omega) hd1 hd2 hd5).mono ?_; rintro e w8 ⟨rfl, hc8, hr8⟩)
    have br8 := at_chg HBR.out (by simp) hc8 (show ¬ (w.heap.size = g ∨ w.heap.size = mb) by omega)
    have bt8 := at_chg HBT.out (by simp) hc8 (show ¬ (W1.heap.size = g ∨ W1.heap.size = mb) by omega)
    have hcE := hcD.trans (hc8.mono fun _ _ h => .inr h)
    clear HBR HBT hc8
    have kbt := bt8.1
    have lbt := at_lt bt8 (by simp)
    have kbr := br8.1
    have fbr := br8.2
    have lbr := at_lt br8 (by simp)
    go_wp2
    refine post_at ?_
    intro W9 hW
    have b9 : At W9 w.heap.size #[.int .i64 x.due, .int .i64 x.id] := by rw [hW]; exact at_put (at_put br8 (by simp) rfl) (by simp) rfl
    have hc9 : Chg (fun q => q = w.heap.size) w8 W9 := by rw [hW]; exact chg_put (chg_put (Chg.refl _ _))
    clear hW kbt lbt kbr fbr lbr
    have k_br := b9.1
    refine bodyPost_ret (by simp [results, Try.results34, go_sem, k_br]; rfl) rfl ?_
    exact ⟨rfl, chg_new hcE hc9 (Nat.le_refl _), by obtain ⟨l', M', q1, q2, q3⟩ := hr8; exact ⟨l', M', q1, q2, q3.chg hc9 (show ¬ (hb = w.heap.size) by omega) (show ¬ (mb = w.heap.size) by omega) (show ¬ (g = w.heap.size) by omega)⟩⟩
  · have i2 : ¬ ((i : Int) < (last : Int)) := by omega
    have hli := hlast'.out
    have HHP := Lib.hid (HPL.out (by omega))
    have HPS := Lib.hid (show HpS w6 hb mb g cap most (rep l i) _ from ⟨by rw [HRL.out]; exact hbh, hor2, hmr, HFR.out, HKR.out⟩)
    obtain ⟨w8, hw8⟩ : ∃ w8, w8 = w6 := ⟨_, rfl⟩
    rw [← hw8] at HPS hcD br hbt
    have br8 := br
    have bt8 := hbt
    have hcE := hcD
    clear hbh hor2 hmr br hbt hli
    go_upto_region 8 with fail
    rw [← hw8]
    clear hw8
    have kbt := bt8.1
    have lbt := at_lt bt8 (by simp)
    have kbr := br8.1
    have fbr := br8.2
    have lbr := at_lt br8 (by simp)
    go_wp2
    refine post_at ?_
    intro W9 hW
    have b9 : At W9 w.heap.size #[.int .i64 x.due, .int .i64 x.id] := by rw [hW]; exact at_put (at_put br8 (by simp) rfl) (by simp) rfl
    have hc9 : Chg (fun q => q = w.heap.size) w8 W9 := by rw [hW]; exact chg_put (chg_put (Chg.refl _ _))
    clear hW kbt lbt kbr fbr lbr
    have k_br := b9.1
    refine bodyPost_ret (by simp [results, Try.results34, go_sem, k_br]; rfl) rfl ?_
    exact ⟨rfl, chg_new hcE hc9 (Nat.le_refl _), ⟨rep l i, _, List.Perm.refl _, HHP.out, HPS.out.chg hc9 (show ¬ (hb = w.heap.size) by omega) (show ¬ (mb = w.heap.size) by omega) (show ¬ (g = w.heap.size) by omega)⟩⟩
end Go.Proofs.Ytkicofagjebnjaa

/- HeapDue. -/
import Derived.Test.YtkicofagjebnjaaR07
import Derived.Test.YtkicofagjebnjaaSp7b
namespace Go.Proofs.Ytkicofagjebnjaa
open Go.RowKit
set_option linter.unusedVariables false
set_option linter.unusedSimpArgs false

set_option maxRecDepth 100000 in
set_option maxHeartbeats 16000000 in
theorem due_walk (a1 a2 : Int) (s : Option Addr) (cap : Nat) (l : List Tmr) (w : World) (hl : Rows_ w s l.length 2 (fun i => tmrC (at_ l i))) (hca : l.length ≤ cap) (hmx : cap ≤ maxLen) :
    Calls Try.prog 4 #[.slice s l.length cap, .int .i64 a1, .int .i64 a2] w fun e w' => e = .returned (.bool true) ∧ Ext w w' := by
  have HLL := Lib.hid hl
  have HMX := Lib.hid hmx
  have H0 := Lib.hid (has_old w)
  clear hl hmx
  go_enter Try.func4, Try.ntmps4
  go_upto_region 2 with (go_at_call 11; refine (made07_calls s cap l _ (rows_on2 HLL.out (ext_trans (H0.out.oldAt 0 rfl) (by repeat (first | exact ext_refl _ | assumption | refine ext_more' ?_ _ _ | refine ext_drew ?_ | refine ext_drewN ?_ _ | refine ext_alloc ?_ _)))) hca HMX.out).mono ?_; intro e w1 hp1; obtain ⟨hb1, mb1, rg1, tb1, M1, rfl, hth1, hh1⟩ := (H0.out.ext (by repeat (first | exact ext_refl _ | assumption | refine ext_more' ?_ _ _ | refine ext_drew ?_ | refine ext_drewN ?_ _ | refine ext_alloc ?_ _))).made hp1; have HT1 := Lib.hid hth1; have HQ1 := Lib.hid hh1; clear hp1 hth1 hh1)
  refine wp_at ?_
  intro W2 hW
  have x_W2 : Ext w1 W2 := by rw [hW]; repeat (first | exact ext_refl _ | assumption | refine ext_more' ?_ _ _ | refine ext_drew ?_ | refine ext_drewN ?_ _ | refine ext_alloc ?_ _)
  have H2 := Lib.hid (HQ1.out.ext x_W2)
  clear HQ1 x_W2 H0
  clear hW
  go_upto_region 5 with (go_at_call 11; refine (made07_calls s cap l _ (rows_on2 HLL.out (ext_trans (H2.out.oldAt 0 rfl) (by repeat (first | exact ext_refl _ | assumption | refine ext_more' ?_ _ _ | refine ext_drew ?_ | refine ext_drewN ?_ _ | refine ext_alloc ?_ _)))) hca HMX.out).mono ?_; intro e w2 hp1; obtain ⟨hb2, mb2, rg2, tb2, M2, rfl, hth2, hh2⟩ := (H2.out.ext (by repeat (first | exact ext_refl _ | assumption | refine ext_more' ?_ _ _ | refine ext_drew ?_ | refine ext_drewN ?_ _ | refine ext_alloc ?_ _))).made hp1; have HT2 := Lib.hid hth2; have HQ2 := Lib.hid hh2; clear hp1 hth2 hh2)
  refine wp_at ?_
  intro W5 hW
  have x_W5 : Ext w2 W5 := by rw [hW]; repeat (first | exact ext_refl _ | assumption | refine ext_more' ?_ _ _ | refine ext_drew ?_ | refine ext_drewN ?_ _ | refine ext_alloc ?_ _)
  have H5 := Lib.hid ((HQ2.out.ext x_W5).del 4)
  clear HQ2 x_W5 H2 HT2
  clear hW
  go_upto_region 6 with fail
  obtain ⟨a, ea⟩ : ∃ a, a = mn a1 a2 := ⟨_, rfl⟩
  obtain ⟨b, eb⟩ : ∃ b, b = mx a1 a2 := ⟨_, rfl⟩
  have hab : a ≤ b := by rw [ea, eb]; unfold mn mx; omega
  rw [← ea, ← eb]
  clear ea eb
  have hSl := mkS_len l (min l.length 300)
  obtain ⟨hso, hsi⟩ := mkS_ok l (min l.length 300)
  generalize mkS l (min l.length 300) = S at H5 HT1 hSl hso hsi
  have hS3 : S.length ≤ 300 := by omega
  have HSO := Lib.hid hso
  have hh5 : Has W5 [oldR w, heapR hb1 mb1 rg1 S 1000, mapR tb1 .i64 M1, heapR hb2 mb2 rg2 S 1000] := H5.out
  have H5b := Lib.hid hh5
  have HTD := Lib.hid (take_drop_len (dueB a) S)
  have HTW := Lib.hid (take_two hab S)
  have HDN := Lib.hid (drop_none a S)
  have HTS := Lib.hid (take_srt (a := a) hso)
  have HTA := Lib.hid (fun i hi => take_due (a := a) (S := S) (i := i) hi)
  have HDH := Lib.hid (fun x hx => drop_head (a := a) (S := S) (x := x) hx)
  clear hSl hso hsi hh5 H5
  go_upto_region 7 with (go_at_call 17; refine (due_calls a hb1 mb1 rg1 S 1000 _ ((H5b.out.ext (by repeat (first | exact ext_refl _ | assumption | refine ext_more' ?_ _ _ | refine ext_drew ?_ | refine ext_drewN ?_ _ | refine ext_alloc ?_ _))).heapAt 1 rfl)).mono ?_; intro e wd6 hp; obtain ⟨ms6, cap6, rfl, hh⟩ := (H5b.out.ext (by repeat (first | exact ext_refl _ | assumption | refine ext_more' ?_ _ _ | refine ext_drew ?_ | refine ext_drewN ?_ _ | refine ext_alloc ?_ _))).due 1 rfl hp; have HD6 := Lib.hid hh; clear hp hh)
  refine wp_at ?_
  intro W7 hW
  have x_W7 : Ext wd6 W7 := by rw [hW]; repeat (first | exact ext_refl _ | assumption | refine ext_more' ?_ _ _ | refine ext_drew ?_ | refine ext_drewN ?_ _ | refine ext_alloc ?_ _)
  have hh : Has W7 [oldR w, heapR hb1 mb1 rg1 (S.dropWhile (dueB a)) 1000, mapR tb1 .i64 M1, heapR hb2 mb2 rg2 S 1000, tRow ms6 cap6 (S.takeWhile (dueB a))] := HD6.out.ext x_W7
  have H7 := Lib.hid hh
  clear hh HD6 x_W7 H5b
  clear hW
  have htd := HTD.out
  have hst := (HTW.out).1
  have hsd := (HTW.out).2
  have hn1 := HDN.out.1
  have hn2 := HDN.out.2
  have HTW2 := Lib.hid hst; have HTW3 := Lib.hid hsd; have HN1 := Lib.hid hn1; have HN2 := Lib.hid hn2
  clear hst hsd hn1 hn2
  obtain ⟨T3, hT3⟩ : ∃ T3, T3 = S.takeWhile (dueB b) := ⟨_, rfl⟩
  obtain ⟨D3, hD3⟩ : ∃ D3, D3 = S.dropWhile (dueB b) := ⟨_, rfl⟩
  have htd3 := take_drop_len (dueB b) S
  rw [← hT3, ← hD3] at htd3
  rw [← hT3] at HTW2
  rw [← hD3] at HTW3
  have HT3 := Lib.hid hT3; have HD3 := Lib.hid hD3
  clear hT3 hD3
  generalize S.takeWhile (dueB a) = T at H7 htd HTW2 HTS HTA ⊢
  generalize S.dropWhile (dueB a) = D at H7 htd HTW2 HTW3 HN1 HN2 HDH
  have HTL := Lib.hid htd
  have hT1 : T.length ≤ 300 := by omega
  have hD1 : D.length ≤ 300 := by omega
  have HT3L := Lib.hid (show T3.length ≤ 300 by omega)
  have HD3L := Lib.hid (show D3.length ≤ 300 by omega)
  have hT2 : (T.length : Int) ≤ 300 := by omega
  have hD2 : (D.length : Int) ≤ 300 := by omega
  clear htd HTD HTW HDN
  have hmm : (M1.length : Int) = (T.length : Int) + (D.length : Int) := by rw [HT1.out.2.1]; have := HTL.out; omega
  have HMM := Lib.hid hmm
  clear hmm htd3 HT1
  go_upto_region 9 with (first | (go_at_call 17; refine (due_calls a hb1 mb1 rg1 D 1000 _ ((H7.out.ext (by repeat (first | exact ext_refl _ | assumption | refine ext_more' ?_ _ _ | refine ext_drew ?_ | refine ext_drewN ?_ _ | refine ext_alloc ?_ _))).heapAt 1 rfl)).mono ?_; intro e wd7 hp; obtain ⟨ms7, cap7, rfl, hh⟩ := (H7.out.ext (by repeat (first | exact ext_refl _ | assumption | refine ext_more' ?_ _ _ | refine ext_drew ?_ | refine ext_drewN ?_ _ | refine ext_alloc ?_ _))).due 1 rfl hp; rw [HN1.out, HN2.out] at hh; rw [HN1.out]; rw [show ([] : List Tmr).length = 0 from rfl]; have HD7 := Lib.hid hh; clear hp hh) | (go_at_call 15; refine (len_calls hb1 mb1 _ _ _ _ ((HD7.out.ext (by repeat (first | exact ext_refl _ | assumption | refine ext_more' ?_ _ _ | refine ext_drew ?_ | refine ext_drewN ?_ _ | refine ext_alloc ?_ _))).heapAt 1 rfl)).mono ?_; rintro e wl ⟨rfl, hxl⟩; have hfl := run_mlen7 (P := Try.prog) (ty := 3) Try.underlying25 ((HD7.out.ext (ext_trans (by repeat (first | exact ext_refl _ | assumption | refine ext_more' ?_ _ _ | refine ext_drew ?_ | refine ext_drewN ?_ _ | refine ext_alloc ?_ _)) hxl)).mapAt 2 rfl); rw [HMM.out] at hfl; have HXL := Lib.hid hxl; clear hxl))
  refine wp_at ?_
  intro W9 hW
  have x_W9 : Ext wl W9 := by rw [hW]; repeat (first | exact ext_refl _ | assumption | refine ext_more' ?_ _ _ | refine ext_drew ?_ | refine ext_drewN ?_ _ | refine ext_alloc ?_ _)
  have hh : Has W9 [oldR w, heapR hb1 mb1 rg1 D 1000, mapR tb1 .i64 M1, heapR hb2 mb2 rg2 S 1000, tRow ms6 cap6 T] := (HD7.out.ext (ext_trans HXL.out x_W9)).del 5
  have H9 := Lib.hid hh
  clear hh HD7 HXL x_W9 H7 hfl
  clear hW
  go_upto_region 10 with fail
  go_loopg [63] T.length (fun gk k63 wr => ∃ (i : Nat), k63 = .int .i64 i ∧ gk + i = T.length ∧ Ext W9 wr)
  case atStart => exact ⟨0, rfl, rfl, by repeat (first | exact ext_refl _ | assumption | refine ext_more' ?_ _ _ | refine ext_drew ?_ | refine ext_drewN ?_ _ | refine ext_alloc ?_ _)⟩
  case round =>
    obtain ⟨i, rfl, hgi, hx⟩ := hrel
    have HX := Lib.hid hx
    clear hx
    by_cases hi : i < T.length
    · have n1 : (i : Int) < (T.length : Int) := by omega
      obtain ⟨bl, ol, rfl, ql0, c0, c1⟩ := tmr_cells (V := fun i => at_ T i) (tRow_rows H9.out 4 rfl) HX.out hi
      have ql := Nat.lt_of_lt_of_le ql0 HX.out.size
      have hdu := HTA.out i hi
      have hcp := (tRow_cap H9.out 4 rfl).1
      cases i with
      | zero =>
        obtain ⟨x, hx⟩ : ∃ x, x = at_ T 0 := ⟨_, rfl⟩
        rw [← hx] at c0 c1 hdu
        clear hx
        have hdn : ¬ a < x.due := by omega
        rw [show ol + 0 * 2 = ol by omega] at c0 c1
        go_upto_region 12 with fail
        refine wp_region_held_drew (S := fun w' => Ext wr w') (by kernel_rfl) (ext_drew (ext_refl _)) (fun hHeld => ?_)
        refine wpAnyH_take' (i := 0) (v := ?v0_788) (some 66) rfl rfl (by kernel_rfl) (by kernel_rfl) (by kernel_rfl) (fun _ _ _ h => h) (Or.inl ⟨by kernel_rfl, ?y0_788⟩) (hHeld) ?_
        case y0_788 =>
          intro w' hSw
          go_simp
          try with_reducible rfl
        refine wpAnyH_take' (i := 1) (v := ?v1_789) (some 67) rfl rfl (by kernel_rfl) (by kernel_rfl) (by kernel_rfl) (fun _ _ _ h => h) (Or.inl ⟨by kernel_rfl, ?y1_789⟩) (hHeld) ?_
        case y1_789 =>
          intro w' hSw
          go_simp
          try with_reducible rfl
        refine wpAnyH_take' (i := 2) (v := ?v2_790) (some 68) rfl rfl (by kernel_rfl) (by kernel_rfl) (by kernel_rfl) (fun _ _ _ h => h) (Or.inl ⟨by kernel_rfl, ?y2_790⟩) (hHeld) ?_
        case y2_790 =>
          intro w' hSw
          go_simp
          try with_reducible rfl
        refine wpAnyH_take' (i := 3) (v := ?v3_791) (some 69) rfl rfl (by kernel_rfl) (by kernel_rfl) (by kernel_rfl) (fun _ _ _ h => h) (Or.inl ⟨by kernel_rfl, ?y3_791⟩) (hHeld) ?_
        case y3_791 =>
          intro w' hSw
          go_simp
          try with_reducible rfl
        refine wpAnyH_take' (i := 4) (v := ?v4_792) (some 70) rfl rfl (by kernel_rfl) (by kernel_rfl) (by kernel_rfl) (fun _ _ _ h => h) (Or.inl ⟨by kernel_rfl, ?y4_792⟩) (hHeld) ?_
        case y4_792 =>
          intro w' hSw
          have c0' := (hSw.cell (p := ⟨bl, ol, none⟩) ql).trans c0; have c1' := (hSw.cell (p := ⟨bl, ol + 1, none⟩) ql).trans c1; go_simp
          try with_reducible rfl
        refine wpAnyH_take' (i := 5) (v := ?v5_793) (some 71) rfl rfl (by kernel_rfl) (by kernel_rfl) (by kernel_rfl) (fun _ _ _ h => h) (Or.inl ⟨by kernel_rfl, ?y5_793⟩) (hHeld) ?_
        case y5_793 =>
          intro w' hSw
          go_simp
          try with_reducible rfl
        refine wpAnyH_take' (i := 6) (v := ?v6_794) (some 72) rfl rfl (by kernel_rfl) (by kernel_rfl) (by kernel_rfl) (fun _ _ _ h => h) (Or.inl ⟨by kernel_rfl, ?y6_794⟩) (hHeld) ?_
        case y6_794 =>
          intro w' hSw
          go_simp
          try with_reducible rfl
        refine wpAnyH_take' (i := 7) (v := ?v7_795) (some 73) rfl rfl (by kernel_rfl) (by kernel_rfl) (by kernel_rfl) (fun _ _ _ h => h) (Or.inl ⟨by kernel_rfl, ?y7_795⟩) (hHeld) ?_
        case y7_795 =>
          intro w' hSw
          go_simp
          try with_reducible rfl
        refine wpAnyH_take' (i := 8) (v := ?v8_796) (some 74) rfl rfl (by kernel_rfl) (by kernel_rfl) (by kernel_rfl) (fun _ _ _ h => h) (Or.inl ⟨by kernel_rfl, ?y8_796⟩) (hHeld) ?_
        case y8_796 =>
          intro w' hSw
          go_simp
          try with_reducible rfl
        refine wpAnyH_take' (i := 9) (v := ?v9_797) (some 75) rfl rfl (by kernel_rfl) (by kernel_rfl) (by kernel_rfl) (fun _ _ _ h => h) (Or.inl ⟨by kernel_rfl, ?y9_797⟩) (hHeld) ?_
        case y9_797 =>
          intro w' hSw
          go_simp
          try with_reducible rfl
        refine wpAnyH_take' (i := 10) (v := ?v10_798) (some 76) rfl rfl (by kernel_rfl) (by kernel_rfl) (by kernel_rfl) (fun _ _ _ h => h) (Or.inl ⟨by kernel_rfl, ?y10_798⟩) (hHeld) ?_
        case y10_798 =>
          intro w' hSw
          go_simp
          try with_reducible rfl
        refine wpAnyH_take' (i := 11) (v := undef) (some 77) rfl rfl (by kernel_rfl) (by kernel_rfl) (by kernel_rfl) (fun _ _ _ h => h) (Or.inr ⟨by kernel_rfl, rfl⟩) (hHeld) ?_
        refine wpAnyH_take' (i := 12) (v := undef) (some 78) rfl rfl (by kernel_rfl) (by kernel_rfl) (by kernel_rfl) (fun _ _ _ h => h) (Or.inr ⟨by kernel_rfl, rfl⟩) (hHeld) ?_
        refine wpAnyH_take' (i := 13) (v := undef) (some 79) rfl rfl (by kernel_rfl) (by kernel_rfl) (by kernel_rfl) (fun _ _ _ h => h) (Or.inr ⟨by kernel_rfl, rfl⟩) (hHeld) ?_
        refine wpAnyH_take' (i := 14) (v := undef) (some 80) rfl rfl (by kernel_rfl) (by kernel_rfl) (by kernel_rfl) (fun _ _ _ h => h) (Or.inr ⟨by kernel_rfl, rfl⟩) (hHeld) ?_
        refine wpAnyH_take' (i := 15) (v := undef) (some 81) rfl rfl (by kernel_rfl) (by kernel_rfl) (by kernel_rfl) (fun _ _ _ h => h) (Or.inr ⟨by kernel_rfl, rfl⟩) (hHeld) ?_
        refine wpAnyH_take' (i := 16) (v := undef) (some 82) rfl rfl (by kernel_rfl) (by kernel_rfl) (by kernel_rfl) (fun _ _ _ h => h) (Or.inr ⟨by kernel_rfl, rfl⟩) (hHeld) ?_
        refine wpAnyH_take' (i := 17) (v := undef) (some 83) rfl rfl (by kernel_rfl) (by kernel_rfl) (by kernel_rfl) (fun _ _ _ h => h) (Or.inr ⟨by kernel_rfl, rfl⟩) (hHeld) ?_
        refine wpAnyH_take' (i := 18) (v := undef) (some 84) rfl rfl (by kernel_rfl) (by kernel_rfl) (by kernel_rfl) (fun _ _ _ h => h) (Or.inr ⟨by kernel_rfl, rfl⟩) (hHeld) ?_
        refine wpAnyH_take' (i := 19) (v := undef) (some 85) rfl rfl (by kernel_rfl) (by kernel_rfl) (by kernel_rfl) (fun _ _ _ h => h) (Or.inr ⟨by kernel_rfl, rfl⟩) (hHeld) ?_
        refine wpAnyH_take' (i := 20) (v := undef) (some 86) rfl rfl (by kernel_rfl) (by kernel_rfl) (by kernel_rfl) (fun _ _ _ h => h) (Or.inr ⟨by kernel_rfl, rfl⟩) (hHeld) ?_
        refine wpAnyH_take' (i := 21) (v := undef) (some 87) rfl rfl (by kernel_rfl) (by kernel_rfl) (by kernel_rfl) (fun _ _ _ h => h) (Or.inr ⟨by kernel_rfl, rfl⟩) (hHeld) ?_
        refine wpAnyH_take' (i := 22) (v := ?v22_810) (some 88) rfl rfl (by kernel_rfl) (by kernel_rfl) (by kernel_rfl) (fun _ _ _ h => h) (Or.inl ⟨by kernel_rfl, ?y22_810⟩) (hHeld) ?_
        case y22_810 =>
          intro w' hSw
          go_simp
          try with_reducible rfl
        refine wpAnyH_take' (i := 23) (v := ?v23_811) (some 89) rfl rfl (by kernel_rfl) (by kernel_rfl) (by kernel_rfl) (fun _ _ _ h => h) (Or.inl ⟨by kernel_rfl, ?y23_811⟩) (hHeld) ?_
        case y23_811 =>
          intro w' hSw
          go_simp
          try with_reducible rfl
        refine wpAnyH_done (by kernel_rfl) ?_ _
        go_simp
        have HH9 := Lib.hid hHeld
        clear hHeld c0 c1
        go_wp2
        go_roundg (gk - 1)
        case measure => omega
        case rel => exact ⟨1, by go_num, by omega, ext_trans HX.out HH9.out⟩
      | succ j =>
        obtain ⟨bl', ol', el', ql0', d0, d1⟩ := tmr_cells (V := fun i => at_ T i) (tRow_rows H9.out 4 rfl) HX.out (show j < T.length by omega)
        injection el' with el'; injection el' with el1 el2; subst el1 el2
        have HAO := Lib.hid (show ahd (at_ T j) (at_ T (j + 1)) = true from ahd_iff.2 (srt_at HTS.out hi))
        obtain ⟨x, hx⟩ : ∃ x, x = at_ T (j + 1) := ⟨_, rfl⟩
        obtain ⟨y, hy⟩ : ∃ y, y = at_ T j := ⟨_, rfl⟩
        rw [← hx] at c0 c1 hdu HAO
        rw [← hy] at d0 d1 HAO
        clear hx hy
        have hdn : ¬ a < x.due := by omega
        have hcast : ((j + 1 : Nat) : Int) = (j : Int) + 1 := by omega
        rw [hcast] at n1 ⊢
        have hj0 : (0 : Int) ≤ (j : Int) := by omega
        have hj3 : (j : Int) ≤ 300 := by omega
        have hsub : IntKind.i64.wrap ((j : Int) + 1 - 1) = (j : Int) := by rw [show (j : Int) + 1 - 1 = (j : Int) by omega]; exact IntWalk.i64_in _ (by omega)
        clear hcast
        have htn : ((j : Int) + 1).toNat = j + 1 := by omega
        have hj1 : (0 : Int) ≤ (j : Int) + 1 := by omega
        have hjT : j < T.length := by omega
        have hjT2 : (j : Int) < (T.length : Int) := by omega
        have hsub2 : IntKind.i64.wrap (j : Int) = (j : Int) := IntWalk.i64_in _ (by omega)
        go_upto_region 12 with fail
        refine wp_region_held_drew (S := fun w' => Ext wr w') (by kernel_rfl) (ext_drew (ext_refl _)) (fun hHeld => ?_)
        refine wpAnyH_take' (i := 0) (v := ?v0_812) (some 66) rfl rfl (by kernel_rfl) (by kernel_rfl) (by kernel_rfl) (fun _ _ _ h => h) (Or.inl ⟨by kernel_rfl, ?y0_812⟩) (hHeld) ?_
        case y0_812 =>
          intro w' hSw
          go_simp
          try with_reducible rfl
        refine wpAnyH_take' (i := 1) (v := ?v1_813) (some 67) rfl rfl (by kernel_rfl) (by kernel_rfl) (by kernel_rfl) (fun _ _ _ h => h) (Or.inl ⟨by kernel_rfl, ?y1_813⟩) (hHeld) ?_
        case y1_813 =>
          intro w' hSw
          go_simp
          try with_reducible rfl
        refine wpAnyH_take' (i := 2) (v := ?v2_814) (some 68) rfl rfl (by kernel_rfl) (by kernel_rfl) (by kernel_rfl) (fun _ _ _ h => h) (Or.inl ⟨by kernel_rfl, ?y2_814⟩) (hHeld) ?_
        case y2_814 =>
          intro w' hSw
          go_simp
          try with_reducible rfl
        refine wpAnyH_take' (i := 3) (v := ?v3_815) (some 69) rfl rfl (by kernel_rfl) (by kernel_rfl) (by kernel_rfl) (fun _ _ _ h => h) (Or.inl ⟨by kernel_rfl, ?y3_815⟩) (hHeld) ?_
        case y3_815 =>
          intro w' hSw
          go_simp
          try with_reducible rfl
        refine wpAnyH_take' (i := 4) (v := ?v4_816) (some 70) rfl rfl (by kernel_rfl) (by kernel_rfl) (by kernel_rfl) (fun _ _ _ h => h) (Or.inl ⟨by kernel_rfl, ?y4_816⟩) (hHeld) ?_
        case y4_816 =>
          intro w' hSw
          have c0' := (hSw.cell (p := ⟨bl, ol + (j + 1) * 2, none⟩) ql).trans c0; have c1' := (hSw.cell (p := ⟨bl, ol + (j + 1) * 2 + 1, none⟩) ql).trans c1; go_simp
          try with_reducible rfl
        refine wpAnyH_take' (i := 5) (v := ?v5_817) (some 71) rfl rfl (by kernel_rfl) (by kernel_rfl) (by kernel_rfl) (fun _ _ _ h => h) (Or.inl ⟨by kernel_rfl, ?y5_817⟩) (hHeld) ?_
        case y5_817 =>
          intro w' hSw
          go_simp
          try with_reducible rfl
        refine wpAnyH_take' (i := 6) (v := ?v6_818) (some 72) rfl rfl (by kernel_rfl) (by kernel_rfl) (by kernel_rfl) (fun _ _ _ h => h) (Or.inl ⟨by kernel_rfl, ?y6_818⟩) (hHeld) ?_
        case y6_818 =>
          intro w' hSw
          go_simp
          try with_reducible rfl
        refine wpAnyH_take' (i := 7) (v := ?v7_819) (some 73) rfl rfl (by kernel_rfl) (by kernel_rfl) (by kernel_rfl) (fun _ _ _ h => h) (Or.inl ⟨by kernel_rfl, ?y7_819⟩) (hHeld) ?_
        case y7_819 =>
          intro w' hSw
          go_simp
          try with_reducible rfl
        refine wpAnyH_take' (i := 8) (v := ?v8_820) (some 74) rfl rfl (by kernel_rfl) (by kernel_rfl) (by kernel_rfl) (fun _ _ _ h => h) (Or.inl ⟨by kernel_rfl, ?y8_820⟩) (hHeld) ?_
        case y8_820 =>
          intro w' hSw
          go_simp
          try with_reducible rfl
        refine wpAnyH_take' (i := 9) (v := ?v9_821) (some 75) rfl rfl (by kernel_rfl) (by kernel_rfl) (by kernel_rfl) (fun _ _ _ h => h) (Or.inl ⟨by kernel_rfl, ?y9_821⟩) (hHeld) ?_
        case y9_821 =>
          intro w' hSw
          go_simp
          try with_reducible rfl
        refine wpAnyH_take' (i := 10) (v := ?v10_822) (some 76) rfl rfl (by kernel_rfl) (by kernel_rfl) (by kernel_rfl) (fun _ _ _ h => h) (Or.inl ⟨by kernel_rfl, ?y10_822⟩) (hHeld) ?_
        case y10_822 =>
          intro w' hSw
          go_simp
          try with_reducible rfl
        refine wpAnyH_take' (i := 11) (v := ?v11_823) (some 77) rfl rfl (by kernel_rfl) (by kernel_rfl) (by kernel_rfl) (fun _ _ _ h => h) (Or.inl ⟨by kernel_rfl, ?y11_823⟩) (hHeld) ?_
        case y11_823 =>
          intro w' hSw
          go_simp
          try with_reducible rfl
        refine wpAnyH_take' (i := 12) (v := ?v12_824) (some 78) rfl rfl (by kernel_rfl) (by kernel_rfl) (by kernel_rfl) (fun _ _ _ h => h) (Or.inl ⟨by kernel_rfl, ?y12_824⟩) (hHeld) ?_
        case y12_824 =>
          intro w' hSw
          go_simp
          try with_reducible rfl
        refine wpAnyH_take' (i := 13) (v := ?v13_825) (some 79) rfl rfl (by kernel_rfl) (by kernel_rfl) (by kernel_rfl) (fun _ _ _ h => h) (Or.inl ⟨by kernel_rfl, ?y13_825⟩) (hHeld) ?_
        case y13_825 =>
          intro w' hSw
          go_simp
          try with_reducible rfl
        refine wpAnyH_take' (i := 14) (v := ?v14_826) (some 80) rfl rfl (by kernel_rfl) (by kernel_rfl) (by kernel_rfl) (fun _ _ _ h => h) (Or.inl ⟨by kernel_rfl, ?y14_826⟩) (hHeld) ?_
        case y14_826 =>
          intro w' hSw
          go_simp
          try with_reducible rfl
        refine wpAnyH_take' (i := 15) (v := ?v15_827) (some 81) rfl rfl (by kernel_rfl) (by kernel_rfl) (by kernel_rfl) (fun _ _ _ h => h) (Or.inl ⟨by kernel_rfl, ?y15_827⟩) (hHeld) ?_
        case y15_827 =>
          intro w' hSw
          have d0' := (hSw.cell (p := ⟨bl, ol + j * 2, none⟩) ql).trans d0; have d1' := (hSw.cell (p := ⟨bl, ol + j * 2 + 1, none⟩) ql).trans d1; go_simp
          try with_reducible rfl
        refine wpAnyH_take' (i := 16) (v := ?v16_828) (some 82) rfl rfl (by kernel_rfl) (by kernel_rfl) (by kernel_rfl) (fun _ _ _ h => h) (Or.inl ⟨by kernel_rfl, ?y16_828⟩) (hHeld) ?_
        case y16_828 =>
          intro w' hSw
          go_simp
          try with_reducible rfl
        refine wpAnyH_take' (i := 17) (v := ?v17_829) (some 83) rfl rfl (by kernel_rfl) (by kernel_rfl) (by kernel_rfl) (fun _ _ _ h => h) (Or.inl ⟨by kernel_rfl, ?y17_829⟩) (hHeld) ?_
        case y17_829 =>
          intro w' hSw
          go_simp
          try with_reducible rfl
        refine wpAnyH_take' (i := 18) (v := ?v18_830) (some 84) rfl rfl (by kernel_rfl) (by kernel_rfl) (by kernel_rfl) (fun _ _ _ h => h) (Or.inl ⟨by kernel_rfl, ?y18_830⟩) (hHeld) ?_
        case y18_830 =>
          intro w' hSw
          go_simp
          try with_reducible rfl
        refine wpAnyH_take' (i := 19) (v := ?v19_831) (some 85) rfl rfl (by kernel_rfl) (by kernel_rfl) (by kernel_rfl) (fun _ _ _ h => h) (Or.inl ⟨by kernel_rfl, ?y19_831⟩) (hHeld) ?_
        case y19_831 =>
          intro w' hSw
          have c0' := (hSw.cell (p := ⟨bl, ol + (j + 1) * 2, none⟩) ql).trans c0; have c1' := (hSw.cell (p := ⟨bl, ol + (j + 1) * 2 + 1, none⟩) ql).trans c1; go_simp
          try with_reducible rfl
        refine wpAnyH_ready (rs := [20]) (by kernel_rfl) (by simp) ?_
        refine AllReadyH.cons rfl (fun K hK => ?_) AllReadyH.nil
        rw [if_pos (by kernel_rfl)]
        go_simp
        go_at_call 14
        refine (ahead_calls y x _).mono ?_
        rw [HAO.out]
        rintro e u20 ⟨rfl, hx20⟩
        refine hK.out _ _ (ext_trans hHeld hx20) (fun hS => ?_)
        clear hK
        refine wpAnyH_take' (i := 21) (v := ?v21_832) (some 87) rfl rfl (by kernel_rfl) (by kernel_rfl) (by kernel_rfl) (fun _ _ _ h => h) (Or.inl ⟨by kernel_rfl, ?y21_832⟩) (hS) ?_
        case y21_832 =>
          intro w' hSw
          go_simp
          try with_reducible rfl
        refine wpAnyH_take' (i := 22) (v := ?v22_833) (some 88) rfl rfl (by kernel_rfl) (by kernel_rfl) (by kernel_rfl) (fun _ _ _ h => h) (Or.inl ⟨by kernel_rfl, ?y22_833⟩) (hS) ?_
        case y22_833 =>
          intro w' hSw
          go_simp
          try with_reducible rfl
        refine wpAnyH_take' (i := 23) (v := ?v23_834) (some 89) rfl rfl (by kernel_rfl) (by kernel_rfl) (by kernel_rfl) (fun _ _ _ h => h) (Or.inl ⟨by kernel_rfl, ?y23_834⟩) (hS) ?_
        case y23_834 =>
          intro w' hSw
          go_simp
          try with_reducible rfl
        refine wpAnyH_done (by kernel_rfl) ?_ _
        go_simp
        have HH9 := Lib.hid hS
        clear hHeld c0 c1 d0 d1 hS
        go_wp2
        go_roundg (gk - 1)
        case measure => omega
        case rel => exact ⟨j + 1 + 1, by go_num, by omega, ext_trans HX.out HH9.out⟩
    · have n1 : ¬ ((i : Int) < (T.length : Int)) := by omega
      obtain ⟨T2, hT2⟩ : ∃ T2, T2 = D.takeWhile (dueB b) := ⟨_, rfl⟩
      have HT2 := Lib.hid hT2
      have ht3 := HTW2.out
      rw [← hT2] at ht3
      have HT23 := Lib.hid ht3
      have hl3 := congrArg List.length ht3
      rw [List.length_append] at hl3
      have h3l := HT3L.out
      have HB6 := Lib.hid (show T.length + T2.length ≤ 1000000 by omega)
      have HB5 := Lib.hid (show ([] : List Tmr).length + T.length ≤ 1000000 by simp; omega)
      have HB3 := Lib.hid (show (T ++ T2).length ≤ 1000000 by simp; omega)
      have HB33 := Lib.hid (show T3.length ≤ 1000000 by omega)
      have HD33 := Lib.hid (show D3.length ≤ 1000000 by have := HD3L.out; omega)
      clear hT2 ht3 hl3 h3l
      cases D with
      | nil =>
        go_upto_region 16 with (go_at_call 18; refine (next_calls7 hb1 mb1 rg1 [] 1000 _ (((H9.out.ext HX.out).ext (by repeat (first | exact ext_refl _ | assumption | refine ext_more' ?_ _ _ | refine ext_drew ?_ | refine ext_drewN ?_ _ | refine ext_alloc ?_ _))).heapAt 1 rfl)).mono ?_; rw [show otV ([] : List Tmr).head? = .tuple #[.agg #[.int .i64 0, .int .i64 0], .bool false] from rfl]; rintro e wn ⟨rfl, hx⟩; have HXN := Lib.hid (ext_trans (show Ext wr _ from by repeat (first | exact ext_refl _ | assumption | refine ext_more' ?_ _ _ | refine ext_drew ?_ | refine ext_drewN ?_ _ | refine ext_alloc ?_ _)) hx); clear hx)
        refine wp_at ?_
        intro W16 hW
        have x_W16 : Ext wn W16 := by rw [hW]; repeat (first | exact ext_refl _ | assumption | refine ext_more' ?_ _ _ | refine ext_drew ?_ | refine ext_drewN ?_ _ | refine ext_alloc ?_ _)
        have hh : Has W16 [oldR w, heapR hb1 mb1 rg1 [] 1000, mapR tb1 .i64 M1, heapR hb2 mb2 rg2 S 1000, tRow ms6 cap6 T] := (H9.out.ext HX.out).ext (ext_trans HXN.out x_W16)
        have bz := at_new (by rw [hW]; repeat (first | exact ext_refl _ | assumption | refine ext_more' ?_ _ _ | refine ext_drew ?_ | refine ext_drewN ?_ _ | refine ext_alloc ?_ _) : Ext (World.alloc wn (.cells _ _)) W16)
        have H16 := Lib.hid hh
        have kz := bz.1
        have fz := bz.2
        have lz := at_lt bz (sz2 _ _)
        clear hh x_W16 bz HXN
        clear hW
        go_upto_region 18 with fail
        refine wp_at ?_
        intro W18 hW
        have x_W18 : Ext W16 W18 := by rw [hW]; repeat (first | exact ext_refl _ | assumption | refine ext_more' ?_ _ _ | refine ext_drew ?_ | refine ext_drewN ?_ _ | refine ext_alloc ?_ _)
        have H18 := Lib.hid (H16.out.ext x_W18)
        clear kz fz lz H16 x_W18
        clear hW
        go_upto_region 19 with (go_at_call 17; refine (due_calls b hb1 mb1 rg1 [] 1000 _ ((H18.out.ext (by repeat (first | exact ext_refl _ | assumption | refine ext_more' ?_ _ _ | refine ext_drew ?_ | refine ext_drewN ?_ _ | refine ext_alloc ?_ _))).heapAt 1 rfl)).mono ?_; intro e wd8 hp; obtain ⟨ms8, cap8, rfl, hh⟩ := (H18.out.ext (by repeat (first | exact ext_refl _ | assumption | refine ext_more' ?_ _ _ | refine ext_drew ?_ | refine ext_drewN ?_ _ | refine ext_alloc ?_ _))).due 1 rfl hp; rw [← HT2.out, HTW3.out] at hh; rw [← HT2.out]; have HD8 := Lib.hid hh; clear hp hh)
        refine wp_at ?_
        intro W19 hW
        have x_W19 : Ext wd8 W19 := by rw [hW]; repeat (first | exact ext_refl _ | assumption | refine ext_more' ?_ _ _ | refine ext_drew ?_ | refine ext_drewN ?_ _ | refine ext_alloc ?_ _)
        have hh := HD8.out.ext x_W19
        have hh2 : Has W19 [oldR w, heapR hb1 mb1 rg1 D3 1000, mapR tb1 .i64 M1, heapR hb2 mb2 rg2 S 1000, tRow ms6 cap6 T, tRow ms8 cap8 T2] := hh
        have H19 := Lib.hid hh2
        clear hh hh2 HD8 x_W19 H18
        clear hW
        go_upto_region 20 with (go_at_call 17; refine (due_calls b hb2 mb2 rg2 S 1000 _ ((H19.out.ext (by repeat (first | exact ext_refl _ | assumption | refine ext_more' ?_ _ _ | refine ext_drew ?_ | refine ext_drewN ?_ _ | refine ext_alloc ?_ _))).heapAt 3 rfl)).mono ?_; intro e wd9 hp; obtain ⟨ms9, cap9, rfl, hh⟩ := (H19.out.ext (by repeat (first | exact ext_refl _ | assumption | refine ext_more' ?_ _ _ | refine ext_drew ?_ | refine ext_drewN ?_ _ | refine ext_alloc ?_ _))).due 3 rfl hp; rw [← HT3.out, ← HD3.out] at hh; rw [← HT3.out]; have HD9 := Lib.hid hh; clear hp hh)
        refine wp_at ?_
        intro W20 hW
        have x_W20 : Ext wd9 W20 := by rw [hW]; repeat (first | exact ext_refl _ | assumption | refine ext_more' ?_ _ _ | refine ext_drew ?_ | refine ext_drewN ?_ _ | refine ext_alloc ?_ _)
        have hh := HD9.out.ext x_W20
        have hh2 : Has W20 [oldR w, heapR hb1 mb1 rg1 D3 1000, mapR tb1 .i64 M1, heapR hb2 mb2 rg2 D3 1000, tRow ms6 cap6 T, tRow ms8 cap8 T2, tRow ms9 cap9 T3] := hh
        have H20 := Lib.hid hh2
        clear hh hh2 HD9 x_W20 H19
        clear hW
        have HR0 := Lib.hid (H20.out.rowNew (sz := 2) (n := 0) (ext_refl _) (ext_refl (World.alloc W20 (.cells #[] 29))) rfl (by decide))
        go_wp2_with (first
          | (at_builtin; refine list_appT (D := []) (E := T) HR0.out 7 rfl (tRow_rows HR0.out 4 rfl) HB5.out (.tmp 109) (.tmp 110) rfl rfl rfl rfl ?_; intro msA capA wA hA; have HAA := Lib.hid (show Has wA [oldR w, heapR hb1 mb1 rg1 D3 1000, mapR tb1 .i64 M1, heapR hb2 mb2 rg2 D3 1000, tRow ms6 cap6 T, tRow ms8 cap8 T2, tRow ms9 cap9 T3, tRow msA capA T] from hA); clear hA)
          | (at_builtin; refine list_appT (D := T) (E := T2) HAA.out 7 rfl (tRow_rows HAA.out 5 rfl) HB6.out (.tmp 111) (.tmp 112) rfl rfl rfl rfl ?_; intro msB capB wB hB; rw [HT23.out] at hB ⊢; have HBB := Lib.hid (show Has wB [oldR w, heapR hb1 mb1 rg1 D3 1000, mapR tb1 .i64 M1, heapR hb2 mb2 rg2 D3 1000, tRow ms6 cap6 T, tRow ms8 cap8 T2, tRow ms9 cap9 T3, tRow msB capB T3] from hB); clear hB))
        go_at_call 19
        refine (HBB.out.same 7 6 rfl rfl HB33.out).mono ?_
        rintro e wC ⟨rfl, hx⟩
        have HCC := Lib.hid (HBB.out.ext hx)
        clear hx HBB
        go_wp2_with fail
        go_at_call 20
        refine (all_calls hb1 mb1 _ _ _ _ (HCC.out.heapAt 1 rfl)).mono ?_
        intro e wD hp
        obtain ⟨msD, capD, rfl, hh⟩ := HCC.out.all hp
        have HDD := Lib.hid hh
        clear hp hh HCC
        go_wp2_with fail
        go_at_call 20
        refine (all_calls hb2 mb2 _ _ _ _ (HDD.out.heapAt 3 rfl)).mono ?_
        intro e wE hp
        obtain ⟨msE, capE, rfl, hh⟩ := HDD.out.all hp
        have HEE := Lib.hid hh
        clear hp hh HDD
        go_wp2_with fail
        go_at_call 19
        refine (HEE.out.same 8 9 rfl rfl HD33.out).mono ?_
        rintro e wF ⟨rfl, hx⟩
        have HFF := Lib.hid (HEE.out.ext hx)
        clear hx HEE
        go_wp2_with fail
        go_at_call 16
        refine (awake07_calls _).mono ?_
        rintro e wG ⟨rfl, hx⟩
        have HGG := Lib.hid (HFF.out.ext hx)
        clear hx HFF
        go_wp2
        go_ret
        exact ⟨rfl, HGG.out.oldAt 0 rfl⟩
      | cons z D2 =>
        have hzd : ¬ z.due ≤ a := by have := HDH.out z rfl; omega
        go_upto_region 16 with (go_at_call 18; refine (next_calls7 hb1 mb1 rg1 (z :: D2) 1000 _ (((H9.out.ext HX.out).ext (by repeat (first | exact ext_refl _ | assumption | refine ext_more' ?_ _ _ | refine ext_drew ?_ | refine ext_drewN ?_ _ | refine ext_alloc ?_ _))).heapAt 1 rfl)).mono ?_; rw [show otV ((z :: D2) : List Tmr).head? = .tuple #[.agg #[.int .i64 z.due, .int .i64 z.id], .bool true] from rfl]; rintro e wn ⟨rfl, hx⟩; have HXN := Lib.hid (ext_trans (show Ext wr _ from by repeat (first | exact ext_refl _ | assumption | refine ext_more' ?_ _ _ | refine ext_drew ?_ | refine ext_drewN ?_ _ | refine ext_alloc ?_ _)) hx); clear hx)
        refine wp_at ?_
        intro W16 hW
        have x_W16 : Ext wn W16 := by rw [hW]; repeat (first | exact ext_refl _ | assumption | refine ext_more' ?_ _ _ | refine ext_drew ?_ | refine ext_drewN ?_ _ | refine ext_alloc ?_ _)
        have hh : Has W16 [oldR w, heapR hb1 mb1 rg1 (z :: D2) 1000, mapR tb1 .i64 M1, heapR hb2 mb2 rg2 S 1000, tRow ms6 cap6 T] := (H9.out.ext HX.out).ext (ext_trans HXN.out x_W16)
        have bz := at_new (by rw [hW]; repeat (first | exact ext_refl _ | assumption | refine ext_more' ?_ _ _ | refine ext_drew ?_ | refine ext_drewN ?_ _ | refine ext_alloc ?_ _) : Ext (World.alloc wn (.cells _ _)) W16)
        have H16 := Lib.hid hh
        have kz := bz.1
        have fz := bz.2
        have lz := at_lt bz (sz2 _ _)
        clear hh x_W16 bz HXN
        clear hW
        go_upto_region 18 with fail
        refine wp_at ?_
        intro W18 hW
        have x_W18 : Ext W16 W18 := by rw [hW]; repeat (first | exact ext_refl _ | assumption | refine ext_more' ?_ _ _ | refine ext_drew ?_ | refine ext_drewN ?_ _ | refine ext_alloc ?_ _)
        have H18 := Lib.hid (H16.out.ext x_W18)
        clear kz fz lz H16 x_W18
        clear hW
        go_upto_region 19 with (go_at_call 17; refine (due_calls b hb1 mb1 rg1 (z :: D2) 1000 _ ((H18.out.ext (by repeat (first | exact ext_refl _ | assumption | refine ext_more' ?_ _ _ | refine ext_drew ?_ | refine ext_drewN ?_ _ | refine ext_alloc ?_ _))).heapAt 1 rfl)).mono ?_; intro e wd8 hp; obtain ⟨ms8, cap8, rfl, hh⟩ := (H18.out.ext (by repeat (first | exact ext_refl _ | assumption | refine ext_more' ?_ _ _ | refine ext_drew ?_ | refine ext_drewN ?_ _ | refine ext_alloc ?_ _))).due 1 rfl hp; rw [← HT2.out, HTW3.out] at hh; rw [← HT2.out]; have HD8 := Lib.hid hh; clear hp hh)
        refine wp_at ?_
        intro W19 hW
        have x_W19 : Ext wd8 W19 := by rw [hW]; repeat (first | exact ext_refl _ | assumption | refine ext_more' ?_ _ _ | refine ext_drew ?_ | refine ext_drewN ?_ _ | refine ext_alloc ?_ _)
        have hh := HD8.out.ext x_W19
        have hh2 : Has W19 [oldR w, heapR hb1 mb1 rg1 D3 1000, mapR tb1 .i64 M1, heapR hb2 mb2 rg2 S 1000, tRow ms6 cap6 T, tRow ms8 cap8 T2] := hh
        have H19 := Lib.hid hh2
        clear hh hh2 HD8 x_W19 H18
        clear hW
        go_upto_region 20 with (go_at_call 17; refine (due_calls b hb2 mb2 rg2 S 1000 _ ((H19.out.ext (by repeat (first | exact ext_refl _ | assumption | refine ext_more' ?_ _ _ | refine ext_drew ?_ | refine ext_drewN ?_ _ | refine ext_alloc ?_ _))).heapAt 3 rfl)).mono ?_; intro e wd9 hp; obtain ⟨ms9, cap9, rfl, hh⟩ := (H19.out.ext (by repeat (first | exact ext_refl _ | assumption | refine ext_more' ?_ _ _ | refine ext_drew ?_ | refine ext_drewN ?_ _ | refine ext_alloc ?_ _))).due 3 rfl hp; rw [← HT3.out, ← HD3.out] at hh; rw [← HT3.out]; have HD9 := Lib.hid hh; clear hp hh)
        refine wp_at ?_
        intro W20 hW
        have x_W20 : Ext wd9 W20 := by rw [hW]; repeat (first | exact ext_refl _ | assumption | refine ext_more' ?_ _ _ | refine ext_drew ?_ | refine ext_drewN ?_ _ | refine ext_alloc ?_ _)
        have hh := HD9.out.ext x_W20
        have hh2 : Has W20 [oldR w, heapR hb1 mb1 rg1 D3 1000, mapR tb1 .i64 M1, heapR hb2 mb2 rg2 D3 1000, tRow ms6 cap6 T, tRow ms8 cap8 T2, tRow ms9 cap9 T3] := hh
        have H20 := Lib.hid hh2
        clear hh hh2 HD9 x_W20 H19
        clear hW
        have HR0 := Lib.hid (H20.out.rowNew (sz := 2) (n := 0) (ext_refl _) (ext_refl (World.alloc W20 (.cells #[] 29))) rfl (by decide))
        go_wp2_with (first
          | (at_builtin; refine list_appT (D := []) (E := T) HR0.out 7 rfl (tRow_rows HR0.out 4 rfl) HB5.out (.tmp 109) (.tmp 110) rfl rfl rfl rfl ?_; intro msA capA wA hA; have HAA := Lib.hid (show Has wA [oldR w, heapR hb1 mb1 rg1 D3 1000, mapR tb1 .i64 M1, heapR hb2 mb2 rg2 D3 1000, tRow ms6 cap6 T, tRow ms8 cap8 T2, tRow ms9 cap9 T3, tRow msA capA T] from hA); clear hA)
          | (at_builtin; refine list_appT (D := T) (E := T2) HAA.out 7 rfl (tRow_rows HAA.out 5 rfl) HB6.out (.tmp 111) (.tmp 112) rfl rfl rfl rfl ?_; intro msB capB wB hB; rw [HT23.out] at hB ⊢; have HBB := Lib.hid (show Has wB [oldR w, heapR hb1 mb1 rg1 D3 1000, mapR tb1 .i64 M1, heapR hb2 mb2 rg2 D3 1000, tRow ms6 cap6 T, tRow ms8 cap8 T2, tRow ms9 cap9 T3, tRow msB capB T3] from hB); clear hB))
        go_at_call 19
        refine (HBB.out.same 7 6 rfl rfl HB33.out).mono ?_
        rintro e wC ⟨rfl, hx⟩
        have HCC := Lib.hid (HBB.out.ext hx)
        clear hx HBB
        go_wp2_with fail
        go_at_call 20
        refine (all_calls hb1 mb1 _ _ _ _ (HCC.out.heapAt 1 rfl)).mono ?_
        intro e wD hp
        obtain ⟨msD, capD, rfl, hh⟩ := HCC.out.all hp
        have HDD := Lib.hid hh
        clear hp hh HCC
        go_wp2_with fail
        go_at_call 20
        refine (all_calls hb2 mb2 _ _ _ _ (HDD.out.heapAt 3 rfl)).mono ?_
        intro e wE hp
        obtain ⟨msE, capE, rfl, hh⟩ := HDD.out.all hp
        have HEE := Lib.hid hh
        clear hp hh HDD
        go_wp2_with fail
        go_at_call 19
        refine (HEE.out.same 8 9 rfl rfl HD33.out).mono ?_
        rintro e wF ⟨rfl, hx⟩
        have HFF := Lib.hid (HEE.out.ext hx)
        clear hx HEE
        go_wp2_with fail
        go_at_call 16
        refine (awake07_calls _).mono ?_
        rintro e wG ⟨rfl, hx⟩
        have HGG := Lib.hid (HFF.out.ext hx)
        clear hx HFF
        go_wp2
        go_ret
        exact ⟨rfl, HGG.out.oldAt 0 rfl⟩
end Go.Proofs.Ytkicofagjebnjaa

/- HeapOrder. -/
import Derived.Test.YtkicofagjebnjaaR07
import Derived.Test.YtkicofagjebnjaaSp7
namespace Go.Proofs.Ytkicofagjebnjaa
open Go.RowKit
set_option linter.unusedVariables false
set_option linter.unusedSimpArgs false

set_option maxRecDepth 100000 in
set_option maxHeartbeats 16000000 in
theorem order_walk (s dd : Option Addr) (cap cd : Nat) (l : List Tmr) (D : List Int) (w : World) (hl : Rows_ w s l.length 2 (fun i => tmrC (at_ l i))) (hca : l.length ≤ cap) (hmx : cap ≤ maxLen)
    (hd : Rows_ w dd D.length 1 (fun i => numC (D.getD i 0))) (hcd : D.length ≤ cd) (hmd : cd ≤ maxLen) :
    Calls Try.prog 3 #[.slice s l.length cap, .slice dd D.length cd] w fun e w' => e = .returned (.bool true) ∧ Ext w w' := by
  have HLL := Lib.hid hl; have HD := Lib.hid hd
  have hmd2 : cd ≤ 9223372036854775807 := by unfold maxLen at hmd; exact hmd
  have HMX := Lib.hid hmx
  clear hl hd hmx hmd
  go_enter Try.func3, Try.ntmps3
  go_upto_region 7 with (go_at_call 11; refine (made07_calls s cap l _ (rows_on2 HLL.out (by repeat (first | exact ext_refl _ | assumption | refine ext_more' ?_ _ _ | refine ext_drew ?_ | refine ext_drewN ?_ _ | refine ext_alloc ?_ _))) hca HMX.out).mono ?_; intro e w1 hp1; obtain ⟨hb, mb, rg0, tb, M0, rfl, hth, hh⟩ := ((has_old w).ext (by repeat (first | exact ext_refl _ | assumption | refine ext_more' ?_ _ _ | refine ext_drew ?_ | refine ext_drewN ?_ _ | refine ext_alloc ?_ _))).made hp1; have HT0 := Lib.hid hth; have H1 := Lib.hid hh; clear hp1 hth hh)
  refine wp_at ?_
  intro W7 hW
  have x_W7 : Ext w1 W7 := by rw [hW]; repeat (first | exact ext_refl _ | assumption | refine ext_more' ?_ _ _ | refine ext_drew ?_ | refine ext_drewN ?_ _ | refine ext_alloc ?_ _)
  have hb7 := H1.out.box (ext_refl _) (show 0 < (#[.int .i64 0, .int .i64 0] : Array Value).size from sz2 _ _) (by rw [hW]; repeat (first | exact ext_refl _ | assumption | refine ext_more' ?_ _ _ | refine ext_drew ?_ | refine ext_drewN ?_ _ | refine ext_alloc ?_ _) : Ext (World.alloc w1 (.cells _ _)) W7)
  clear hW

  obtain ⟨lb, hlb⟩ : ∃ lb, lb = w1.heap.size := ⟨_, rfl⟩
  rw [← hlb] at hb7 ⊢
  have hh7 : Has W7 [oldR w, heapR hb mb rg0 (mkS l (min l.length 300)) 1000, mapR tb .i64 M0, boxR lb #[.int .i64 (⟨0, 0⟩ : Tmr).due, .int .i64 (⟨0, 0⟩ : Tmr).id] (sz2 _ _)] := hb7
  have hms := mkS_len l (min l.length 300)
  have H7 := Lib.hid hh7
  have HMS := Lib.hid hms
  clear hb7 hh7 x_W7 H1 hlb hms
  go_loopg [9, 10] (mkS l (min l.length 300)).length (fun gk k9 k10 wr => ∃ (i : Nat) (S : List Tmr) (M : List (Int × Value)) (rg : Option Nat) (last : Tmr) (first : Bool), k9 = .bool first ∧ k10 = .int .i64 i ∧ gk = S.length ∧ S.length + i ≤ 300 ∧ ThM M S ∧ Has wr [oldR w, heapR hb mb rg S 1000, mapR tb .i64 M, boxR lb #[.int .i64 last.due, .int .i64 last.id] (sz2 _ _)] ∧ (first = false → ∀ y ∈ S, Ahd last y))
  case atStart => exact ⟨0, _, M0, rg0, ⟨0, 0⟩, true, rfl, rfl, rfl, by have := HMS.out; omega, HT0.out, H7.out, fun h => by cases h⟩
  case round =>
    obtain ⟨i, S, M, rg, last, first, rfl, rfl, hgk, hle, hth, hh, hah⟩ := hrel
    have HTH := Lib.hid hth; have HH := Lib.hid hh; have HAH := Lib.hid hah
    clear hth hh hah
    have hi9 : i ≤ 300 := by omega
    cases S with
    | nil =>
      have hml0 : (M.length : Int) = 0 := by rw [HTH.out.2.1]; rfl
      have HML := Lib.hid hml0
      have hfl := run_mlen7 (P := Try.prog) (ty := 3) Try.underlying25 (HH.out.mapAt 2 rfl)
      rw [hml0] at hfl
      clear hml0
      go_upto_region 24 with fail
      refine wp_at ?_
      intro W24 hW
      have x_W24 : Ext wr W24 := by rw [hW]; repeat (first | exact ext_refl _ | assumption | refine ext_more' ?_ _ _ | refine ext_drew ?_ | refine ext_drewN ?_ _ | refine ext_alloc ?_ _)
      have H24 := Lib.hid (HH.out.ext x_W24)
      clear hfl x_W24
      clear hW
      go_upto_region 25 with (go_at_call 13; refine (pop_calls hb mb _ [] 1000 _ ((H24.out.ext (by repeat (first | exact ext_refl _ | assumption | refine ext_more' ?_ _ _ | refine ext_drew ?_ | refine ext_drewN ?_ _ | refine ext_alloc ?_ _))).heapAt 1 rfl)).mono ?_; rw [show otV ([] : List Tmr).head? = .tuple #[.agg #[.int .i64 0, .int .i64 0], .bool false] from rfl]; rintro e wp ⟨rfl, hp⟩; have HP := Lib.hid hp; clear hp)
      obtain ⟨rgp, hhp⟩ := (H24.out.ext (by repeat (first | exact ext_refl _ | assumption | refine ext_more' ?_ _ _ | refine ext_drew ?_ | refine ext_drewN ?_ _ | refine ext_alloc ?_ _))).heap 1 rfl HP.out
      clear HP
      refine wp_at ?_
      intro WT hW
      have hht : Has WT [oldR w, heapR hb mb rgp [] 1000, mapR tb .i64 M, boxR lb #[.int .i64 last.due, .int .i64 last.id] (sz2 _ _)] := hhp.ext (by rw [hW]; repeat (first | exact ext_refl _ | assumption | refine ext_more' ?_ _ _ | refine ext_drew ?_ | refine ext_drewN ?_ _ | refine ext_alloc ?_ _))
      have HHT := Lib.hid hht
      have hfl := fun w' (hx : Ext WT w') => run_mlen7 (P := Try.prog) (ty := 3) Try.underlying25 ((HHT.out.mapAt 2 rfl).ext hx)
      have HFL := Lib.hid hfl
      clear hW hhp hht hfl
      go_wp2_with (first
        | (go_at_call 15; refine (len_calls hb mb rgp [] 1000 _ ((HHT.out.ext (by repeat (first | exact ext_refl _ | assumption | refine ext_more' ?_ _ _ | refine ext_drew ?_ | refine ext_drewN ?_ _ | refine ext_alloc ?_ _))).heapAt 1 rfl)).mono ?_; rw [show ((([] : List Tmr).length : Nat) : Int) = 0 from rfl]; rintro e wl ⟨rfl, hxl⟩; have HXL := Lib.hid hxl; have hfl := HFL.out wl hxl; rw [HML.out] at hfl; clear hxl)
        | (go_at_call 16; refine (awake07_calls _).mono ?_; rintro e wa ⟨rfl, hxa⟩; have HXA := Lib.hid hxa; clear hxa))
      go_ret
      exact ⟨rfl, ext_trans (HHT.out.oldAt 0 rfl) (ext_trans HXL.out HXA.out)⟩
    | cons x0 S0 =>
      have hpos : (0 : Int) < (M.length : Int) := by rw [HTH.out.2.1]; simp only [List.length_cons]; omega
      have hfl := run_mlen7 (P := Try.prog) (ty := 3) Try.underlying25 (HH.out.mapAt 2 rfl)
      have hi3 : (i : Int) ≤ 300 := by omega
      have hi0 : (0 : Int) ≤ (i : Int) := by omega
      by_cases hid : i < D.length
      · have hid2 : (i : Int) < (D.length : Int) := by omega
        obtain ⟨bD, oD, rfl, lD, cD⟩ := num_cell (V := fun i => D.getD i 0) HD.out (HH.out.oldAt 0 rfl) hid
        obtain ⟨d, hdd⟩ : ∃ d, d = D.getD i 0 := ⟨_, rfl⟩
        rw [← hdd] at cD
        have HDD := Lib.hid hdd
        clear hdd
        cases hf : fnd d (x0 :: S0) with
        | none =>
          have HF := Lib.hid hf
          clear hf
          have HDV := Lib.hid (show drV (fnd d (x0 :: S0)) = .tuple #[.agg #[.int .i64 0, .int .i64 0], .int .i64 40] by rw [HF.out]; rfl)
          go_upto_region 11 with (go_at_call 12; refine (drop_calls d hb mb rg (x0 :: S0) 1000 _ ((HH.out.ext (by repeat (first | exact ext_refl _ | assumption | refine ext_more' ?_ _ _ | refine ext_drew ?_ | refine ext_drewN ?_ _ | refine ext_alloc ?_ _))).heapAt 1 rfl)).mono ?_; rw [HDV.out]; rintro e wd ⟨rfl, hp⟩; have HPD := Lib.hid hp; clear hp)
          refine wp_at ?_
          intro W11 hW
          have x_W11 : Ext wd W11 := by rw [hW]; repeat (first | exact ext_refl _ | assumption | refine ext_more' ?_ _ _ | refine ext_drew ?_ | refine ext_drewN ?_ _ | refine ext_alloc ?_ _)
          obtain ⟨rgd, hhd⟩ := (HH.out.ext (by repeat (first | exact ext_refl _ | assumption | refine ext_more' ?_ _ _ | refine ext_drew ?_ | refine ext_drewN ?_ _ | refine ext_alloc ?_ _))).heap 1 rfl HPD.out
          have hbd := hhd.box (ext_refl _) (show 0 < (#[.int .i64 0, .int .i64 0] : Array Value).size from sz2 _ _) (by rw [hW]; repeat (first | exact ext_refl _ | assumption | refine ext_more' ?_ _ _ | refine ext_drew ?_ | refine ext_drewN ?_ _ | refine ext_alloc ?_ _) : Ext (World.alloc wd (.cells _ _)) W11)
          clear hW
          have hh11 : Has W11 [oldR w, heapR hb mb rgd (wo d (x0 :: S0)) 1000, mapR tb .i64 M, boxR lb #[.int .i64 last.due, .int .i64 last.id] (sz2 _ _), boxR wd.heap.size #[.int .i64 0, .int .i64 0] (sz2 _ _)] := hbd
          have H11 := Lib.hid hh11
          clear hh11 hhd hbd HPD HDV x_W11 cD lD
          obtain ⟨bD, oD, eD, lD, cD⟩ := num_cell (V := fun i => D.getD i 0) HD.out (H11.out.oldAt 0 rfl) hid
          injection eD with eD; injection eD with eD1 eD2; subst eD1 eD2
          rw [← HDD.out] at cD
          have hlk := (run_mlook (P := Try.prog) Try.underlying25 Try.underlying3 (H11.out.mapAt 2 rfl) d (int0z8 W11)).2
          rw [HTH.out.1] at hlk
          rw [HF.out] at hlk
          simp only [Option.map_some, Option.map_none, Option.getD_some, Option.getD_none, Option.isSome_some, Option.isSome_none] at hlk
          go_upto_region 12 with fail
          refine wp_at ?_
          intro W12 hW
          have x_W12 : Ext W11 W12 := by rw [hW]; repeat (first | exact ext_refl _ | assumption | refine ext_more' ?_ _ _ | refine ext_drew ?_ | refine ext_drewN ?_ _ | refine ext_alloc ?_ _)
          have H12 := Lib.hid (H11.out.ext x_W12)
          have cD2 := (x_W12.cell (p := ⟨bD, oD + i, none⟩) lD).trans cD
          have lD2 := Nat.lt_of_lt_of_le lD x_W12.size
          clear hlk H11 x_W12 cD lD
          clear hW
          have ky := (H12.out.boxAt 4 rfl).1
          have fy := (H12.out.boxAt 4 rfl).2
          have ly := at_lt (H12.out.boxAt 4 rfl) (sz2 _ _)
          refine wp_region_held_drew (S := fun w' => Ext W12 w') (by kernel_rfl) (ext_drew (ext_refl _)) (fun hHeld => ?_)
          refine wpAnyH_take' (i := 0) (v := ?v0_754) (some 60) rfl rfl (by kernel_rfl) (by kernel_rfl) (by kernel_rfl) (fun _ _ _ h => h) (Or.inl ⟨by kernel_rfl, ?y0_754⟩) (hHeld) ?_
          case y0_754 =>
            intro w' hSw
            go_simp
            try with_reducible rfl
          refine wpAnyH_take' (i := 1) (v := ?v1_755) (some 61) rfl rfl (by kernel_rfl) (by kernel_rfl) (by kernel_rfl) (fun _ _ _ h => h) (Or.inl ⟨by kernel_rfl, ?y1_755⟩) (hHeld) ?_
          case y1_755 =>
            intro w' hSw
            go_simp
            try with_reducible rfl
          refine wpAnyH_take' (i := 2) (v := ?v2_756) (some 62) rfl rfl (by kernel_rfl) (by kernel_rfl) (by kernel_rfl) (fun _ _ _ h => h) (Or.inl ⟨by kernel_rfl, ?y2_756⟩) (hHeld) ?_
          case y2_756 =>
            intro w' hSw
            go_simp
            try with_reducible rfl
          refine wpAnyH_take' (i := 3) (v := ?v3_757) (some 63) rfl rfl (by kernel_rfl) (by kernel_rfl) (by kernel_rfl) (fun _ _ _ h => h) (Or.inl ⟨by kernel_rfl, ?y3_757⟩) (hHeld) ?_
          case y3_757 =>
            intro w' hSw
            go_simp
            try with_reducible rfl
          refine wpAnyH_take' (i := 4) (v := ?v4_758) (some 64) rfl rfl (by kernel_rfl) (by kernel_rfl) (by kernel_rfl) (fun _ _ _ h => h) (Or.inl ⟨by kernel_rfl, ?y4_758⟩) (hHeld) ?_
          case y4_758 =>
            intro w' hSw
            go_simp
            try with_reducible rfl
          refine wpAnyH_take' (i := 5) (v := ?v5_759) (some 65) rfl rfl (by kernel_rfl) (by kernel_rfl) (by kernel_rfl) (fun _ _ _ h => h) (Or.inl ⟨by kernel_rfl, ?y5_759⟩) (hHeld) ?_
          case y5_759 =>
            intro w' hSw
            go_simp
            try with_reducible rfl
          refine wpAnyH_take' (i := 6) (v := ?v6_760) (some 66) rfl rfl (by kernel_rfl) (by kernel_rfl) (by kernel_rfl) (fun _ _ _ h => h) (Or.inl ⟨by kernel_rfl, ?y6_760⟩) (hHeld) ?_
          case y6_760 =>
            intro w' hSw
            go_simp
            try with_reducible rfl
          refine wpAnyH_take' (i := 7) (v := undef) (some 67) rfl rfl (by kernel_rfl) (by kernel_rfl) (by kernel_rfl) (fun _ _ _ h => h) (Or.inr ⟨by kernel_rfl, rfl⟩) (hHeld) ?_
          refine wpAnyH_take' (i := 8) (v := undef) (some 68) rfl rfl (by kernel_rfl) (by kernel_rfl) (by kernel_rfl) (fun _ _ _ h => h) (Or.inr ⟨by kernel_rfl, rfl⟩) (hHeld) ?_
          refine wpAnyH_take' (i := 9) (v := undef) (some 69) rfl rfl (by kernel_rfl) (by kernel_rfl) (by kernel_rfl) (fun _ _ _ h => h) (Or.inr ⟨by kernel_rfl, rfl⟩) (hHeld) ?_
          refine wpAnyH_take' (i := 10) (v := undef) (some 70) rfl rfl (by kernel_rfl) (by kernel_rfl) (by kernel_rfl) (fun _ _ _ h => h) (Or.inr ⟨by kernel_rfl, rfl⟩) (hHeld) ?_
          refine wpAnyH_take' (i := 11) (v := undef) (some 71) rfl rfl (by kernel_rfl) (by kernel_rfl) (by kernel_rfl) (fun _ _ _ h => h) (Or.inr ⟨by kernel_rfl, rfl⟩) (hHeld) ?_
          refine wpAnyH_take' (i := 12) (v := undef) (some 72) rfl rfl (by kernel_rfl) (by kernel_rfl) (by kernel_rfl) (fun _ _ _ h => h) (Or.inr ⟨by kernel_rfl, rfl⟩) (hHeld) ?_
          refine wpAnyH_take' (i := 13) (v := undef) (some 73) rfl rfl (by kernel_rfl) (by kernel_rfl) (by kernel_rfl) (fun _ _ _ h => h) (Or.inr ⟨by kernel_rfl, rfl⟩) (hHeld) ?_
          refine wpAnyH_take' (i := 14) (v := undef) (some 74) rfl rfl (by kernel_rfl) (by kernel_rfl) (by kernel_rfl) (fun _ _ _ h => h) (Or.inr ⟨by kernel_rfl, rfl⟩) (hHeld) ?_
          refine wpAnyH_take' (i := 15) (v := ?v15_769) (some 75) rfl rfl (by kernel_rfl) (by kernel_rfl) (by kernel_rfl) (fun _ _ _ h => h) (Or.inl ⟨by kernel_rfl, ?y15_769⟩) (hHeld) ?_
          case y15_769 =>
            intro w' hSw
            go_simp
            try with_reducible rfl
          refine wpAnyH_take' (i := 16) (v := ?v16_770) (some 76) rfl rfl (by kernel_rfl) (by kernel_rfl) (by kernel_rfl) (fun _ _ _ h => h) (Or.inl ⟨by kernel_rfl, ?y16_770⟩) (hHeld) ?_
          case y16_770 =>
            intro w' hSw
            go_simp
            try with_reducible rfl
          refine wpAnyH_done (by kernel_rfl) ?_ _
          go_simp
          clear ky fy ly
          go_upto_region 14 with fail
          refine wp_at ?_
          intro W14 hW
          have x_W14 : Ext W12 W14 := by rw [hW]; repeat (first | exact ext_refl _ | assumption | refine ext_more' ?_ _ _ | refine ext_drew ?_ | refine ext_drewN ?_ _ | refine ext_alloc ?_ _)
          have H14 := Lib.hid (H12.out.ext x_W14)
          have cD4 := (x_W14.cell (p := ⟨bD, oD + i, none⟩) lD2).trans cD2
          have lD4 := Nat.lt_of_lt_of_le lD2 x_W14.size
          clear H12 x_W14 cD2 lD2 hHeld
          clear hW
          obtain ⟨w15, hrun15, hm15, hc15, hz15⟩ := run_mdel (P := Try.prog) (ty := 0) Try.underlying25 Try.underlying3 (H14.out.mapAt 2 rfl) d 3
          have hh15 : Has w15 [oldR w, heapR hb mb rgd (wo d (x0 :: S0)) 1000, mapR tb .i64 (mdel d M), boxR lb #[.int .i64 last.due, .int .i64 last.id] (sz2 _ _)] := (H14.out.mapped 2 rfl hm15 hc15).del 4
          have hids0 := (HH.out.heapAt 1 rfl).ids
          have ht1 := thM_wo HTH.out hids0 d
          have hl1 : first = false → ∀ y ∈ wo d (x0 :: S0), Ahd last y := fun e y hy => HAH.out e y (wo_sub d _ y hy)
          have hz1 : (wo d (x0 :: S0)).length + i ≤ 300 := by have := wo_length_le d (x0 :: S0); omega
          have hg1 : (wo d (x0 :: S0)).length ≤ gk := by have := wo_length_le d (x0 :: S0); omega
          generalize wo d (x0 :: S0) = S1 at hh15 ht1 hl1 hz1 hg1
          generalize mdel d M = M1 at hh15 ht1
          have H15 := Lib.hid hh15; have HT1 := Lib.hid ht1; have HL1 := Lib.hid hl1
          clear hm15 hc15 hz15 hids0 hh15 ht1 hl1
          go_upto_region 15 with fail
          clear hrun15 cD4 lD4
          obtain ⟨rg1, hrg1⟩ : ∃ rg1, rg1 = rgd := ⟨_, rfl⟩
          rw [← hrg1] at H15
          clear hrg1
          refine wp_at ?_
          intro W15 hW
          obtain rfl : w15 = W15 := hW.symm
          have hids1 := (H15.out.heapAt 1 rfl).ids
          have hsrt1 := (H15.out.heapAt 1 rfl).srt
          have hml1 := HT1.out.2.1
          cases S1 with
          | nil =>
            go_upto_region 16 with (go_at_call 13; refine (pop_calls hb mb rg1 [] 1000 _ ((H15.out.ext (by repeat (first | exact ext_refl _ | assumption | refine ext_more' ?_ _ _ | refine ext_drew ?_ | refine ext_drewN ?_ _ | refine ext_alloc ?_ _))).heapAt 1 rfl)).mono ?_; rw [show otV ([] : List Tmr).head? = .tuple #[.agg #[.int .i64 0, .int .i64 0], .bool false] from rfl]; rintro e wp ⟨rfl, hp⟩; have HP := Lib.hid hp; clear hp)
            refine wp_at ?_
            intro W16 hW
            have x_W16 : Ext wp W16 := by rw [hW]; repeat (first | exact ext_refl _ | assumption | refine ext_more' ?_ _ _ | refine ext_drew ?_ | refine ext_drewN ?_ _ | refine ext_alloc ?_ _)
            obtain ⟨rg2, hh2⟩ := (H15.out.ext (by repeat (first | exact ext_refl _ | assumption | refine ext_more' ?_ _ _ | refine ext_drew ?_ | refine ext_drewN ?_ _ | refine ext_alloc ?_ _))).heap 1 rfl HP.out
            clear hW
            have hh16 : Has W16 [oldR w, heapR hb mb rg2 [] 1000, mapR tb .i64 M1, boxR lb #[.int .i64 last.due, .int .i64 last.id] (sz2 _ _)] := hh2.ext x_W16
            have hml0 : (M1.length : Int) = 0 := by rw [hml1]; rfl
            have HML := Lib.hid hml0
            have HQ := Lib.hid hh16
            have hfl := run_mlen7 (P := Try.prog) (ty := 3) Try.underlying25 (hh16.mapAt 2 rfl)
            rw [hml0] at hfl
            clear hh16 hh2 HP hml0 hml1 hids1 hsrt1 x_W16
            go_upto_region 24 with fail
            refine wp_at ?_
            intro W24 hW
            have x_W24 : Ext W16 W24 := by rw [hW]; repeat (first | exact ext_refl _ | assumption | refine ext_more' ?_ _ _ | refine ext_drew ?_ | refine ext_drewN ?_ _ | refine ext_alloc ?_ _)
            have H24 := Lib.hid (HQ.out.ext x_W24)
            clear hfl HQ x_W24
            clear hW
            go_upto_region 25 with (go_at_call 13; refine (pop_calls hb mb _ [] 1000 _ ((H24.out.ext (by repeat (first | exact ext_refl _ | assumption | refine ext_more' ?_ _ _ | refine ext_drew ?_ | refine ext_drewN ?_ _ | refine ext_alloc ?_ _))).heapAt 1 rfl)).mono ?_; rw [show otV ([] : List Tmr).head? = .tuple #[.agg #[.int .i64 0, .int .i64 0], .bool false] from rfl]; rintro e wp ⟨rfl, hp⟩; have HP := Lib.hid hp; clear hp)
            obtain ⟨rg3, hhp⟩ := (H24.out.ext (by repeat (first | exact ext_refl _ | assumption | refine ext_more' ?_ _ _ | refine ext_drew ?_ | refine ext_drewN ?_ _ | refine ext_alloc ?_ _))).heap 1 rfl HP.out
            clear HP
            refine wp_at ?_
            intro WT hW
            have hht : Has WT [oldR w, heapR hb mb rg3 [] 1000, mapR tb .i64 M1, boxR lb #[.int .i64 last.due, .int .i64 last.id] (sz2 _ _)] := hhp.ext (by rw [hW]; repeat (first | exact ext_refl _ | assumption | refine ext_more' ?_ _ _ | refine ext_drew ?_ | refine ext_drewN ?_ _ | refine ext_alloc ?_ _))
            have HHT := Lib.hid hht
            have hfl := fun w' (hx : Ext WT w') => run_mlen7 (P := Try.prog) (ty := 3) Try.underlying25 ((HHT.out.mapAt 2 rfl).ext hx)
            have HFL := Lib.hid hfl
            clear hW hhp hht hfl
            go_wp2_with (first
              | (go_at_call 15; refine (len_calls hb mb rg3 [] 1000 _ ((HHT.out.ext (by repeat (first | exact ext_refl _ | assumption | refine ext_more' ?_ _ _ | refine ext_drew ?_ | refine ext_drewN ?_ _ | refine ext_alloc ?_ _))).heapAt 1 rfl)).mono ?_; rw [show ((([] : List Tmr).length : Nat) : Int) = 0 from rfl]; rintro e wl ⟨rfl, hxl⟩; have HXL := Lib.hid hxl; have hfl := HFL.out wl hxl; rw [HML.out] at hfl; clear hxl)
              | (go_at_call 16; refine (awake07_calls _).mono ?_; rintro e wa ⟨rfl, hxa⟩; have HXA := Lib.hid hxa; clear hxa))
            go_ret
            exact ⟨rfl, ext_trans (HHT.out.oldAt 0 rfl) (ext_trans HXL.out HXA.out)⟩
          | cons y S2 =>
            go_upto_region 16 with (go_at_call 13; refine (pop_calls hb mb rg1 (y :: S2) 1000 _ ((H15.out.ext (by repeat (first | exact ext_refl _ | assumption | refine ext_more' ?_ _ _ | refine ext_drew ?_ | refine ext_drewN ?_ _ | refine ext_alloc ?_ _))).heapAt 1 rfl)).mono ?_; rw [show otV ((y :: S2) : List Tmr).head? = .tuple #[.agg #[.int .i64 y.due, .int .i64 y.id], .bool true] from rfl]; rintro e wp ⟨rfl, hp⟩; have HP := Lib.hid hp; clear hp)
            refine wp_at ?_
            intro W16 hW
            have x_W16 : Ext wp W16 := by rw [hW]; repeat (first | exact ext_refl _ | assumption | refine ext_more' ?_ _ _ | refine ext_drew ?_ | refine ext_drewN ?_ _ | refine ext_alloc ?_ _)
            obtain ⟨rg2, hh2⟩ := (H15.out.ext (by repeat (first | exact ext_refl _ | assumption | refine ext_more' ?_ _ _ | refine ext_drew ?_ | refine ext_drewN ?_ _ | refine ext_alloc ?_ _))).heap 1 rfl HP.out
            have hb2 := hh2.box (ext_refl _) (show 0 < (#[.int .i64 y.due, .int .i64 y.id] : Array Value).size from sz2 _ _) (by rw [hW]; repeat (first | exact ext_refl _ | assumption | refine ext_more' ?_ _ _ | refine ext_drew ?_ | refine ext_drewN ?_ _ | refine ext_alloc ?_ _) : Ext (World.alloc wp (.cells _ _)) W16)
            clear hW
            have hh16 : Has W16 [oldR w, heapR hb mb rg2 S2 1000, mapR tb .i64 M1, boxR lb #[.int .i64 last.due, .int .i64 last.id] (sz2 _ _), boxR wp.heap.size #[.int .i64 y.due, .int .i64 y.id] (sz2 _ _)] := hb2
            have H16 := Lib.hid hh16
            have hpos : (0 : Int) < (M1.length : Int) := by rw [hml1]; simp only [List.length_cons]; omega
            have hpd : decide ((0 : Int) < (M1.length : Int)) = true := by simpa using hpos
            have hpd2 : decide (0 < M1.length) = true := by simpa using hpos
            have hfl := run_mlen7 (P := Try.prog) (ty := 3) Try.underlying25 (hh16.mapAt 2 rfl)
            have HI1 := Lib.hid hids1; have HS1 := Lib.hid hsrt1; have HM1 := Lib.hid hml1
            clear hh16 hh2 hb2 HP hml1 hids1 hsrt1 x_W16
            go_upto_region 19 with fail
            refine wp_at ?_
            intro W19 hW
            have x_W19 : Ext W16 W19 := by rw [hW]; repeat (first | exact ext_refl _ | assumption | refine ext_more' ?_ _ _ | refine ext_drew ?_ | refine ext_drewN ?_ _ | refine ext_alloc ?_ _)
            have H19 := Lib.hid (H16.out.ext x_W19)
            clear hfl hpos hpd hpd2 H16 x_W19
            clear hW
            have ky := (H19.out.boxAt 4 rfl).1
            have fy := (H19.out.boxAt 4 rfl).2
            have ly := at_lt (H19.out.boxAt 4 rfl) (sz2 _ _)
            have hlk := (run_mlook (P := Try.prog) Try.underlying25 Try.underlying3 (H19.out.mapAt 2 rfl) y.id (int0z8 W19)).2
            rw [HT1.out.1] at hlk
            rw [fnd_head] at hlk
            simp only [Option.map_some, Option.getD_some, Option.isSome_some] at hlk
            go_upto_region 20 with fail
            refine wp_at ?_
            intro W20 hW
            have x_W20 : Ext W19 W20 := by rw [hW]; repeat (first | exact ext_refl _ | assumption | refine ext_more' ?_ _ _ | refine ext_drew ?_ | refine ext_drewN ?_ _ | refine ext_alloc ?_ _)
            have H20 := Lib.hid (H19.out.ext x_W20)
            clear hlk ky fy ly H19 x_W20
            clear hW
            cases first with
            | true =>
              have ky := (H20.out.boxAt 4 rfl).1
              have fy := (H20.out.boxAt 4 rfl).2
              have ly := at_lt (H20.out.boxAt 4 rfl) (sz2 _ _)
              go_upto_region 22 with fail
              refine wp_at ?_
              intro W22 hW
              have x_W22 : Ext W20 W22 := by rw [hW]; repeat (first | exact ext_refl _ | assumption | refine ext_more' ?_ _ _ | refine ext_drew ?_ | refine ext_drewN ?_ _ | refine ext_alloc ?_ _)
              have H22 := Lib.hid (H20.out.ext x_W22)
              clear H20 x_W22 ky fy ly
              clear hW
              have ky := (H22.out.boxAt 4 rfl).1
              have fy := (H22.out.boxAt 4 rfl).2
              have ly := at_lt (H22.out.boxAt 4 rfl) (sz2 _ _)
              obtain ⟨w23, hrun23, hm23, hc23, hz23⟩ := run_mdel (P := Try.prog) (ty := 0) Try.underlying25 Try.underlying3 (H22.out.mapAt 2 rfl) y.id 3
              have hh23 : Has w23 [oldR w, heapR hb mb rg2 S2 1000, mapR tb .i64 (mdel y.id M1), boxR lb #[.int .i64 last.due, .int .i64 last.id] (sz2 _ _), boxR wp.heap.size #[.int .i64 y.due, .int .i64 y.id] (sz2 _ _)] := H22.out.mapped 2 rfl hm23 hc23
              have H23 := Lib.hid hh23
              have HZ23 := Lib.hid hz23
              clear hh23 hm23 hc23 hz23
              go_upto_region 23 with fail
              clear hrun23 ky fy ly
              have ky := (H23.out.boxAt 4 rfl).1
              have fy := (H23.out.boxAt 4 rfl).2
              have ly := at_lt (H23.out.boxAt 4 rfl) (sz2 _ _)
              have kz := (H23.out.boxAt 3 rfl).1
              have fz := (H23.out.boxAt 3 rfl).2
              have lz := at_lt (H23.out.boxAt 3 rfl) (sz2 _ _)
              go_upto_region 8 with fail
              refine wp_at ?_
              intro W8 hW
              have hat8 : At W8 lb #[.int .i64 y.due, .int .i64 y.id] := by rw [hW]; exact at_put (at_put (H23.out.boxAt 3 rfl) (by simp) rfl) (by simp) rfl
              have hc8 : Chg (fun q => q = lb) w23 W8 := by rw [hW]; exact chg_put (chg_put (Chg.refl _ _))
              have hh8 : Has W8 [oldR w, heapR hb mb rg2 S2 1000, mapR tb .i64 (mdel y.id M1), boxR lb #[.int .i64 y.due, .int .i64 y.id] (sz2 _ _)] := (H23.out.wrote 3 rfl (sz2 _ _) hat8 hc8).del 4
              have H8 := Lib.hid hh8
              clear hW hat8 hc8 hh8 ky fy ly kz fz lz H23
              go_wp2
              have hth2 := thM_wo HT1.out HI1.out y.id
              rw [wo_head HI1.out] at hth2
              go_roundg S2.length
              case measure => simp only [List.length_cons] at hg1 hgk; omega
              case rel => exact ⟨i + 1, S2, mdel y.id M1, rg2, y, false, rfl, by go_num, rfl, by simp at hz1; omega, hth2, H8.out, fun _ z hz => HS1.out.head z hz⟩
            | false =>
              have ky := (H20.out.boxAt 4 rfl).1
              have fy := (H20.out.boxAt 4 rfl).2
              have ly := at_lt (H20.out.boxAt 4 rfl) (sz2 _ _)
              have kz := (H20.out.boxAt 3 rfl).1
              have fz := (H20.out.boxAt 3 rfl).2
              have lz := at_lt (H20.out.boxAt 3 rfl) (sz2 _ _)
              have HAY := Lib.hid (show ahd last y = true from ahd_iff.2 (HL1.out rfl y List.mem_cons_self))
              go_upto_region 22 with (go_at_call 14; refine (ahead_calls last y _).mono ?_; rw [HAY.out]; rintro e u14 ⟨rfl, hx14⟩)
              refine wp_at ?_
              intro W22 hW
              have x_W22 : Ext W20 W22 := by rw [hW]; repeat (first | exact ext_refl _ | assumption | refine ext_more' ?_ _ _ | refine ext_drew ?_ | refine ext_drewN ?_ _ | refine ext_alloc ?_ _)
              have H22 := Lib.hid (H20.out.ext x_W22)
              clear H20 x_W22 ky fy ly kz fz lz hx14
              clear hW
              have ky := (H22.out.boxAt 4 rfl).1
              have fy := (H22.out.boxAt 4 rfl).2
              have ly := at_lt (H22.out.boxAt 4 rfl) (sz2 _ _)
              obtain ⟨w23, hrun23, hm23, hc23, hz23⟩ := run_mdel (P := Try.prog) (ty := 0) Try.underlying25 Try.underlying3 (H22.out.mapAt 2 rfl) y.id 3
              have hh23 : Has w23 [oldR w, heapR hb mb rg2 S2 1000, mapR tb .i64 (mdel y.id M1), boxR lb #[.int .i64 last.due, .int .i64 last.id] (sz2 _ _), boxR wp.heap.size #[.int .i64 y.due, .int .i64 y.id] (sz2 _ _)] := H22.out.mapped 2 rfl hm23 hc23
              have H23 := Lib.hid hh23
              have HZ23 := Lib.hid hz23
              clear hh23 hm23 hc23 hz23
              go_upto_region 23 with fail
              clear hrun23 ky fy ly
              have ky := (H23.out.boxAt 4 rfl).1
              have fy := (H23.out.boxAt 4 rfl).2
              have ly := at_lt (H23.out.boxAt 4 rfl) (sz2 _ _)
              have kz := (H23.out.boxAt 3 rfl).1
              have fz := (H23.out.boxAt 3 rfl).2
              have lz := at_lt (H23.out.boxAt 3 rfl) (sz2 _ _)
              go_upto_region 8 with fail
              refine wp_at ?_
              intro W8 hW
              have hat8 : At W8 lb #[.int .i64 y.due, .int .i64 y.id] := by rw [hW]; exact at_put (at_put (H23.out.boxAt 3 rfl) (by simp) rfl) (by simp) rfl
              have hc8 : Chg (fun q => q = lb) w23 W8 := by rw [hW]; exact chg_put (chg_put (Chg.refl _ _))
              have hh8 : Has W8 [oldR w, heapR hb mb rg2 S2 1000, mapR tb .i64 (mdel y.id M1), boxR lb #[.int .i64 y.due, .int .i64 y.id] (sz2 _ _)] := (H23.out.wrote 3 rfl (sz2 _ _) hat8 hc8).del 4
              have H8 := Lib.hid hh8
              clear hW hat8 hc8 hh8 ky fy ly kz fz lz H23
              go_wp2
              have hth2 := thM_wo HT1.out HI1.out y.id
              rw [wo_head HI1.out] at hth2
              go_roundg S2.length
              case measure => simp only [List.length_cons] at hg1 hgk; omega
              case rel => exact ⟨i + 1, S2, mdel y.id M1, rg2, y, false, rfl, by go_num, rfl, by simp at hz1; omega, hth2, H8.out, fun _ z hz => HS1.out.head z hz⟩
        | some t =>
          obtain ⟨td, ti⟩ := t
          have eti : ti = d := (fnd_mem hf).2
          subst eti
          obtain ⟨d, hdq⟩ : ∃ d, d = ti := ⟨_, rfl⟩
          obtain rfl : d = ti := hdq
          have HF := Lib.hid hf
          clear hf
          have HDV := Lib.hid (show drV (fnd d (x0 :: S0)) = .tuple #[.agg #[.int .i64 td, .int .i64 d], .int .i64 0] by rw [HF.out]; rfl)
          go_upto_region 11 with (go_at_call 12; refine (drop_calls d hb mb rg (x0 :: S0) 1000 _ ((HH.out.ext (by repeat (first | exact ext_refl _ | assumption | refine ext_more' ?_ _ _ | refine ext_drew ?_ | refine ext_drewN ?_ _ | refine ext_alloc ?_ _))).heapAt 1 rfl)).mono ?_; rw [HDV.out]; rintro e wd ⟨rfl, hp⟩; have HPD := Lib.hid hp; clear hp)
          refine wp_at ?_
          intro W11 hW
          have x_W11 : Ext wd W11 := by rw [hW]; repeat (first | exact ext_refl _ | assumption | refine ext_more' ?_ _ _ | refine ext_drew ?_ | refine ext_drewN ?_ _ | refine ext_alloc ?_ _)
          obtain ⟨rgd, hhd⟩ := (HH.out.ext (by repeat (first | exact ext_refl _ | assumption | refine ext_more' ?_ _ _ | refine ext_drew ?_ | refine ext_drewN ?_ _ | refine ext_alloc ?_ _))).heap 1 rfl HPD.out
          have hbd := hhd.box (ext_refl _) (show 0 < (#[.int .i64 td, .int .i64 d] : Array Value).size from sz2 _ _) (by rw [hW]; repeat (first | exact ext_refl _ | assumption | refine ext_more' ?_ _ _ | refine ext_drew ?_ | refine ext_drewN ?_ _ | refine ext_alloc ?_ _) : Ext (World.alloc wd (.cells _ _)) W11)
          clear hW
          have hh11 : Has W11 [oldR w, heapR hb mb rgd (wo d (x0 :: S0)) 1000, mapR tb .i64 M, boxR lb #[.int .i64 last.due, .int .i64 last.id] (sz2 _ _), boxR wd.heap.size #[.int .i64 td, .int .i64 d] (sz2 _ _)] := hbd
          have H11 := Lib.hid hh11
          clear hh11 hhd hbd HPD HDV x_W11 cD lD
          obtain ⟨bD, oD, eD, lD, cD⟩ := num_cell (V := fun i => D.getD i 0) HD.out (H11.out.oldAt 0 rfl) hid
          injection eD with eD; injection eD with eD1 eD2; subst eD1 eD2
          rw [← HDD.out] at cD
          have hlk := (run_mlook (P := Try.prog) Try.underlying25 Try.underlying3 (H11.out.mapAt 2 rfl) d (int0z8 W11)).2
          rw [HTH.out.1] at hlk
          rw [HF.out] at hlk
          simp only [Option.map_some, Option.map_none, Option.getD_some, Option.getD_none, Option.isSome_some, Option.isSome_none] at hlk
          go_upto_region 12 with fail
          refine wp_at ?_
          intro W12 hW
          have x_W12 : Ext W11 W12 := by rw [hW]; repeat (first | exact ext_refl _ | assumption | refine ext_more' ?_ _ _ | refine ext_drew ?_ | refine ext_drewN ?_ _ | refine ext_alloc ?_ _)
          have H12 := Lib.hid (H11.out.ext x_W12)
          have cD2 := (x_W12.cell (p := ⟨bD, oD + i, none⟩) lD).trans cD
          have lD2 := Nat.lt_of_lt_of_le lD x_W12.size
          clear hlk H11 x_W12 cD lD
          clear hW
          have ky := (H12.out.boxAt 4 rfl).1
          have fy := (H12.out.boxAt 4 rfl).2
          have ly := at_lt (H12.out.boxAt 4 rfl) (sz2 _ _)
          refine wp_region_held_drew (S := fun w' => Ext W12 w') (by kernel_rfl) (ext_drew (ext_refl _)) (fun hHeld => ?_)
          refine wpAnyH_take' (i := 0) (v := ?v0_771) (some 60) rfl rfl (by kernel_rfl) (by kernel_rfl) (by kernel_rfl) (fun _ _ _ h => h) (Or.inl ⟨by kernel_rfl, ?y0_771⟩) (hHeld) ?_
          case y0_771 =>
            intro w' hSw
            go_simp
            try with_reducible rfl
          refine wpAnyH_take' (i := 1) (v := ?v1_772) (some 61) rfl rfl (by kernel_rfl) (by kernel_rfl) (by kernel_rfl) (fun _ _ _ h => h) (Or.inl ⟨by kernel_rfl, ?y1_772⟩) (hHeld) ?_
          case y1_772 =>
            intro w' hSw
            go_simp
            try with_reducible rfl
          refine wpAnyH_take' (i := 2) (v := ?v2_773) (some 62) rfl rfl (by kernel_rfl) (by kernel_rfl) (by kernel_rfl) (fun _ _ _ h => h) (Or.inl ⟨by kernel_rfl, ?y2_773⟩) (hHeld) ?_
          case y2_773 =>
            intro w' hSw
            go_simp
            try with_reducible rfl
          refine wpAnyH_take' (i := 3) (v := ?v3_774) (some 63) rfl rfl (by kernel_rfl) (by kernel_rfl) (by kernel_rfl) (fun _ _ _ h => h) (Or.inl ⟨by kernel_rfl, ?y3_774⟩) (hHeld) ?_
          case y3_774 =>
            intro w' hSw
            go_simp
            try with_reducible rfl
          refine wpAnyH_take' (i := 4) (v := ?v4_775) (some 64) rfl rfl (by kernel_rfl) (by kernel_rfl) (by kernel_rfl) (fun _ _ _ h => h) (Or.inl ⟨by kernel_rfl, ?y4_775⟩) (hHeld) ?_
          case y4_775 =>
            intro w' hSw
            go_simp
            try with_reducible rfl
          refine wpAnyH_take' (i := 5) (v := ?v5_776) (some 65) rfl rfl (by kernel_rfl) (by kernel_rfl) (by kernel_rfl) (fun _ _ _ h => h) (Or.inl ⟨by kernel_rfl, ?y5_776⟩) (hHeld) ?_
          case y5_776 =>
            intro w' hSw
            go_simp
            try with_reducible rfl
          refine wpAnyH_take' (i := 6) (v := ?v6_777) (some 66) rfl rfl (by kernel_rfl) (by kernel_rfl) (by kernel_rfl) (fun _ _ _ h => h) (Or.inl ⟨by kernel_rfl, ?y6_777⟩) (hHeld) ?_
          case y6_777 =>
            intro w' hSw
            go_simp
            try with_reducible rfl
          refine wpAnyH_take' (i := 7) (v := ?v7_778) (some 67) rfl rfl (by kernel_rfl) (by kernel_rfl) (by kernel_rfl) (fun _ _ _ h => h) (Or.inl ⟨by kernel_rfl, ?y7_778⟩) (hHeld) ?_
          case y7_778 =>
            intro w' hSw
            have ky' := fun i => (hSw.cell (p := ⟨wd.heap.size, i, none⟩) ly).trans (ky i); go_simp
            try with_reducible rfl
          refine wpAnyH_take' (i := 8) (v := ?v8_779) (some 68) rfl rfl (by kernel_rfl) (by kernel_rfl) (by kernel_rfl) (fun _ _ _ h => h) (Or.inl ⟨by kernel_rfl, ?y8_779⟩) (hHeld) ?_
          case y8_779 =>
            intro w' hSw
            go_simp
            try with_reducible rfl
          refine wpAnyH_take' (i := 9) (v := ?v9_780) (some 69) rfl rfl (by kernel_rfl) (by kernel_rfl) (by kernel_rfl) (fun _ _ _ h => h) (Or.inl ⟨by kernel_rfl, ?y9_780⟩) (hHeld) ?_
          case y9_780 =>
            intro w' hSw
            go_simp
            try with_reducible rfl
          refine wpAnyH_take' (i := 10) (v := ?v10_781) (some 70) rfl rfl (by kernel_rfl) (by kernel_rfl) (by kernel_rfl) (fun _ _ _ h => h) (Or.inl ⟨by kernel_rfl, ?y10_781⟩) (hHeld) ?_
          case y10_781 =>
            intro w' hSw
            go_simp
            try with_reducible rfl
          refine wpAnyH_take' (i := 11) (v := ?v11_782) (some 71) rfl rfl (by kernel_rfl) (by kernel_rfl) (by kernel_rfl) (fun _ _ _ h => h) (Or.inl ⟨by kernel_rfl, ?y11_782⟩) (hHeld) ?_
          case y11_782 =>
            intro w' hSw
            go_simp
            try with_reducible rfl
          refine wpAnyH_take' (i := 12) (v := ?v12_783) (some 72) rfl rfl (by kernel_rfl) (by kernel_rfl) (by kernel_rfl) (fun _ _ _ h => h) (Or.inl ⟨by kernel_rfl, ?y12_783⟩) (hHeld) ?_
          case y12_783 =>
            intro w' hSw
            have cD' := (hSw.cell (p := ⟨bD, oD + i, none⟩) lD2).trans cD2; go_simp
            try with_reducible rfl
          refine wpAnyH_take' (i := 13) (v := ?v13_784) (some 73) rfl rfl (by kernel_rfl) (by kernel_rfl) (by kernel_rfl) (fun _ _ _ h => h) (Or.inl ⟨by kernel_rfl, ?y13_784⟩) (hHeld) ?_
          case y13_784 =>
            intro w' hSw
            go_simp
            try with_reducible rfl
          refine wpAnyH_take' (i := 14) (v := ?v14_785) (some 74) rfl rfl (by kernel_rfl) (by kernel_rfl) (by kernel_rfl) (fun _ _ _ h => h) (Or.inl ⟨by kernel_rfl, ?y14_785⟩) (hHeld) ?_
          case y14_785 =>
            intro w' hSw
            go_simp
            try with_reducible rfl
          refine wpAnyH_take' (i := 15) (v := ?v15_786) (some 75) rfl rfl (by kernel_rfl) (by kernel_rfl) (by kernel_rfl) (fun _ _ _ h => h) (Or.inl ⟨by kernel_rfl, ?y15_786⟩) (hHeld) ?_
          case y15_786 =>
            intro w' hSw
            go_simp
            try with_reducible rfl
          refine wpAnyH_take' (i := 16) (v := ?v16_787) (some 76) rfl rfl (by kernel_rfl) (by kernel_rfl) (by kernel_rfl) (fun _ _ _ h => h) (Or.inl ⟨by kernel_rfl, ?y16_787⟩) (hHeld) ?_
          case y16_787 =>
            intro w' hSw
            go_simp
            try with_reducible rfl
          refine wpAnyH_done (by kernel_rfl) ?_ _
          go_simp
          clear ky fy ly
          go_upto_region 14 with fail
          refine wp_at ?_
          intro W14 hW
          have x_W14 : Ext W12 W14 := by rw [hW]; repeat (first | exact ext_refl _ | assumption | refine ext_more' ?_ _ _ | refine ext_drew ?_ | refine ext_drewN ?_ _ | refine ext_alloc ?_ _)
          have H14 := Lib.hid (H12.out.ext x_W14)
          have cD4 := (x_W14.cell (p := ⟨bD, oD + i, none⟩) lD2).trans cD2
          have lD4 := Nat.lt_of_lt_of_le lD2 x_W14.size
          clear H12 x_W14 cD2 lD2 hHeld
          clear hW
          obtain ⟨w15, hrun15, hm15, hc15, hz15⟩ := run_mdel (P := Try.prog) (ty := 0) Try.underlying25 Try.underlying3 (H14.out.mapAt 2 rfl) d 3
          have hh15 : Has w15 [oldR w, heapR hb mb rgd (wo d (x0 :: S0)) 1000, mapR tb .i64 (mdel d M), boxR lb #[.int .i64 last.due, .int .i64 last.id] (sz2 _ _)] := (H14.out.mapped 2 rfl hm15 hc15).del 4
          have hids0 := (HH.out.heapAt 1 rfl).ids
          have ht1 := thM_wo HTH.out hids0 d
          have hl1 : first = false → ∀ y ∈ wo d (x0 :: S0), Ahd last y := fun e y hy => HAH.out e y (wo_sub d _ y hy)
          have hz1 : (wo d (x0 :: S0)).length + i ≤ 300 := by have := wo_length_le d (x0 :: S0); omega
          have hg1 : (wo d (x0 :: S0)).length ≤ gk := by have := wo_length_le d (x0 :: S0); omega
          generalize wo d (x0 :: S0) = S1 at hh15 ht1 hl1 hz1 hg1
          generalize mdel d M = M1 at hh15 ht1
          have H15 := Lib.hid hh15; have HT1 := Lib.hid ht1; have HL1 := Lib.hid hl1
          clear hm15 hc15 hz15 hids0 hh15 ht1 hl1
          go_upto_region 15 with fail
          clear hrun15 cD4 lD4
          obtain ⟨rg1, hrg1⟩ : ∃ rg1, rg1 = rgd := ⟨_, rfl⟩
          rw [← hrg1] at H15
          clear hrg1
          refine wp_at ?_
          intro W15 hW
          obtain rfl : w15 = W15 := hW.symm
          have hids1 := (H15.out.heapAt 1 rfl).ids
          have hsrt1 := (H15.out.heapAt 1 rfl).srt
          have hml1 := HT1.out.2.1
          cases S1 with
          | nil =>
            go_upto_region 16 with (go_at_call 13; refine (pop_calls hb mb rg1 [] 1000 _ ((H15.out.ext (by repeat (first | exact ext_refl _ | assumption | refine ext_more' ?_ _ _ | refine ext_drew ?_ | refine ext_drewN ?_ _ | refine ext_alloc ?_ _))).heapAt 1 rfl)).mono ?_; rw [show otV ([] : List Tmr).head? = .tuple #[.agg #[.int .i64 0, .int .i64 0], .bool false] from rfl]; rintro e wp ⟨rfl, hp⟩; have HP := Lib.hid hp; clear hp)
            refine wp_at ?_
            intro W16 hW
            have x_W16 : Ext wp W16 := by rw [hW]; repeat (first | exact ext_refl _ | assumption | refine ext_more' ?_ _ _ | refine ext_drew ?_ | refine ext_drewN ?_ _ | refine ext_alloc ?_ _)
            obtain ⟨rg2, hh2⟩ := (H15.out.ext (by repeat (first | exact ext_refl _ | assumption | refine ext_more' ?_ _ _ | refine ext_drew ?_ | refine ext_drewN ?_ _ | refine ext_alloc ?_ _))).heap 1 rfl HP.out
            clear hW
            have hh16 : Has W16 [oldR w, heapR hb mb rg2 [] 1000, mapR tb .i64 M1, boxR lb #[.int .i64 last.due, .int .i64 last.id] (sz2 _ _)] := hh2.ext x_W16
            have hml0 : (M1.length : Int) = 0 := by rw [hml1]; rfl
            have HML := Lib.hid hml0
            have HQ := Lib.hid hh16
            have hfl := run_mlen7 (P := Try.prog) (ty := 3) Try.underlying25 (hh16.mapAt 2 rfl)
            rw [hml0] at hfl
            clear hh16 hh2 HP hml0 hml1 hids1 hsrt1 x_W16
            go_upto_region 24 with fail
            refine wp_at ?_
            intro W24 hW
            have x_W24 : Ext W16 W24 := by rw [hW]; repeat (first | exact ext_refl _ | assumption | refine ext_more' ?_ _ _ | refine ext_drew ?_ | refine ext_drewN ?_ _ | refine ext_alloc ?_ _)
            have H24 := Lib.hid (HQ.out.ext x_W24)
            clear hfl HQ x_W24
            clear hW
            go_upto_region 25 with (go_at_call 13; refine (pop_calls hb mb _ [] 1000 _ ((H24.out.ext (by repeat (first | exact ext_refl _ | assumption | refine ext_more' ?_ _ _ | refine ext_drew ?_ | refine ext_drewN ?_ _ | refine ext_alloc ?_ _))).heapAt 1 rfl)).mono ?_; rw [show otV ([] : List Tmr).head? = .tuple #[.agg #[.int .i64 0, .int .i64 0], .bool false] from rfl]; rintro e wp ⟨rfl, hp⟩; have HP := Lib.hid hp; clear hp)
            obtain ⟨rg3, hhp⟩ := (H24.out.ext (by repeat (first | exact ext_refl _ | assumption | refine ext_more' ?_ _ _ | refine ext_drew ?_ | refine ext_drewN ?_ _ | refine ext_alloc ?_ _))).heap 1 rfl HP.out
            clear HP
            refine wp_at ?_
            intro WT hW
            have hht : Has WT [oldR w, heapR hb mb rg3 [] 1000, mapR tb .i64 M1, boxR lb #[.int .i64 last.due, .int .i64 last.id] (sz2 _ _)] := hhp.ext (by rw [hW]; repeat (first | exact ext_refl _ | assumption | refine ext_more' ?_ _ _ | refine ext_drew ?_ | refine ext_drewN ?_ _ | refine ext_alloc ?_ _))
            have HHT := Lib.hid hht
            have hfl := fun w' (hx : Ext WT w') => run_mlen7 (P := Try.prog) (ty := 3) Try.underlying25 ((HHT.out.mapAt 2 rfl).ext hx)
            have HFL := Lib.hid hfl
            clear hW hhp hht hfl
            go_wp2_with (first
              | (go_at_call 15; refine (len_calls hb mb rg3 [] 1000 _ ((HHT.out.ext (by repeat (first | exact ext_refl _ | assumption | refine ext_more' ?_ _ _ | refine ext_drew ?_ | refine ext_drewN ?_ _ | refine ext_alloc ?_ _))).heapAt 1 rfl)).mono ?_; rw [show ((([] : List Tmr).length : Nat) : Int) = 0 from rfl]; rintro e wl ⟨rfl, hxl⟩; have HXL := Lib.hid hxl; have hfl := HFL.out wl hxl; rw [HML.out] at hfl; clear hxl)
              | (go_at_call 16; refine (awake07_calls _).mono ?_; rintro e wa ⟨rfl, hxa⟩; have HXA := Lib.hid hxa; clear hxa))
            go_ret
            exact ⟨rfl, ext_trans (HHT.out.oldAt 0 rfl) (ext_trans HXL.out HXA.out)⟩
          | cons y S2 =>
            go_upto_region 16 with (go_at_call 13; refine (pop_calls hb mb rg1 (y :: S2) 1000 _ ((H15.out.ext (by repeat (first | exact ext_refl _ | assumption | refine ext_more' ?_ _ _ | refine ext_drew ?_ | refine ext_drewN ?_ _ | refine ext_alloc ?_ _))).heapAt 1 rfl)).mono ?_; rw [show otV ((y :: S2) : List Tmr).head? = .tuple #[.agg #[.int .i64 y.due, .int .i64 y.id], .bool true] from rfl]; rintro e wp ⟨rfl, hp⟩; have HP := Lib.hid hp; clear hp)
            refine wp_at ?_
            intro W16 hW
            have x_W16 : Ext wp W16 := by rw [hW]; repeat (first | exact ext_refl _ | assumption | refine ext_more' ?_ _ _ | refine ext_drew ?_ | refine ext_drewN ?_ _ | refine ext_alloc ?_ _)
            obtain ⟨rg2, hh2⟩ := (H15.out.ext (by repeat (first | exact ext_refl _ | assumption | refine ext_more' ?_ _ _ | refine ext_drew ?_ | refine ext_drewN ?_ _ | refine ext_alloc ?_ _))).heap 1 rfl HP.out
            have hb2 := hh2.box (ext_refl _) (show 0 < (#[.int .i64 y.due, .int .i64 y.id] : Array Value).size from sz2 _ _) (by rw [hW]; repeat (first | exact ext_refl _ | assumption | refine ext_more' ?_ _ _ | refine ext_drew ?_ | refine ext_drewN ?_ _ | refine ext_alloc ?_ _) : Ext (World.alloc wp (.cells _ _)) W16)
            clear hW
            have hh16 : Has W16 [oldR w, heapR hb mb rg2 S2 1000, mapR tb .i64 M1, boxR lb #[.int .i64 last.due, .int .i64 last.id] (sz2 _ _), boxR wp.heap.size #[.int .i64 y.due, .int .i64 y.id] (sz2 _ _)] := hb2
            have H16 := Lib.hid hh16
            have hpos : (0 : Int) < (M1.length : Int) := by rw [hml1]; simp only [List.length_cons]; omega
            have hpd : decide ((0 : Int) < (M1.length : Int)) = true := by simpa using hpos
            have hpd2 : decide (0 < M1.length) = true := by simpa using hpos
            have hfl := run_mlen7 (P := Try.prog) (ty := 3) Try.underlying25 (hh16.mapAt 2 rfl)
            have HI1 := Lib.hid hids1; have HS1 := Lib.hid hsrt1; have HM1 := Lib.hid hml1
            clear hh16 hh2 hb2 HP hml1 hids1 hsrt1 x_W16
            go_upto_region 19 with fail
            refine wp_at ?_
            intro W19 hW
            have x_W19 : Ext W16 W19 := by rw [hW]; repeat (first | exact ext_refl _ | assumption | refine ext_more' ?_ _ _ | refine ext_drew ?_ | refine ext_drewN ?_ _ | refine ext_alloc ?_ _)
            have H19 := Lib.hid (H16.out.ext x_W19)
            clear hfl hpos hpd hpd2 H16 x_W19
            clear hW
            have ky := (H19.out.boxAt 4 rfl).1
            have fy := (H19.out.boxAt 4 rfl).2
            have ly := at_lt (H19.out.boxAt 4 rfl) (sz2 _ _)
            have hlk := (run_mlook (P := Try.prog) Try.underlying25 Try.underlying3 (H19.out.mapAt 2 rfl) y.id (int0z8 W19)).2
            rw [HT1.out.1] at hlk
            rw [fnd_head] at hlk
            simp only [Option.map_some, Option.getD_some, Option.isSome_some] at hlk
            go_upto_region 20 with fail
            refine wp_at ?_
            intro W20 hW
            have x_W20 : Ext W19 W20 := by rw [hW]; repeat (first | exact ext_refl _ | assumption | refine ext_more' ?_ _ _ | refine ext_drew ?_ | refine ext_drewN ?_ _ | refine ext_alloc ?_ _)
            have H20 := Lib.hid (H19.out.ext x_W20)
            clear hlk ky fy ly H19 x_W20
            clear hW
            cases first with
            | true =>
              have ky := (H20.out.boxAt 4 rfl).1
              have fy := (H20.out.boxAt 4 rfl).2
              have ly := at_lt (H20.out.boxAt 4 rfl) (sz2 _ _)
              go_upto_region 22 with fail
              refine wp_at ?_
              intro W22 hW
              have x_W22 : Ext W20 W22 := by rw [hW]; repeat (first | exact ext_refl _ | assumption | refine ext_more' ?_ _ _ | refine ext_drew ?_ | refine ext_drewN ?_ _ | refine ext_alloc ?_ _)
              have H22 := Lib.hid (H20.out.ext x_W22)
              clear H20 x_W22 ky fy ly
              clear hW
              have ky := (H22.out.boxAt 4 rfl).1
              have fy := (H22.out.boxAt 4 rfl).2
              have ly := at_lt (H22.out.boxAt 4 rfl) (sz2 _ _)
              obtain ⟨w23, hrun23, hm23, hc23, hz23⟩ := run_mdel (P := Try.prog) (ty := 0) Try.underlying25 Try.underlying3 (H22.out.mapAt 2 rfl) y.id 3
              have hh23 : Has w23 [oldR w, heapR hb mb rg2 S2 1000, mapR tb .i64 (mdel y.id M1), boxR lb #[.int .i64 last.due, .int .i64 last.id] (sz2 _ _), boxR wp.heap.size #[.int .i64 y.due, .int .i64 y.id] (sz2 _ _)] := H22.out.mapped 2 rfl hm23 hc23
              have H23 := Lib.hid hh23
              have HZ23 := Lib.hid hz23
              clear hh23 hm23 hc23 hz23
              go_upto_region 23 with fail
              clear hrun23 ky fy ly
              have ky := (H23.out.boxAt 4 rfl).1
              have fy := (H23.out.boxAt 4 rfl).2
              have ly := at_lt (H23.out.boxAt 4 rfl) (sz2 _ _)
              have kz := (H23.out.boxAt 3 rfl).1
              have fz := (H23.out.boxAt 3 rfl).2
              have lz := at_lt (H23.out.boxAt 3 rfl) (sz2 _ _)
              go_upto_region 8 with fail
              refine wp_at ?_
              intro W8 hW
              have hat8 : At W8 lb #[.int .i64 y.due, .int .i64 y.id] := by rw [hW]; exact at_put (at_put (H23.out.boxAt 3 rfl) (by simp) rfl) (by simp) rfl
              have hc8 : Chg (fun q => q = lb) w23 W8 := by rw [hW]; exact chg_put (chg_put (Chg.refl _ _))
              have hh8 : Has W8 [oldR w, heapR hb mb rg2 S2 1000, mapR tb .i64 (mdel y.id M1), boxR lb #[.int .i64 y.due, .int .i64 y.id] (sz2 _ _)] := (H23.out.wrote 3 rfl (sz2 _ _) hat8 hc8).del 4
              have H8 := Lib.hid hh8
              clear hW hat8 hc8 hh8 ky fy ly kz fz lz H23
              go_wp2
              have hth2 := thM_wo HT1.out HI1.out y.id
              rw [wo_head HI1.out] at hth2
              go_roundg S2.length
              case measure => simp only [List.length_cons] at hg1 hgk; omega
              case rel => exact ⟨i + 1, S2, mdel y.id M1, rg2, y, false, rfl, by go_num, rfl, by simp at hz1; omega, hth2, H8.out, fun _ z hz => HS1.out.head z hz⟩
            | false =>
              have ky := (H20.out.boxAt 4 rfl).1
              have fy := (H20.out.boxAt 4 rfl).2
              have ly := at_lt (H20.out.boxAt 4 rfl) (sz2 _ _)
              have kz := (H20.out.boxAt 3 rfl).1
              have fz := (H20.out.boxAt 3 rfl).2
              have lz := at_lt (H20.out.boxAt 3 rfl) (sz2 _ _)
              have HAY := Lib.hid (show ahd last y = true from ahd_iff.2 (HL1.out rfl y List.mem_cons_self))
              go_upto_region 22 with (go_at_call 14; refine (ahead_calls last y _).mono ?_; rw [HAY.out]; rintro e u14 ⟨rfl, hx14⟩)
              refine wp_at ?_
              intro W22 hW
              have x_W22 : Ext W20 W22 := by rw [hW]; repeat (first | exact ext_refl _ | assumption | refine ext_more' ?_ _ _ | refine ext_drew ?_ | refine ext_drewN ?_ _ | refine ext_alloc ?_ _)
              have H22 := Lib.hid (H20.out.ext x_W22)
              clear H20 x_W22 ky fy ly kz fz lz hx14
              clear hW
              have ky := (H22.out.boxAt 4 rfl).1
              have fy := (H22.out.boxAt 4 rfl).2
              have ly := at_lt (H22.out.boxAt 4 rfl) (sz2 _ _)
              obtain ⟨w23, hrun23, hm23, hc23, hz23⟩ := run_mdel (P := Try.prog) (ty := 0) Try.underlying25 Try.underlying3 (H22.out.mapAt 2 rfl) y.id 3
              have hh23 : Has w23 [oldR w, heapR hb mb rg2 S2 1000, mapR tb .i64 (mdel y.id M1), boxR lb #[.int .i64 last.due, .int .i64 last.id] (sz2 _ _), boxR wp.heap.size #[.int .i64 y.due, .int .i64 y.id] (sz2 _ _)] := H22.out.mapped 2 rfl hm23 hc23
              have H23 := Lib.hid hh23
              have HZ23 := Lib.hid hz23
              clear hh23 hm23 hc23 hz23
              go_upto_region 23 with fail
              clear hrun23 ky fy ly
              have ky := (H23.out.boxAt 4 rfl).1
              have fy := (H23.out.boxAt 4 rfl).2
              have ly := at_lt (H23.out.boxAt 4 rfl) (sz2 _ _)
              have kz := (H23.out.boxAt 3 rfl).1
              have fz := (H23.out.boxAt 3 rfl).2
              have lz := at_lt (H23.out.boxAt 3 rfl) (sz2 _ _)
              go_upto_region 8 with fail
              refine wp_at ?_
              intro W8 hW
              have hat8 : At W8 lb #[.int .i64 y.due, .int .i64 y.id] := by rw [hW]; exact at_put (at_put (H23.out.boxAt 3 rfl) (by simp) rfl) (by simp) rfl
              have hc8 : Chg (fun q => q = lb) w23 W8 := by rw [hW]; exact chg_put (chg_put (Chg.refl _ _))
              have hh8 : Has W8 [oldR w, heapR hb mb rg2 S2 1000, mapR tb .i64 (mdel y.id M1), boxR lb #[.int .i64 y.due, .int .i64 y.id] (sz2 _ _)] := (H23.out.wrote 3 rfl (sz2 _ _) hat8 hc8).del 4
              have H8 := Lib.hid hh8
              clear hW hat8 hc8 hh8 ky fy ly kz fz lz H23
              go_wp2
              have hth2 := thM_wo HT1.out HI1.out y.id
              rw [wo_head HI1.out] at hth2
              go_roundg S2.length
              case measure => simp only [List.length_cons] at hg1 hgk; omega
              case rel => exact ⟨i + 1, S2, mdel y.id M1, rg2, y, false, rfl, by go_num, rfl, by simp at hz1; omega, hth2, H8.out, fun _ z hz => HS1.out.head z hz⟩
      · have hid2 : ¬ ((i : Int) < (D.length : Int)) := by omega
        go_upto_region 15 with fail
        refine wp_at ?_
        intro W15 hW
        have x_W15 : Ext wr W15 := by rw [hW]; repeat (first | exact ext_refl _ | assumption | refine ext_more' ?_ _ _ | refine ext_drew ?_ | refine ext_drewN ?_ _ | refine ext_alloc ?_ _)
        have H15 := Lib.hid (HH.out.ext x_W15)
        clear x_W15
        clear hW
        clear hfl
        obtain ⟨S1, hS1⟩ : ∃ S1, S1 = x0 :: S0 := ⟨_, rfl⟩
        have hz1 : S1.length + i ≤ 300 := by rw [hS1]; exact hle
        have hg1 : S1.length ≤ gk := by rw [hS1, hgk]; exact Nat.le_refl _
        rw [← hS1] at H15 HTH HAH
        obtain ⟨M1, hM1⟩ : ∃ M1, M1 = M := ⟨_, rfl⟩
        obtain ⟨rg1, hrg1⟩ : ∃ rg1, rg1 = rg := ⟨_, rfl⟩
        rw [← hM1] at H15 HTH
        rw [← hrg1] at H15
        have HT1 := HTH; have HL1 := HAH
        clear hS1 hM1 hrg1
        have hids1 := (H15.out.heapAt 1 rfl).ids
        have hsrt1 := (H15.out.heapAt 1 rfl).srt
        have hml1 := HT1.out.2.1
        cases S1 with
        | nil =>
          go_upto_region 16 with (go_at_call 13; refine (pop_calls hb mb rg1 [] 1000 _ ((H15.out.ext (by repeat (first | exact ext_refl _ | assumption | refine ext_more' ?_ _ _ | refine ext_drew ?_ | refine ext_drewN ?_ _ | refine ext_alloc ?_ _))).heapAt 1 rfl)).mono ?_; rw [show otV ([] : List Tmr).head? = .tuple #[.agg #[.int .i64 0, .int .i64 0], .bool false] from rfl]; rintro e wp ⟨rfl, hp⟩; have HP := Lib.hid hp; clear hp)
          refine wp_at ?_
          intro W16 hW
          have x_W16 : Ext wp W16 := by rw [hW]; repeat (first | exact ext_refl _ | assumption | refine ext_more' ?_ _ _ | refine ext_drew ?_ | refine ext_drewN ?_ _ | refine ext_alloc ?_ _)
          obtain ⟨rg2, hh2⟩ := (H15.out.ext (by repeat (first | exact ext_refl _ | assumption | refine ext_more' ?_ _ _ | refine ext_drew ?_ | refine ext_drewN ?_ _ | refine ext_alloc ?_ _))).heap 1 rfl HP.out
          clear hW
          have hh16 : Has W16 [oldR w, heapR hb mb rg2 [] 1000, mapR tb .i64 M1, boxR lb #[.int .i64 last.due, .int .i64 last.id] (sz2 _ _)] := hh2.ext x_W16
          have hml0 : (M1.length : Int) = 0 := by rw [hml1]; rfl
          have HML := Lib.hid hml0
          have HQ := Lib.hid hh16
          have hfl := run_mlen7 (P := Try.prog) (ty := 3) Try.underlying25 (hh16.mapAt 2 rfl)
          rw [hml0] at hfl
          clear hh16 hh2 HP hml0 hml1 hids1 hsrt1 x_W16
          go_upto_region 24 with fail
          refine wp_at ?_
          intro W24 hW
          have x_W24 : Ext W16 W24 := by rw [hW]; repeat (first | exact ext_refl _ | assumption | refine ext_more' ?_ _ _ | refine ext_drew ?_ | refine ext_drewN ?_ _ | refine ext_alloc ?_ _)
          have H24 := Lib.hid (HQ.out.ext x_W24)
          clear hfl HQ x_W24
          clear hW
          go_upto_region 25 with (go_at_call 13; refine (pop_calls hb mb _ [] 1000 _ ((H24.out.ext (by repeat (first | exact ext_refl _ | assumption | refine ext_more' ?_ _ _ | refine ext_drew ?_ | refine ext_drewN ?_ _ | refine ext_alloc ?_ _))).heapAt 1 rfl)).mono ?_; rw [show otV ([] : List Tmr).head? = .tuple #[.agg #[.int .i64 0, .int .i64 0], .bool false] from rfl]; rintro e wp ⟨rfl, hp⟩; have HP := Lib.hid hp; clear hp)
          obtain ⟨rg3, hhp⟩ := (H24.out.ext (by repeat (first | exact ext_refl _ | assumption | refine ext_more' ?_ _ _ | refine ext_drew ?_ | refine ext_drewN ?_ _ | refine ext_alloc ?_ _))).heap 1 rfl HP.out
          clear HP
          refine wp_at ?_
          intro WT hW
          have hht : Has WT [oldR w, heapR hb mb rg3 [] 1000, mapR tb .i64 M1, boxR lb #[.int .i64 last.due, .int .i64 last.id] (sz2 _ _)] := hhp.ext (by rw [hW]; repeat (first | exact ext_refl _ | assumption | refine ext_more' ?_ _ _ | refine ext_drew ?_ | refine ext_drewN ?_ _ | refine ext_alloc ?_ _))
          have HHT := Lib.hid hht
          have hfl := fun w' (hx : Ext WT w') => run_mlen7 (P := Try.prog) (ty := 3) Try.underlying25 ((HHT.out.mapAt 2 rfl).ext hx)
          have HFL := Lib.hid hfl
          clear hW hhp hht hfl
          go_wp2_with (first
            | (go_at_call 15; refine (len_calls hb mb rg3 [] 1000 _ ((HHT.out.ext (by repeat (first | exact ext_refl _ | assumption | refine ext_more' ?_ _ _ | refine ext_drew ?_ | refine ext_drewN ?_ _ | refine ext_alloc ?_ _))).heapAt 1 rfl)).mono ?_; rw [show ((([] : List Tmr).length : Nat) : Int) = 0 from rfl]; rintro e wl ⟨rfl, hxl⟩; have HXL := Lib.hid hxl; have hfl := HFL.out wl hxl; rw [HML.out] at hfl; clear hxl)
            | (go_at_call 16; refine (awake07_calls _).mono ?_; rintro e wa ⟨rfl, hxa⟩; have HXA := Lib.hid hxa; clear hxa))
          go_ret
          exact ⟨rfl, ext_trans (HHT.out.oldAt 0 rfl) (ext_trans HXL.out HXA.out)⟩
        | cons y S2 =>
          go_upto_region 16 with (go_at_call 13; refine (pop_calls hb mb rg1 (y :: S2) 1000 _ ((H15.out.ext (by repeat (first | exact ext_refl _ | assumption | refine ext_more' ?_ _ _ | refine ext_drew ?_ | refine ext_drewN ?_ _ | refine ext_alloc ?_ _))).heapAt 1 rfl)).mono ?_; rw [show otV ((y :: S2) : List Tmr).head? = .tuple #[.agg #[.int .i64 y.due, .int .i64 y.id], .bool true] from rfl]; rintro e wp ⟨rfl, hp⟩; have HP := Lib.hid hp; clear hp)
          refine wp_at ?_
          intro W16 hW
          have x_W16 : Ext wp W16 := by rw [hW]; repeat (first | exact ext_refl _ | assumption | refine ext_more' ?_ _ _ | refine ext_drew ?_ | refine ext_drewN ?_ _ | refine ext_alloc ?_ _)
          obtain ⟨rg2, hh2⟩ := (H15.out.ext (by repeat (first | exact ext_refl _ | assumption | refine ext_more' ?_ _ _ | refine ext_drew ?_ | refine ext_drewN ?_ _ | refine ext_alloc ?_ _))).heap 1 rfl HP.out
          have hb2 := hh2.box (ext_refl _) (show 0 < (#[.int .i64 y.due, .int .i64 y.id] : Array Value).size from sz2 _ _) (by rw [hW]; repeat (first | exact ext_refl _ | assumption | refine ext_more' ?_ _ _ | refine ext_drew ?_ | refine ext_drewN ?_ _ | refine ext_alloc ?_ _) : Ext (World.alloc wp (.cells _ _)) W16)
          clear hW
          have hh16 : Has W16 [oldR w, heapR hb mb rg2 S2 1000, mapR tb .i64 M1, boxR lb #[.int .i64 last.due, .int .i64 last.id] (sz2 _ _), boxR wp.heap.size #[.int .i64 y.due, .int .i64 y.id] (sz2 _ _)] := hb2
          have H16 := Lib.hid hh16
          have hpos : (0 : Int) < (M1.length : Int) := by rw [hml1]; simp only [List.length_cons]; omega
          have hpd : decide ((0 : Int) < (M1.length : Int)) = true := by simpa using hpos
          have hpd2 : decide (0 < M1.length) = true := by simpa using hpos
          have hfl := run_mlen7 (P := Try.prog) (ty := 3) Try.underlying25 (hh16.mapAt 2 rfl)
          have HI1 := Lib.hid hids1; have HS1 := Lib.hid hsrt1; have HM1 := Lib.hid hml1
          clear hh16 hh2 hb2 HP hml1 hids1 hsrt1 x_W16
          go_upto_region 19 with fail
          refine wp_at ?_
          intro W19 hW
          have x_W19 : Ext W16 W19 := by rw [hW]; repeat (first | exact ext_refl _ | assumption | refine ext_more' ?_ _ _ | refine ext_drew ?_ | refine ext_drewN ?_ _ | refine ext_alloc ?_ _)
          have H19 := Lib.hid (H16.out.ext x_W19)
          clear hfl hpos hpd hpd2 H16 x_W19
          clear hW
          have ky := (H19.out.boxAt 4 rfl).1
          have fy := (H19.out.boxAt 4 rfl).2
          have ly := at_lt (H19.out.boxAt 4 rfl) (sz2 _ _)
          have hlk := (run_mlook (P := Try.prog) Try.underlying25 Try.underlying3 (H19.out.mapAt 2 rfl) y.id (int0z8 W19)).2
          rw [HT1.out.1] at hlk
          rw [fnd_head] at hlk
          simp only [Option.map_some, Option.getD_some, Option.isSome_some] at hlk
          go_upto_region 20 with fail
          refine wp_at ?_
          intro W20 hW
          have x_W20 : Ext W19 W20 := by rw [hW]; repeat (first | exact ext_refl _ | assumption | refine ext_more' ?_ _ _ | refine ext_drew ?_ | refine ext_drewN ?_ _ | refine ext_alloc ?_ _)
          have H20 := Lib.hid (H19.out.ext x_W20)
          clear hlk ky fy ly H19 x_W20
          clear hW
          cases first with
          | true =>
            have ky := (H20.out.boxAt 4 rfl).1
            have fy := (H20.out.boxAt 4 rfl).2
            have ly := at_lt (H20.out.boxAt 4 rfl) (sz2 _ _)
            go_upto_region 22 with fail
            refine wp_at ?_
            intro W22 hW
            have x_W22 : Ext W20 W22 := by rw [hW]; repeat (first | exact ext_refl _ | assumption | refine ext_more' ?_ _ _ | refine ext_drew ?_ | refine ext_drewN ?_ _ | refine ext_alloc ?_ _)
            have H22 := Lib.hid (H20.out.ext x_W22)
            clear H20 x_W22 ky fy ly
            clear hW
            have ky := (H22.out.boxAt 4 rfl).1
            have fy := (H22.out.boxAt 4 rfl).2
            have ly := at_lt (H22.out.boxAt 4 rfl) (sz2 _ _)
            obtain ⟨w23, hrun23, hm23, hc23, hz23⟩ := run_mdel (P := Try.prog) (ty := 0) Try.underlying25 Try.underlying3 (H22.out.mapAt 2 rfl) y.id 3
            have hh23 : Has w23 [oldR w, heapR hb mb rg2 S2 1000, mapR tb .i64 (mdel y.id M1), boxR lb #[.int .i64 last.due, .int .i64 last.id] (sz2 _ _), boxR wp.heap.size #[.int .i64 y.due, .int .i64 y.id] (sz2 _ _)] := H22.out.mapped 2 rfl hm23 hc23
            have H23 := Lib.hid hh23
            have HZ23 := Lib.hid hz23
            clear hh23 hm23 hc23 hz23
            go_upto_region 23 with fail
            clear hrun23 ky fy ly
            have ky := (H23.out.boxAt 4 rfl).1
            have fy := (H23.out.boxAt 4 rfl).2
            have ly := at_lt (H23.out.boxAt 4 rfl) (sz2 _ _)
            have kz := (H23.out.boxAt 3 rfl).1
            have fz := (H23.out.boxAt 3 rfl).2
            have lz := at_lt (H23.out.boxAt 3 rfl) (sz2 _ _)
            go_upto_region 8 with fail
            refine wp_at ?_
            intro W8 hW
            have hat8 : At W8 lb #[.int .i64 y.due, .int .i64 y.id] := by rw [hW]; exact at_put (at_put (H23.out.boxAt 3 rfl) (by simp) rfl) (by simp) rfl
            have hc8 : Chg (fun q => q = lb) w23 W8 := by rw [hW]; exact chg_put (chg_put (Chg.refl _ _))
            have hh8 : Has W8 [oldR w, heapR hb mb rg2 S2 1000, mapR tb .i64 (mdel y.id M1), boxR lb #[.int .i64 y.due, .int .i64 y.id] (sz2 _ _)] := (H23.out.wrote 3 rfl (sz2 _ _) hat8 hc8).del 4
            have H8 := Lib.hid hh8
            clear hW hat8 hc8 hh8 ky fy ly kz fz lz H23
            go_wp2
            have hth2 := thM_wo HT1.out HI1.out y.id
            rw [wo_head HI1.out] at hth2
            go_roundg S2.length
            case measure => simp only [List.length_cons] at hg1 hgk; omega
            case rel => exact ⟨i + 1, S2, mdel y.id M1, rg2, y, false, rfl, by go_num, rfl, by simp at hz1; omega, hth2, H8.out, fun _ z hz => HS1.out.head z hz⟩
          | false =>
            have ky := (H20.out.boxAt 4 rfl).1
            have fy := (H20.out.boxAt 4 rfl).2
            have ly := at_lt (H20.out.boxAt 4 rfl) (sz2 _ _)
            have kz := (H20.out.boxAt 3 rfl).1
            have fz := (H20.out.boxAt 3 rfl).2
            have lz := at_lt (H20.out.boxAt 3 rfl) (sz2 _ _)
            have HAY := Lib.hid (show ahd last y = true from ahd_iff.2 (HL1.out rfl y List.mem_cons_self))
            go_upto_region 22 with (go_at_call 14; refine (ahead_calls last y _).mono ?_; rw [HAY.out]; rintro e u14 ⟨rfl, hx14⟩)
            refine wp_at ?_
            intro W22 hW
            have x_W22 : Ext W20 W22 := by rw [hW]; repeat (first | exact ext_refl _ | assumption | refine ext_more' ?_ _ _ | refine ext_drew ?_ | refine ext_drewN ?_ _ | refine ext_alloc ?_ _)
            have H22 := Lib.hid (H20.out.ext x_W22)
            clear H20 x_W22 ky fy ly kz fz lz hx14
            clear hW
            have ky := (H22.out.boxAt 4 rfl).1
            have fy := (H22.out.boxAt 4 rfl).2
            have ly := at_lt (H22.out.boxAt 4 rfl) (sz2 _ _)
            obtain ⟨w23, hrun23, hm23, hc23, hz23⟩ := run_mdel (P := Try.prog) (ty := 0) Try.underlying25 Try.underlying3 (H22.out.mapAt 2 rfl) y.id 3
            have hh23 : Has w23 [oldR w, heapR hb mb rg2 S2 1000, mapR tb .i64 (mdel y.id M1), boxR lb #[.int .i64 last.due, .int .i64 last.id] (sz2 _ _), boxR wp.heap.size #[.int .i64 y.due, .int .i64 y.id] (sz2 _ _)] := H22.out.mapped 2 rfl hm23 hc23
            have H23 := Lib.hid hh23
            have HZ23 := Lib.hid hz23
            clear hh23 hm23 hc23 hz23
            go_upto_region 23 with fail
            clear hrun23 ky fy ly
            have ky := (H23.out.boxAt 4 rfl).1
            have fy := (H23.out.boxAt 4 rfl).2
            have ly := at_lt (H23.out.boxAt 4 rfl) (sz2 _ _)
            have kz := (H23.out.boxAt 3 rfl).1
            have fz := (H23.out.boxAt 3 rfl).2
            have lz := at_lt (H23.out.boxAt 3 rfl) (sz2 _ _)
            go_upto_region 8 with fail
            refine wp_at ?_
            intro W8 hW
            have hat8 : At W8 lb #[.int .i64 y.due, .int .i64 y.id] := by rw [hW]; exact at_put (at_put (H23.out.boxAt 3 rfl) (by simp) rfl) (by simp) rfl
            have hc8 : Chg (fun q => q = lb) w23 W8 := by rw [hW]; exact chg_put (chg_put (Chg.refl _ _))
            have hh8 : Has W8 [oldR w, heapR hb mb rg2 S2 1000, mapR tb .i64 (mdel y.id M1), boxR lb #[.int .i64 y.due, .int .i64 y.id] (sz2 _ _)] := (H23.out.wrote 3 rfl (sz2 _ _) hat8 hc8).del 4
            have H8 := Lib.hid hh8
            clear hW hat8 hc8 hh8 ky fy ly kz fz lz H23
            go_wp2
            have hth2 := thM_wo HT1.out HI1.out y.id
            rw [wo_head HI1.out] at hth2
            go_roundg S2.length
            case measure => simp only [List.length_cons] at hg1 hgk; omega
            case rel => exact ⟨i + 1, S2, mdel y.id M1, rg2, y, false, rfl, by go_num, rfl, by simp at hz1; omega, hth2, H8.out, fun _ z hz => HS1.out.head z hz⟩
end Go.Proofs.Ytkicofagjebnjaa

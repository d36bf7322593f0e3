/- A heap's timer to where it belongs. -/
import Derived.Test.YtkicofagjebnjaaB07
namespace Go.Proofs.Ytkicofagjebnjaa
open Go.RowKit
set_option linter.unusedVariables false
set_option linter.unusedSimpArgs false

theorem least2 {l : List Tmr} {j k k2 : Nat} (hk : k = 2 * j + 1) (hk2 : k2 = k + 1) (hl : k2 < l.length) (h : Ahd (at_ l k2) (at_ l k)) : Least l j k2 :=
  ⟨by omega, hl, fun q h1 h2 e hne => by
    have := par_cases h1 e
    have : q = k := by omega
    rw [this]; exact h⟩
theorem least1 {l : List Tmr} {j k k2 : Nat} (hk : k = 2 * j + 1) (hk2 : k2 = k + 1) (hl : k < l.length) (h : Ahd (at_ l k) (at_ l k2)) : Least l j k :=
  ⟨by omega, hl, fun q h1 h2 e hne => by
    have := par_cases h1 e
    have : q = k2 := by omega
    rw [this]; exact h⟩
theorem least0 {l : List Tmr} {j k : Nat} (hk : k = 2 * j + 1) (hl : k < l.length) (h : l.length ≤ k + 1) : Least l j k :=
  ⟨by omega, hl, fun q h1 h2 e hne => by
    have := par_cases h1 e
    omega⟩

/-- Where the timers lie: the heap's box, the row, the map. -/
structure HpS (w : World) (hb mb g cap : Nat) (most : Int) (l : List Tmr) (M : List (Int × Value)) : Prop where
  box : At w hb #[.slice (some ⟨g, 0, none⟩) l.length cap, .map (some mb), .int .i64 most]
  row : w.ownsRow 0 29 2 (.slice (some ⟨g, 0, none⟩) l.length cap) l.length (l.flatMap tmrC)
  map : MpS w mb .i64 M
  fits : Fits l M
  keys : Keys M
def RightPost (w : World) (hb mb g cap : Nat) (most : Int) (l : List Tmr) : Prop := ∃ l' M', l'.Perm l ∧ Hp l' ∧ HpS w hb mb g cap most l' M'
theorem RightPost.mk {w : World} {hb mb g cap : Nat} {most : Int} {l l' : List Tmr} {M' : List (Int × Value)} (hp : l'.Perm l) (h : Hp l') (hbx : At w hb #[.slice (some ⟨g, 0, none⟩) l.length cap, .map (some mb), .int .i64 most]) (hr : w.ownsRow 0 29 2 (.slice (some ⟨g, 0, none⟩) l.length cap) l.length (l'.flatMap tmrC)) (hm : MpS w mb .i64 M') (hf : Fits l' M') (hk : Keys M') : RightPost w hb mb g cap most l := by
  have e := hp.length_eq
  rw [← e] at hbx hr
  exact ⟨l', M', hp, h, hbx, hr, hm, hf, hk⟩
def upI (j : Nat) : Int := Int.tdiv ((j : Int) - 1) 2
theorem upI_par {j : Nat} (h : 0 < j) : upI j = (par j : Nat) := by
  unfold upI par
  rw [Int.tdiv_eq_ediv_of_nonneg (by omega)]
  omega
theorem upI_lo (j : Nat) (h : j ≤ 100000) : IntKind.i64.wrap (Int.tdiv (IntKind.i64.wrap ((j : Int) - 1)) 2) = upI j := by
  have h1 : IntKind.i64.wrap ((j : Int) - 1) = (j : Int) - 1 := IntWalk.i64_in _ (by omega)
  rw [h1]
  refine IntWalk.i64_in _ ?_
  rcases Nat.eq_zero_or_pos j with e | e
  · subst e; decide
  · have := upI_par e
    unfold upI at this
    rw [this]
    have := par_lt e
    omega
set_option maxRecDepth 100000 in
set_option maxHeartbeats 8000000 in
theorem right_calls (l : List Tmr) (M : List (Int × Value)) (i hb mb g cap : Nat) (most : Int) (w : World)
    (hh : At w hb #[.slice (some ⟨g, 0, none⟩) l.length cap, .map (some mb), .int .i64 most]) (ho : w.ownsRow 0 29 2 (.slice (some ⟨g, 0, none⟩) l.length cap) l.length (l.flatMap tmrC)) (hm : MpS w mb .i64 M) (hf : Fits l M) (hky : Keys M) (hids : Ids l) (hil : i < l.length) (hpb : HpB l i) (hln : l.length ≤ 100000)
    (hd1 : g ≠ hb) (hd2 : mb ≠ hb) (hd5 : g ≠ mb) :
    Calls Try.prog 39 #[.pointer (some ⟨hb, 0, none⟩), .int .i64 i] w fun e w' => e = .returned (.tuple #[]) ∧ Chg (fun q => q = g ∨ q = mb) w w' ∧ RightPost w' hb mb g cap most l := by
  have HF := Lib.hid hf; have HIDS := Lib.hid hids; have HPB := Lib.hid hpb; have HKY := Lib.hid hky
  have HO := Lib.hid ho; have HH := Lib.hid hh; have HM := Lib.hid hm
  have hg0 : g < w.heap.size := own_lt ho
  have hb0 : hb < w.heap.size := at_lt hh (by simp)
  have hm0 : mb < w.heap.size := hm.lt
  have HU0 := Lib.hid (upI_lo i (by omega))
  clear hf hids hpb hky ho hh hm
  go_enter Try.func39, Try.ntmps39
  go_upto_region 1 with fail
  refine wp_at ?_
  intro W1 hW
  have x1 : Ext w W1 := by rw [hW]; repeat (first | exact ext_refl _ | assumption | refine ext_more' ?_ _ _ | refine ext_drew ?_ | refine ext_drewN ?_ _ | refine ext_alloc ?_ _)
  have hbc := at_new (by rw [hW]; repeat (first | exact ext_refl _ | assumption | refine ext_more' ?_ _ _ | refine ext_drew ?_ | refine ext_drewN ?_ _ | refine ext_alloc ?_ _) : Ext (World.alloc w (.cells _ _)) W1)
  clear hW
  have hd3 : g ≠ w.heap.size := by omega
  have hd4 : mb ≠ w.heap.size := by omega
  have HX1 := Lib.hid x1
  have HBC := Lib.hid hbc
  have HH1 := Lib.hid (at_ext HH.out (by simp) x1)
  have HO1 := Lib.hid (own_ext HO.out x1)
  have HM1 := Lib.hid (HM.out.ext x1)
  have hbcl : w.heap.size < W1.heap.size := at_lt HBC.out (by simp)
  clear hbc x1
  have hu0 := HU0.out
  go_upto_region 3 with fail
  clear hu0
  go_loopg [1, 5] i (fun gk k1 k5 wr => ∃ (j : Nat) (l' : List Tmr) (M' : List (Int × Value)), k1 = .int .i64 j ∧ k5 = .int .i64 (upI j) ∧ gk = j ∧ Chg (fun q => q = g ∨ q = mb) w wr ∧ At wr w.heap.size #[.pointer (some ⟨hb, 0, none⟩)] ∧ At wr hb #[.slice (some ⟨g, 0, none⟩) l.length cap, .map (some mb), .int .i64 most] ∧ wr.ownsRow 0 29 2 (.slice (some ⟨g, 0, none⟩) l.length cap) l.length (l'.flatMap tmrC) ∧ MpS wr mb .i64 M' ∧ Fits l' M' ∧ Keys M' ∧ l'.Perm l ∧ HpB l' j ∧ j < l.length)
  case atStart => exact ⟨i, l, M, rfl, rfl, rfl, Chg.ofExt HX1.out, HBC.out, HH1.out, HO1.out, HM1.out, HF.out, HKY.out, List.Perm.refl _, HPB.out, hil⟩
  case round =>
    obtain ⟨j, l', M', rfl, rfl, hgj, hcr, hbc, hbh, hor, hmr, hft, hkr, hpm, hpj, hjl⟩ := hrel
    have HLN := Lib.hid hpm.length_eq
    have HID := Lib.hid (HIDS.out.perm hpm.symm)
    have HFT := Lib.hid hft
    have HPJ := Lib.hid hpj
    clear hft hpj
    rcases Nat.eq_zero_or_pos j with hj0 | hj0
    · subst hj0
      have HPDx := Lib.hid (show HpD l' 0 from up_done HPJ.out (by have := HLN.out; omega) HID.out (.inl rfl))
      have kc := hbc.1
      have kh := hbh.1
      have lc := at_lt hbc (by simp)
      have lh := at_lt hbh (by simp)
      go_upto_region 3 with fail
      refine wp_region_held_drew (S := fun w' => Ext wr w') (by kernel_rfl) (ext_drew (ext_refl _)) (fun hHeld => ?_)
      refine wpAnyH_take' (i := 0) (v := ?v0_1) (some 11) rfl rfl (by kernel_rfl) (by kernel_rfl) (by kernel_rfl) (fun _ _ _ h => h) (Or.inl ⟨by kernel_rfl, ?y0_1⟩) (hHeld) ?_
      case y0_1 =>
        intro w' hSw
        go_simp
        try with_reducible rfl
      refine wpAnyH_take' (i := 1) (v := ?v1_2) (some 12) rfl rfl (by kernel_rfl) (by kernel_rfl) (by kernel_rfl) (fun _ _ _ h => h) (Or.inl ⟨by kernel_rfl, ?y1_2⟩) (hHeld) ?_
      case y1_2 =>
        intro w' hSw
        go_simp
        try with_reducible rfl
      refine wpAnyH_take' (i := 2) (v := ?v2_3) (some 13) rfl rfl (by kernel_rfl) (by kernel_rfl) (by kernel_rfl) (fun _ _ _ h => h) (Or.inl ⟨by kernel_rfl, ?y2_3⟩) (hHeld) ?_
      case y2_3 =>
        intro w' hSw
        go_simp
        try with_reducible rfl
      refine wpAnyH_take' (i := 3) (v := undef) (some 14) rfl rfl (by kernel_rfl) (by kernel_rfl) (by kernel_rfl) (fun _ _ _ h => h) (Or.inr ⟨by kernel_rfl, rfl⟩) (hHeld) ?_
      refine wpAnyH_take' (i := 4) (v := undef) (some 15) rfl rfl (by kernel_rfl) (by kernel_rfl) (by kernel_rfl) (fun _ _ _ h => h) (Or.inr ⟨by kernel_rfl, rfl⟩) (hHeld) ?_
      refine wpAnyH_take' (i := 5) (v := undef) (some 16) rfl rfl (by kernel_rfl) (by kernel_rfl) (by kernel_rfl) (fun _ _ _ h => h) (Or.inr ⟨by kernel_rfl, rfl⟩) (hHeld) ?_
      refine wpAnyH_take' (i := 6) (v := undef) (some 17) rfl rfl (by kernel_rfl) (by kernel_rfl) (by kernel_rfl) (fun _ _ _ h => h) (Or.inr ⟨by kernel_rfl, rfl⟩) (hHeld) ?_
      refine wpAnyH_take' (i := 7) (v := undef) (some 18) rfl rfl (by kernel_rfl) (by kernel_rfl) (by kernel_rfl) (fun _ _ _ h => h) (Or.inr ⟨by kernel_rfl, rfl⟩) (hHeld) ?_
      refine wpAnyH_take' (i := 8) (v := undef) (some 19) rfl rfl (by kernel_rfl) (by kernel_rfl) (by kernel_rfl) (fun _ _ _ h => h) (Or.inr ⟨by kernel_rfl, rfl⟩) (hHeld) ?_
      refine wpAnyH_take' (i := 9) (v := undef) (some 20) rfl rfl (by kernel_rfl) (by kernel_rfl) (by kernel_rfl) (fun _ _ _ h => h) (Or.inr ⟨by kernel_rfl, rfl⟩) (hHeld) ?_
      refine wpAnyH_take' (i := 10) (v := undef) (some 21) rfl rfl (by kernel_rfl) (by kernel_rfl) (by kernel_rfl) (fun _ _ _ h => h) (Or.inr ⟨by kernel_rfl, rfl⟩) (hHeld) ?_
      refine wpAnyH_take' (i := 11) (v := undef) (some 22) rfl rfl (by kernel_rfl) (by kernel_rfl) (by kernel_rfl) (fun _ _ _ h => h) (Or.inr ⟨by kernel_rfl, rfl⟩) (hHeld) ?_
      refine wpAnyH_take' (i := 12) (v := undef) (some 23) rfl rfl (by kernel_rfl) (by kernel_rfl) (by kernel_rfl) (fun _ _ _ h => h) (Or.inr ⟨by kernel_rfl, rfl⟩) (hHeld) ?_
      refine wpAnyH_take' (i := 13) (v := undef) (some 24) rfl rfl (by kernel_rfl) (by kernel_rfl) (by kernel_rfl) (fun _ _ _ h => h) (Or.inr ⟨by kernel_rfl, rfl⟩) (hHeld) ?_
      refine wpAnyH_take' (i := 14) (v := undef) (some 25) rfl rfl (by kernel_rfl) (by kernel_rfl) (by kernel_rfl) (fun _ _ _ h => h) (Or.inr ⟨by kernel_rfl, rfl⟩) (hHeld) ?_
      refine wpAnyH_take' (i := 15) (v := undef) (some 26) rfl rfl (by kernel_rfl) (by kernel_rfl) (by kernel_rfl) (fun _ _ _ h => h) (Or.inr ⟨by kernel_rfl, rfl⟩) (hHeld) ?_
      refine wpAnyH_take' (i := 16) (v := undef) (some 27) rfl rfl (by kernel_rfl) (by kernel_rfl) (by kernel_rfl) (fun _ _ _ h => h) (Or.inr ⟨by kernel_rfl, rfl⟩) (hHeld) ?_
      refine wpAnyH_take' (i := 17) (v := undef) (some 28) rfl rfl (by kernel_rfl) (by kernel_rfl) (by kernel_rfl) (fun _ _ _ h => h) (Or.inr ⟨by kernel_rfl, rfl⟩) (hHeld) ?_
      refine wpAnyH_take' (i := 18) (v := undef) (some 29) rfl rfl (by kernel_rfl) (by kernel_rfl) (by kernel_rfl) (fun _ _ _ h => h) (Or.inr ⟨by kernel_rfl, rfl⟩) (hHeld) ?_
      refine wpAnyH_take' (i := 19) (v := ?v19_20) (some 30) rfl rfl (by kernel_rfl) (by kernel_rfl) (by kernel_rfl) (fun _ _ _ h => h) (Or.inl ⟨by kernel_rfl, ?y19_20⟩) (hHeld) ?_
      case y19_20 =>
        intro w' hSw
        go_simp
        try with_reducible rfl
      refine wpAnyH_done (by kernel_rfl) ?_ _
      go_simp
      clear hHeld kc kh lc lh HPJ
      go_upto_region 7 with fail
      refine wp_at ?_
      intro W7 hW
      have x7 : Ext wr W7 := by rw [hW]; repeat (first | exact ext_refl _ | assumption | refine ext_more' ?_ _ _ | refine ext_drew ?_ | refine ext_drewN ?_ _ | refine ext_alloc ?_ _)
      clear hW
      have hbc := at_ext hbc (by simp) x7
      have hbh := at_ext hbh (by simp) x7
      have hor := own_ext hor x7
      have hmr := hmr.ext x7
      have hcr := hcr.trans (Chg.ofExt x7)
      have h7 := HPDx
      clear x7
      go_loopg [1] (l.length - 0) (fun gk k1 wr => ∃ (j : Nat) (l' : List Tmr) (M' : List (Int × Value)), k1 = .int .i64 j ∧ gk + j = l.length ∧ Chg (fun q => q = g ∨ q = mb) w wr ∧ At wr w.heap.size #[.pointer (some ⟨hb, 0, none⟩)] ∧ At wr hb #[.slice (some ⟨g, 0, none⟩) l.length cap, .map (some mb), .int .i64 most] ∧ wr.ownsRow 0 29 2 (.slice (some ⟨g, 0, none⟩) l.length cap) l.length (l'.flatMap tmrC) ∧ MpS wr mb .i64 M' ∧ Fits l' M' ∧ Keys M' ∧ l'.Perm l ∧ HpD l' j ∧ j < l.length)
      case atStart => exact ⟨0, l', M', rfl, by omega, hcr, hbc, hbh, hor, hmr, HFT.out, hkr, hpm, h7.out, hjl⟩
      case round =>
        clear hcr hbc hbh hor hmr hkr hpm hjl h7 HFT HID HLN HPDx
        obtain ⟨j, l', M', rfl, hgj, hcr, hbc, hbh, hor, hmr, hft, hkr, hpm, hpd, hjl⟩ := hrel
        have HLN := Lib.hid hpm.length_eq
        have HID := Lib.hid (HIDS.out.perm hpm.symm)
        have HFT := Lib.hid hft
        have HPD := Lib.hid hpd
        clear hft hpd
        obtain ⟨k, hk⟩ : ∃ k, k = 2 * j + 1 := ⟨_, rfl⟩
        obtain ⟨k2, hk2⟩ : ∃ k2, k2 = k + 1 := ⟨_, rfl⟩
        have hk0 : (2 : Int) * (j : Int) + 1 = (k : Int) := by omega
        have hk1 : (k : Int) + 1 = (k2 : Int) := by omega
        have HK := Lib.hid hk; have HK2 := Lib.hid hk2
        have hwk2 : IntKind.i64.wrap (k2 : Int) = (k2 : Int) := IntWalk.i64_in _ (by omega)
        have j0 : (0 : Int) ≤ (j : Int) := by omega
        have j1 : (j : Int) < (l.length : Int) := by omega
        clear hk hk2
        by_cases h1 : k < l.length
        rotate_left
        · have n1 : ¬ ((k2 : Int) < (l.length : Int)) := by have := HK2.out; omega
          have n2 : (k : Int) ≥ (l.length : Int) := by omega
          have n2' : (l.length : Int) ≤ (k : Int) := by omega
          have HDL := Lib.hid (down_leaf HPD.out (by have := HK.out; have := HLN.out; omega))
          clear h1
          have kc := hbc.1
          have kh := hbh.1
          have lc := at_lt hbc (by simp)
          have lh := at_lt hbh (by simp)
          go_upto_region 8 with fail
          refine wp_region_held_drew (S := fun w' => Ext wr w') (by kernel_rfl) (ext_drew (ext_refl _)) (fun hHeld => ?_)
          refine wpAnyH_take' (i := 0) (v := ?v0_21) (some 42) rfl rfl (by kernel_rfl) (by kernel_rfl) (by kernel_rfl) (fun _ _ _ h => h) (Or.inl ⟨by kernel_rfl, ?y0_21⟩) (hHeld) ?_
          case y0_21 =>
            intro w' hSw
            go_simp
            try with_reducible rfl
          refine wpAnyH_take' (i := 1) (v := ?v1_22) (some 43) rfl rfl (by kernel_rfl) (by kernel_rfl) (by kernel_rfl) (fun _ _ _ h => h) (Or.inl ⟨by kernel_rfl, ?y1_22⟩) (hHeld) ?_
          case y1_22 =>
            intro w' hSw
            go_simp
            try with_reducible rfl
          refine wpAnyH_take' (i := 2) (v := ?v2_23) (some 44) rfl rfl (by kernel_rfl) (by kernel_rfl) (by kernel_rfl) (fun _ _ _ h => h) (Or.inl ⟨by kernel_rfl, ?y2_23⟩) (hHeld) ?_
          case y2_23 =>
            intro w' hSw
            have kc' := fun i => (hSw.cell (p := ⟨w.heap.size, i, none⟩) lc).trans (kc i); go_simp
            try with_reducible rfl
          refine wpAnyH_take' (i := 3) (v := ?v3_24) (some 45) rfl rfl (by kernel_rfl) (by kernel_rfl) (by kernel_rfl) (fun _ _ _ h => h) (Or.inl ⟨by kernel_rfl, ?y3_24⟩) (hHeld) ?_
          case y3_24 =>
            intro w' hSw
            go_simp
            try with_reducible rfl
          refine wpAnyH_take' (i := 4) (v := ?v4_25) (some 46) rfl rfl (by kernel_rfl) (by kernel_rfl) (by kernel_rfl) (fun _ _ _ h => h) (Or.inl ⟨by kernel_rfl, ?y4_25⟩) (hHeld) ?_
          case y4_25 =>
            intro w' hSw
            go_simp
            try with_reducible rfl
          refine wpAnyH_take' (i := 5) (v := ?v5_26) (some 47) rfl rfl (by kernel_rfl) (by kernel_rfl) (by kernel_rfl) (fun _ _ _ h => h) (Or.inl ⟨by kernel_rfl, ?y5_26⟩) (hHeld) ?_
          case y5_26 =>
            intro w' hSw
            have kh' := fun i => (hSw.cell (p := ⟨hb, i, none⟩) lh).trans (kh i); go_simp
            try with_reducible rfl
          refine wpAnyH_take' (i := 6) (v := ?v6_27) (some 48) rfl rfl (by kernel_rfl) (by kernel_rfl) (by kernel_rfl) (fun _ _ _ h => h) (Or.inl ⟨by kernel_rfl, ?y6_27⟩) (hHeld) ?_
          case y6_27 =>
            intro w' hSw
            go_simp
            try with_reducible rfl
          refine wpAnyH_take' (i := 7) (v := ?v7_28) (some 49) rfl rfl (by kernel_rfl) (by kernel_rfl) (by kernel_rfl) (fun _ _ _ h => h) (Or.inl ⟨by kernel_rfl, ?y7_28⟩) (hHeld) ?_
          case y7_28 =>
            intro w' hSw
            go_simp
            try with_reducible rfl
          refine wpAnyH_take' (i := 8) (v := ?v8_29) (some 50) rfl rfl (by kernel_rfl) (by kernel_rfl) (by kernel_rfl) (fun _ _ _ h => h) (Or.inl ⟨by kernel_rfl, ?y8_29⟩) (hHeld) ?_
          case y8_29 =>
            intro w' hSw
            go_simp
            try with_reducible rfl
          refine wpAnyH_take' (i := 9) (v := undef) (some 51) rfl rfl (by kernel_rfl) (by kernel_rfl) (by kernel_rfl) (fun _ _ _ h => h) (Or.inr ⟨by kernel_rfl, rfl⟩) (hHeld) ?_
          refine wpAnyH_take' (i := 10) (v := undef) (some 52) rfl rfl (by kernel_rfl) (by kernel_rfl) (by kernel_rfl) (fun _ _ _ h => h) (Or.inr ⟨by kernel_rfl, rfl⟩) (hHeld) ?_
          refine wpAnyH_take' (i := 11) (v := undef) (some 53) rfl rfl (by kernel_rfl) (by kernel_rfl) (by kernel_rfl) (fun _ _ _ h => h) (Or.inr ⟨by kernel_rfl, rfl⟩) (hHeld) ?_
          refine wpAnyH_take' (i := 12) (v := undef) (some 54) rfl rfl (by kernel_rfl) (by kernel_rfl) (by kernel_rfl) (fun _ _ _ h => h) (Or.inr ⟨by kernel_rfl, rfl⟩) (hHeld) ?_
          refine wpAnyH_take' (i := 13) (v := undef) (some 55) rfl rfl (by kernel_rfl) (by kernel_rfl) (by kernel_rfl) (fun _ _ _ h => h) (Or.inr ⟨by kernel_rfl, rfl⟩) (hHeld) ?_
          refine wpAnyH_take' (i := 14) (v := undef) (some 56) rfl rfl (by kernel_rfl) (by kernel_rfl) (by kernel_rfl) (fun _ _ _ h => h) (Or.inr ⟨by kernel_rfl, rfl⟩) (hHeld) ?_
          refine wpAnyH_take' (i := 15) (v := undef) (some 57) rfl rfl (by kernel_rfl) (by kernel_rfl) (by kernel_rfl) (fun _ _ _ h => h) (Or.inr ⟨by kernel_rfl, rfl⟩) (hHeld) ?_
          refine wpAnyH_take' (i := 16) (v := undef) (some 58) rfl rfl (by kernel_rfl) (by kernel_rfl) (by kernel_rfl) (fun _ _ _ h => h) (Or.inr ⟨by kernel_rfl, rfl⟩) (hHeld) ?_
          refine wpAnyH_take' (i := 17) (v := undef) (some 59) rfl rfl (by kernel_rfl) (by kernel_rfl) (by kernel_rfl) (fun _ _ _ h => h) (Or.inr ⟨by kernel_rfl, rfl⟩) (hHeld) ?_
          refine wpAnyH_take' (i := 18) (v := undef) (some 60) rfl rfl (by kernel_rfl) (by kernel_rfl) (by kernel_rfl) (fun _ _ _ h => h) (Or.inr ⟨by kernel_rfl, rfl⟩) (hHeld) ?_
          refine wpAnyH_take' (i := 19) (v := undef) (some 61) rfl rfl (by kernel_rfl) (by kernel_rfl) (by kernel_rfl) (fun _ _ _ h => h) (Or.inr ⟨by kernel_rfl, rfl⟩) (hHeld) ?_
          refine wpAnyH_take' (i := 20) (v := undef) (some 62) rfl rfl (by kernel_rfl) (by kernel_rfl) (by kernel_rfl) (fun _ _ _ h => h) (Or.inr ⟨by kernel_rfl, rfl⟩) (hHeld) ?_
          refine wpAnyH_take' (i := 21) (v := undef) (some 63) rfl rfl (by kernel_rfl) (by kernel_rfl) (by kernel_rfl) (fun _ _ _ h => h) (Or.inr ⟨by kernel_rfl, rfl⟩) (hHeld) ?_
          refine wpAnyH_take' (i := 22) (v := undef) (some 64) rfl rfl (by kernel_rfl) (by kernel_rfl) (by kernel_rfl) (fun _ _ _ h => h) (Or.inr ⟨by kernel_rfl, rfl⟩) (hHeld) ?_
          refine wpAnyH_take' (i := 23) (v := undef) (some 65) rfl rfl (by kernel_rfl) (by kernel_rfl) (by kernel_rfl) (fun _ _ _ h => h) (Or.inr ⟨by kernel_rfl, rfl⟩) (hHeld) ?_
          refine wpAnyH_take' (i := 24) (v := undef) (some 66) rfl rfl (by kernel_rfl) (by kernel_rfl) (by kernel_rfl) (fun _ _ _ h => h) (Or.inr ⟨by kernel_rfl, rfl⟩) (hHeld) ?_
          refine wpAnyH_take' (i := 25) (v := undef) (some 67) rfl rfl (by kernel_rfl) (by kernel_rfl) (by kernel_rfl) (fun _ _ _ h => h) (Or.inr ⟨by kernel_rfl, rfl⟩) (hHeld) ?_
          refine wpAnyH_take' (i := 26) (v := ?v26_47) (some 68) rfl rfl (by kernel_rfl) (by kernel_rfl) (by kernel_rfl) (fun _ _ _ h => h) (Or.inl ⟨by kernel_rfl, ?y26_47⟩) (hHeld) ?_
          case y26_47 =>
            intro w' hSw
            go_simp
            try with_reducible rfl
          refine wpAnyH_done (by kernel_rfl) ?_ _
          go_simp
          go_upto_region 10 with fail
          refine wp_at ?_
          intro W10 hW
          have x10 : Ext wr W10 := by rw [hW]; repeat (first | exact ext_refl _ | assumption | refine ext_more' ?_ _ _ | refine ext_drew ?_ | refine ext_drewN ?_ _ | refine ext_alloc ?_ _)
          clear hW hHeld
          have hbc := at_ext hbc (by simp) x10
          have hbh := at_ext hbh (by simp) x10
          have hor := own_ext hor x10
          have hmr := hmr.ext x10
          have hcr := hcr.trans (Chg.ofExt x10)
          have kc := hbc.1
          have kh := hbh.1
          have lc := at_lt hbc (by simp)
          have lh := at_lt hbh (by simp)
          refine wp_region_held_drew (S := fun w' => Ext W10 w') (by kernel_rfl) (ext_drew (ext_refl _)) (fun hHeld => ?_)
          refine wpAnyH_take' (i := 0) (v := ?v0_48) (some 71) rfl rfl (by kernel_rfl) (by kernel_rfl) (by kernel_rfl) (fun _ _ _ h => h) (Or.inl ⟨by kernel_rfl, ?y0_48⟩) (hHeld) ?_
          case y0_48 =>
            intro w' hSw
            go_simp
            try with_reducible rfl
          refine wpAnyH_take' (i := 1) (v := ?v1_49) (some 72) rfl rfl (by kernel_rfl) (by kernel_rfl) (by kernel_rfl) (fun _ _ _ h => h) (Or.inl ⟨by kernel_rfl, ?y1_49⟩) (hHeld) ?_
          case y1_49 =>
            intro w' hSw
            have kc' := fun i => (hSw.cell (p := ⟨w.heap.size, i, none⟩) lc).trans (kc i); go_simp
            try with_reducible rfl
          refine wpAnyH_take' (i := 2) (v := ?v2_50) (some 73) rfl rfl (by kernel_rfl) (by kernel_rfl) (by kernel_rfl) (fun _ _ _ h => h) (Or.inl ⟨by kernel_rfl, ?y2_50⟩) (hHeld) ?_
          case y2_50 =>
            intro w' hSw
            go_simp
            try with_reducible rfl
          refine wpAnyH_take' (i := 3) (v := ?v3_51) (some 74) rfl rfl (by kernel_rfl) (by kernel_rfl) (by kernel_rfl) (fun _ _ _ h => h) (Or.inl ⟨by kernel_rfl, ?y3_51⟩) (hHeld) ?_
          case y3_51 =>
            intro w' hSw
            go_simp
            try with_reducible rfl
          refine wpAnyH_take' (i := 4) (v := ?v4_52) (some 75) rfl rfl (by kernel_rfl) (by kernel_rfl) (by kernel_rfl) (fun _ _ _ h => h) (Or.inl ⟨by kernel_rfl, ?y4_52⟩) (hHeld) ?_
          case y4_52 =>
            intro w' hSw
            have kh' := fun i => (hSw.cell (p := ⟨hb, i, none⟩) lh).trans (kh i); go_simp
            try with_reducible rfl
          refine wpAnyH_take' (i := 5) (v := ?v5_53) (some 76) rfl rfl (by kernel_rfl) (by kernel_rfl) (by kernel_rfl) (fun _ _ _ h => h) (Or.inl ⟨by kernel_rfl, ?y5_53⟩) (hHeld) ?_
          case y5_53 =>
            intro w' hSw
            go_simp
            try with_reducible rfl
          refine wpAnyH_take' (i := 6) (v := ?v6_54) (some 77) rfl rfl (by kernel_rfl) (by kernel_rfl) (by kernel_rfl) (fun _ _ _ h => h) (Or.inl ⟨by kernel_rfl, ?y6_54⟩) (hHeld) ?_
          case y6_54 =>
            intro w' hSw
            go_simp
            try with_reducible rfl
          refine wpAnyH_take' (i := 7) (v := ?v7_55) (some 78) rfl rfl (by kernel_rfl) (by kernel_rfl) (by kernel_rfl) (fun _ _ _ h => h) (Or.inl ⟨by kernel_rfl, ?y7_55⟩) (hHeld) ?_
          case y7_55 =>
            intro w' hSw
            go_simp
            try with_reducible rfl
          refine wpAnyH_take' (i := 8) (v := undef) (some 79) rfl rfl (by kernel_rfl) (by kernel_rfl) (by kernel_rfl) (fun _ _ _ h => h) (Or.inr ⟨by kernel_rfl, rfl⟩) (hHeld) ?_
          refine wpAnyH_take' (i := 9) (v := undef) (some 80) rfl rfl (by kernel_rfl) (by kernel_rfl) (by kernel_rfl) (fun _ _ _ h => h) (Or.inr ⟨by kernel_rfl, rfl⟩) (hHeld) ?_
          refine wpAnyH_take' (i := 10) (v := undef) (some 81) rfl rfl (by kernel_rfl) (by kernel_rfl) (by kernel_rfl) (fun _ _ _ h => h) (Or.inr ⟨by kernel_rfl, rfl⟩) (hHeld) ?_
          refine wpAnyH_take' (i := 11) (v := undef) (some 82) rfl rfl (by kernel_rfl) (by kernel_rfl) (by kernel_rfl) (fun _ _ _ h => h) (Or.inr ⟨by kernel_rfl, rfl⟩) (hHeld) ?_
          refine wpAnyH_take' (i := 12) (v := undef) (some 83) rfl rfl (by kernel_rfl) (by kernel_rfl) (by kernel_rfl) (fun _ _ _ h => h) (Or.inr ⟨by kernel_rfl, rfl⟩) (hHeld) ?_
          refine wpAnyH_take' (i := 13) (v := undef) (some 84) rfl rfl (by kernel_rfl) (by kernel_rfl) (by kernel_rfl) (fun _ _ _ h => h) (Or.inr ⟨by kernel_rfl, rfl⟩) (hHeld) ?_
          refine wpAnyH_take' (i := 14) (v := undef) (some 85) rfl rfl (by kernel_rfl) (by kernel_rfl) (by kernel_rfl) (fun _ _ _ h => h) (Or.inr ⟨by kernel_rfl, rfl⟩) (hHeld) ?_
          refine wpAnyH_take' (i := 15) (v := undef) (some 86) rfl rfl (by kernel_rfl) (by kernel_rfl) (by kernel_rfl) (fun _ _ _ h => h) (Or.inr ⟨by kernel_rfl, rfl⟩) (hHeld) ?_
          refine wpAnyH_take' (i := 16) (v := undef) (some 87) rfl rfl (by kernel_rfl) (by kernel_rfl) (by kernel_rfl) (fun _ _ _ h => h) (Or.inr ⟨by kernel_rfl, rfl⟩) (hHeld) ?_
          refine wpAnyH_take' (i := 17) (v := undef) (some 88) rfl rfl (by kernel_rfl) (by kernel_rfl) (by kernel_rfl) (fun _ _ _ h => h) (Or.inr ⟨by kernel_rfl, rfl⟩) (hHeld) ?_
          refine wpAnyH_take' (i := 18) (v := undef) (some 89) rfl rfl (by kernel_rfl) (by kernel_rfl) (by kernel_rfl) (fun _ _ _ h => h) (Or.inr ⟨by kernel_rfl, rfl⟩) (hHeld) ?_
          refine wpAnyH_take' (i := 19) (v := undef) (some 90) rfl rfl (by kernel_rfl) (by kernel_rfl) (by kernel_rfl) (fun _ _ _ h => h) (Or.inr ⟨by kernel_rfl, rfl⟩) (hHeld) ?_
          refine wpAnyH_take' (i := 20) (v := undef) (some 91) rfl rfl (by kernel_rfl) (by kernel_rfl) (by kernel_rfl) (fun _ _ _ h => h) (Or.inr ⟨by kernel_rfl, rfl⟩) (hHeld) ?_
          refine wpAnyH_take' (i := 21) (v := undef) (some 92) rfl rfl (by kernel_rfl) (by kernel_rfl) (by kernel_rfl) (fun _ _ _ h => h) (Or.inr ⟨by kernel_rfl, rfl⟩) (hHeld) ?_
          refine wpAnyH_take' (i := 22) (v := undef) (some 93) rfl rfl (by kernel_rfl) (by kernel_rfl) (by kernel_rfl) (fun _ _ _ h => h) (Or.inr ⟨by kernel_rfl, rfl⟩) (hHeld) ?_
          refine wpAnyH_take' (i := 23) (v := undef) (some 94) rfl rfl (by kernel_rfl) (by kernel_rfl) (by kernel_rfl) (fun _ _ _ h => h) (Or.inr ⟨by kernel_rfl, rfl⟩) (hHeld) ?_
          refine wpAnyH_take' (i := 24) (v := ?v24_72) (some 95) rfl rfl (by kernel_rfl) (by kernel_rfl) (by kernel_rfl) (fun _ _ _ h => h) (Or.inl ⟨by kernel_rfl, ?y24_72⟩) (hHeld) ?_
          case y24_72 =>
            intro w' hSw
            go_simp
            try with_reducible rfl
          refine wpAnyH_done (by kernel_rfl) ?_ _
          go_simp
          go_wp2
          have hd := ext_drew (ext_refl W10)
          refine bodyPost_ret (results_none rfl _ _ _) rfl ?_
          exact ⟨rfl, hcr.trans (Chg.ofExt hd), RightPost.mk hpm HDL.out (at_ext hbh (by simp) hd) (own_ext hor hd) (hmr.ext hd) HFT.out hkr⟩
        have kc := hbc.1
        have kh := hbh.1
        have lc := at_lt hbc (by simp)
        have lh := at_lt hbh (by simp)
        have lg := own_lt hor
        have i1 : (k : Int) < (l.length : Int) := by omega
        have i0 : (0 : Int) ≤ (k : Int) := by omega
        have i9 : ¬ ((k : Int) ≥ (l.length : Int)) := by omega
        have i9' : ¬ ((l.length : Int) ≤ (k : Int)) := by omega
        by_cases h2 : k2 < l.length
        · have n1 : (k2 : Int) < (l.length : Int) := by omega
          have n0 : (0 : Int) ≤ (k2 : Int) := by omega
          have n9 : ¬ ((k2 : Int) ≥ (l.length : Int)) := by omega
          have n9' : ¬ ((l.length : Int) ≤ (k2 : Int)) := by omega
          obtain ⟨a0, a1⟩ := row_cells HLN.out hor (show k2 < l'.length by have := HLN.out; omega)
          obtain ⟨b0, b1⟩ := row_cells HLN.out hor (show k < l'.length by have := HLN.out; omega)
          obtain ⟨xa, hxa⟩ : ∃ x, x = at_ l' k2 := ⟨_, rfl⟩
          obtain ⟨xb, hxb⟩ : ∃ x, x = at_ l' k := ⟨_, rfl⟩
          rw [← hxa] at a0 a1
          rw [← hxb] at b0 b1
          by_cases h3 : Ahd (at_ l' k2) (at_ l' k)
          · have h3' : ordI xa xb < 0 := (ordI_neg _ _).2 (by rw [hxa, hxb]; exact h3)
            have HLEX := Lib.hid (show Least l' j k2 from least2 HK.out HK2.out (by have := HLN.out; omega) h3)
            clear h3 hxa hxb
            go_upto_region 8 with fail
            refine wp_region_held_drew (S := fun w' => Ext wr w') (by kernel_rfl) (ext_drew (ext_refl _)) (fun hHeld => ?_)
            refine wpAnyH_take' (i := 0) (v := ?v0_73) (some 42) rfl rfl (by kernel_rfl) (by kernel_rfl) (by kernel_rfl) (fun _ _ _ h => h) (Or.inl ⟨by kernel_rfl, ?y0_73⟩) (hHeld) ?_
            case y0_73 =>
              intro w' hSw
              go_simp
              try with_reducible rfl
            refine wpAnyH_take' (i := 1) (v := ?v1_74) (some 43) rfl rfl (by kernel_rfl) (by kernel_rfl) (by kernel_rfl) (fun _ _ _ h => h) (Or.inl ⟨by kernel_rfl, ?y1_74⟩) (hHeld) ?_
            case y1_74 =>
              intro w' hSw
              go_simp
              try with_reducible rfl
            refine wpAnyH_take' (i := 2) (v := ?v2_75) (some 44) rfl rfl (by kernel_rfl) (by kernel_rfl) (by kernel_rfl) (fun _ _ _ h => h) (Or.inl ⟨by kernel_rfl, ?y2_75⟩) (hHeld) ?_
            case y2_75 =>
              intro w' hSw
              have kc' := fun i => (hSw.cell (p := ⟨w.heap.size, i, none⟩) lc).trans (kc i); go_simp
              try with_reducible rfl
            refine wpAnyH_take' (i := 3) (v := ?v3_76) (some 45) rfl rfl (by kernel_rfl) (by kernel_rfl) (by kernel_rfl) (fun _ _ _ h => h) (Or.inl ⟨by kernel_rfl, ?y3_76⟩) (hHeld) ?_
            case y3_76 =>
              intro w' hSw
              go_simp
              try with_reducible rfl
            refine wpAnyH_take' (i := 4) (v := ?v4_77) (some 46) rfl rfl (by kernel_rfl) (by kernel_rfl) (by kernel_rfl) (fun _ _ _ h => h) (Or.inl ⟨by kernel_rfl, ?y4_77⟩) (hHeld) ?_
            case y4_77 =>
              intro w' hSw
              go_simp
              try with_reducible rfl
            refine wpAnyH_take' (i := 5) (v := ?v5_78) (some 47) rfl rfl (by kernel_rfl) (by kernel_rfl) (by kernel_rfl) (fun _ _ _ h => h) (Or.inl ⟨by kernel_rfl, ?y5_78⟩) (hHeld) ?_
            case y5_78 =>
              intro w' hSw
              have kh' := fun i => (hSw.cell (p := ⟨hb, i, none⟩) lh).trans (kh i); go_simp
              try with_reducible rfl
            refine wpAnyH_take' (i := 6) (v := ?v6_79) (some 48) rfl rfl (by kernel_rfl) (by kernel_rfl) (by kernel_rfl) (fun _ _ _ h => h) (Or.inl ⟨by kernel_rfl, ?y6_79⟩) (hHeld) ?_
            case y6_79 =>
              intro w' hSw
              go_simp
              try with_reducible rfl
            refine wpAnyH_take' (i := 7) (v := ?v7_80) (some 49) rfl rfl (by kernel_rfl) (by kernel_rfl) (by kernel_rfl) (fun _ _ _ h => h) (Or.inl ⟨by kernel_rfl, ?y7_80⟩) (hHeld) ?_
            case y7_80 =>
              intro w' hSw
              go_simp
              try with_reducible rfl
            refine wpAnyH_take' (i := 8) (v := ?v8_81) (some 50) rfl rfl (by kernel_rfl) (by kernel_rfl) (by kernel_rfl) (fun _ _ _ h => h) (Or.inl ⟨by kernel_rfl, ?y8_81⟩) (hHeld) ?_
            case y8_81 =>
              intro w' hSw
              go_simp
              try with_reducible rfl
            refine wpAnyH_take' (i := 9) (v := ?v9_82) (some 51) rfl rfl (by kernel_rfl) (by kernel_rfl) (by kernel_rfl) (fun _ _ _ h => h) (Or.inl ⟨by kernel_rfl, ?y9_82⟩) (hHeld) ?_
            case y9_82 =>
              intro w' hSw
              have kc' := fun i => (hSw.cell (p := ⟨w.heap.size, i, none⟩) lc).trans (kc i); go_simp
              try with_reducible rfl
            refine wpAnyH_take' (i := 10) (v := ?v10_83) (some 52) rfl rfl (by kernel_rfl) (by kernel_rfl) (by kernel_rfl) (fun _ _ _ h => h) (Or.inl ⟨by kernel_rfl, ?y10_83⟩) (hHeld) ?_
            case y10_83 =>
              intro w' hSw
              go_simp
              try with_reducible rfl
            refine wpAnyH_take' (i := 11) (v := ?v11_84) (some 53) rfl rfl (by kernel_rfl) (by kernel_rfl) (by kernel_rfl) (fun _ _ _ h => h) (Or.inl ⟨by kernel_rfl, ?y11_84⟩) (hHeld) ?_
            case y11_84 =>
              intro w' hSw
              go_simp
              try with_reducible rfl
            refine wpAnyH_take' (i := 12) (v := ?v12_85) (some 54) rfl rfl (by kernel_rfl) (by kernel_rfl) (by kernel_rfl) (fun _ _ _ h => h) (Or.inl ⟨by kernel_rfl, ?y12_85⟩) (hHeld) ?_
            case y12_85 =>
              intro w' hSw
              have kh' := fun i => (hSw.cell (p := ⟨hb, i, none⟩) lh).trans (kh i); go_simp
              try with_reducible rfl
            refine wpAnyH_take' (i := 13) (v := ?v13_86) (some 55) rfl rfl (by kernel_rfl) (by kernel_rfl) (by kernel_rfl) (fun _ _ _ h => h) (Or.inl ⟨by kernel_rfl, ?y13_86⟩) (hHeld) ?_
            case y13_86 =>
              intro w' hSw
              go_simp
              try with_reducible rfl
            refine wpAnyH_take' (i := 14) (v := ?v14_87) (some 56) rfl rfl (by kernel_rfl) (by kernel_rfl) (by kernel_rfl) (fun _ _ _ h => h) (Or.inl ⟨by kernel_rfl, ?y14_87⟩) (hHeld) ?_
            case y14_87 =>
              intro w' hSw
              go_simp
              try with_reducible rfl
            refine wpAnyH_take' (i := 15) (v := ?v15_88) (some 57) rfl rfl (by kernel_rfl) (by kernel_rfl) (by kernel_rfl) (fun _ _ _ h => h) (Or.inl ⟨by kernel_rfl, ?y15_88⟩) (hHeld) ?_
            case y15_88 =>
              intro w' hSw
              go_simp
              try with_reducible rfl
            refine wpAnyH_take' (i := 16) (v := ?v16_89) (some 58) rfl rfl (by kernel_rfl) (by kernel_rfl) (by kernel_rfl) (fun _ _ _ h => h) (Or.inl ⟨by kernel_rfl, ?y16_89⟩) (hHeld) ?_
            case y16_89 =>
              intro w' hSw
              have r0' := (hSw.cell (p := ⟨g, k2 * 2, none⟩) lg).trans a0; have r1' := (hSw.cell (p := ⟨g, k2 * 2 + 1, none⟩) lg).trans a1; go_simp
              try with_reducible rfl
            refine wpAnyH_take' (i := 17) (v := ?v17_90) (some 59) rfl rfl (by kernel_rfl) (by kernel_rfl) (by kernel_rfl) (fun _ _ _ h => h) (Or.inl ⟨by kernel_rfl, ?y17_90⟩) (hHeld) ?_
            case y17_90 =>
              intro w' hSw
              have kc' := fun i => (hSw.cell (p := ⟨w.heap.size, i, none⟩) lc).trans (kc i); go_simp
              try with_reducible rfl
            refine wpAnyH_take' (i := 18) (v := ?v18_91) (some 60) rfl rfl (by kernel_rfl) (by kernel_rfl) (by kernel_rfl) (fun _ _ _ h => h) (Or.inl ⟨by kernel_rfl, ?y18_91⟩) (hHeld) ?_
            case y18_91 =>
              intro w' hSw
              go_simp
              try with_reducible rfl
            refine wpAnyH_take' (i := 19) (v := ?v19_92) (some 61) rfl rfl (by kernel_rfl) (by kernel_rfl) (by kernel_rfl) (fun _ _ _ h => h) (Or.inl ⟨by kernel_rfl, ?y19_92⟩) (hHeld) ?_
            case y19_92 =>
              intro w' hSw
              go_simp
              try with_reducible rfl
            refine wpAnyH_take' (i := 20) (v := ?v20_93) (some 62) rfl rfl (by kernel_rfl) (by kernel_rfl) (by kernel_rfl) (fun _ _ _ h => h) (Or.inl ⟨by kernel_rfl, ?y20_93⟩) (hHeld) ?_
            case y20_93 =>
              intro w' hSw
              have kh' := fun i => (hSw.cell (p := ⟨hb, i, none⟩) lh).trans (kh i); go_simp
              try with_reducible rfl
            refine wpAnyH_take' (i := 21) (v := ?v21_94) (some 63) rfl rfl (by kernel_rfl) (by kernel_rfl) (by kernel_rfl) (fun _ _ _ h => h) (Or.inl ⟨by kernel_rfl, ?y21_94⟩) (hHeld) ?_
            case y21_94 =>
              intro w' hSw
              go_simp
              try with_reducible rfl
            refine wpAnyH_take' (i := 22) (v := ?v22_95) (some 64) rfl rfl (by kernel_rfl) (by kernel_rfl) (by kernel_rfl) (fun _ _ _ h => h) (Or.inl ⟨by kernel_rfl, ?y22_95⟩) (hHeld) ?_
            case y22_95 =>
              intro w' hSw
              go_simp
              try with_reducible rfl
            refine wpAnyH_take' (i := 23) (v := ?v23_96) (some 65) rfl rfl (by kernel_rfl) (by kernel_rfl) (by kernel_rfl) (fun _ _ _ h => h) (Or.inl ⟨by kernel_rfl, ?y23_96⟩) (hHeld) ?_
            case y23_96 =>
              intro w' hSw
              have r0' := (hSw.cell (p := ⟨g, k * 2, none⟩) lg).trans b0; have r1' := (hSw.cell (p := ⟨g, k * 2 + 1, none⟩) lg).trans b1; go_simp
              try with_reducible rfl
            refine wpAnyH_ready (rs := [24]) (by kernel_rfl) (by simp) ?_
            refine AllReadyH.cons rfl (fun K hK => ?_) AllReadyH.nil
            rw [if_pos (by kernel_rfl)]
            go_simp
            go_at_call 38
            refine (order_calls xa xb _).mono ?_
            rintro e w1 ⟨rfl, hxb⟩
            refine hK.out _ _ (ext_trans hHeld hxb) (fun hS => ?_)
            refine wpAnyH_take' (i := 25) (v := ?v25_97) (some 67) rfl rfl (by kernel_rfl) (by kernel_rfl) (by kernel_rfl) (fun _ _ _ h => h) (Or.inl ⟨by kernel_rfl, ?y25_97⟩) (hS) ?_
            case y25_97 =>
              intro w' hSw
              go_simp
              try with_reducible rfl
            refine wpAnyH_take' (i := 26) (v := ?v26_98) (some 68) rfl rfl (by kernel_rfl) (by kernel_rfl) (by kernel_rfl) (fun _ _ _ h => h) (Or.inl ⟨by kernel_rfl, ?y26_98⟩) (hS) ?_
            case y26_98 =>
              intro w' hSw
              go_simp
              try with_reducible rfl
            refine wpAnyH_done (by kernel_rfl) ?_ _
            go_simp
            clear hHeld kc kh lc lh lg a0 a1 b0 b1
            go_upto_region 10 with fail
            refine wp_at ?_
            intro W10 hW
            have x10 : Ext wr W10 := by rw [hW]; repeat (first | exact ext_refl _ | assumption | refine ext_more' ?_ _ _ | refine ext_drew ?_ | refine ext_drewN ?_ _ | refine ext_alloc ?_ _)
            clear hW
            have hbc := at_ext hbc (by simp) x10
            have hbh := at_ext hbh (by simp) x10
            have hor := own_ext hor x10
            have hmr := hmr.ext x10
            have hcr := hcr.trans (Chg.ofExt x10)
            have HLE := Lib.hid (HLEX.out)
            have kkl : k2 < l.length := by have := HLE.out.2.1; have := HLN.out; omega
            have g1 : (((k2 : Nat) : Int)) < (l.length : Int) := by omega
            have g0 : (0 : Int) ≤ (((k2 : Nat) : Int)) := by omega
            have kc := hbc.1
            have kh := hbh.1
            have lc := at_lt hbc (by simp)
            have lh := at_lt hbh (by simp)
            have lg := own_lt hor
            obtain ⟨a0, a1⟩ := row_cells HLN.out hor (show j < l'.length by have := HLN.out; omega)
            obtain ⟨b0, b1⟩ := row_cells HLN.out hor (show k2 < l'.length by have := HLN.out; omega)
            obtain ⟨xa, hxa⟩ : ∃ x, x = at_ l' j := ⟨_, rfl⟩
            obtain ⟨xb, hxb⟩ : ∃ x, x = at_ l' k2 := ⟨_, rfl⟩
            rw [← hxa] at a0 a1
            rw [← hxb] at b0 b1
            by_cases h4 : Ahd (at_ l' j) (at_ l' k2)
            · have h4' : ordI xa xb < 0 := (ordI_neg _ _).2 (by rw [hxa, hxb]; exact h4)
              have HDN := Lib.hid (down_done HPD.out HLE.out h4)
              clear h4 hxa hxb
              refine wp_region_held_drew (S := fun w' => Ext W10 w') (by kernel_rfl) (ext_drew (ext_refl _)) (fun hHeld => ?_)
              refine wpAnyH_take' (i := 0) (v := ?v0_99) (some 71) rfl rfl (by kernel_rfl) (by kernel_rfl) (by kernel_rfl) (fun _ _ _ h => h) (Or.inl ⟨by kernel_rfl, ?y0_99⟩) (hHeld) ?_
              case y0_99 =>
                intro w' hSw
                go_simp
                try with_reducible rfl
              refine wpAnyH_take' (i := 1) (v := ?v1_100) (some 72) rfl rfl (by kernel_rfl) (by kernel_rfl) (by kernel_rfl) (fun _ _ _ h => h) (Or.inl ⟨by kernel_rfl, ?y1_100⟩) (hHeld) ?_
              case y1_100 =>
                intro w' hSw
                have kc' := fun i => (hSw.cell (p := ⟨w.heap.size, i, none⟩) lc).trans (kc i); go_simp
                try with_reducible rfl
              refine wpAnyH_take' (i := 2) (v := ?v2_101) (some 73) rfl rfl (by kernel_rfl) (by kernel_rfl) (by kernel_rfl) (fun _ _ _ h => h) (Or.inl ⟨by kernel_rfl, ?y2_101⟩) (hHeld) ?_
              case y2_101 =>
                intro w' hSw
                go_simp
                try with_reducible rfl
              refine wpAnyH_take' (i := 3) (v := ?v3_102) (some 74) rfl rfl (by kernel_rfl) (by kernel_rfl) (by kernel_rfl) (fun _ _ _ h => h) (Or.inl ⟨by kernel_rfl, ?y3_102⟩) (hHeld) ?_
              case y3_102 =>
                intro w' hSw
                go_simp
                try with_reducible rfl
              refine wpAnyH_take' (i := 4) (v := ?v4_103) (some 75) rfl rfl (by kernel_rfl) (by kernel_rfl) (by kernel_rfl) (fun _ _ _ h => h) (Or.inl ⟨by kernel_rfl, ?y4_103⟩) (hHeld) ?_
              case y4_103 =>
                intro w' hSw
                have kh' := fun i => (hSw.cell (p := ⟨hb, i, none⟩) lh).trans (kh i); go_simp
                try with_reducible rfl
              refine wpAnyH_take' (i := 5) (v := ?v5_104) (some 76) rfl rfl (by kernel_rfl) (by kernel_rfl) (by kernel_rfl) (fun _ _ _ h => h) (Or.inl ⟨by kernel_rfl, ?y5_104⟩) (hHeld) ?_
              case y5_104 =>
                intro w' hSw
                go_simp
                try with_reducible rfl
              refine wpAnyH_take' (i := 6) (v := ?v6_105) (some 77) rfl rfl (by kernel_rfl) (by kernel_rfl) (by kernel_rfl) (fun _ _ _ h => h) (Or.inl ⟨by kernel_rfl, ?y6_105⟩) (hHeld) ?_
              case y6_105 =>
                intro w' hSw
                go_simp
                try with_reducible rfl
              refine wpAnyH_take' (i := 7) (v := ?v7_106) (some 78) rfl rfl (by kernel_rfl) (by kernel_rfl) (by kernel_rfl) (fun _ _ _ h => h) (Or.inl ⟨by kernel_rfl, ?y7_106⟩) (hHeld) ?_
              case y7_106 =>
                intro w' hSw
                go_simp
                try with_reducible rfl
              refine wpAnyH_take' (i := 8) (v := ?v8_107) (some 79) rfl rfl (by kernel_rfl) (by kernel_rfl) (by kernel_rfl) (fun _ _ _ h => h) (Or.inl ⟨by kernel_rfl, ?y8_107⟩) (hHeld) ?_
              case y8_107 =>
                intro w' hSw
                have kc' := fun i => (hSw.cell (p := ⟨w.heap.size, i, none⟩) lc).trans (kc i); go_simp
                try with_reducible rfl
              refine wpAnyH_take' (i := 9) (v := ?v9_108) (some 80) rfl rfl (by kernel_rfl) (by kernel_rfl) (by kernel_rfl) (fun _ _ _ h => h) (Or.inl ⟨by kernel_rfl, ?y9_108⟩) (hHeld) ?_
              case y9_108 =>
                intro w' hSw
                go_simp
                try with_reducible rfl
              refine wpAnyH_take' (i := 10) (v := ?v10_109) (some 81) rfl rfl (by kernel_rfl) (by kernel_rfl) (by kernel_rfl) (fun _ _ _ h => h) (Or.inl ⟨by kernel_rfl, ?y10_109⟩) (hHeld) ?_
              case y10_109 =>
                intro w' hSw
                go_simp
                try with_reducible rfl
              refine wpAnyH_take' (i := 11) (v := ?v11_110) (some 82) rfl rfl (by kernel_rfl) (by kernel_rfl) (by kernel_rfl) (fun _ _ _ h => h) (Or.inl ⟨by kernel_rfl, ?y11_110⟩) (hHeld) ?_
              case y11_110 =>
                intro w' hSw
                have kh' := fun i => (hSw.cell (p := ⟨hb, i, none⟩) lh).trans (kh i); go_simp
                try with_reducible rfl
              refine wpAnyH_take' (i := 12) (v := ?v12_111) (some 83) rfl rfl (by kernel_rfl) (by kernel_rfl) (by kernel_rfl) (fun _ _ _ h => h) (Or.inl ⟨by kernel_rfl, ?y12_111⟩) (hHeld) ?_
              case y12_111 =>
                intro w' hSw
                go_simp
                try with_reducible rfl
              refine wpAnyH_take' (i := 13) (v := ?v13_112) (some 84) rfl rfl (by kernel_rfl) (by kernel_rfl) (by kernel_rfl) (fun _ _ _ h => h) (Or.inl ⟨by kernel_rfl, ?y13_112⟩) (hHeld) ?_
              case y13_112 =>
                intro w' hSw
                go_simp
                try with_reducible rfl
              refine wpAnyH_take' (i := 14) (v := ?v14_113) (some 85) rfl rfl (by kernel_rfl) (by kernel_rfl) (by kernel_rfl) (fun _ _ _ h => h) (Or.inl ⟨by kernel_rfl, ?y14_113⟩) (hHeld) ?_
              case y14_113 =>
                intro w' hSw
                have r0' := (hSw.cell (p := ⟨g, j * 2, none⟩) lg).trans a0; have r1' := (hSw.cell (p := ⟨g, j * 2 + 1, none⟩) lg).trans a1; go_simp
                try with_reducible rfl
              refine wpAnyH_take' (i := 15) (v := ?v15_114) (some 86) rfl rfl (by kernel_rfl) (by kernel_rfl) (by kernel_rfl) (fun _ _ _ h => h) (Or.inl ⟨by kernel_rfl, ?y15_114⟩) (hHeld) ?_
              case y15_114 =>
                intro w' hSw
                have kc' := fun i => (hSw.cell (p := ⟨w.heap.size, i, none⟩) lc).trans (kc i); go_simp
                try with_reducible rfl
              refine wpAnyH_take' (i := 16) (v := ?v16_115) (some 87) rfl rfl (by kernel_rfl) (by kernel_rfl) (by kernel_rfl) (fun _ _ _ h => h) (Or.inl ⟨by kernel_rfl, ?y16_115⟩) (hHeld) ?_
              case y16_115 =>
                intro w' hSw
                go_simp
                try with_reducible rfl
              refine wpAnyH_take' (i := 17) (v := ?v17_116) (some 88) rfl rfl (by kernel_rfl) (by kernel_rfl) (by kernel_rfl) (fun _ _ _ h => h) (Or.inl ⟨by kernel_rfl, ?y17_116⟩) (hHeld) ?_
              case y17_116 =>
                intro w' hSw
                go_simp
                try with_reducible rfl
              refine wpAnyH_take' (i := 18) (v := ?v18_117) (some 89) rfl rfl (by kernel_rfl) (by kernel_rfl) (by kernel_rfl) (fun _ _ _ h => h) (Or.inl ⟨by kernel_rfl, ?y18_117⟩) (hHeld) ?_
              case y18_117 =>
                intro w' hSw
                have kh' := fun i => (hSw.cell (p := ⟨hb, i, none⟩) lh).trans (kh i); go_simp
                try with_reducible rfl
              refine wpAnyH_take' (i := 19) (v := ?v19_118) (some 90) rfl rfl (by kernel_rfl) (by kernel_rfl) (by kernel_rfl) (fun _ _ _ h => h) (Or.inl ⟨by kernel_rfl, ?y19_118⟩) (hHeld) ?_
              case y19_118 =>
                intro w' hSw
                go_simp
                try with_reducible rfl
              refine wpAnyH_take' (i := 20) (v := ?v20_119) (some 91) rfl rfl (by kernel_rfl) (by kernel_rfl) (by kernel_rfl) (fun _ _ _ h => h) (Or.inl ⟨by kernel_rfl, ?y20_119⟩) (hHeld) ?_
              case y20_119 =>
                intro w' hSw
                go_simp
                try with_reducible rfl
              refine wpAnyH_take' (i := 21) (v := ?v21_120) (some 92) rfl rfl (by kernel_rfl) (by kernel_rfl) (by kernel_rfl) (fun _ _ _ h => h) (Or.inl ⟨by kernel_rfl, ?y21_120⟩) (hHeld) ?_
              case y21_120 =>
                intro w' hSw
                have r0' := (hSw.cell (p := ⟨g, k2 * 2, none⟩) lg).trans b0; have r1' := (hSw.cell (p := ⟨g, k2 * 2 + 1, none⟩) lg).trans b1; go_simp
                try with_reducible rfl
              refine wpAnyH_ready (rs := [22]) (by kernel_rfl) (by simp) ?_
              refine AllReadyH.cons rfl (fun K hK => ?_) AllReadyH.nil
              rw [if_pos (by kernel_rfl)]
              go_simp
              go_at_call 38
              refine (order_calls xa xb _).mono ?_
              rintro e w1 ⟨rfl, hxb⟩
              refine hK.out _ _ (ext_trans hHeld hxb) (fun hS => ?_)
              refine wpAnyH_take' (i := 23) (v := ?v23_121) (some 94) rfl rfl (by kernel_rfl) (by kernel_rfl) (by kernel_rfl) (fun _ _ _ h => h) (Or.inl ⟨by kernel_rfl, ?y23_121⟩) (hS) ?_
              case y23_121 =>
                intro w' hSw
                go_simp
                try with_reducible rfl
              refine wpAnyH_take' (i := 24) (v := ?v24_122) (some 95) rfl rfl (by kernel_rfl) (by kernel_rfl) (by kernel_rfl) (fun _ _ _ h => h) (Or.inl ⟨by kernel_rfl, ?y24_122⟩) (hS) ?_
              case y24_122 =>
                intro w' hSw
                go_simp
                try with_reducible rfl
              refine wpAnyH_done (by kernel_rfl) ?_ _
              go_simp
              have hbh2 := at_ext hbh (by simp) hS
              have hor2 := own_ext hor hS
              have hmr2 := hmr.ext hS
              have hcr2 := hcr.trans (Chg.ofExt hS)
              clear hHeld
              go_wp2
              refine bodyPost_ret (results_none rfl _ _ _) rfl ?_
              exact ⟨rfl, hcr2, RightPost.mk hpm HDN.out hbh2 hor2 hmr2 HFT.out hkr⟩
            · have h4' : ¬ (ordI xa xb < 0) := fun h => h4 (by have := (ordI_neg _ _).1 h; rw [hxa, hxb] at this; exact this)
              have HDS := Lib.hid (down_step HPD.out (by have := HLN.out; omega) HLE.out HID.out h4)
              clear h4 hxa hxb
              refine wp_region_held_drew (S := fun w' => Ext W10 w') (by kernel_rfl) (ext_drew (ext_refl _)) (fun hHeld => ?_)
              refine wpAnyH_take' (i := 0) (v := ?v0_123) (some 71) rfl rfl (by kernel_rfl) (by kernel_rfl) (by kernel_rfl) (fun _ _ _ h => h) (Or.inl ⟨by kernel_rfl, ?y0_123⟩) (hHeld) ?_
              case y0_123 =>
                intro w' hSw
                go_simp
                try with_reducible rfl
              refine wpAnyH_take' (i := 1) (v := ?v1_124) (some 72) rfl rfl (by kernel_rfl) (by kernel_rfl) (by kernel_rfl) (fun _ _ _ h => h) (Or.inl ⟨by kernel_rfl, ?y1_124⟩) (hHeld) ?_
              case y1_124 =>
                intro w' hSw
                have kc' := fun i => (hSw.cell (p := ⟨w.heap.size, i, none⟩) lc).trans (kc i); go_simp
                try with_reducible rfl
              refine wpAnyH_take' (i := 2) (v := ?v2_125) (some 73) rfl rfl (by kernel_rfl) (by kernel_rfl) (by kernel_rfl) (fun _ _ _ h => h) (Or.inl ⟨by kernel_rfl, ?y2_125⟩) (hHeld) ?_
              case y2_125 =>
                intro w' hSw
                go_simp
                try with_reducible rfl
              refine wpAnyH_take' (i := 3) (v := ?v3_126) (some 74) rfl rfl (by kernel_rfl) (by kernel_rfl) (by kernel_rfl) (fun _ _ _ h => h) (Or.inl ⟨by kernel_rfl, ?y3_126⟩) (hHeld) ?_
              case y3_126 =>
                intro w' hSw
                go_simp
                try with_reducible rfl
              refine wpAnyH_take' (i := 4) (v := ?v4_127) (some 75) rfl rfl (by kernel_rfl) (by kernel_rfl) (by kernel_rfl) (fun _ _ _ h => h) (Or.inl ⟨by kernel_rfl, ?y4_127⟩) (hHeld) ?_
              case y4_127 =>
                intro w' hSw
                have kh' := fun i => (hSw.cell (p := ⟨hb, i, none⟩) lh).trans (kh i); go_simp
                try with_reducible rfl
              refine wpAnyH_take' (i := 5) (v := ?v5_128) (some 76) rfl rfl (by kernel_rfl) (by kernel_rfl) (by kernel_rfl) (fun _ _ _ h => h) (Or.inl ⟨by kernel_rfl, ?y5_128⟩) (hHeld) ?_
              case y5_128 =>
                intro w' hSw
                go_simp
                try with_reducible rfl
              refine wpAnyH_take' (i := 6) (v := ?v6_129) (some 77) rfl rfl (by kernel_rfl) (by kernel_rfl) (by kernel_rfl) (fun _ _ _ h => h) (Or.inl ⟨by kernel_rfl, ?y6_129⟩) (hHeld) ?_
              case y6_129 =>
                intro w' hSw
                go_simp
                try with_reducible rfl
              refine wpAnyH_take' (i := 7) (v := ?v7_130) (some 78) rfl rfl (by kernel_rfl) (by kernel_rfl) (by kernel_rfl) (fun _ _ _ h => h) (Or.inl ⟨by kernel_rfl, ?y7_130⟩) (hHeld) ?_
              case y7_130 =>
                intro w' hSw
                go_simp
                try with_reducible rfl
              refine wpAnyH_take' (i := 8) (v := ?v8_131) (some 79) rfl rfl (by kernel_rfl) (by kernel_rfl) (by kernel_rfl) (fun _ _ _ h => h) (Or.inl ⟨by kernel_rfl, ?y8_131⟩) (hHeld) ?_
              case y8_131 =>
                intro w' hSw
                have kc' := fun i => (hSw.cell (p := ⟨w.heap.size, i, none⟩) lc).trans (kc i); go_simp
                try with_reducible rfl
              refine wpAnyH_take' (i := 9) (v := ?v9_132) (some 80) rfl rfl (by kernel_rfl) (by kernel_rfl) (by kernel_rfl) (fun _ _ _ h => h) (Or.inl ⟨by kernel_rfl, ?y9_132⟩) (hHeld) ?_
              case y9_132 =>
                intro w' hSw
                go_simp
                try with_reducible rfl
              refine wpAnyH_take' (i := 10) (v := ?v10_133) (some 81) rfl rfl (by kernel_rfl) (by kernel_rfl) (by kernel_rfl) (fun _ _ _ h => h) (Or.inl ⟨by kernel_rfl, ?y10_133⟩) (hHeld) ?_
              case y10_133 =>
                intro w' hSw
                go_simp
                try with_reducible rfl
              refine wpAnyH_take' (i := 11) (v := ?v11_134) (some 82) rfl rfl (by kernel_rfl) (by kernel_rfl) (by kernel_rfl) (fun _ _ _ h => h) (Or.inl ⟨by kernel_rfl, ?y11_134⟩) (hHeld) ?_
              case y11_134 =>
                intro w' hSw
                have kh' := fun i => (hSw.cell (p := ⟨hb, i, none⟩) lh).trans (kh i); go_simp
                try with_reducible rfl
              refine wpAnyH_take' (i := 12) (v := ?v12_135) (some 83) rfl rfl (by kernel_rfl) (by kernel_rfl) (by kernel_rfl) (fun _ _ _ h => h) (Or.inl ⟨by kernel_rfl, ?y12_135⟩) (hHeld) ?_
              case y12_135 =>
                intro w' hSw
                go_simp
                try with_reducible rfl
              refine wpAnyH_take' (i := 13) (v := ?v13_136) (some 84) rfl rfl (by kernel_rfl) (by kernel_rfl) (by kernel_rfl) (fun _ _ _ h => h) (Or.inl ⟨by kernel_rfl, ?y13_136⟩) (hHeld) ?_
              case y13_136 =>
                intro w' hSw
                go_simp
                try with_reducible rfl
              refine wpAnyH_take' (i := 14) (v := ?v14_137) (some 85) rfl rfl (by kernel_rfl) (by kernel_rfl) (by kernel_rfl) (fun _ _ _ h => h) (Or.inl ⟨by kernel_rfl, ?y14_137⟩) (hHeld) ?_
              case y14_137 =>
                intro w' hSw
                have r0' := (hSw.cell (p := ⟨g, j * 2, none⟩) lg).trans a0; have r1' := (hSw.cell (p := ⟨g, j * 2 + 1, none⟩) lg).trans a1; go_simp
                try with_reducible rfl
              refine wpAnyH_take' (i := 15) (v := ?v15_138) (some 86) rfl rfl (by kernel_rfl) (by kernel_rfl) (by kernel_rfl) (fun _ _ _ h => h) (Or.inl ⟨by kernel_rfl, ?y15_138⟩) (hHeld) ?_
              case y15_138 =>
                intro w' hSw
                have kc' := fun i => (hSw.cell (p := ⟨w.heap.size, i, none⟩) lc).trans (kc i); go_simp
                try with_reducible rfl
              refine wpAnyH_take' (i := 16) (v := ?v16_139) (some 87) rfl rfl (by kernel_rfl) (by kernel_rfl) (by kernel_rfl) (fun _ _ _ h => h) (Or.inl ⟨by kernel_rfl, ?y16_139⟩) (hHeld) ?_
              case y16_139 =>
                intro w' hSw
                go_simp
                try with_reducible rfl
              refine wpAnyH_take' (i := 17) (v := ?v17_140) (some 88) rfl rfl (by kernel_rfl) (by kernel_rfl) (by kernel_rfl) (fun _ _ _ h => h) (Or.inl ⟨by kernel_rfl, ?y17_140⟩) (hHeld) ?_
              case y17_140 =>
                intro w' hSw
                go_simp
                try with_reducible rfl
              refine wpAnyH_take' (i := 18) (v := ?v18_141) (some 89) rfl rfl (by kernel_rfl) (by kernel_rfl) (by kernel_rfl) (fun _ _ _ h => h) (Or.inl ⟨by kernel_rfl, ?y18_141⟩) (hHeld) ?_
              case y18_141 =>
                intro w' hSw
                have kh' := fun i => (hSw.cell (p := ⟨hb, i, none⟩) lh).trans (kh i); go_simp
                try with_reducible rfl
              refine wpAnyH_take' (i := 19) (v := ?v19_142) (some 90) rfl rfl (by kernel_rfl) (by kernel_rfl) (by kernel_rfl) (fun _ _ _ h => h) (Or.inl ⟨by kernel_rfl, ?y19_142⟩) (hHeld) ?_
              case y19_142 =>
                intro w' hSw
                go_simp
                try with_reducible rfl
              refine wpAnyH_take' (i := 20) (v := ?v20_143) (some 91) rfl rfl (by kernel_rfl) (by kernel_rfl) (by kernel_rfl) (fun _ _ _ h => h) (Or.inl ⟨by kernel_rfl, ?y20_143⟩) (hHeld) ?_
              case y20_143 =>
                intro w' hSw
                go_simp
                try with_reducible rfl
              refine wpAnyH_take' (i := 21) (v := ?v21_144) (some 92) rfl rfl (by kernel_rfl) (by kernel_rfl) (by kernel_rfl) (fun _ _ _ h => h) (Or.inl ⟨by kernel_rfl, ?y21_144⟩) (hHeld) ?_
              case y21_144 =>
                intro w' hSw
                have r0' := (hSw.cell (p := ⟨g, k2 * 2, none⟩) lg).trans b0; have r1' := (hSw.cell (p := ⟨g, k2 * 2 + 1, none⟩) lg).trans b1; go_simp
                try with_reducible rfl
              refine wpAnyH_ready (rs := [22]) (by kernel_rfl) (by simp) ?_
              refine AllReadyH.cons rfl (fun K hK => ?_) AllReadyH.nil
              rw [if_pos (by kernel_rfl)]
              go_simp
              go_at_call 38
              refine (order_calls xa xb _).mono ?_
              rintro e w1 ⟨rfl, hxb⟩
              refine hK.out _ _ (ext_trans hHeld hxb) (fun hS => ?_)
              refine wpAnyH_take' (i := 23) (v := ?v23_145) (some 94) rfl rfl (by kernel_rfl) (by kernel_rfl) (by kernel_rfl) (fun _ _ _ h => h) (Or.inl ⟨by kernel_rfl, ?y23_145⟩) (hS) ?_
              case y23_145 =>
                intro w' hSw
                go_simp
                try with_reducible rfl
              refine wpAnyH_take' (i := 24) (v := ?v24_146) (some 95) rfl rfl (by kernel_rfl) (by kernel_rfl) (by kernel_rfl) (fun _ _ _ h => h) (Or.inl ⟨by kernel_rfl, ?y24_146⟩) (hS) ?_
              case y24_146 =>
                intro w' hSw
                go_simp
                try with_reducible rfl
              refine wpAnyH_done (by kernel_rfl) ?_ _
              go_simp
              have hbc2 := at_ext hbc (by simp) hS
              have hbh2 := at_ext hbh (by simp) hS
              have hor2 := own_ext hor hS
              have hmr2 := hmr.ext hS
              have hcr2 := hcr.trans (Chg.ofExt hS)
              have HLJ := Lib.hid (show j < l'.length by have := HLN.out; omega)
              have HLK := Lib.hid (show k2 < l'.length by have := HLN.out; omega)
              have HL5 := Lib.hid (show l'.length ≤ 100000 by have := HLN.out; omega)
              have HSW := Lib.hid (fun w' (y1 : At w' w.heap.size _) (y2 : At w' hb #[.slice (some ⟨g, 0, none⟩) l'.length cap, .map (some mb), .int .i64 most]) y3 y4 => swap_calls l' M' j k2 w.heap.size hb mb g cap most w' y1 y2 y3 y4 HFT.out HID.out HLJ.out HLK.out HL5.out hd1 hd2 hd3 hd4 hd5)
              rw [HLN.out] at HSW
              clear hHeld kc kh lc lh lg a0 a1 b0 b1
              go_wp2_with (go_at_call 46; refine (HSW.out _ hbc2 hbh2 hor2 hmr2).mono ?_; rintro e w5 ⟨rfl, hc5, hh5, ho5, hm5⟩)
              have hnb : ¬ (w.heap.size = g ∨ w.heap.size = mb) := by omega
              go_roundg (l.length - k2)
              case measure => have := HLE.out.1; omega
              case rel => exact ⟨k2, swp l' j k2, _, rfl, by omega, hcr2.trans hc5, at_chg hbc2 (by simp) hc5 hnb, hh5, ho5, hm5, fits_swp HFT.out HID.out HLJ.out HLK.out, keys_put (keys_put hkr), (swp_perm HLJ.out HLK.out).trans hpm, HDS.out, kkl⟩
          · have h3' : ¬ (ordI xa xb < 0) := fun h => h3 (by have := (ordI_neg _ _).1 h; rw [hxa, hxb] at this; exact this)
            have HLEX := Lib.hid (show Least l' j k from least1 HK.out HK2.out (by have := HLN.out; omega) (Ahd.of_not h3 (HID.out.ne (by have := HLN.out; omega) (by have := HLN.out; omega) (by have := HK2.out; omega))))
            clear h3 hxa hxb
            go_upto_region 8 with fail
            refine wp_region_held_drew (S := fun w' => Ext wr w') (by kernel_rfl) (ext_drew (ext_refl _)) (fun hHeld => ?_)
            refine wpAnyH_take' (i := 0) (v := ?v0_147) (some 42) rfl rfl (by kernel_rfl) (by kernel_rfl) (by kernel_rfl) (fun _ _ _ h => h) (Or.inl ⟨by kernel_rfl, ?y0_147⟩) (hHeld) ?_
            case y0_147 =>
              intro w' hSw
              go_simp
              try with_reducible rfl
            refine wpAnyH_take' (i := 1) (v := ?v1_148) (some 43) rfl rfl (by kernel_rfl) (by kernel_rfl) (by kernel_rfl) (fun _ _ _ h => h) (Or.inl ⟨by kernel_rfl, ?y1_148⟩) (hHeld) ?_
            case y1_148 =>
              intro w' hSw
              go_simp
              try with_reducible rfl
            refine wpAnyH_take' (i := 2) (v := ?v2_149) (some 44) rfl rfl (by kernel_rfl) (by kernel_rfl) (by kernel_rfl) (fun _ _ _ h => h) (Or.inl ⟨by kernel_rfl, ?y2_149⟩) (hHeld) ?_
            case y2_149 =>
              intro w' hSw
              have kc' := fun i => (hSw.cell (p := ⟨w.heap.size, i, none⟩) lc).trans (kc i); go_simp
              try with_reducible rfl
            refine wpAnyH_take' (i := 3) (v := ?v3_150) (some 45) rfl rfl (by kernel_rfl) (by kernel_rfl) (by kernel_rfl) (fun _ _ _ h => h) (Or.inl ⟨by kernel_rfl, ?y3_150⟩) (hHeld) ?_
            case y3_150 =>
              intro w' hSw
              go_simp
              try with_reducible rfl
            refine wpAnyH_take' (i := 4) (v := ?v4_151) (some 46) rfl rfl (by kernel_rfl) (by kernel_rfl) (by kernel_rfl) (fun _ _ _ h => h) (Or.inl ⟨by kernel_rfl, ?y4_151⟩) (hHeld) ?_
            case y4_151 =>
              intro w' hSw
              go_simp
              try with_reducible rfl
            refine wpAnyH_take' (i := 5) (v := ?v5_152) (some 47) rfl rfl (by kernel_rfl) (by kernel_rfl) (by kernel_rfl) (fun _ _ _ h => h) (Or.inl ⟨by kernel_rfl, ?y5_152⟩) (hHeld) ?_
            case y5_152 =>
              intro w' hSw
              have kh' := fun i => (hSw.cell (p := ⟨hb, i, none⟩) lh).trans (kh i); go_simp
              try with_reducible rfl
            refine wpAnyH_take' (i := 6) (v := ?v6_153) (some 48) rfl rfl (by kernel_rfl) (by kernel_rfl) (by kernel_rfl) (fun _ _ _ h => h) (Or.inl ⟨by kernel_rfl, ?y6_153⟩) (hHeld) ?_
            case y6_153 =>
              intro w' hSw
              go_simp
              try with_reducible rfl
            refine wpAnyH_take' (i := 7) (v := ?v7_154) (some 49) rfl rfl (by kernel_rfl) (by kernel_rfl) (by kernel_rfl) (fun _ _ _ h => h) (Or.inl ⟨by kernel_rfl, ?y7_154⟩) (hHeld) ?_
            case y7_154 =>
              intro w' hSw
              go_simp
              try with_reducible rfl
            refine wpAnyH_take' (i := 8) (v := ?v8_155) (some 50) rfl rfl (by kernel_rfl) (by kernel_rfl) (by kernel_rfl) (fun _ _ _ h => h) (Or.inl ⟨by kernel_rfl, ?y8_155⟩) (hHeld) ?_
            case y8_155 =>
              intro w' hSw
              go_simp
              try with_reducible rfl
            refine wpAnyH_take' (i := 9) (v := ?v9_156) (some 51) rfl rfl (by kernel_rfl) (by kernel_rfl) (by kernel_rfl) (fun _ _ _ h => h) (Or.inl ⟨by kernel_rfl, ?y9_156⟩) (hHeld) ?_
            case y9_156 =>
              intro w' hSw
              have kc' := fun i => (hSw.cell (p := ⟨w.heap.size, i, none⟩) lc).trans (kc i); go_simp
              try with_reducible rfl
            refine wpAnyH_take' (i := 10) (v := ?v10_157) (some 52) rfl rfl (by kernel_rfl) (by kernel_rfl) (by kernel_rfl) (fun _ _ _ h => h) (Or.inl ⟨by kernel_rfl, ?y10_157⟩) (hHeld) ?_
            case y10_157 =>
              intro w' hSw
              go_simp
              try with_reducible rfl
            refine wpAnyH_take' (i := 11) (v := ?v11_158) (some 53) rfl rfl (by kernel_rfl) (by kernel_rfl) (by kernel_rfl) (fun _ _ _ h => h) (Or.inl ⟨by kernel_rfl, ?y11_158⟩) (hHeld) ?_
            case y11_158 =>
              intro w' hSw
              go_simp
              try with_reducible rfl
            refine wpAnyH_take' (i := 12) (v := ?v12_159) (some 54) rfl rfl (by kernel_rfl) (by kernel_rfl) (by kernel_rfl) (fun _ _ _ h => h) (Or.inl ⟨by kernel_rfl, ?y12_159⟩) (hHeld) ?_
            case y12_159 =>
              intro w' hSw
              have kh' := fun i => (hSw.cell (p := ⟨hb, i, none⟩) lh).trans (kh i); go_simp
              try with_reducible rfl
            refine wpAnyH_take' (i := 13) (v := ?v13_160) (some 55) rfl rfl (by kernel_rfl) (by kernel_rfl) (by kernel_rfl) (fun _ _ _ h => h) (Or.inl ⟨by kernel_rfl, ?y13_160⟩) (hHeld) ?_
            case y13_160 =>
              intro w' hSw
              go_simp
              try with_reducible rfl
            refine wpAnyH_take' (i := 14) (v := ?v14_161) (some 56) rfl rfl (by kernel_rfl) (by kernel_rfl) (by kernel_rfl) (fun _ _ _ h => h) (Or.inl ⟨by kernel_rfl, ?y14_161⟩) (hHeld) ?_
            case y14_161 =>
              intro w' hSw
              go_simp
              try with_reducible rfl
            refine wpAnyH_take' (i := 15) (v := ?v15_162) (some 57) rfl rfl (by kernel_rfl) (by kernel_rfl) (by kernel_rfl) (fun _ _ _ h => h) (Or.inl ⟨by kernel_rfl, ?y15_162⟩) (hHeld) ?_
            case y15_162 =>
              intro w' hSw
              go_simp
              try with_reducible rfl
            refine wpAnyH_take' (i := 16) (v := ?v16_163) (some 58) rfl rfl (by kernel_rfl) (by kernel_rfl) (by kernel_rfl) (fun _ _ _ h => h) (Or.inl ⟨by kernel_rfl, ?y16_163⟩) (hHeld) ?_
            case y16_163 =>
              intro w' hSw
              have r0' := (hSw.cell (p := ⟨g, k2 * 2, none⟩) lg).trans a0; have r1' := (hSw.cell (p := ⟨g, k2 * 2 + 1, none⟩) lg).trans a1; go_simp
              try with_reducible rfl
            refine wpAnyH_take' (i := 17) (v := ?v17_164) (some 59) rfl rfl (by kernel_rfl) (by kernel_rfl) (by kernel_rfl) (fun _ _ _ h => h) (Or.inl ⟨by kernel_rfl, ?y17_164⟩) (hHeld) ?_
            case y17_164 =>
              intro w' hSw
              have kc' := fun i => (hSw.cell (p := ⟨w.heap.size, i, none⟩) lc).trans (kc i); go_simp
              try with_reducible rfl
            refine wpAnyH_take' (i := 18) (v := ?v18_165) (some 60) rfl rfl (by kernel_rfl) (by kernel_rfl) (by kernel_rfl) (fun _ _ _ h => h) (Or.inl ⟨by kernel_rfl, ?y18_165⟩) (hHeld) ?_
            case y18_165 =>
              intro w' hSw
              go_simp
              try with_reducible rfl
            refine wpAnyH_take' (i := 19) (v := ?v19_166) (some 61) rfl rfl (by kernel_rfl) (by kernel_rfl) (by kernel_rfl) (fun _ _ _ h => h) (Or.inl ⟨by kernel_rfl, ?y19_166⟩) (hHeld) ?_
            case y19_166 =>
              intro w' hSw
              go_simp
              try with_reducible rfl
            refine wpAnyH_take' (i := 20) (v := ?v20_167) (some 62) rfl rfl (by kernel_rfl) (by kernel_rfl) (by kernel_rfl) (fun _ _ _ h => h) (Or.inl ⟨by kernel_rfl, ?y20_167⟩) (hHeld) ?_
            case y20_167 =>
              intro w' hSw
              have kh' := fun i => (hSw.cell (p := ⟨hb, i, none⟩) lh).trans (kh i); go_simp
              try with_reducible rfl
            refine wpAnyH_take' (i := 21) (v := ?v21_168) (some 63) rfl rfl (by kernel_rfl) (by kernel_rfl) (by kernel_rfl) (fun _ _ _ h => h) (Or.inl ⟨by kernel_rfl, ?y21_168⟩) (hHeld) ?_
            case y21_168 =>
              intro w' hSw
              go_simp
              try with_reducible rfl
            refine wpAnyH_take' (i := 22) (v := ?v22_169) (some 64) rfl rfl (by kernel_rfl) (by kernel_rfl) (by kernel_rfl) (fun _ _ _ h => h) (Or.inl ⟨by kernel_rfl, ?y22_169⟩) (hHeld) ?_
            case y22_169 =>
              intro w' hSw
              go_simp
              try with_reducible rfl
            refine wpAnyH_take' (i := 23) (v := ?v23_170) (some 65) rfl rfl (by kernel_rfl) (by kernel_rfl) (by kernel_rfl) (fun _ _ _ h => h) (Or.inl ⟨by kernel_rfl, ?y23_170⟩) (hHeld) ?_
            case y23_170 =>
              intro w' hSw
              have r0' := (hSw.cell (p := ⟨g, k * 2, none⟩) lg).trans b0; have r1' := (hSw.cell (p := ⟨g, k * 2 + 1, none⟩) lg).trans b1; go_simp
              try with_reducible rfl
            refine wpAnyH_ready (rs := [24]) (by kernel_rfl) (by simp) ?_
            refine AllReadyH.cons rfl (fun K hK => ?_) AllReadyH.nil
            rw [if_pos (by kernel_rfl)]
            go_simp
            go_at_call 38
            refine (order_calls xa xb _).mono ?_
            rintro e w1 ⟨rfl, hxb⟩
            refine hK.out _ _ (ext_trans hHeld hxb) (fun hS => ?_)
            refine wpAnyH_take' (i := 25) (v := ?v25_171) (some 67) rfl rfl (by kernel_rfl) (by kernel_rfl) (by kernel_rfl) (fun _ _ _ h => h) (Or.inl ⟨by kernel_rfl, ?y25_171⟩) (hS) ?_
            case y25_171 =>
              intro w' hSw
              go_simp
              try with_reducible rfl
            refine wpAnyH_take' (i := 26) (v := ?v26_172) (some 68) rfl rfl (by kernel_rfl) (by kernel_rfl) (by kernel_rfl) (fun _ _ _ h => h) (Or.inl ⟨by kernel_rfl, ?y26_172⟩) (hS) ?_
            case y26_172 =>
              intro w' hSw
              go_simp
              try with_reducible rfl
            refine wpAnyH_done (by kernel_rfl) ?_ _
            go_simp
            clear hHeld kc kh lc lh lg a0 a1 b0 b1
            go_upto_region 10 with fail
            refine wp_at ?_
            intro W10 hW
            have x10 : Ext wr W10 := by rw [hW]; repeat (first | exact ext_refl _ | assumption | refine ext_more' ?_ _ _ | refine ext_drew ?_ | refine ext_drewN ?_ _ | refine ext_alloc ?_ _)
            clear hW
            have hbc := at_ext hbc (by simp) x10
            have hbh := at_ext hbh (by simp) x10
            have hor := own_ext hor x10
            have hmr := hmr.ext x10
            have hcr := hcr.trans (Chg.ofExt x10)
            have HLE := Lib.hid (HLEX.out)
            have kkl : k < l.length := by have := HLE.out.2.1; have := HLN.out; omega
            have g1 : (((k : Nat) : Int)) < (l.length : Int) := by omega
            have g0 : (0 : Int) ≤ (((k : Nat) : Int)) := by omega
            have kc := hbc.1
            have kh := hbh.1
            have lc := at_lt hbc (by simp)
            have lh := at_lt hbh (by simp)
            have lg := own_lt hor
            obtain ⟨a0, a1⟩ := row_cells HLN.out hor (show j < l'.length by have := HLN.out; omega)
            obtain ⟨b0, b1⟩ := row_cells HLN.out hor (show k < l'.length by have := HLN.out; omega)
            obtain ⟨xa, hxa⟩ : ∃ x, x = at_ l' j := ⟨_, rfl⟩
            obtain ⟨xb, hxb⟩ : ∃ x, x = at_ l' k := ⟨_, rfl⟩
            rw [← hxa] at a0 a1
            rw [← hxb] at b0 b1
            by_cases h4 : Ahd (at_ l' j) (at_ l' k)
            · have h4' : ordI xa xb < 0 := (ordI_neg _ _).2 (by rw [hxa, hxb]; exact h4)
              have HDN := Lib.hid (down_done HPD.out HLE.out h4)
              clear h4 hxa hxb
              refine wp_region_held_drew (S := fun w' => Ext W10 w') (by kernel_rfl) (ext_drew (ext_refl _)) (fun hHeld => ?_)
              refine wpAnyH_take' (i := 0) (v := ?v0_173) (some 71) rfl rfl (by kernel_rfl) (by kernel_rfl) (by kernel_rfl) (fun _ _ _ h => h) (Or.inl ⟨by kernel_rfl, ?y0_173⟩) (hHeld) ?_
              case y0_173 =>
                intro w' hSw
                go_simp
                try with_reducible rfl
              refine wpAnyH_take' (i := 1) (v := ?v1_174) (some 72) rfl rfl (by kernel_rfl) (by kernel_rfl) (by kernel_rfl) (fun _ _ _ h => h) (Or.inl ⟨by kernel_rfl, ?y1_174⟩) (hHeld) ?_
              case y1_174 =>
                intro w' hSw
                have kc' := fun i => (hSw.cell (p := ⟨w.heap.size, i, none⟩) lc).trans (kc i); go_simp
                try with_reducible rfl
              refine wpAnyH_take' (i := 2) (v := ?v2_175) (some 73) rfl rfl (by kernel_rfl) (by kernel_rfl) (by kernel_rfl) (fun _ _ _ h => h) (Or.inl ⟨by kernel_rfl, ?y2_175⟩) (hHeld) ?_
              case y2_175 =>
                intro w' hSw
                go_simp
                try with_reducible rfl
              refine wpAnyH_take' (i := 3) (v := ?v3_176) (some 74) rfl rfl (by kernel_rfl) (by kernel_rfl) (by kernel_rfl) (fun _ _ _ h => h) (Or.inl ⟨by kernel_rfl, ?y3_176⟩) (hHeld) ?_
              case y3_176 =>
                intro w' hSw
                go_simp
                try with_reducible rfl
              refine wpAnyH_take' (i := 4) (v := ?v4_177) (some 75) rfl rfl (by kernel_rfl) (by kernel_rfl) (by kernel_rfl) (fun _ _ _ h => h) (Or.inl ⟨by kernel_rfl, ?y4_177⟩) (hHeld) ?_
              case y4_177 =>
                intro w' hSw
                have kh' := fun i => (hSw.cell (p := ⟨hb, i, none⟩) lh).trans (kh i); go_simp
                try with_reducible rfl
              refine wpAnyH_take' (i := 5) (v := ?v5_178) (some 76) rfl rfl (by kernel_rfl) (by kernel_rfl) (by kernel_rfl) (fun _ _ _ h => h) (Or.inl ⟨by kernel_rfl, ?y5_178⟩) (hHeld) ?_
              case y5_178 =>
                intro w' hSw
                go_simp
                try with_reducible rfl
              refine wpAnyH_take' (i := 6) (v := ?v6_179) (some 77) rfl rfl (by kernel_rfl) (by kernel_rfl) (by kernel_rfl) (fun _ _ _ h => h) (Or.inl ⟨by kernel_rfl, ?y6_179⟩) (hHeld) ?_
              case y6_179 =>
                intro w' hSw
                go_simp
                try with_reducible rfl
              refine wpAnyH_take' (i := 7) (v := ?v7_180) (some 78) rfl rfl (by kernel_rfl) (by kernel_rfl) (by kernel_rfl) (fun _ _ _ h => h) (Or.inl ⟨by kernel_rfl, ?y7_180⟩) (hHeld) ?_
              case y7_180 =>
                intro w' hSw
                go_simp
                try with_reducible rfl
              refine wpAnyH_take' (i := 8) (v := ?v8_181) (some 79) rfl rfl (by kernel_rfl) (by kernel_rfl) (by kernel_rfl) (fun _ _ _ h => h) (Or.inl ⟨by kernel_rfl, ?y8_181⟩) (hHeld) ?_
              case y8_181 =>
                intro w' hSw
                have kc' := fun i => (hSw.cell (p := ⟨w.heap.size, i, none⟩) lc).trans (kc i); go_simp
                try with_reducible rfl
              refine wpAnyH_take' (i := 9) (v := ?v9_182) (some 80) rfl rfl (by kernel_rfl) (by kernel_rfl) (by kernel_rfl) (fun _ _ _ h => h) (Or.inl ⟨by kernel_rfl, ?y9_182⟩) (hHeld) ?_
              case y9_182 =>
                intro w' hSw
                go_simp
                try with_reducible rfl
              refine wpAnyH_take' (i := 10) (v := ?v10_183) (some 81) rfl rfl (by kernel_rfl) (by kernel_rfl) (by kernel_rfl) (fun _ _ _ h => h) (Or.inl ⟨by kernel_rfl, ?y10_183⟩) (hHeld) ?_
              case y10_183 =>
                intro w' hSw
                go_simp
                try with_reducible rfl
              refine wpAnyH_take' (i := 11) (v := ?v11_184) (some 82) rfl rfl (by kernel_rfl) (by kernel_rfl) (by kernel_rfl) (fun _ _ _ h => h) (Or.inl ⟨by kernel_rfl, ?y11_184⟩) (hHeld) ?_
              case y11_184 =>
                intro w' hSw
                have kh' := fun i => (hSw.cell (p := ⟨hb, i, none⟩) lh).trans (kh i); go_simp
                try with_reducible rfl
              refine wpAnyH_take' (i := 12) (v := ?v12_185) (some 83) rfl rfl (by kernel_rfl) (by kernel_rfl) (by kernel_rfl) (fun _ _ _ h => h) (Or.inl ⟨by kernel_rfl, ?y12_185⟩) (hHeld) ?_
              case y12_185 =>
                intro w' hSw
                go_simp
                try with_reducible rfl
              refine wpAnyH_take' (i := 13) (v := ?v13_186) (some 84) rfl rfl (by kernel_rfl) (by kernel_rfl) (by kernel_rfl) (fun _ _ _ h => h) (Or.inl ⟨by kernel_rfl, ?y13_186⟩) (hHeld) ?_
              case y13_186 =>
                intro w' hSw
                go_simp
                try with_reducible rfl
              refine wpAnyH_take' (i := 14) (v := ?v14_187) (some 85) rfl rfl (by kernel_rfl) (by kernel_rfl) (by kernel_rfl) (fun _ _ _ h => h) (Or.inl ⟨by kernel_rfl, ?y14_187⟩) (hHeld) ?_
              case y14_187 =>
                intro w' hSw
                have r0' := (hSw.cell (p := ⟨g, j * 2, none⟩) lg).trans a0; have r1' := (hSw.cell (p := ⟨g, j * 2 + 1, none⟩) lg).trans a1; go_simp
                try with_reducible rfl
              refine wpAnyH_take' (i := 15) (v := ?v15_188) (some 86) rfl rfl (by kernel_rfl) (by kernel_rfl) (by kernel_rfl) (fun _ _ _ h => h) (Or.inl ⟨by kernel_rfl, ?y15_188⟩) (hHeld) ?_
              case y15_188 =>
                intro w' hSw
                have kc' := fun i => (hSw.cell (p := ⟨w.heap.size, i, none⟩) lc).trans (kc i); go_simp
                try with_reducible rfl
              refine wpAnyH_take' (i := 16) (v := ?v16_189) (some 87) rfl rfl (by kernel_rfl) (by kernel_rfl) (by kernel_rfl) (fun _ _ _ h => h) (Or.inl ⟨by kernel_rfl, ?y16_189⟩) (hHeld) ?_
              case y16_189 =>
                intro w' hSw
                go_simp
                try with_reducible rfl
              refine wpAnyH_take' (i := 17) (v := ?v17_190) (some 88) rfl rfl (by kernel_rfl) (by kernel_rfl) (by kernel_rfl) (fun _ _ _ h => h) (Or.inl ⟨by kernel_rfl, ?y17_190⟩) (hHeld) ?_
              case y17_190 =>
                intro w' hSw
                go_simp
                try with_reducible rfl
              refine wpAnyH_take' (i := 18) (v := ?v18_191) (some 89) rfl rfl (by kernel_rfl) (by kernel_rfl) (by kernel_rfl) (fun _ _ _ h => h) (Or.inl ⟨by kernel_rfl, ?y18_191⟩) (hHeld) ?_
              case y18_191 =>
                intro w' hSw
                have kh' := fun i => (hSw.cell (p := ⟨hb, i, none⟩) lh).trans (kh i); go_simp
                try with_reducible rfl
              refine wpAnyH_take' (i := 19) (v := ?v19_192) (some 90) rfl rfl (by kernel_rfl) (by kernel_rfl) (by kernel_rfl) (fun _ _ _ h => h) (Or.inl ⟨by kernel_rfl, ?y19_192⟩) (hHeld) ?_
              case y19_192 =>
                intro w' hSw
                go_simp
                try with_reducible rfl
              refine wpAnyH_take' (i := 20) (v := ?v20_193) (some 91) rfl rfl (by kernel_rfl) (by kernel_rfl) (by kernel_rfl) (fun _ _ _ h => h) (Or.inl ⟨by kernel_rfl, ?y20_193⟩) (hHeld) ?_
              case y20_193 =>
                intro w' hSw
                go_simp
                try with_reducible rfl
              refine wpAnyH_take' (i := 21) (v := ?v21_194) (some 92) rfl rfl (by kernel_rfl) (by kernel_rfl) (by kernel_rfl) (fun _ _ _ h => h) (Or.inl ⟨by kernel_rfl, ?y21_194⟩) (hHeld) ?_
              case y21_194 =>
                intro w' hSw
                have r0' := (hSw.cell (p := ⟨g, k * 2, none⟩) lg).trans b0; have r1' := (hSw.cell (p := ⟨g, k * 2 + 1, none⟩) lg).trans b1; go_simp
                try with_reducible rfl
              refine wpAnyH_ready (rs := [22]) (by kernel_rfl) (by simp) ?_
              refine AllReadyH.cons rfl (fun K hK => ?_) AllReadyH.nil
              rw [if_pos (by kernel_rfl)]
              go_simp
              go_at_call 38
              refine (order_calls xa xb _).mono ?_
              rintro e w1 ⟨rfl, hxb⟩
              refine hK.out _ _ (ext_trans hHeld hxb) (fun hS => ?_)
              refine wpAnyH_take' (i := 23) (v := ?v23_195) (some 94) rfl rfl (by kernel_rfl) (by kernel_rfl) (by kernel_rfl) (fun _ _ _ h => h) (Or.inl ⟨by kernel_rfl, ?y23_195⟩) (hS) ?_
              case y23_195 =>
                intro w' hSw
                go_simp
                try with_reducible rfl
              refine wpAnyH_take' (i := 24) (v := ?v24_196) (some 95) rfl rfl (by kernel_rfl) (by kernel_rfl) (by kernel_rfl) (fun _ _ _ h => h) (Or.inl ⟨by kernel_rfl, ?y24_196⟩) (hS) ?_
              case y24_196 =>
                intro w' hSw
                go_simp
                try with_reducible rfl
              refine wpAnyH_done (by kernel_rfl) ?_ _
              go_simp
              have hbh2 := at_ext hbh (by simp) hS
              have hor2 := own_ext hor hS
              have hmr2 := hmr.ext hS
              have hcr2 := hcr.trans (Chg.ofExt hS)
              clear hHeld
              go_wp2
              refine bodyPost_ret (results_none rfl _ _ _) rfl ?_
              exact ⟨rfl, hcr2, RightPost.mk hpm HDN.out hbh2 hor2 hmr2 HFT.out hkr⟩
            · have h4' : ¬ (ordI xa xb < 0) := fun h => h4 (by have := (ordI_neg _ _).1 h; rw [hxa, hxb] at this; exact this)
              have HDS := Lib.hid (down_step HPD.out (by have := HLN.out; omega) HLE.out HID.out h4)
              clear h4 hxa hxb
              refine wp_region_held_drew (S := fun w' => Ext W10 w') (by kernel_rfl) (ext_drew (ext_refl _)) (fun hHeld => ?_)
              refine wpAnyH_take' (i := 0) (v := ?v0_197) (some 71) rfl rfl (by kernel_rfl) (by kernel_rfl) (by kernel_rfl) (fun _ _ _ h => h) (Or.inl ⟨by kernel_rfl, ?y0_197⟩) (hHeld) ?_
              case y0_197 =>
                intro w' hSw
                go_simp
                try with_reducible rfl
              refine wpAnyH_take' (i := 1) (v := ?v1_198) (some 72) rfl rfl (by kernel_rfl) (by kernel_rfl) (by kernel_rfl) (fun _ _ _ h => h) (Or.inl ⟨by kernel_rfl, ?y1_198⟩) (hHeld) ?_
              case y1_198 =>
                intro w' hSw
                have kc' := fun i => (hSw.cell (p := ⟨w.heap.size, i, none⟩) lc).trans (kc i); go_simp
                try with_reducible rfl
              refine wpAnyH_take' (i := 2) (v := ?v2_199) (some 73) rfl rfl (by kernel_rfl) (by kernel_rfl) (by kernel_rfl) (fun _ _ _ h => h) (Or.inl ⟨by kernel_rfl, ?y2_199⟩) (hHeld) ?_
              case y2_199 =>
                intro w' hSw
                go_simp
                try with_reducible rfl
              refine wpAnyH_take' (i := 3) (v := ?v3_200) (some 74) rfl rfl (by kernel_rfl) (by kernel_rfl) (by kernel_rfl) (fun _ _ _ h => h) (Or.inl ⟨by kernel_rfl, ?y3_200⟩) (hHeld) ?_
              case y3_200 =>
                intro w' hSw
                go_simp
                try with_reducible rfl
              refine wpAnyH_take' (i := 4) (v := ?v4_201) (some 75) rfl rfl (by kernel_rfl) (by kernel_rfl) (by kernel_rfl) (fun _ _ _ h => h) (Or.inl ⟨by kernel_rfl, ?y4_201⟩) (hHeld) ?_
              case y4_201 =>
                intro w' hSw
                have kh' := fun i => (hSw.cell (p := ⟨hb, i, none⟩) lh).trans (kh i); go_simp
                try with_reducible rfl
              refine wpAnyH_take' (i := 5) (v := ?v5_202) (some 76) rfl rfl (by kernel_rfl) (by kernel_rfl) (by kernel_rfl) (fun _ _ _ h => h) (Or.inl ⟨by kernel_rfl, ?y5_202⟩) (hHeld) ?_
              case y5_202 =>
                intro w' hSw
                go_simp
                try with_reducible rfl
              refine wpAnyH_take' (i := 6) (v := ?v6_203) (some 77) rfl rfl (by kernel_rfl) (by kernel_rfl) (by kernel_rfl) (fun _ _ _ h => h) (Or.inl ⟨by kernel_rfl, ?y6_203⟩) (hHeld) ?_
              case y6_203 =>
                intro w' hSw
                go_simp
                try with_reducible rfl
              refine wpAnyH_take' (i := 7) (v := ?v7_204) (some 78) rfl rfl (by kernel_rfl) (by kernel_rfl) (by kernel_rfl) (fun _ _ _ h => h) (Or.inl ⟨by kernel_rfl, ?y7_204⟩) (hHeld) ?_
              case y7_204 =>
                intro w' hSw
                go_simp
                try with_reducible rfl
              refine wpAnyH_take' (i := 8) (v := ?v8_205) (some 79) rfl rfl (by kernel_rfl) (by kernel_rfl) (by kernel_rfl) (fun _ _ _ h => h) (Or.inl ⟨by kernel_rfl, ?y8_205⟩) (hHeld) ?_
              case y8_205 =>
                intro w' hSw
                have kc' := fun i => (hSw.cell (p := ⟨w.heap.size, i, none⟩) lc).trans (kc i); go_simp
                try with_reducible rfl
              refine wpAnyH_take' (i := 9) (v := ?v9_206) (some 80) rfl rfl (by kernel_rfl) (by kernel_rfl) (by kernel_rfl) (fun _ _ _ h => h) (Or.inl ⟨by kernel_rfl, ?y9_206⟩) (hHeld) ?_
              case y9_206 =>
                intro w' hSw
                go_simp
                try with_reducible rfl
              refine wpAnyH_take' (i := 10) (v := ?v10_207) (some 81) rfl rfl (by kernel_rfl) (by kernel_rfl) (by kernel_rfl) (fun _ _ _ h => h) (Or.inl ⟨by kernel_rfl, ?y10_207⟩) (hHeld) ?_
              case y10_207 =>
                intro w' hSw
                go_simp
                try with_reducible rfl
              refine wpAnyH_take' (i := 11) (v := ?v11_208) (some 82) rfl rfl (by kernel_rfl) (by kernel_rfl) (by kernel_rfl) (fun _ _ _ h => h) (Or.inl ⟨by kernel_rfl, ?y11_208⟩) (hHeld) ?_
              case y11_208 =>
                intro w' hSw
                have kh' := fun i => (hSw.cell (p := ⟨hb, i, none⟩) lh).trans (kh i); go_simp
                try with_reducible rfl
              refine wpAnyH_take' (i := 12) (v := ?v12_209) (some 83) rfl rfl (by kernel_rfl) (by kernel_rfl) (by kernel_rfl) (fun _ _ _ h => h) (Or.inl ⟨by kernel_rfl, ?y12_209⟩) (hHeld) ?_
              case y12_209 =>
                intro w' hSw
                go_simp
                try with_reducible rfl
              refine wpAnyH_take' (i := 13) (v := ?v13_210) (some 84) rfl rfl (by kernel_rfl) (by kernel_rfl) (by kernel_rfl) (fun _ _ _ h => h) (Or.inl ⟨by kernel_rfl, ?y13_210⟩) (hHeld) ?_
              case y13_210 =>
                intro w' hSw
                go_simp
                try with_reducible rfl
              refine wpAnyH_take' (i := 14) (v := ?v14_211) (some 85) rfl rfl (by kernel_rfl) (by kernel_rfl) (by kernel_rfl) (fun _ _ _ h => h) (Or.inl ⟨by kernel_rfl, ?y14_211⟩) (hHeld) ?_
              case y14_211 =>
                intro w' hSw
                have r0' := (hSw.cell (p := ⟨g, j * 2, none⟩) lg).trans a0; have r1' := (hSw.cell (p := ⟨g, j * 2 + 1, none⟩) lg).trans a1; go_simp
                try with_reducible rfl
              refine wpAnyH_take' (i := 15) (v := ?v15_212) (some 86) rfl rfl (by kernel_rfl) (by kernel_rfl) (by kernel_rfl) (fun _ _ _ h => h) (Or.inl ⟨by kernel_rfl, ?y15_212⟩) (hHeld) ?_
              case y15_212 =>
                intro w' hSw
                have kc' := fun i => (hSw.cell (p := ⟨w.heap.size, i, none⟩) lc).trans (kc i); go_simp
                try with_reducible rfl
              refine wpAnyH_take' (i := 16) (v := ?v16_213) (some 87) rfl rfl (by kernel_rfl) (by kernel_rfl) (by kernel_rfl) (fun _ _ _ h => h) (Or.inl ⟨by kernel_rfl, ?y16_213⟩) (hHeld) ?_
              case y16_213 =>
                intro w' hSw
                go_simp
                try with_reducible rfl
              refine wpAnyH_take' (i := 17) (v := ?v17_214) (some 88) rfl rfl (by kernel_rfl) (by kernel_rfl) (by kernel_rfl) (fun _ _ _ h => h) (Or.inl ⟨by kernel_rfl, ?y17_214⟩) (hHeld) ?_
              case y17_214 =>
                intro w' hSw
                go_simp
                try with_reducible rfl
              refine wpAnyH_take' (i := 18) (v := ?v18_215) (some 89) rfl rfl (by kernel_rfl) (by kernel_rfl) (by kernel_rfl) (fun _ _ _ h => h) (Or.inl ⟨by kernel_rfl, ?y18_215⟩) (hHeld) ?_
              case y18_215 =>
                intro w' hSw
                have kh' := fun i => (hSw.cell (p := ⟨hb, i, none⟩) lh).trans (kh i); go_simp
                try with_reducible rfl
              refine wpAnyH_take' (i := 19) (v := ?v19_216) (some 90) rfl rfl (by kernel_rfl) (by kernel_rfl) (by kernel_rfl) (fun _ _ _ h => h) (Or.inl ⟨by kernel_rfl, ?y19_216⟩) (hHeld) ?_
              case y19_216 =>
                intro w' hSw
                go_simp
                try with_reducible rfl
              refine wpAnyH_take' (i := 20) (v := ?v20_217) (some 91) rfl rfl (by kernel_rfl) (by kernel_rfl) (by kernel_rfl) (fun _ _ _ h => h) (Or.inl ⟨by kernel_rfl, ?y20_217⟩) (hHeld) ?_
              case y20_217 =>
                intro w' hSw
                go_simp
                try with_reducible rfl
              refine wpAnyH_take' (i := 21) (v := ?v21_218) (some 92) rfl rfl (by kernel_rfl) (by kernel_rfl) (by kernel_rfl) (fun _ _ _ h => h) (Or.inl ⟨by kernel_rfl, ?y21_218⟩) (hHeld) ?_
              case y21_218 =>
                intro w' hSw
                have r0' := (hSw.cell (p := ⟨g, k * 2, none⟩) lg).trans b0; have r1' := (hSw.cell (p := ⟨g, k * 2 + 1, none⟩) lg).trans b1; go_simp
                try with_reducible rfl
              refine wpAnyH_ready (rs := [22]) (by kernel_rfl) (by simp) ?_
              refine AllReadyH.cons rfl (fun K hK => ?_) AllReadyH.nil
              rw [if_pos (by kernel_rfl)]
              go_simp
              go_at_call 38
              refine (order_calls xa xb _).mono ?_
              rintro e w1 ⟨rfl, hxb⟩
              refine hK.out _ _ (ext_trans hHeld hxb) (fun hS => ?_)
              refine wpAnyH_take' (i := 23) (v := ?v23_219) (some 94) rfl rfl (by kernel_rfl) (by kernel_rfl) (by kernel_rfl) (fun _ _ _ h => h) (Or.inl ⟨by kernel_rfl, ?y23_219⟩) (hS) ?_
              case y23_219 =>
                intro w' hSw
                go_simp
                try with_reducible rfl
              refine wpAnyH_take' (i := 24) (v := ?v24_220) (some 95) rfl rfl (by kernel_rfl) (by kernel_rfl) (by kernel_rfl) (fun _ _ _ h => h) (Or.inl ⟨by kernel_rfl, ?y24_220⟩) (hS) ?_
              case y24_220 =>
                intro w' hSw
                go_simp
                try with_reducible rfl
              refine wpAnyH_done (by kernel_rfl) ?_ _
              go_simp
              have hbc2 := at_ext hbc (by simp) hS
              have hbh2 := at_ext hbh (by simp) hS
              have hor2 := own_ext hor hS
              have hmr2 := hmr.ext hS
              have hcr2 := hcr.trans (Chg.ofExt hS)
              have HLJ := Lib.hid (show j < l'.length by have := HLN.out; omega)
              have HLK := Lib.hid (show k < l'.length by have := HLN.out; omega)
              have HL5 := Lib.hid (show l'.length ≤ 100000 by have := HLN.out; omega)
              have HSW := Lib.hid (fun w' (y1 : At w' w.heap.size _) (y2 : At w' hb #[.slice (some ⟨g, 0, none⟩) l'.length cap, .map (some mb), .int .i64 most]) y3 y4 => swap_calls l' M' j k w.heap.size hb mb g cap most w' y1 y2 y3 y4 HFT.out HID.out HLJ.out HLK.out HL5.out hd1 hd2 hd3 hd4 hd5)
              rw [HLN.out] at HSW
              clear hHeld kc kh lc lh lg a0 a1 b0 b1
              go_wp2_with (go_at_call 46; refine (HSW.out _ hbc2 hbh2 hor2 hmr2).mono ?_; rintro e w5 ⟨rfl, hc5, hh5, ho5, hm5⟩)
              have hnb : ¬ (w.heap.size = g ∨ w.heap.size = mb) := by omega
              go_roundg (l.length - k)
              case measure => have := HLE.out.1; omega
              case rel => exact ⟨k, swp l' j k, _, rfl, by omega, hcr2.trans hc5, at_chg hbc2 (by simp) hc5 hnb, hh5, ho5, hm5, fits_swp HFT.out HID.out HLJ.out HLK.out, keys_put (keys_put hkr), (swp_perm HLJ.out HLK.out).trans hpm, HDS.out, kkl⟩
        · have n1 : ¬ ((k2 : Int) < (l.length : Int)) := by omega
          have HLEX := Lib.hid (show Least l' j k from least0 HK.out (by have := HLN.out; omega) (by have := HLN.out; have := HK2.out; omega))
          go_upto_region 8 with fail
          refine wp_region_held_drew (S := fun w' => Ext wr w') (by kernel_rfl) (ext_drew (ext_refl _)) (fun hHeld => ?_)
          refine wpAnyH_take' (i := 0) (v := ?v0_221) (some 42) rfl rfl (by kernel_rfl) (by kernel_rfl) (by kernel_rfl) (fun _ _ _ h => h) (Or.inl ⟨by kernel_rfl, ?y0_221⟩) (hHeld) ?_
          case y0_221 =>
            intro w' hSw
            go_simp
            try with_reducible rfl
          refine wpAnyH_take' (i := 1) (v := ?v1_222) (some 43) rfl rfl (by kernel_rfl) (by kernel_rfl) (by kernel_rfl) (fun _ _ _ h => h) (Or.inl ⟨by kernel_rfl, ?y1_222⟩) (hHeld) ?_
          case y1_222 =>
            intro w' hSw
            go_simp
            try with_reducible rfl
          refine wpAnyH_take' (i := 2) (v := ?v2_223) (some 44) rfl rfl (by kernel_rfl) (by kernel_rfl) (by kernel_rfl) (fun _ _ _ h => h) (Or.inl ⟨by kernel_rfl, ?y2_223⟩) (hHeld) ?_
          case y2_223 =>
            intro w' hSw
            have kc' := fun i => (hSw.cell (p := ⟨w.heap.size, i, none⟩) lc).trans (kc i); go_simp
            try with_reducible rfl
          refine wpAnyH_take' (i := 3) (v := ?v3_224) (some 45) rfl rfl (by kernel_rfl) (by kernel_rfl) (by kernel_rfl) (fun _ _ _ h => h) (Or.inl ⟨by kernel_rfl, ?y3_224⟩) (hHeld) ?_
          case y3_224 =>
            intro w' hSw
            go_simp
            try with_reducible rfl
          refine wpAnyH_take' (i := 4) (v := ?v4_225) (some 46) rfl rfl (by kernel_rfl) (by kernel_rfl) (by kernel_rfl) (fun _ _ _ h => h) (Or.inl ⟨by kernel_rfl, ?y4_225⟩) (hHeld) ?_
          case y4_225 =>
            intro w' hSw
            go_simp
            try with_reducible rfl
          refine wpAnyH_take' (i := 5) (v := ?v5_226) (some 47) rfl rfl (by kernel_rfl) (by kernel_rfl) (by kernel_rfl) (fun _ _ _ h => h) (Or.inl ⟨by kernel_rfl, ?y5_226⟩) (hHeld) ?_
          case y5_226 =>
            intro w' hSw
            have kh' := fun i => (hSw.cell (p := ⟨hb, i, none⟩) lh).trans (kh i); go_simp
            try with_reducible rfl
          refine wpAnyH_take' (i := 6) (v := ?v6_227) (some 48) rfl rfl (by kernel_rfl) (by kernel_rfl) (by kernel_rfl) (fun _ _ _ h => h) (Or.inl ⟨by kernel_rfl, ?y6_227⟩) (hHeld) ?_
          case y6_227 =>
            intro w' hSw
            go_simp
            try with_reducible rfl
          refine wpAnyH_take' (i := 7) (v := ?v7_228) (some 49) rfl rfl (by kernel_rfl) (by kernel_rfl) (by kernel_rfl) (fun _ _ _ h => h) (Or.inl ⟨by kernel_rfl, ?y7_228⟩) (hHeld) ?_
          case y7_228 =>
            intro w' hSw
            go_simp
            try with_reducible rfl
          refine wpAnyH_take' (i := 8) (v := ?v8_229) (some 50) rfl rfl (by kernel_rfl) (by kernel_rfl) (by kernel_rfl) (fun _ _ _ h => h) (Or.inl ⟨by kernel_rfl, ?y8_229⟩) (hHeld) ?_
          case y8_229 =>
            intro w' hSw
            go_simp
            try with_reducible rfl
          refine wpAnyH_take' (i := 9) (v := undef) (some 51) rfl rfl (by kernel_rfl) (by kernel_rfl) (by kernel_rfl) (fun _ _ _ h => h) (Or.inr ⟨by kernel_rfl, rfl⟩) (hHeld) ?_
          refine wpAnyH_take' (i := 10) (v := undef) (some 52) rfl rfl (by kernel_rfl) (by kernel_rfl) (by kernel_rfl) (fun _ _ _ h => h) (Or.inr ⟨by kernel_rfl, rfl⟩) (hHeld) ?_
          refine wpAnyH_take' (i := 11) (v := undef) (some 53) rfl rfl (by kernel_rfl) (by kernel_rfl) (by kernel_rfl) (fun _ _ _ h => h) (Or.inr ⟨by kernel_rfl, rfl⟩) (hHeld) ?_
          refine wpAnyH_take' (i := 12) (v := undef) (some 54) rfl rfl (by kernel_rfl) (by kernel_rfl) (by kernel_rfl) (fun _ _ _ h => h) (Or.inr ⟨by kernel_rfl, rfl⟩) (hHeld) ?_
          refine wpAnyH_take' (i := 13) (v := undef) (some 55) rfl rfl (by kernel_rfl) (by kernel_rfl) (by kernel_rfl) (fun _ _ _ h => h) (Or.inr ⟨by kernel_rfl, rfl⟩) (hHeld) ?_
          refine wpAnyH_take' (i := 14) (v := undef) (some 56) rfl rfl (by kernel_rfl) (by kernel_rfl) (by kernel_rfl) (fun _ _ _ h => h) (Or.inr ⟨by kernel_rfl, rfl⟩) (hHeld) ?_
          refine wpAnyH_take' (i := 15) (v := undef) (some 57) rfl rfl (by kernel_rfl) (by kernel_rfl) (by kernel_rfl) (fun _ _ _ h => h) (Or.inr ⟨by kernel_rfl, rfl⟩) (hHeld) ?_
          refine wpAnyH_take' (i := 16) (v := undef) (some 58) rfl rfl (by kernel_rfl) (by kernel_rfl) (by kernel_rfl) (fun _ _ _ h => h) (Or.inr ⟨by kernel_rfl, rfl⟩) (hHeld) ?_
          refine wpAnyH_take' (i := 17) (v := undef) (some 59) rfl rfl (by kernel_rfl) (by kernel_rfl) (by kernel_rfl) (fun _ _ _ h => h) (Or.inr ⟨by kernel_rfl, rfl⟩) (hHeld) ?_
          refine wpAnyH_take' (i := 18) (v := undef) (some 60) rfl rfl (by kernel_rfl) (by kernel_rfl) (by kernel_rfl) (fun _ _ _ h => h) (Or.inr ⟨by kernel_rfl, rfl⟩) (hHeld) ?_
          refine wpAnyH_take' (i := 19) (v := undef) (some 61) rfl rfl (by kernel_rfl) (by kernel_rfl) (by kernel_rfl) (fun _ _ _ h => h) (Or.inr ⟨by kernel_rfl, rfl⟩) (hHeld) ?_
          refine wpAnyH_take' (i := 20) (v := undef) (some 62) rfl rfl (by kernel_rfl) (by kernel_rfl) (by kernel_rfl) (fun _ _ _ h => h) (Or.inr ⟨by kernel_rfl, rfl⟩) (hHeld) ?_
          refine wpAnyH_take' (i := 21) (v := undef) (some 63) rfl rfl (by kernel_rfl) (by kernel_rfl) (by kernel_rfl) (fun _ _ _ h => h) (Or.inr ⟨by kernel_rfl, rfl⟩) (hHeld) ?_
          refine wpAnyH_take' (i := 22) (v := undef) (some 64) rfl rfl (by kernel_rfl) (by kernel_rfl) (by kernel_rfl) (fun _ _ _ h => h) (Or.inr ⟨by kernel_rfl, rfl⟩) (hHeld) ?_
          refine wpAnyH_take' (i := 23) (v := undef) (some 65) rfl rfl (by kernel_rfl) (by kernel_rfl) (by kernel_rfl) (fun _ _ _ h => h) (Or.inr ⟨by kernel_rfl, rfl⟩) (hHeld) ?_
          refine wpAnyH_take' (i := 24) (v := undef) (some 66) rfl rfl (by kernel_rfl) (by kernel_rfl) (by kernel_rfl) (fun _ _ _ h => h) (Or.inr ⟨by kernel_rfl, rfl⟩) (hHeld) ?_
          refine wpAnyH_take' (i := 25) (v := undef) (some 67) rfl rfl (by kernel_rfl) (by kernel_rfl) (by kernel_rfl) (fun _ _ _ h => h) (Or.inr ⟨by kernel_rfl, rfl⟩) (hHeld) ?_
          refine wpAnyH_take' (i := 26) (v := ?v26_247) (some 68) rfl rfl (by kernel_rfl) (by kernel_rfl) (by kernel_rfl) (fun _ _ _ h => h) (Or.inl ⟨by kernel_rfl, ?y26_247⟩) (hHeld) ?_
          case y26_247 =>
            intro w' hSw
            go_simp
            try with_reducible rfl
          refine wpAnyH_done (by kernel_rfl) ?_ _
          go_simp
          clear hHeld kc kh lc lh lg
          go_upto_region 10 with fail
          refine wp_at ?_
          intro W10 hW
          have x10 : Ext wr W10 := by rw [hW]; repeat (first | exact ext_refl _ | assumption | refine ext_more' ?_ _ _ | refine ext_drew ?_ | refine ext_drewN ?_ _ | refine ext_alloc ?_ _)
          clear hW
          have hbc := at_ext hbc (by simp) x10
          have hbh := at_ext hbh (by simp) x10
          have hor := own_ext hor x10
          have hmr := hmr.ext x10
          have hcr := hcr.trans (Chg.ofExt x10)
          have HLE := Lib.hid (HLEX.out)
          have kkl : k < l.length := by have := HLE.out.2.1; have := HLN.out; omega
          have g1 : (((k : Nat) : Int)) < (l.length : Int) := by omega
          have g0 : (0 : Int) ≤ (((k : Nat) : Int)) := by omega
          have kc := hbc.1
          have kh := hbh.1
          have lc := at_lt hbc (by simp)
          have lh := at_lt hbh (by simp)
          have lg := own_lt hor
          obtain ⟨a0, a1⟩ := row_cells HLN.out hor (show j < l'.length by have := HLN.out; omega)
          obtain ⟨b0, b1⟩ := row_cells HLN.out hor (show k < l'.length by have := HLN.out; omega)
          obtain ⟨xa, hxa⟩ : ∃ x, x = at_ l' j := ⟨_, rfl⟩
          obtain ⟨xb, hxb⟩ : ∃ x, x = at_ l' k := ⟨_, rfl⟩
          rw [← hxa] at a0 a1
          rw [← hxb] at b0 b1
          by_cases h4 : Ahd (at_ l' j) (at_ l' k)
          · have h4' : ordI xa xb < 0 := (ordI_neg _ _).2 (by rw [hxa, hxb]; exact h4)
            have HDN := Lib.hid (down_done HPD.out HLE.out h4)
            clear h4 hxa hxb
            refine wp_region_held_drew (S := fun w' => Ext W10 w') (by kernel_rfl) (ext_drew (ext_refl _)) (fun hHeld => ?_)
            refine wpAnyH_take' (i := 0) (v := ?v0_248) (some 71) rfl rfl (by kernel_rfl) (by kernel_rfl) (by kernel_rfl) (fun _ _ _ h => h) (Or.inl ⟨by kernel_rfl, ?y0_248⟩) (hHeld) ?_
            case y0_248 =>
              intro w' hSw
              go_simp
              try with_reducible rfl
            refine wpAnyH_take' (i := 1) (v := ?v1_249) (some 72) rfl rfl (by kernel_rfl) (by kernel_rfl) (by kernel_rfl) (fun _ _ _ h => h) (Or.inl ⟨by kernel_rfl, ?y1_249⟩) (hHeld) ?_
            case y1_249 =>
              intro w' hSw
              have kc' := fun i => (hSw.cell (p := ⟨w.heap.size, i, none⟩) lc).trans (kc i); go_simp
              try with_reducible rfl
            refine wpAnyH_take' (i := 2) (v := ?v2_250) (some 73) rfl rfl (by kernel_rfl) (by kernel_rfl) (by kernel_rfl) (fun _ _ _ h => h) (Or.inl ⟨by kernel_rfl, ?y2_250⟩) (hHeld) ?_
            case y2_250 =>
              intro w' hSw
              go_simp
              try with_reducible rfl
            refine wpAnyH_take' (i := 3) (v := ?v3_251) (some 74) rfl rfl (by kernel_rfl) (by kernel_rfl) (by kernel_rfl) (fun _ _ _ h => h) (Or.inl ⟨by kernel_rfl, ?y3_251⟩) (hHeld) ?_
            case y3_251 =>
              intro w' hSw
              go_simp
              try with_reducible rfl
            refine wpAnyH_take' (i := 4) (v := ?v4_252) (some 75) rfl rfl (by kernel_rfl) (by kernel_rfl) (by kernel_rfl) (fun _ _ _ h => h) (Or.inl ⟨by kernel_rfl, ?y4_252⟩) (hHeld) ?_
            case y4_252 =>
              intro w' hSw
              have kh' := fun i => (hSw.cell (p := ⟨hb, i, none⟩) lh).trans (kh i); go_simp
              try with_reducible rfl
            refine wpAnyH_take' (i := 5) (v := ?v5_253) (some 76) rfl rfl (by kernel_rfl) (by kernel_rfl) (by kernel_rfl) (fun _ _ _ h => h) (Or.inl ⟨by kernel_rfl, ?y5_253⟩) (hHeld) ?_
            case y5_253 =>
              intro w' hSw
              go_simp
              try with_reducible rfl
            refine wpAnyH_take' (i := 6) (v := ?v6_254) (some 77) rfl rfl (by kernel_rfl) (by kernel_rfl) (by kernel_rfl) (fun _ _ _ h => h) (Or.inl ⟨by kernel_rfl, ?y6_254⟩) (hHeld) ?_
            case y6_254 =>
              intro w' hSw
              go_simp
              try with_reducible rfl
            refine wpAnyH_take' (i := 7) (v := ?v7_255) (some 78) rfl rfl (by kernel_rfl) (by kernel_rfl) (by kernel_rfl) (fun _ _ _ h => h) (Or.inl ⟨by kernel_rfl, ?y7_255⟩) (hHeld) ?_
            case y7_255 =>
              intro w' hSw
              go_simp
              try with_reducible rfl
            refine wpAnyH_take' (i := 8) (v := ?v8_256) (some 79) rfl rfl (by kernel_rfl) (by kernel_rfl) (by kernel_rfl) (fun _ _ _ h => h) (Or.inl ⟨by kernel_rfl, ?y8_256⟩) (hHeld) ?_
            case y8_256 =>
              intro w' hSw
              have kc' := fun i => (hSw.cell (p := ⟨w.heap.size, i, none⟩) lc).trans (kc i); go_simp
              try with_reducible rfl
            refine wpAnyH_take' (i := 9) (v := ?v9_257) (some 80) rfl rfl (by kernel_rfl) (by kernel_rfl) (by kernel_rfl) (fun _ _ _ h => h) (Or.inl ⟨by kernel_rfl, ?y9_257⟩) (hHeld) ?_
            case y9_257 =>
              intro w' hSw
              go_simp
              try with_reducible rfl
            refine wpAnyH_take' (i := 10) (v := ?v10_258) (some 81) rfl rfl (by kernel_rfl) (by kernel_rfl) (by kernel_rfl) (fun _ _ _ h => h) (Or.inl ⟨by kernel_rfl, ?y10_258⟩) (hHeld) ?_
            case y10_258 =>
              intro w' hSw
              go_simp
              try with_reducible rfl
            refine wpAnyH_take' (i := 11) (v := ?v11_259) (some 82) rfl rfl (by kernel_rfl) (by kernel_rfl) (by kernel_rfl) (fun _ _ _ h => h) (Or.inl ⟨by kernel_rfl, ?y11_259⟩) (hHeld) ?_
            case y11_259 =>
              intro w' hSw
              have kh' := fun i => (hSw.cell (p := ⟨hb, i, none⟩) lh).trans (kh i); go_simp
              try with_reducible rfl
            refine wpAnyH_take' (i := 12) (v := ?v12_260) (some 83) rfl rfl (by kernel_rfl) (by kernel_rfl) (by kernel_rfl) (fun _ _ _ h => h) (Or.inl ⟨by kernel_rfl, ?y12_260⟩) (hHeld) ?_
            case y12_260 =>
              intro w' hSw
              go_simp
              try with_reducible rfl
            refine wpAnyH_take' (i := 13) (v := ?v13_261) (some 84) rfl rfl (by kernel_rfl) (by kernel_rfl) (by kernel_rfl) (fun _ _ _ h => h) (Or.inl ⟨by kernel_rfl, ?y13_261⟩) (hHeld) ?_
            case y13_261 =>
              intro w' hSw
              go_simp
              try with_reducible rfl
            refine wpAnyH_take' (i := 14) (v := ?v14_262) (some 85) rfl rfl (by kernel_rfl) (by kernel_rfl) (by kernel_rfl) (fun _ _ _ h => h) (Or.inl ⟨by kernel_rfl, ?y14_262⟩) (hHeld) ?_
            case y14_262 =>
              intro w' hSw
              have r0' := (hSw.cell (p := ⟨g, j * 2, none⟩) lg).trans a0; have r1' := (hSw.cell (p := ⟨g, j * 2 + 1, none⟩) lg).trans a1; go_simp
              try with_reducible rfl
            refine wpAnyH_take' (i := 15) (v := ?v15_263) (some 86) rfl rfl (by kernel_rfl) (by kernel_rfl) (by kernel_rfl) (fun _ _ _ h => h) (Or.inl ⟨by kernel_rfl, ?y15_263⟩) (hHeld) ?_
            case y15_263 =>
              intro w' hSw
              have kc' := fun i => (hSw.cell (p := ⟨w.heap.size, i, none⟩) lc).trans (kc i); go_simp
              try with_reducible rfl
            refine wpAnyH_take' (i := 16) (v := ?v16_264) (some 87) rfl rfl (by kernel_rfl) (by kernel_rfl) (by kernel_rfl) (fun _ _ _ h => h) (Or.inl ⟨by kernel_rfl, ?y16_264⟩) (hHeld) ?_
            case y16_264 =>
              intro w' hSw
              go_simp
              try with_reducible rfl
            refine wpAnyH_take' (i := 17) (v := ?v17_265) (some 88) rfl rfl (by kernel_rfl) (by kernel_rfl) (by kernel_rfl) (fun _ _ _ h => h) (Or.inl ⟨by kernel_rfl, ?y17_265⟩) (hHeld) ?_
            case y17_265 =>
              intro w' hSw
              go_simp
              try with_reducible rfl
            refine wpAnyH_take' (i := 18) (v := ?v18_266) (some 89) rfl rfl (by kernel_rfl) (by kernel_rfl) (by kernel_rfl) (fun _ _ _ h => h) (Or.inl ⟨by kernel_rfl, ?y18_266⟩) (hHeld) ?_
            case y18_266 =>
              intro w' hSw
              have kh' := fun i => (hSw.cell (p := ⟨hb, i, none⟩) lh).trans (kh i); go_simp
              try with_reducible rfl
            refine wpAnyH_take' (i := 19) (v := ?v19_267) (some 90) rfl rfl (by kernel_rfl) (by kernel_rfl) (by kernel_rfl) (fun _ _ _ h => h) (Or.inl ⟨by kernel_rfl, ?y19_267⟩) (hHeld) ?_
            case y19_267 =>
              intro w' hSw
              go_simp
              try with_reducible rfl
            refine wpAnyH_take' (i := 20) (v := ?v20_268) (some 91) rfl rfl (by kernel_rfl) (by kernel_rfl) (by kernel_rfl) (fun _ _ _ h => h) (Or.inl ⟨by kernel_rfl, ?y20_268⟩) (hHeld) ?_
            case y20_268 =>
              intro w' hSw
              go_simp
              try with_reducible rfl
            refine wpAnyH_take' (i := 21) (v := ?v21_269) (some 92) rfl rfl (by kernel_rfl) (by kernel_rfl) (by kernel_rfl) (fun _ _ _ h => h) (Or.inl ⟨by kernel_rfl, ?y21_269⟩) (hHeld) ?_
            case y21_269 =>
              intro w' hSw
              have r0' := (hSw.cell (p := ⟨g, k * 2, none⟩) lg).trans b0; have r1' := (hSw.cell (p := ⟨g, k * 2 + 1, none⟩) lg).trans b1; go_simp
              try with_reducible rfl
            refine wpAnyH_ready (rs := [22]) (by kernel_rfl) (by simp) ?_
            refine AllReadyH.cons rfl (fun K hK => ?_) AllReadyH.nil
            rw [if_pos (by kernel_rfl)]
            go_simp
            go_at_call 38
            refine (order_calls xa xb _).mono ?_
            rintro e w1 ⟨rfl, hxb⟩
            refine hK.out _ _ (ext_trans hHeld hxb) (fun hS => ?_)
            refine wpAnyH_take' (i := 23) (v := ?v23_270) (some 94) rfl rfl (by kernel_rfl) (by kernel_rfl) (by kernel_rfl) (fun _ _ _ h => h) (Or.inl ⟨by kernel_rfl, ?y23_270⟩) (hS) ?_
            case y23_270 =>
              intro w' hSw
              go_simp
              try with_reducible rfl
            refine wpAnyH_take' (i := 24) (v := ?v24_271) (some 95) rfl rfl (by kernel_rfl) (by kernel_rfl) (by kernel_rfl) (fun _ _ _ h => h) (Or.inl ⟨by kernel_rfl, ?y24_271⟩) (hS) ?_
            case y24_271 =>
              intro w' hSw
              go_simp
              try with_reducible rfl
            refine wpAnyH_done (by kernel_rfl) ?_ _
            go_simp
            have hbh2 := at_ext hbh (by simp) hS
            have hor2 := own_ext hor hS
            have hmr2 := hmr.ext hS
            have hcr2 := hcr.trans (Chg.ofExt hS)
            clear hHeld
            go_wp2
            refine bodyPost_ret (results_none rfl _ _ _) rfl ?_
            exact ⟨rfl, hcr2, RightPost.mk hpm HDN.out hbh2 hor2 hmr2 HFT.out hkr⟩
          · have h4' : ¬ (ordI xa xb < 0) := fun h => h4 (by have := (ordI_neg _ _).1 h; rw [hxa, hxb] at this; exact this)
            have HDS := Lib.hid (down_step HPD.out (by have := HLN.out; omega) HLE.out HID.out h4)
            clear h4 hxa hxb
            refine wp_region_held_drew (S := fun w' => Ext W10 w') (by kernel_rfl) (ext_drew (ext_refl _)) (fun hHeld => ?_)
            refine wpAnyH_take' (i := 0) (v := ?v0_272) (some 71) rfl rfl (by kernel_rfl) (by kernel_rfl) (by kernel_rfl) (fun _ _ _ h => h) (Or.inl ⟨by kernel_rfl, ?y0_272⟩) (hHeld) ?_
            case y0_272 =>
              intro w' hSw
              go_simp
              try with_reducible rfl
            refine wpAnyH_take' (i := 1) (v := ?v1_273) (some 72) rfl rfl (by kernel_rfl) (by kernel_rfl) (by kernel_rfl) (fun _ _ _ h => h) (Or.inl ⟨by kernel_rfl, ?y1_273⟩) (hHeld) ?_
            case y1_273 =>
              intro w' hSw
              have kc' := fun i => (hSw.cell (p := ⟨w.heap.size, i, none⟩) lc).trans (kc i); go_simp
              try with_reducible rfl
            refine wpAnyH_take' (i := 2) (v := ?v2_274) (some 73) rfl rfl (by kernel_rfl) (by kernel_rfl) (by kernel_rfl) (fun _ _ _ h => h) (Or.inl ⟨by kernel_rfl, ?y2_274⟩) (hHeld) ?_
            case y2_274 =>
              intro w' hSw
              go_simp
              try with_reducible rfl
            refine wpAnyH_take' (i := 3) (v := ?v3_275) (some 74) rfl rfl (by kernel_rfl) (by kernel_rfl) (by kernel_rfl) (fun _ _ _ h => h) (Or.inl ⟨by kernel_rfl, ?y3_275⟩) (hHeld) ?_
            case y3_275 =>
              intro w' hSw
              go_simp
              try with_reducible rfl
            refine wpAnyH_take' (i := 4) (v := ?v4_276) (some 75) rfl rfl (by kernel_rfl) (by kernel_rfl) (by kernel_rfl) (fun _ _ _ h => h) (Or.inl ⟨by kernel_rfl, ?y4_276⟩) (hHeld) ?_
            case y4_276 =>
              intro w' hSw
              have kh' := fun i => (hSw.cell (p := ⟨hb, i, none⟩) lh).trans (kh i); go_simp
              try with_reducible rfl
            refine wpAnyH_take' (i := 5) (v := ?v5_277) (some 76) rfl rfl (by kernel_rfl) (by kernel_rfl) (by kernel_rfl) (fun _ _ _ h => h) (Or.inl ⟨by kernel_rfl, ?y5_277⟩) (hHeld) ?_
            case y5_277 =>
              intro w' hSw
              go_simp
              try with_reducible rfl
            refine wpAnyH_take' (i := 6) (v := ?v6_278) (some 77) rfl rfl (by kernel_rfl) (by kernel_rfl) (by kernel_rfl) (fun _ _ _ h => h) (Or.inl ⟨by kernel_rfl, ?y6_278⟩) (hHeld) ?_
            case y6_278 =>
              intro w' hSw
              go_simp
              try with_reducible rfl
            refine wpAnyH_take' (i := 7) (v := ?v7_279) (some 78) rfl rfl (by kernel_rfl) (by kernel_rfl) (by kernel_rfl) (fun _ _ _ h => h) (Or.inl ⟨by kernel_rfl, ?y7_279⟩) (hHeld) ?_
            case y7_279 =>
              intro w' hSw
              go_simp
              try with_reducible rfl
            refine wpAnyH_take' (i := 8) (v := ?v8_280) (some 79) rfl rfl (by kernel_rfl) (by kernel_rfl) (by kernel_rfl) (fun _ _ _ h => h) (Or.inl ⟨by kernel_rfl, ?y8_280⟩) (hHeld) ?_
            case y8_280 =>
              intro w' hSw
              have kc' := fun i => (hSw.cell (p := ⟨w.heap.size, i, none⟩) lc).trans (kc i); go_simp
              try with_reducible rfl
            refine wpAnyH_take' (i := 9) (v := ?v9_281) (some 80) rfl rfl (by kernel_rfl) (by kernel_rfl) (by kernel_rfl) (fun _ _ _ h => h) (Or.inl ⟨by kernel_rfl, ?y9_281⟩) (hHeld) ?_
            case y9_281 =>
              intro w' hSw
              go_simp
              try with_reducible rfl
            refine wpAnyH_take' (i := 10) (v := ?v10_282) (some 81) rfl rfl (by kernel_rfl) (by kernel_rfl) (by kernel_rfl) (fun _ _ _ h => h) (Or.inl ⟨by kernel_rfl, ?y10_282⟩) (hHeld) ?_
            case y10_282 =>
              intro w' hSw
              go_simp
              try with_reducible rfl
            refine wpAnyH_take' (i := 11) (v := ?v11_283) (some 82) rfl rfl (by kernel_rfl) (by kernel_rfl) (by kernel_rfl) (fun _ _ _ h => h) (Or.inl ⟨by kernel_rfl, ?y11_283⟩) (hHeld) ?_
            case y11_283 =>
              intro w' hSw
              have kh' := fun i => (hSw.cell (p := ⟨hb, i, none⟩) lh).trans (kh i); go_simp
              try with_reducible rfl
            refine wpAnyH_take' (i := 12) (v := ?v12_284) (some 83) rfl rfl (by kernel_rfl) (by kernel_rfl) (by kernel_rfl) (fun _ _ _ h => h) (Or.inl ⟨by kernel_rfl, ?y12_284⟩) (hHeld) ?_
            case y12_284 =>
              intro w' hSw
              go_simp
              try with_reducible rfl
            refine wpAnyH_take' (i := 13) (v := ?v13_285) (some 84) rfl rfl (by kernel_rfl) (by kernel_rfl) (by kernel_rfl) (fun _ _ _ h => h) (Or.inl ⟨by kernel_rfl, ?y13_285⟩) (hHeld) ?_
            case y13_285 =>
              intro w' hSw
              go_simp
              try with_reducible rfl
            refine wpAnyH_take' (i := 14) (v := ?v14_286) (some 85) rfl rfl (by kernel_rfl) (by kernel_rfl) (by kernel_rfl) (fun _ _ _ h => h) (Or.inl ⟨by kernel_rfl, ?y14_286⟩) (hHeld) ?_
            case y14_286 =>
              intro w' hSw
              have r0' := (hSw.cell (p := ⟨g, j * 2, none⟩) lg).trans a0; have r1' := (hSw.cell (p := ⟨g, j * 2 + 1, none⟩) lg).trans a1; go_simp
              try with_reducible rfl
            refine wpAnyH_take' (i := 15) (v := ?v15_287) (some 86) rfl rfl (by kernel_rfl) (by kernel_rfl) (by kernel_rfl) (fun _ _ _ h => h) (Or.inl ⟨by kernel_rfl, ?y15_287⟩) (hHeld) ?_
            case y15_287 =>
              intro w' hSw
              have kc' := fun i => (hSw.cell (p := ⟨w.heap.size, i, none⟩) lc).trans (kc i); go_simp
              try with_reducible rfl
            refine wpAnyH_take' (i := 16) (v := ?v16_288) (some 87) rfl rfl (by kernel_rfl) (by kernel_rfl) (by kernel_rfl) (fun _ _ _ h => h) (Or.inl ⟨by kernel_rfl, ?y16_288⟩) (hHeld) ?_
            case y16_288 =>
              intro w' hSw
              go_simp
              try with_reducible rfl
            refine wpAnyH_take' (i := 17) (v := ?v17_289) (some 88) rfl rfl (by kernel_rfl) (by kernel_rfl) (by kernel_rfl) (fun _ _ _ h => h) (Or.inl ⟨by kernel_rfl, ?y17_289⟩) (hHeld) ?_
            case y17_289 =>
              intro w' hSw
              go_simp
              try with_reducible rfl
            refine wpAnyH_take' (i := 18) (v := ?v18_290) (some 89) rfl rfl (by kernel_rfl) (by kernel_rfl) (by kernel_rfl) (fun _ _ _ h => h) (Or.inl ⟨by kernel_rfl, ?y18_290⟩) (hHeld) ?_
            case y18_290 =>
              intro w' hSw
              have kh' := fun i => (hSw.cell (p := ⟨hb, i, none⟩) lh).trans (kh i); go_simp
              try with_reducible rfl
            refine wpAnyH_take' (i := 19) (v := ?v19_291) (some 90) rfl rfl (by kernel_rfl) (by kernel_rfl) (by kernel_rfl) (fun _ _ _ h => h) (Or.inl ⟨by kernel_rfl, ?y19_291⟩) (hHeld) ?_
            case y19_291 =>
              intro w' hSw
              go_simp
              try with_reducible rfl
            refine wpAnyH_take' (i := 20) (v := ?v20_292) (some 91) rfl rfl (by kernel_rfl) (by kernel_rfl) (by kernel_rfl) (fun _ _ _ h => h) (Or.inl ⟨by kernel_rfl, ?y20_292⟩) (hHeld) ?_
            case y20_292 =>
              intro w' hSw
              go_simp
              try with_reducible rfl
            refine wpAnyH_take' (i := 21) (v := ?v21_293) (some 92) rfl rfl (by kernel_rfl) (by kernel_rfl) (by kernel_rfl) (fun _ _ _ h => h) (Or.inl ⟨by kernel_rfl, ?y21_293⟩) (hHeld) ?_
            case y21_293 =>
              intro w' hSw
              have r0' := (hSw.cell (p := ⟨g, k * 2, none⟩) lg).trans b0; have r1' := (hSw.cell (p := ⟨g, k * 2 + 1, none⟩) lg).trans b1; go_simp
              try with_reducible rfl
            refine wpAnyH_ready (rs := [22]) (by kernel_rfl) (by simp) ?_
            refine AllReadyH.cons rfl (fun K hK => ?_) AllReadyH.nil
            rw [if_pos (by kernel_rfl)]
            go_simp
            go_at_call 38
            refine (order_calls xa xb _).mono ?_
            rintro e w1 ⟨rfl, hxb⟩
            refine hK.out _ _ (ext_trans hHeld hxb) (fun hS => ?_)
            refine wpAnyH_take' (i := 23) (v := ?v23_294) (some 94) rfl rfl (by kernel_rfl) (by kernel_rfl) (by kernel_rfl) (fun _ _ _ h => h) (Or.inl ⟨by kernel_rfl, ?y23_294⟩) (hS) ?_
            case y23_294 =>
              intro w' hSw
              go_simp
              try with_reducible rfl
            refine wpAnyH_take' (i := 24) (v := ?v24_295) (some 95) rfl rfl (by kernel_rfl) (by kernel_rfl) (by kernel_rfl) (fun _ _ _ h => h) (Or.inl ⟨by kernel_rfl, ?y24_295⟩) (hS) ?_
            case y24_295 =>
              intro w' hSw
              go_simp
              try with_reducible rfl
            refine wpAnyH_done (by kernel_rfl) ?_ _
            go_simp
            have hbc2 := at_ext hbc (by simp) hS
            have hbh2 := at_ext hbh (by simp) hS
            have hor2 := own_ext hor hS
            have hmr2 := hmr.ext hS
            have hcr2 := hcr.trans (Chg.ofExt hS)
            have HLJ := Lib.hid (show j < l'.length by have := HLN.out; omega)
            have HLK := Lib.hid (show k < l'.length by have := HLN.out; omega)
            have HL5 := Lib.hid (show l'.length ≤ 100000 by have := HLN.out; omega)
            have HSW := Lib.hid (fun w' (y1 : At w' w.heap.size _) (y2 : At w' hb #[.slice (some ⟨g, 0, none⟩) l'.length cap, .map (some mb), .int .i64 most]) y3 y4 => swap_calls l' M' j k w.heap.size hb mb g cap most w' y1 y2 y3 y4 HFT.out HID.out HLJ.out HLK.out HL5.out hd1 hd2 hd3 hd4 hd5)
            rw [HLN.out] at HSW
            clear hHeld kc kh lc lh lg a0 a1 b0 b1
            go_wp2_with (go_at_call 46; refine (HSW.out _ hbc2 hbh2 hor2 hmr2).mono ?_; rintro e w5 ⟨rfl, hc5, hh5, ho5, hm5⟩)
            have hnb : ¬ (w.heap.size = g ∨ w.heap.size = mb) := by omega
            go_roundg (l.length - k)
            case measure => have := HLE.out.1; omega
            case rel => exact ⟨k, swp l' j k, _, rfl, by omega, hcr2.trans hc5, at_chg hbc2 (by simp) hc5 hnb, hh5, ho5, hm5, fits_swp HFT.out HID.out HLJ.out HLK.out, keys_put (keys_put hkr), (swp_perm HLJ.out HLK.out).trans hpm, HDS.out, kkl⟩
    · have hup := upI_par hj0
      have hpl := par_lt hj0
      have p0 : (0 : Int) ≤ ((par j : Nat) : Int) := by omega
      have p1 : ((par j : Nat) : Int) < (l.length : Int) := by omega
      have j0 : (0 : Int) ≤ (j : Int) := by omega
      have j1 : (j : Int) < (l.length : Int) := by omega
      have j2 : (0 : Int) < (j : Int) := by omega
      have kc := hbc.1
      have kh := hbh.1
      have lc := at_lt hbc (by simp)
      have lh := at_lt hbh (by simp)
      have lg := own_lt hor
      obtain ⟨a0, a1⟩ := row_cells HLN.out hor (show j < l'.length by have := HLN.out; omega)
      obtain ⟨b0, b1⟩ := row_cells HLN.out hor (show par j < l'.length by have := HLN.out; omega)
      obtain ⟨xa, hxa⟩ : ∃ x, x = at_ l' j := ⟨_, rfl⟩
      obtain ⟨xb, hxb⟩ : ∃ x, x = at_ l' (par j) := ⟨_, rfl⟩
      rw [← hxa] at a0 a1
      rw [← hxb] at b0 b1
      by_cases ha : Ahd (at_ l' j) (at_ l' (par j))
      · have ha' : ordI xa xb < 0 := (ordI_neg _ _).2 (by rw [hxa, hxb]; exact ha)
        have HUP := Lib.hid (up_step HPJ.out (by have := HLN.out; omega) hj0 ha).b
        have HU2 := Lib.hid (upI_lo (par j) (by omega))
        clear ha hxa hxb
        go_upto_region 3 with fail
        refine wp_region_held_drew (S := fun w' => Ext wr w') (by kernel_rfl) (ext_drew (ext_refl _)) (fun hHeld => ?_)
        refine wpAnyH_take' (i := 0) (v := ?v0_296) (some 11) rfl rfl (by kernel_rfl) (by kernel_rfl) (by kernel_rfl) (fun _ _ _ h => h) (Or.inl ⟨by kernel_rfl, ?y0_296⟩) (hHeld) ?_
        case y0_296 =>
          intro w' hSw
          go_simp
          try with_reducible rfl
        refine wpAnyH_take' (i := 1) (v := ?v1_297) (some 12) rfl rfl (by kernel_rfl) (by kernel_rfl) (by kernel_rfl) (fun _ _ _ h => h) (Or.inl ⟨by kernel_rfl, ?y1_297⟩) (hHeld) ?_
        case y1_297 =>
          intro w' hSw
          go_simp
          try with_reducible rfl
        refine wpAnyH_take' (i := 2) (v := ?v2_298) (some 13) rfl rfl (by kernel_rfl) (by kernel_rfl) (by kernel_rfl) (fun _ _ _ h => h) (Or.inl ⟨by kernel_rfl, ?y2_298⟩) (hHeld) ?_
        case y2_298 =>
          intro w' hSw
          go_simp
          try with_reducible rfl
        refine wpAnyH_take' (i := 3) (v := ?v3_299) (some 14) rfl rfl (by kernel_rfl) (by kernel_rfl) (by kernel_rfl) (fun _ _ _ h => h) (Or.inl ⟨by kernel_rfl, ?y3_299⟩) (hHeld) ?_
        case y3_299 =>
          intro w' hSw
          have kc' := fun i => (hSw.cell (p := ⟨w.heap.size, i, none⟩) lc).trans (kc i); go_simp
          try with_reducible rfl
        refine wpAnyH_take' (i := 4) (v := ?v4_300) (some 15) rfl rfl (by kernel_rfl) (by kernel_rfl) (by kernel_rfl) (fun _ _ _ h => h) (Or.inl ⟨by kernel_rfl, ?y4_300⟩) (hHeld) ?_
        case y4_300 =>
          intro w' hSw
          go_simp
          try with_reducible rfl
        refine wpAnyH_take' (i := 5) (v := ?v5_301) (some 16) rfl rfl (by kernel_rfl) (by kernel_rfl) (by kernel_rfl) (fun _ _ _ h => h) (Or.inl ⟨by kernel_rfl, ?y5_301⟩) (hHeld) ?_
        case y5_301 =>
          intro w' hSw
          go_simp
          try with_reducible rfl
        refine wpAnyH_take' (i := 6) (v := ?v6_302) (some 17) rfl rfl (by kernel_rfl) (by kernel_rfl) (by kernel_rfl) (fun _ _ _ h => h) (Or.inl ⟨by kernel_rfl, ?y6_302⟩) (hHeld) ?_
        case y6_302 =>
          intro w' hSw
          have kh' := fun i => (hSw.cell (p := ⟨hb, i, none⟩) lh).trans (kh i); go_simp
          try with_reducible rfl
        refine wpAnyH_take' (i := 7) (v := ?v7_303) (some 18) rfl rfl (by kernel_rfl) (by kernel_rfl) (by kernel_rfl) (fun _ _ _ h => h) (Or.inl ⟨by kernel_rfl, ?y7_303⟩) (hHeld) ?_
        case y7_303 =>
          intro w' hSw
          go_simp
          try with_reducible rfl
        refine wpAnyH_take' (i := 8) (v := ?v8_304) (some 19) rfl rfl (by kernel_rfl) (by kernel_rfl) (by kernel_rfl) (fun _ _ _ h => h) (Or.inl ⟨by kernel_rfl, ?y8_304⟩) (hHeld) ?_
        case y8_304 =>
          intro w' hSw
          go_simp
          try with_reducible rfl
        refine wpAnyH_take' (i := 9) (v := ?v9_305) (some 20) rfl rfl (by kernel_rfl) (by kernel_rfl) (by kernel_rfl) (fun _ _ _ h => h) (Or.inl ⟨by kernel_rfl, ?y9_305⟩) (hHeld) ?_
        case y9_305 =>
          intro w' hSw
          have r0' := (hSw.cell (p := ⟨g, j * 2, none⟩) lg).trans a0; have r1' := (hSw.cell (p := ⟨g, j * 2 + 1, none⟩) lg).trans a1; go_simp
          try with_reducible rfl
        refine wpAnyH_take' (i := 10) (v := ?v10_306) (some 21) rfl rfl (by kernel_rfl) (by kernel_rfl) (by kernel_rfl) (fun _ _ _ h => h) (Or.inl ⟨by kernel_rfl, ?y10_306⟩) (hHeld) ?_
        case y10_306 =>
          intro w' hSw
          have kc' := fun i => (hSw.cell (p := ⟨w.heap.size, i, none⟩) lc).trans (kc i); go_simp
          try with_reducible rfl
        refine wpAnyH_take' (i := 11) (v := ?v11_307) (some 22) rfl rfl (by kernel_rfl) (by kernel_rfl) (by kernel_rfl) (fun _ _ _ h => h) (Or.inl ⟨by kernel_rfl, ?y11_307⟩) (hHeld) ?_
        case y11_307 =>
          intro w' hSw
          go_simp
          try with_reducible rfl
        refine wpAnyH_take' (i := 12) (v := ?v12_308) (some 23) rfl rfl (by kernel_rfl) (by kernel_rfl) (by kernel_rfl) (fun _ _ _ h => h) (Or.inl ⟨by kernel_rfl, ?y12_308⟩) (hHeld) ?_
        case y12_308 =>
          intro w' hSw
          go_simp
          try with_reducible rfl
        refine wpAnyH_take' (i := 13) (v := ?v13_309) (some 24) rfl rfl (by kernel_rfl) (by kernel_rfl) (by kernel_rfl) (fun _ _ _ h => h) (Or.inl ⟨by kernel_rfl, ?y13_309⟩) (hHeld) ?_
        case y13_309 =>
          intro w' hSw
          have kh' := fun i => (hSw.cell (p := ⟨hb, i, none⟩) lh).trans (kh i); go_simp
          try with_reducible rfl
        refine wpAnyH_take' (i := 14) (v := ?v14_310) (some 25) rfl rfl (by kernel_rfl) (by kernel_rfl) (by kernel_rfl) (fun _ _ _ h => h) (Or.inl ⟨by kernel_rfl, ?y14_310⟩) (hHeld) ?_
        case y14_310 =>
          intro w' hSw
          go_simp
          try with_reducible rfl
        refine wpAnyH_take' (i := 15) (v := ?v15_311) (some 26) rfl rfl (by kernel_rfl) (by kernel_rfl) (by kernel_rfl) (fun _ _ _ h => h) (Or.inl ⟨by kernel_rfl, ?y15_311⟩) (hHeld) ?_
        case y15_311 =>
          intro w' hSw
          go_simp
          try with_reducible rfl
        refine wpAnyH_take' (i := 16) (v := ?v16_312) (some 27) rfl rfl (by kernel_rfl) (by kernel_rfl) (by kernel_rfl) (fun _ _ _ h => h) (Or.inl ⟨by kernel_rfl, ?y16_312⟩) (hHeld) ?_
        case y16_312 =>
          intro w' hSw
          have r0' := (hSw.cell (p := ⟨g, par j * 2, none⟩) lg).trans b0; have r1' := (hSw.cell (p := ⟨g, par j * 2 + 1, none⟩) lg).trans b1; go_simp
          try with_reducible rfl
        refine wpAnyH_ready (rs := [17]) (by kernel_rfl) (by simp) ?_
        refine AllReadyH.cons rfl (fun K hK => ?_) AllReadyH.nil
        rw [if_pos (by kernel_rfl)]
        go_simp
        go_at_call 38
        refine (order_calls xa xb _).mono ?_
        rintro e w1 ⟨rfl, hxb⟩
        refine hK.out _ _ (ext_trans hHeld hxb) (fun hS => ?_)
        refine wpAnyH_take' (i := 18) (v := ?v18_313) (some 29) rfl rfl (by kernel_rfl) (by kernel_rfl) (by kernel_rfl) (fun _ _ _ h => h) (Or.inl ⟨by kernel_rfl, ?y18_313⟩) (hS) ?_
        case y18_313 =>
          intro w' hSw
          go_simp
          try with_reducible rfl
        refine wpAnyH_take' (i := 19) (v := ?v19_314) (some 30) rfl rfl (by kernel_rfl) (by kernel_rfl) (by kernel_rfl) (fun _ _ _ h => h) (Or.inl ⟨by kernel_rfl, ?y19_314⟩) (hS) ?_
        case y19_314 =>
          intro w' hSw
          go_simp
          try with_reducible rfl
        refine wpAnyH_done (by kernel_rfl) ?_ _
        go_simp
        have hbc2 := at_ext hbc (by simp) hS
        have hbh2 := at_ext hbh (by simp) hS
        have hor2 := own_ext hor hS
        have hmr2 := hmr.ext hS
        have hcr2 := hcr.trans (Chg.ofExt hS)
        have HLJ := Lib.hid (show j < l'.length by have := HLN.out; omega)
        have HLK := Lib.hid (show par j < l'.length by have := HLN.out; omega)
        have HL5 := Lib.hid (show l'.length ≤ 100000 by have := HLN.out; omega)
        have HSW := Lib.hid (fun w' (y1 : At w' w.heap.size _) (y2 : At w' hb #[.slice (some ⟨g, 0, none⟩) l'.length cap, .map (some mb), .int .i64 most]) y3 y4 => swap_calls l' M' j (par j) w.heap.size hb mb g cap most w' y1 y2 y3 y4 HFT.out HID.out HLJ.out HLK.out HL5.out hd1 hd2 hd3 hd4 hd5)
        rw [HLN.out] at HSW
        clear hHeld kc kh lc lh lg a0 a1 b0 b1
        have hu2 := HU2.out
        go_wp2_with (go_at_call 46; refine (HSW.out _ hbc2 hbh2 hor2 hmr2).mono ?_; rintro e w5 ⟨rfl, hc5, hh5, ho5, hm5⟩)
        have hnb : ¬ (w.heap.size = g ∨ w.heap.size = mb) := by omega
        go_roundg (par j)
        case measure => omega
        case rel => exact ⟨par j, swp l' j (par j), _, rfl, rfl, rfl, hcr2.trans hc5, at_chg hbc2 (by simp) hc5 hnb, hh5, ho5, hm5, fits_swp HFT.out HID.out HLJ.out HLK.out, keys_put (keys_put hkr), (swp_perm HLJ.out HLK.out).trans hpm, HUP.out, by omega⟩
      · have ha' : ¬ (ordI xa xb < 0) := fun h => ha (by have := (ordI_neg _ _).1 h; rw [hxa, hxb] at this; exact this)
        have HPDx := Lib.hid (up_done HPJ.out (by have := HLN.out; omega) HID.out (.inr ha))
        clear ha hxa hxb
        go_upto_region 3 with fail
        refine wp_region_held_drew (S := fun w' => Ext wr w') (by kernel_rfl) (ext_drew (ext_refl _)) (fun hHeld => ?_)
        refine wpAnyH_take' (i := 0) (v := ?v0_315) (some 11) rfl rfl (by kernel_rfl) (by kernel_rfl) (by kernel_rfl) (fun _ _ _ h => h) (Or.inl ⟨by kernel_rfl, ?y0_315⟩) (hHeld) ?_
        case y0_315 =>
          intro w' hSw
          go_simp
          try with_reducible rfl
        refine wpAnyH_take' (i := 1) (v := ?v1_316) (some 12) rfl rfl (by kernel_rfl) (by kernel_rfl) (by kernel_rfl) (fun _ _ _ h => h) (Or.inl ⟨by kernel_rfl, ?y1_316⟩) (hHeld) ?_
        case y1_316 =>
          intro w' hSw
          go_simp
          try with_reducible rfl
        refine wpAnyH_take' (i := 2) (v := ?v2_317) (some 13) rfl rfl (by kernel_rfl) (by kernel_rfl) (by kernel_rfl) (fun _ _ _ h => h) (Or.inl ⟨by kernel_rfl, ?y2_317⟩) (hHeld) ?_
        case y2_317 =>
          intro w' hSw
          go_simp
          try with_reducible rfl
        refine wpAnyH_take' (i := 3) (v := ?v3_318) (some 14) rfl rfl (by kernel_rfl) (by kernel_rfl) (by kernel_rfl) (fun _ _ _ h => h) (Or.inl ⟨by kernel_rfl, ?y3_318⟩) (hHeld) ?_
        case y3_318 =>
          intro w' hSw
          have kc' := fun i => (hSw.cell (p := ⟨w.heap.size, i, none⟩) lc).trans (kc i); go_simp
          try with_reducible rfl
        refine wpAnyH_take' (i := 4) (v := ?v4_319) (some 15) rfl rfl (by kernel_rfl) (by kernel_rfl) (by kernel_rfl) (fun _ _ _ h => h) (Or.inl ⟨by kernel_rfl, ?y4_319⟩) (hHeld) ?_
        case y4_319 =>
          intro w' hSw
          go_simp
          try with_reducible rfl
        refine wpAnyH_take' (i := 5) (v := ?v5_320) (some 16) rfl rfl (by kernel_rfl) (by kernel_rfl) (by kernel_rfl) (fun _ _ _ h => h) (Or.inl ⟨by kernel_rfl, ?y5_320⟩) (hHeld) ?_
        case y5_320 =>
          intro w' hSw
          go_simp
          try with_reducible rfl
        refine wpAnyH_take' (i := 6) (v := ?v6_321) (some 17) rfl rfl (by kernel_rfl) (by kernel_rfl) (by kernel_rfl) (fun _ _ _ h => h) (Or.inl ⟨by kernel_rfl, ?y6_321⟩) (hHeld) ?_
        case y6_321 =>
          intro w' hSw
          have kh' := fun i => (hSw.cell (p := ⟨hb, i, none⟩) lh).trans (kh i); go_simp
          try with_reducible rfl
        refine wpAnyH_take' (i := 7) (v := ?v7_322) (some 18) rfl rfl (by kernel_rfl) (by kernel_rfl) (by kernel_rfl) (fun _ _ _ h => h) (Or.inl ⟨by kernel_rfl, ?y7_322⟩) (hHeld) ?_
        case y7_322 =>
          intro w' hSw
          go_simp
          try with_reducible rfl
        refine wpAnyH_take' (i := 8) (v := ?v8_323) (some 19) rfl rfl (by kernel_rfl) (by kernel_rfl) (by kernel_rfl) (fun _ _ _ h => h) (Or.inl ⟨by kernel_rfl, ?y8_323⟩) (hHeld) ?_
        case y8_323 =>
          intro w' hSw
          go_simp
          try with_reducible rfl
        refine wpAnyH_take' (i := 9) (v := ?v9_324) (some 20) rfl rfl (by kernel_rfl) (by kernel_rfl) (by kernel_rfl) (fun _ _ _ h => h) (Or.inl ⟨by kernel_rfl, ?y9_324⟩) (hHeld) ?_
        case y9_324 =>
          intro w' hSw
          have r0' := (hSw.cell (p := ⟨g, j * 2, none⟩) lg).trans a0; have r1' := (hSw.cell (p := ⟨g, j * 2 + 1, none⟩) lg).trans a1; go_simp
          try with_reducible rfl
        refine wpAnyH_take' (i := 10) (v := ?v10_325) (some 21) rfl rfl (by kernel_rfl) (by kernel_rfl) (by kernel_rfl) (fun _ _ _ h => h) (Or.inl ⟨by kernel_rfl, ?y10_325⟩) (hHeld) ?_
        case y10_325 =>
          intro w' hSw
          have kc' := fun i => (hSw.cell (p := ⟨w.heap.size, i, none⟩) lc).trans (kc i); go_simp
          try with_reducible rfl
        refine wpAnyH_take' (i := 11) (v := ?v11_326) (some 22) rfl rfl (by kernel_rfl) (by kernel_rfl) (by kernel_rfl) (fun _ _ _ h => h) (Or.inl ⟨by kernel_rfl, ?y11_326⟩) (hHeld) ?_
        case y11_326 =>
          intro w' hSw
          go_simp
          try with_reducible rfl
        refine wpAnyH_take' (i := 12) (v := ?v12_327) (some 23) rfl rfl (by kernel_rfl) (by kernel_rfl) (by kernel_rfl) (fun _ _ _ h => h) (Or.inl ⟨by kernel_rfl, ?y12_327⟩) (hHeld) ?_
        case y12_327 =>
          intro w' hSw
          go_simp
          try with_reducible rfl
        refine wpAnyH_take' (i := 13) (v := ?v13_328) (some 24) rfl rfl (by kernel_rfl) (by kernel_rfl) (by kernel_rfl) (fun _ _ _ h => h) (Or.inl ⟨by kernel_rfl, ?y13_328⟩) (hHeld) ?_
        case y13_328 =>
          intro w' hSw
          have kh' := fun i => (hSw.cell (p := ⟨hb, i, none⟩) lh).trans (kh i); go_simp
          try with_reducible rfl
        refine wpAnyH_take' (i := 14) (v := ?v14_329) (some 25) rfl rfl (by kernel_rfl) (by kernel_rfl) (by kernel_rfl) (fun _ _ _ h => h) (Or.inl ⟨by kernel_rfl, ?y14_329⟩) (hHeld) ?_
        case y14_329 =>
          intro w' hSw
          go_simp
          try with_reducible rfl
        refine wpAnyH_take' (i := 15) (v := ?v15_330) (some 26) rfl rfl (by kernel_rfl) (by kernel_rfl) (by kernel_rfl) (fun _ _ _ h => h) (Or.inl ⟨by kernel_rfl, ?y15_330⟩) (hHeld) ?_
        case y15_330 =>
          intro w' hSw
          go_simp
          try with_reducible rfl
        refine wpAnyH_take' (i := 16) (v := ?v16_331) (some 27) rfl rfl (by kernel_rfl) (by kernel_rfl) (by kernel_rfl) (fun _ _ _ h => h) (Or.inl ⟨by kernel_rfl, ?y16_331⟩) (hHeld) ?_
        case y16_331 =>
          intro w' hSw
          have r0' := (hSw.cell (p := ⟨g, par j * 2, none⟩) lg).trans b0; have r1' := (hSw.cell (p := ⟨g, par j * 2 + 1, none⟩) lg).trans b1; go_simp
          try with_reducible rfl
        refine wpAnyH_ready (rs := [17]) (by kernel_rfl) (by simp) ?_
        refine AllReadyH.cons rfl (fun K hK => ?_) AllReadyH.nil
        rw [if_pos (by kernel_rfl)]
        go_simp
        go_at_call 38
        refine (order_calls xa xb _).mono ?_
        rintro e w1 ⟨rfl, hxb⟩
        refine hK.out _ _ (ext_trans hHeld hxb) (fun hS => ?_)
        refine wpAnyH_take' (i := 18) (v := ?v18_332) (some 29) rfl rfl (by kernel_rfl) (by kernel_rfl) (by kernel_rfl) (fun _ _ _ h => h) (Or.inl ⟨by kernel_rfl, ?y18_332⟩) (hS) ?_
        case y18_332 =>
          intro w' hSw
          go_simp
          try with_reducible rfl
        refine wpAnyH_take' (i := 19) (v := ?v19_333) (some 30) rfl rfl (by kernel_rfl) (by kernel_rfl) (by kernel_rfl) (fun _ _ _ h => h) (Or.inl ⟨by kernel_rfl, ?y19_333⟩) (hS) ?_
        case y19_333 =>
          intro w' hSw
          go_simp
          try with_reducible rfl
        refine wpAnyH_done (by kernel_rfl) ?_ _
        go_simp
        clear hHeld kc kh lc lh lg a0 a1 b0 b1 HPJ
        go_upto_region 7 with fail
        refine wp_at ?_
        intro W7 hW
        have x7 : Ext wr W7 := by rw [hW]; repeat (first | exact ext_refl _ | assumption | refine ext_more' ?_ _ _ | refine ext_drew ?_ | refine ext_drewN ?_ _ | refine ext_alloc ?_ _)
        clear hW
        have hbc := at_ext hbc (by simp) x7
        have hbh := at_ext hbh (by simp) x7
        have hor := own_ext hor x7
        have hmr := hmr.ext x7
        have hcr := hcr.trans (Chg.ofExt x7)
        have h7 := HPDx
        clear x7
        go_loopg [1] (l.length - j) (fun gk k1 wr => ∃ (j : Nat) (l' : List Tmr) (M' : List (Int × Value)), k1 = .int .i64 j ∧ gk + j = l.length ∧ Chg (fun q => q = g ∨ q = mb) w wr ∧ At wr w.heap.size #[.pointer (some ⟨hb, 0, none⟩)] ∧ At wr hb #[.slice (some ⟨g, 0, none⟩) l.length cap, .map (some mb), .int .i64 most] ∧ wr.ownsRow 0 29 2 (.slice (some ⟨g, 0, none⟩) l.length cap) l.length (l'.flatMap tmrC) ∧ MpS wr mb .i64 M' ∧ Fits l' M' ∧ Keys M' ∧ l'.Perm l ∧ HpD l' j ∧ j < l.length)
        case atStart => exact ⟨j, l', M', rfl, by omega, hcr, hbc, hbh, hor, hmr, HFT.out, hkr, hpm, h7.out, hjl⟩
        case round =>
          clear hcr hbc hbh hor hmr hkr hpm hjl h7 HFT HID HLN HPDx
          obtain ⟨j, l', M', rfl, hgj, hcr, hbc, hbh, hor, hmr, hft, hkr, hpm, hpd, hjl⟩ := hrel
          have HLN := Lib.hid hpm.length_eq
          have HID := Lib.hid (HIDS.out.perm hpm.symm)
          have HFT := Lib.hid hft
          have HPD := Lib.hid hpd
          clear hft hpd
          obtain ⟨k, hk⟩ : ∃ k, k = 2 * j + 1 := ⟨_, rfl⟩
          obtain ⟨k2, hk2⟩ : ∃ k2, k2 = k + 1 := ⟨_, rfl⟩
          have hk0 : (2 : Int) * (j : Int) + 1 = (k : Int) := by omega
          have hk1 : (k : Int) + 1 = (k2 : Int) := by omega
          have HK := Lib.hid hk; have HK2 := Lib.hid hk2
          have hwk2 : IntKind.i64.wrap (k2 : Int) = (k2 : Int) := IntWalk.i64_in _ (by omega)
          have j0 : (0 : Int) ≤ (j : Int) := by omega
          have j1 : (j : Int) < (l.length : Int) := by omega
          clear hk hk2
          by_cases h1 : k < l.length
          rotate_left
          · have n1 : ¬ ((k2 : Int) < (l.length : Int)) := by have := HK2.out; omega
            have n2 : (k : Int) ≥ (l.length : Int) := by omega
            have n2' : (l.length : Int) ≤ (k : Int) := by omega
            have HDL := Lib.hid (down_leaf HPD.out (by have := HK.out; have := HLN.out; omega))
            clear h1
            have kc := hbc.1
            have kh := hbh.1
            have lc := at_lt hbc (by simp)
            have lh := at_lt hbh (by simp)
            go_upto_region 8 with fail
            refine wp_region_held_drew (S := fun w' => Ext wr w') (by kernel_rfl) (ext_drew (ext_refl _)) (fun hHeld => ?_)
            refine wpAnyH_take' (i := 0) (v := ?v0_334) (some 42) rfl rfl (by kernel_rfl) (by kernel_rfl) (by kernel_rfl) (fun _ _ _ h => h) (Or.inl ⟨by kernel_rfl, ?y0_334⟩) (hHeld) ?_
            case y0_334 =>
              intro w' hSw
              go_simp
              try with_reducible rfl
            refine wpAnyH_take' (i := 1) (v := ?v1_335) (some 43) rfl rfl (by kernel_rfl) (by kernel_rfl) (by kernel_rfl) (fun _ _ _ h => h) (Or.inl ⟨by kernel_rfl, ?y1_335⟩) (hHeld) ?_
            case y1_335 =>
              intro w' hSw
              go_simp
              try with_reducible rfl
            refine wpAnyH_take' (i := 2) (v := ?v2_336) (some 44) rfl rfl (by kernel_rfl) (by kernel_rfl) (by kernel_rfl) (fun _ _ _ h => h) (Or.inl ⟨by kernel_rfl, ?y2_336⟩) (hHeld) ?_
            case y2_336 =>
              intro w' hSw
              have kc' := fun i => (hSw.cell (p := ⟨w.heap.size, i, none⟩) lc).trans (kc i); go_simp
              try with_reducible rfl
            refine wpAnyH_take' (i := 3) (v := ?v3_337) (some 45) rfl rfl (by kernel_rfl) (by kernel_rfl) (by kernel_rfl) (fun _ _ _ h => h) (Or.inl ⟨by kernel_rfl, ?y3_337⟩) (hHeld) ?_
            case y3_337 =>
              intro w' hSw
              go_simp
              try with_reducible rfl
            refine wpAnyH_take' (i := 4) (v := ?v4_338) (some 46) rfl rfl (by kernel_rfl) (by kernel_rfl) (by kernel_rfl) (fun _ _ _ h => h) (Or.inl ⟨by kernel_rfl, ?y4_338⟩) (hHeld) ?_
            case y4_338 =>
              intro w' hSw
              go_simp
              try with_reducible rfl
            refine wpAnyH_take' (i := 5) (v := ?v5_339) (some 47) rfl rfl (by kernel_rfl) (by kernel_rfl) (by kernel_rfl) (fun _ _ _ h => h) (Or.inl ⟨by kernel_rfl, ?y5_339⟩) (hHeld) ?_
            case y5_339 =>
              intro w' hSw
              have kh' := fun i => (hSw.cell (p := ⟨hb, i, none⟩) lh).trans (kh i); go_simp
              try with_reducible rfl
            refine wpAnyH_take' (i := 6) (v := ?v6_340) (some 48) rfl rfl (by kernel_rfl) (by kernel_rfl) (by kernel_rfl) (fun _ _ _ h => h) (Or.inl ⟨by kernel_rfl, ?y6_340⟩) (hHeld) ?_
            case y6_340 =>
              intro w' hSw
              go_simp
              try with_reducible rfl
            refine wpAnyH_take' (i := 7) (v := ?v7_341) (some 49) rfl rfl (by kernel_rfl) (by kernel_rfl) (by kernel_rfl) (fun _ _ _ h => h) (Or.inl ⟨by kernel_rfl, ?y7_341⟩) (hHeld) ?_
            case y7_341 =>
              intro w' hSw
              go_simp
              try with_reducible rfl
            refine wpAnyH_take' (i := 8) (v := ?v8_342) (some 50) rfl rfl (by kernel_rfl) (by kernel_rfl) (by kernel_rfl) (fun _ _ _ h => h) (Or.inl ⟨by kernel_rfl, ?y8_342⟩) (hHeld) ?_
            case y8_342 =>
              intro w' hSw
              go_simp
              try with_reducible rfl
            refine wpAnyH_take' (i := 9) (v := undef) (some 51) rfl rfl (by kernel_rfl) (by kernel_rfl) (by kernel_rfl) (fun _ _ _ h => h) (Or.inr ⟨by kernel_rfl, rfl⟩) (hHeld) ?_
            refine wpAnyH_take' (i := 10) (v := undef) (some 52) rfl rfl (by kernel_rfl) (by kernel_rfl) (by kernel_rfl) (fun _ _ _ h => h) (Or.inr ⟨by kernel_rfl, rfl⟩) (hHeld) ?_
            refine wpAnyH_take' (i := 11) (v := undef) (some 53) rfl rfl (by kernel_rfl) (by kernel_rfl) (by kernel_rfl) (fun _ _ _ h => h) (Or.inr ⟨by kernel_rfl, rfl⟩) (hHeld) ?_
            refine wpAnyH_take' (i := 12) (v := undef) (some 54) rfl rfl (by kernel_rfl) (by kernel_rfl) (by kernel_rfl) (fun _ _ _ h => h) (Or.inr ⟨by kernel_rfl, rfl⟩) (hHeld) ?_
            refine wpAnyH_take' (i := 13) (v := undef) (some 55) rfl rfl (by kernel_rfl) (by kernel_rfl) (by kernel_rfl) (fun _ _ _ h => h) (Or.inr ⟨by kernel_rfl, rfl⟩) (hHeld) ?_
            refine wpAnyH_take' (i := 14) (v := undef) (some 56) rfl rfl (by kernel_rfl) (by kernel_rfl) (by kernel_rfl) (fun _ _ _ h => h) (Or.inr ⟨by kernel_rfl, rfl⟩) (hHeld) ?_
            refine wpAnyH_take' (i := 15) (v := undef) (some 57) rfl rfl (by kernel_rfl) (by kernel_rfl) (by kernel_rfl) (fun _ _ _ h => h) (Or.inr ⟨by kernel_rfl, rfl⟩) (hHeld) ?_
            refine wpAnyH_take' (i := 16) (v := undef) (some 58) rfl rfl (by kernel_rfl) (by kernel_rfl) (by kernel_rfl) (fun _ _ _ h => h) (Or.inr ⟨by kernel_rfl, rfl⟩) (hHeld) ?_
            refine wpAnyH_take' (i := 17) (v := undef) (some 59) rfl rfl (by kernel_rfl) (by kernel_rfl) (by kernel_rfl) (fun _ _ _ h => h) (Or.inr ⟨by kernel_rfl, rfl⟩) (hHeld) ?_
            refine wpAnyH_take' (i := 18) (v := undef) (some 60) rfl rfl (by kernel_rfl) (by kernel_rfl) (by kernel_rfl) (fun _ _ _ h => h) (Or.inr ⟨by kernel_rfl, rfl⟩) (hHeld) ?_
            refine wpAnyH_take' (i := 19) (v := undef) (some 61) rfl rfl (by kernel_rfl) (by kernel_rfl) (by kernel_rfl) (fun _ _ _ h => h) (Or.inr ⟨by kernel_rfl, rfl⟩) (hHeld) ?_
            refine wpAnyH_take' (i := 20) (v := undef) (some 62) rfl rfl (by kernel_rfl) (by kernel_rfl) (by kernel_rfl) (fun _ _ _ h => h) (Or.inr ⟨by kernel_rfl, rfl⟩) (hHeld) ?_
            refine wpAnyH_take' (i := 21) (v := undef) (some 63) rfl rfl (by kernel_rfl) (by kernel_rfl) (by kernel_rfl) (fun _ _ _ h => h) (Or.inr ⟨by kernel_rfl, rfl⟩) (hHeld) ?_
            refine wpAnyH_take' (i := 22) (v := undef) (some 64) rfl rfl (by kernel_rfl) (by kernel_rfl) (by kernel_rfl) (fun _ _ _ h => h) (Or.inr ⟨by kernel_rfl, rfl⟩) (hHeld) ?_
            refine wpAnyH_take' (i := 23) (v := undef) (some 65) rfl rfl (by kernel_rfl) (by kernel_rfl) (by kernel_rfl) (fun _ _ _ h => h) (Or.inr ⟨by kernel_rfl, rfl⟩) (hHeld) ?_
            refine wpAnyH_take' (i := 24) (v := undef) (some 66) rfl rfl (by kernel_rfl) (by kernel_rfl) (by kernel_rfl) (fun _ _ _ h => h) (Or.inr ⟨by kernel_rfl, rfl⟩) (hHeld) ?_
            refine wpAnyH_take' (i := 25) (v := undef) (some 67) rfl rfl (by kernel_rfl) (by kernel_rfl) (by kernel_rfl) (fun _ _ _ h => h) (Or.inr ⟨by kernel_rfl, rfl⟩) (hHeld) ?_
            refine wpAnyH_take' (i := 26) (v := ?v26_360) (some 68) rfl rfl (by kernel_rfl) (by kernel_rfl) (by kernel_rfl) (fun _ _ _ h => h) (Or.inl ⟨by kernel_rfl, ?y26_360⟩) (hHeld) ?_
            case y26_360 =>
              intro w' hSw
              go_simp
              try with_reducible rfl
            refine wpAnyH_done (by kernel_rfl) ?_ _
            go_simp
            go_upto_region 10 with fail
            refine wp_at ?_
            intro W10 hW
            have x10 : Ext wr W10 := by rw [hW]; repeat (first | exact ext_refl _ | assumption | refine ext_more' ?_ _ _ | refine ext_drew ?_ | refine ext_drewN ?_ _ | refine ext_alloc ?_ _)
            clear hW hHeld
            have hbc := at_ext hbc (by simp) x10
            have hbh := at_ext hbh (by simp) x10
            have hor := own_ext hor x10
            have hmr := hmr.ext x10
            have hcr := hcr.trans (Chg.ofExt x10)
            have kc := hbc.1
            have kh := hbh.1
            have lc := at_lt hbc (by simp)
            have lh := at_lt hbh (by simp)
            refine wp_region_held_drew (S := fun w' => Ext W10 w') (by kernel_rfl) (ext_drew (ext_refl _)) (fun hHeld => ?_)
            refine wpAnyH_take' (i := 0) (v := ?v0_361) (some 71) rfl rfl (by kernel_rfl) (by kernel_rfl) (by kernel_rfl) (fun _ _ _ h => h) (Or.inl ⟨by kernel_rfl, ?y0_361⟩) (hHeld) ?_
            case y0_361 =>
              intro w' hSw
              go_simp
              try with_reducible rfl
            refine wpAnyH_take' (i := 1) (v := ?v1_362) (some 72) rfl rfl (by kernel_rfl) (by kernel_rfl) (by kernel_rfl) (fun _ _ _ h => h) (Or.inl ⟨by kernel_rfl, ?y1_362⟩) (hHeld) ?_
            case y1_362 =>
              intro w' hSw
              have kc' := fun i => (hSw.cell (p := ⟨w.heap.size, i, none⟩) lc).trans (kc i); go_simp
              try with_reducible rfl
            refine wpAnyH_take' (i := 2) (v := ?v2_363) (some 73) rfl rfl (by kernel_rfl) (by kernel_rfl) (by kernel_rfl) (fun _ _ _ h => h) (Or.inl ⟨by kernel_rfl, ?y2_363⟩) (hHeld) ?_
            case y2_363 =>
              intro w' hSw
              go_simp
              try with_reducible rfl
            refine wpAnyH_take' (i := 3) (v := ?v3_364) (some 74) rfl rfl (by kernel_rfl) (by kernel_rfl) (by kernel_rfl) (fun _ _ _ h => h) (Or.inl ⟨by kernel_rfl, ?y3_364⟩) (hHeld) ?_
            case y3_364 =>
              intro w' hSw
              go_simp
              try with_reducible rfl
            refine wpAnyH_take' (i := 4) (v := ?v4_365) (some 75) rfl rfl (by kernel_rfl) (by kernel_rfl) (by kernel_rfl) (fun _ _ _ h => h) (Or.inl ⟨by kernel_rfl, ?y4_365⟩) (hHeld) ?_
            case y4_365 =>
              intro w' hSw
              have kh' := fun i => (hSw.cell (p := ⟨hb, i, none⟩) lh).trans (kh i); go_simp
              try with_reducible rfl
            refine wpAnyH_take' (i := 5) (v := ?v5_366) (some 76) rfl rfl (by kernel_rfl) (by kernel_rfl) (by kernel_rfl) (fun _ _ _ h => h) (Or.inl ⟨by kernel_rfl, ?y5_366⟩) (hHeld) ?_
            case y5_366 =>
              intro w' hSw
              go_simp
              try with_reducible rfl
            refine wpAnyH_take' (i := 6) (v := ?v6_367) (some 77) rfl rfl (by kernel_rfl) (by kernel_rfl) (by kernel_rfl) (fun _ _ _ h => h) (Or.inl ⟨by kernel_rfl, ?y6_367⟩) (hHeld) ?_
            case y6_367 =>
              intro w' hSw
              go_simp
              try with_reducible rfl
            refine wpAnyH_take' (i := 7) (v := ?v7_368) (some 78) rfl rfl (by kernel_rfl) (by kernel_rfl) (by kernel_rfl) (fun _ _ _ h => h) (Or.inl ⟨by kernel_rfl, ?y7_368⟩) (hHeld) ?_
            case y7_368 =>
              intro w' hSw
              go_simp
              try with_reducible rfl
            refine wpAnyH_take' (i := 8) (v := undef) (some 79) rfl rfl (by kernel_rfl) (by kernel_rfl) (by kernel_rfl) (fun _ _ _ h => h) (Or.inr ⟨by kernel_rfl, rfl⟩) (hHeld) ?_
            refine wpAnyH_take' (i := 9) (v := undef) (some 80) rfl rfl (by kernel_rfl) (by kernel_rfl) (by kernel_rfl) (fun _ _ _ h => h) (Or.inr ⟨by kernel_rfl, rfl⟩) (hHeld) ?_
            refine wpAnyH_take' (i := 10) (v := undef) (some 81) rfl rfl (by kernel_rfl) (by kernel_rfl) (by kernel_rfl) (fun _ _ _ h => h) (Or.inr ⟨by kernel_rfl, rfl⟩) (hHeld) ?_
            refine wpAnyH_take' (i := 11) (v := undef) (some 82) rfl rfl (by kernel_rfl) (by kernel_rfl) (by kernel_rfl) (fun _ _ _ h => h) (Or.inr ⟨by kernel_rfl, rfl⟩) (hHeld) ?_
            refine wpAnyH_take' (i := 12) (v := undef) (some 83) rfl rfl (by kernel_rfl) (by kernel_rfl) (by kernel_rfl) (fun _ _ _ h => h) (Or.inr ⟨by kernel_rfl, rfl⟩) (hHeld) ?_
            refine wpAnyH_take' (i := 13) (v := undef) (some 84) rfl rfl (by kernel_rfl) (by kernel_rfl) (by kernel_rfl) (fun _ _ _ h => h) (Or.inr ⟨by kernel_rfl, rfl⟩) (hHeld) ?_
            refine wpAnyH_take' (i := 14) (v := undef) (some 85) rfl rfl (by kernel_rfl) (by kernel_rfl) (by kernel_rfl) (fun _ _ _ h => h) (Or.inr ⟨by kernel_rfl, rfl⟩) (hHeld) ?_
            refine wpAnyH_take' (i := 15) (v := undef) (some 86) rfl rfl (by kernel_rfl) (by kernel_rfl) (by kernel_rfl) (fun _ _ _ h => h) (Or.inr ⟨by kernel_rfl, rfl⟩) (hHeld) ?_
            refine wpAnyH_take' (i := 16) (v := undef) (some 87) rfl rfl (by kernel_rfl) (by kernel_rfl) (by kernel_rfl) (fun _ _ _ h => h) (Or.inr ⟨by kernel_rfl, rfl⟩) (hHeld) ?_
            refine wpAnyH_take' (i := 17) (v := undef) (some 88) rfl rfl (by kernel_rfl) (by kernel_rfl) (by kernel_rfl) (fun _ _ _ h => h) (Or.inr ⟨by kernel_rfl, rfl⟩) (hHeld) ?_
            refine wpAnyH_take' (i := 18) (v := undef) (some 89) rfl rfl (by kernel_rfl) (by kernel_rfl) (by kernel_rfl) (fun _ _ _ h => h) (Or.inr ⟨by kernel_rfl, rfl⟩) (hHeld) ?_
            refine wpAnyH_take' (i := 19) (v := undef) (some 90) rfl rfl (by kernel_rfl) (by kernel_rfl) (by kernel_rfl) (fun _ _ _ h => h) (Or.inr ⟨by kernel_rfl, rfl⟩) (hHeld) ?_
            refine wpAnyH_take' (i := 20) (v := undef) (some 91) rfl rfl (by kernel_rfl) (by kernel_rfl) (by kernel_rfl) (fun _ _ _ h => h) (Or.inr ⟨by kernel_rfl, rfl⟩) (hHeld) ?_
            refine wpAnyH_take' (i := 21) (v := undef) (some 92) rfl rfl (by kernel_rfl) (by kernel_rfl) (by kernel_rfl) (fun _ _ _ h => h) (Or.inr ⟨by kernel_rfl, rfl⟩) (hHeld) ?_
            refine wpAnyH_take' (i := 22) (v := undef) (some 93) rfl rfl (by kernel_rfl) (by kernel_rfl) (by kernel_rfl) (fun _ _ _ h => h) (Or.inr ⟨by kernel_rfl, rfl⟩) (hHeld) ?_
            refine wpAnyH_take' (i := 23) (v := undef) (some 94) rfl rfl (by kernel_rfl) (by kernel_rfl) (by kernel_rfl) (fun _ _ _ h => h) (Or.inr ⟨by kernel_rfl, rfl⟩) (hHeld) ?_
            refine wpAnyH_take' (i := 24) (v := ?v24_385) (some 95) rfl rfl (by kernel_rfl) (by kernel_rfl) (by kernel_rfl) (fun _ _ _ h => h) (Or.inl ⟨by kernel_rfl, ?y24_385⟩) (hHeld) ?_
            case y24_385 =>
              intro w' hSw
              go_simp
              try with_reducible rfl
            refine wpAnyH_done (by kernel_rfl) ?_ _
            go_simp
            go_wp2
            have hd := ext_drew (ext_refl W10)
            refine bodyPost_ret (results_none rfl _ _ _) rfl ?_
            exact ⟨rfl, hcr.trans (Chg.ofExt hd), RightPost.mk hpm HDL.out (at_ext hbh (by simp) hd) (own_ext hor hd) (hmr.ext hd) HFT.out hkr⟩
          have kc := hbc.1
          have kh := hbh.1
          have lc := at_lt hbc (by simp)
          have lh := at_lt hbh (by simp)
          have lg := own_lt hor
          have i1 : (k : Int) < (l.length : Int) := by omega
          have i0 : (0 : Int) ≤ (k : Int) := by omega
          have i9 : ¬ ((k : Int) ≥ (l.length : Int)) := by omega
          have i9' : ¬ ((l.length : Int) ≤ (k : Int)) := by omega
          by_cases h2 : k2 < l.length
          · have n1 : (k2 : Int) < (l.length : Int) := by omega
            have n0 : (0 : Int) ≤ (k2 : Int) := by omega
            have n9 : ¬ ((k2 : Int) ≥ (l.length : Int)) := by omega
            have n9' : ¬ ((l.length : Int) ≤ (k2 : Int)) := by omega
            obtain ⟨a0, a1⟩ := row_cells HLN.out hor (show k2 < l'.length by have := HLN.out; omega)
            obtain ⟨b0, b1⟩ := row_cells HLN.out hor (show k < l'.length by have := HLN.out; omega)
            obtain ⟨xa, hxa⟩ : ∃ x, x = at_ l' k2 := ⟨_, rfl⟩
            obtain ⟨xb, hxb⟩ : ∃ x, x = at_ l' k := ⟨_, rfl⟩
            rw [← hxa] at a0 a1
            rw [← hxb] at b0 b1
            by_cases h3 : Ahd (at_ l' k2) (at_ l' k)
            · have h3' : ordI xa xb < 0 := (ordI_neg _ _).2 (by rw [hxa, hxb]; exact h3)
              have HLEX := Lib.hid (show Least l' j k2 from least2 HK.out HK2.out (by have := HLN.out; omega) h3)
              clear h3 hxa hxb
              go_upto_region 8 with fail
              refine wp_region_held_drew (S := fun w' => Ext wr w') (by kernel_rfl) (ext_drew (ext_refl _)) (fun hHeld => ?_)
              refine wpAnyH_take' (i := 0) (v := ?v0_386) (some 42) rfl rfl (by kernel_rfl) (by kernel_rfl) (by kernel_rfl) (fun _ _ _ h => h) (Or.inl ⟨by kernel_rfl, ?y0_386⟩) (hHeld) ?_
              case y0_386 =>
                intro w' hSw
                go_simp
                try with_reducible rfl
              refine wpAnyH_take' (i := 1) (v := ?v1_387) (some 43) rfl rfl (by kernel_rfl) (by kernel_rfl) (by kernel_rfl) (fun _ _ _ h => h) (Or.inl ⟨by kernel_rfl, ?y1_387⟩) (hHeld) ?_
              case y1_387 =>
                intro w' hSw
                go_simp
                try with_reducible rfl
              refine wpAnyH_take' (i := 2) (v := ?v2_388) (some 44) rfl rfl (by kernel_rfl) (by kernel_rfl) (by kernel_rfl) (fun _ _ _ h => h) (Or.inl ⟨by kernel_rfl, ?y2_388⟩) (hHeld) ?_
              case y2_388 =>
                intro w' hSw
                have kc' := fun i => (hSw.cell (p := ⟨w.heap.size, i, none⟩) lc).trans (kc i); go_simp
                try with_reducible rfl
              refine wpAnyH_take' (i := 3) (v := ?v3_389) (some 45) rfl rfl (by kernel_rfl) (by kernel_rfl) (by kernel_rfl) (fun _ _ _ h => h) (Or.inl ⟨by kernel_rfl, ?y3_389⟩) (hHeld) ?_
              case y3_389 =>
                intro w' hSw
                go_simp
                try with_reducible rfl
              refine wpAnyH_take' (i := 4) (v := ?v4_390) (some 46) rfl rfl (by kernel_rfl) (by kernel_rfl) (by kernel_rfl) (fun _ _ _ h => h) (Or.inl ⟨by kernel_rfl, ?y4_390⟩) (hHeld) ?_
              case y4_390 =>
                intro w' hSw
                go_simp
                try with_reducible rfl
              refine wpAnyH_take' (i := 5) (v := ?v5_391) (some 47) rfl rfl (by kernel_rfl) (by kernel_rfl) (by kernel_rfl) (fun _ _ _ h => h) (Or.inl ⟨by kernel_rfl, ?y5_391⟩) (hHeld) ?_
              case y5_391 =>
                intro w' hSw
                have kh' := fun i => (hSw.cell (p := ⟨hb, i, none⟩) lh).trans (kh i); go_simp
                try with_reducible rfl
              refine wpAnyH_take' (i := 6) (v := ?v6_392) (some 48) rfl rfl (by kernel_rfl) (by kernel_rfl) (by kernel_rfl) (fun _ _ _ h => h) (Or.inl ⟨by kernel_rfl, ?y6_392⟩) (hHeld) ?_
              case y6_392 =>
                intro w' hSw
                go_simp
                try with_reducible rfl
              refine wpAnyH_take' (i := 7) (v := ?v7_393) (some 49) rfl rfl (by kernel_rfl) (by kernel_rfl) (by kernel_rfl) (fun _ _ _ h => h) (Or.inl ⟨by kernel_rfl, ?y7_393⟩) (hHeld) ?_
              case y7_393 =>
                intro w' hSw
                go_simp
                try with_reducible rfl
              refine wpAnyH_take' (i := 8) (v := ?v8_394) (some 50) rfl rfl (by kernel_rfl) (by kernel_rfl) (by kernel_rfl) (fun _ _ _ h => h) (Or.inl ⟨by kernel_rfl, ?y8_394⟩) (hHeld) ?_
              case y8_394 =>
                intro w' hSw
                go_simp
                try with_reducible rfl
              refine wpAnyH_take' (i := 9) (v := ?v9_395) (some 51) rfl rfl (by kernel_rfl) (by kernel_rfl) (by kernel_rfl) (fun _ _ _ h => h) (Or.inl ⟨by kernel_rfl, ?y9_395⟩) (hHeld) ?_
              case y9_395 =>
                intro w' hSw
                have kc' := fun i => (hSw.cell (p := ⟨w.heap.size, i, none⟩) lc).trans (kc i); go_simp
                try with_reducible rfl
              refine wpAnyH_take' (i := 10) (v := ?v10_396) (some 52) rfl rfl (by kernel_rfl) (by kernel_rfl) (by kernel_rfl) (fun _ _ _ h => h) (Or.inl ⟨by kernel_rfl, ?y10_396⟩) (hHeld) ?_
              case y10_396 =>
                intro w' hSw
                go_simp
                try with_reducible rfl
              refine wpAnyH_take' (i := 11) (v := ?v11_397) (some 53) rfl rfl (by kernel_rfl) (by kernel_rfl) (by kernel_rfl) (fun _ _ _ h => h) (Or.inl ⟨by kernel_rfl, ?y11_397⟩) (hHeld) ?_
              case y11_397 =>
                intro w' hSw
                go_simp
                try with_reducible rfl
              refine wpAnyH_take' (i := 12) (v := ?v12_398) (some 54) rfl rfl (by kernel_rfl) (by kernel_rfl) (by kernel_rfl) (fun _ _ _ h => h) (Or.inl ⟨by kernel_rfl, ?y12_398⟩) (hHeld) ?_
              case y12_398 =>
                intro w' hSw
                have kh' := fun i => (hSw.cell (p := ⟨hb, i, none⟩) lh).trans (kh i); go_simp
                try with_reducible rfl
              refine wpAnyH_take' (i := 13) (v := ?v13_399) (some 55) rfl rfl (by kernel_rfl) (by kernel_rfl) (by kernel_rfl) (fun _ _ _ h => h) (Or.inl ⟨by kernel_rfl, ?y13_399⟩) (hHeld) ?_
              case y13_399 =>
                intro w' hSw
                go_simp
                try with_reducible rfl
              refine wpAnyH_take' (i := 14) (v := ?v14_400) (some 56) rfl rfl (by kernel_rfl) (by kernel_rfl) (by kernel_rfl) (fun _ _ _ h => h) (Or.inl ⟨by kernel_rfl, ?y14_400⟩) (hHeld) ?_
              case y14_400 =>
                intro w' hSw
                go_simp
                try with_reducible rfl
              refine wpAnyH_take' (i := 15) (v := ?v15_401) (some 57) rfl rfl (by kernel_rfl) (by kernel_rfl) (by kernel_rfl) (fun _ _ _ h => h) (Or.inl ⟨by kernel_rfl, ?y15_401⟩) (hHeld) ?_
              case y15_401 =>
                intro w' hSw
                go_simp
                try with_reducible rfl
              refine wpAnyH_take' (i := 16) (v := ?v16_402) (some 58) rfl rfl (by kernel_rfl) (by kernel_rfl) (by kernel_rfl) (fun _ _ _ h => h) (Or.inl ⟨by kernel_rfl, ?y16_402⟩) (hHeld) ?_
              case y16_402 =>
                intro w' hSw
                have r0' := (hSw.cell (p := ⟨g, k2 * 2, none⟩) lg).trans a0; have r1' := (hSw.cell (p := ⟨g, k2 * 2 + 1, none⟩) lg).trans a1; go_simp
                try with_reducible rfl
              refine wpAnyH_take' (i := 17) (v := ?v17_403) (some 59) rfl rfl (by kernel_rfl) (by kernel_rfl) (by kernel_rfl) (fun _ _ _ h => h) (Or.inl ⟨by kernel_rfl, ?y17_403⟩) (hHeld) ?_
              case y17_403 =>
                intro w' hSw
                have kc' := fun i => (hSw.cell (p := ⟨w.heap.size, i, none⟩) lc).trans (kc i); go_simp
                try with_reducible rfl
              refine wpAnyH_take' (i := 18) (v := ?v18_404) (some 60) rfl rfl (by kernel_rfl) (by kernel_rfl) (by kernel_rfl) (fun _ _ _ h => h) (Or.inl ⟨by kernel_rfl, ?y18_404⟩) (hHeld) ?_
              case y18_404 =>
                intro w' hSw
                go_simp
                try with_reducible rfl
              refine wpAnyH_take' (i := 19) (v := ?v19_405) (some 61) rfl rfl (by kernel_rfl) (by kernel_rfl) (by kernel_rfl) (fun _ _ _ h => h) (Or.inl ⟨by kernel_rfl, ?y19_405⟩) (hHeld) ?_
              case y19_405 =>
                intro w' hSw
                go_simp
                try with_reducible rfl
              refine wpAnyH_take' (i := 20) (v := ?v20_406) (some 62) rfl rfl (by kernel_rfl) (by kernel_rfl) (by kernel_rfl) (fun _ _ _ h => h) (Or.inl ⟨by kernel_rfl, ?y20_406⟩) (hHeld) ?_
              case y20_406 =>
                intro w' hSw
                have kh' := fun i => (hSw.cell (p := ⟨hb, i, none⟩) lh).trans (kh i); go_simp
                try with_reducible rfl
              refine wpAnyH_take' (i := 21) (v := ?v21_407) (some 63) rfl rfl (by kernel_rfl) (by kernel_rfl) (by kernel_rfl) (fun _ _ _ h => h) (Or.inl ⟨by kernel_rfl, ?y21_407⟩) (hHeld) ?_
              case y21_407 =>
                intro w' hSw
                go_simp
                try with_reducible rfl
              refine wpAnyH_take' (i := 22) (v := ?v22_408) (some 64) rfl rfl (by kernel_rfl) (by kernel_rfl) (by kernel_rfl) (fun _ _ _ h => h) (Or.inl ⟨by kernel_rfl, ?y22_408⟩) (hHeld) ?_
              case y22_408 =>
                intro w' hSw
                go_simp
                try with_reducible rfl
              refine wpAnyH_take' (i := 23) (v := ?v23_409) (some 65) rfl rfl (by kernel_rfl) (by kernel_rfl) (by kernel_rfl) (fun _ _ _ h => h) (Or.inl ⟨by kernel_rfl, ?y23_409⟩) (hHeld) ?_
              case y23_409 =>
                intro w' hSw
                have r0' := (hSw.cell (p := ⟨g, k * 2, none⟩) lg).trans b0; have r1' := (hSw.cell (p := ⟨g, k * 2 + 1, none⟩) lg).trans b1; go_simp
                try with_reducible rfl
              refine wpAnyH_ready (rs := [24]) (by kernel_rfl) (by simp) ?_
              refine AllReadyH.cons rfl (fun K hK => ?_) AllReadyH.nil
              rw [if_pos (by kernel_rfl)]
              go_simp
              go_at_call 38
              refine (order_calls xa xb _).mono ?_
              rintro e w1 ⟨rfl, hxb⟩
              refine hK.out _ _ (ext_trans hHeld hxb) (fun hS => ?_)
              refine wpAnyH_take' (i := 25) (v := ?v25_410) (some 67) rfl rfl (by kernel_rfl) (by kernel_rfl) (by kernel_rfl) (fun _ _ _ h => h) (Or.inl ⟨by kernel_rfl, ?y25_410⟩) (hS) ?_
              case y25_410 =>
                intro w' hSw
                go_simp
                try with_reducible rfl
              refine wpAnyH_take' (i := 26) (v := ?v26_411) (some 68) rfl rfl (by kernel_rfl) (by kernel_rfl) (by kernel_rfl) (fun _ _ _ h => h) (Or.inl ⟨by kernel_rfl, ?y26_411⟩) (hS) ?_
              case y26_411 =>
                intro w' hSw
                go_simp
                try with_reducible rfl
              refine wpAnyH_done (by kernel_rfl) ?_ _
              go_simp
              clear hHeld kc kh lc lh lg a0 a1 b0 b1
              go_upto_region 10 with fail
              refine wp_at ?_
              intro W10 hW
              have x10 : Ext wr W10 := by rw [hW]; repeat (first | exact ext_refl _ | assumption | refine ext_more' ?_ _ _ | refine ext_drew ?_ | refine ext_drewN ?_ _ | refine ext_alloc ?_ _)
              clear hW
              have hbc := at_ext hbc (by simp) x10
              have hbh := at_ext hbh (by simp) x10
              have hor := own_ext hor x10
              have hmr := hmr.ext x10
              have hcr := hcr.trans (Chg.ofExt x10)
              have HLE := Lib.hid (HLEX.out)
              have kkl : k2 < l.length := by have := HLE.out.2.1; have := HLN.out; omega
              have g1 : (((k2 : Nat) : Int)) < (l.length : Int) := by omega
              have g0 : (0 : Int) ≤ (((k2 : Nat) : Int)) := by omega
              have kc := hbc.1
              have kh := hbh.1
              have lc := at_lt hbc (by simp)
              have lh := at_lt hbh (by simp)
              have lg := own_lt hor
              obtain ⟨a0, a1⟩ := row_cells HLN.out hor (show j < l'.length by have := HLN.out; omega)
              obtain ⟨b0, b1⟩ := row_cells HLN.out hor (show k2 < l'.length by have := HLN.out; omega)
              obtain ⟨xa, hxa⟩ : ∃ x, x = at_ l' j := ⟨_, rfl⟩
              obtain ⟨xb, hxb⟩ : ∃ x, x = at_ l' k2 := ⟨_, rfl⟩
              rw [← hxa] at a0 a1
              rw [← hxb] at b0 b1
              by_cases h4 : Ahd (at_ l' j) (at_ l' k2)
              · have h4' : ordI xa xb < 0 := (ordI_neg _ _).2 (by rw [hxa, hxb]; exact h4)
                have HDN := Lib.hid (down_done HPD.out HLE.out h4)
                clear h4 hxa hxb
                refine wp_region_held_drew (S := fun w' => Ext W10 w') (by kernel_rfl) (ext_drew (ext_refl _)) (fun hHeld => ?_)
                refine wpAnyH_take' (i := 0) (v := ?v0_412) (some 71) rfl rfl (by kernel_rfl) (by kernel_rfl) (by kernel_rfl) (fun _ _ _ h => h) (Or.inl ⟨by kernel_rfl, ?y0_412⟩) (hHeld) ?_
                case y0_412 =>
                  intro w' hSw
                  go_simp
                  try with_reducible rfl
                refine wpAnyH_take' (i := 1) (v := ?v1_413) (some 72) rfl rfl (by kernel_rfl) (by kernel_rfl) (by kernel_rfl) (fun _ _ _ h => h) (Or.inl ⟨by kernel_rfl, ?y1_413⟩) (hHeld) ?_
                case y1_413 =>
                  intro w' hSw
                  have kc' := fun i => (hSw.cell (p := ⟨w.heap.size, i, none⟩) lc).trans (kc i); go_simp
                  try with_reducible rfl
                refine wpAnyH_take' (i := 2) (v := ?v2_414) (some 73) rfl rfl (by kernel_rfl) (by kernel_rfl) (by kernel_rfl) (fun _ _ _ h => h) (Or.inl ⟨by kernel_rfl, ?y2_414⟩) (hHeld) ?_
                case y2_414 =>
                  intro w' hSw
                  go_simp
                  try with_reducible rfl
                refine wpAnyH_take' (i := 3) (v := ?v3_415) (some 74) rfl rfl (by kernel_rfl) (by kernel_rfl) (by kernel_rfl) (fun _ _ _ h => h) (Or.inl ⟨by kernel_rfl, ?y3_415⟩) (hHeld) ?_
                case y3_415 =>
                  intro w' hSw
                  go_simp
                  try with_reducible rfl
                refine wpAnyH_take' (i := 4) (v := ?v4_416) (some 75) rfl rfl (by kernel_rfl) (by kernel_rfl) (by kernel_rfl) (fun _ _ _ h => h) (Or.inl ⟨by kernel_rfl, ?y4_416⟩) (hHeld) ?_
                case y4_416 =>
                  intro w' hSw
                  have kh' := fun i => (hSw.cell (p := ⟨hb, i, none⟩) lh).trans (kh i); go_simp
                  try with_reducible rfl
                refine wpAnyH_take' (i := 5) (v := ?v5_417) (some 76) rfl rfl (by kernel_rfl) (by kernel_rfl) (by kernel_rfl) (fun _ _ _ h => h) (Or.inl ⟨by kernel_rfl, ?y5_417⟩) (hHeld) ?_
                case y5_417 =>
                  intro w' hSw
                  go_simp
                  try with_reducible rfl
                refine wpAnyH_take' (i := 6) (v := ?v6_418) (some 77) rfl rfl (by kernel_rfl) (by kernel_rfl) (by kernel_rfl) (fun _ _ _ h => h) (Or.inl ⟨by kernel_rfl, ?y6_418⟩) (hHeld) ?_
                case y6_418 =>
                  intro w' hSw
                  go_simp
                  try with_reducible rfl
                refine wpAnyH_take' (i := 7) (v := ?v7_419) (some 78) rfl rfl (by kernel_rfl) (by kernel_rfl) (by kernel_rfl) (fun _ _ _ h => h) (Or.inl ⟨by kernel_rfl, ?y7_419⟩) (hHeld) ?_
                case y7_419 =>
                  intro w' hSw
                  go_simp
                  try with_reducible rfl
                refine wpAnyH_take' (i := 8) (v := ?v8_420) (some 79) rfl rfl (by kernel_rfl) (by kernel_rfl) (by kernel_rfl) (fun _ _ _ h => h) (Or.inl ⟨by kernel_rfl, ?y8_420⟩) (hHeld) ?_
                case y8_420 =>
                  intro w' hSw
                  have kc' := fun i => (hSw.cell (p := ⟨w.heap.size, i, none⟩) lc).trans (kc i); go_simp
                  try with_reducible rfl
                refine wpAnyH_take' (i := 9) (v := ?v9_421) (some 80) rfl rfl (by kernel_rfl) (by kernel_rfl) (by kernel_rfl) (fun _ _ _ h => h) (Or.inl ⟨by kernel_rfl, ?y9_421⟩) (hHeld) ?_
                case y9_421 =>
                  intro w' hSw
                  go_simp
                  try with_reducible rfl
                refine wpAnyH_take' (i := 10) (v := ?v10_422) (some 81) rfl rfl (by kernel_rfl) (by kernel_rfl) (by kernel_rfl) (fun _ _ _ h => h) (Or.inl ⟨by kernel_rfl, ?y10_422⟩) (hHeld) ?_
                case y10_422 =>
                  intro w' hSw
                  go_simp
                  try with_reducible rfl
                refine wpAnyH_take' (i := 11) (v := ?v11_423) (some 82) rfl rfl (by kernel_rfl) (by kernel_rfl) (by kernel_rfl) (fun _ _ _ h => h) (Or.inl ⟨by kernel_rfl, ?y11_423⟩) (hHeld) ?_
                case y11_423 =>
                  intro w' hSw
                  have kh' := fun i => (hSw.cell (p := ⟨hb, i, none⟩) lh).trans (kh i); go_simp
                  try with_reducible rfl
                refine wpAnyH_take' (i := 12) (v := ?v12_424) (some 83) rfl rfl (by kernel_rfl) (by kernel_rfl) (by kernel_rfl) (fun _ _ _ h => h) (Or.inl ⟨by kernel_rfl, ?y12_424⟩) (hHeld) ?_
                case y12_424 =>
                  intro w' hSw
                  go_simp
                  try with_reducible rfl
                refine wpAnyH_take' (i := 13) (v := ?v13_425) (some 84) rfl rfl (by kernel_rfl) (by kernel_rfl) (by kernel_rfl) (fun _ _ _ h => h) (Or.inl ⟨by kernel_rfl, ?y13_425⟩) (hHeld) ?_
                case y13_425 =>
                  intro w' hSw
                  go_simp
                  try with_reducible rfl
                refine wpAnyH_take' (i := 14) (v := ?v14_426) (some 85) rfl rfl (by kernel_rfl) (by kernel_rfl) (by kernel_rfl) (fun _ _ _ h => h) (Or.inl ⟨by kernel_rfl, ?y14_426⟩) (hHeld) ?_
                case y14_426 =>
                  intro w' hSw
                  have r0' := (hSw.cell (p := ⟨g, j * 2, none⟩) lg).trans a0; have r1' := (hSw.cell (p := ⟨g, j * 2 + 1, none⟩) lg).trans a1; go_simp
                  try with_reducible rfl
                refine wpAnyH_take' (i := 15) (v := ?v15_427) (some 86) rfl rfl (by kernel_rfl) (by kernel_rfl) (by kernel_rfl) (fun _ _ _ h => h) (Or.inl ⟨by kernel_rfl, ?y15_427⟩) (hHeld) ?_
                case y15_427 =>
                  intro w' hSw
                  have kc' := fun i => (hSw.cell (p := ⟨w.heap.size, i, none⟩) lc).trans (kc i); go_simp
                  try with_reducible rfl
                refine wpAnyH_take' (i := 16) (v := ?v16_428) (some 87) rfl rfl (by kernel_rfl) (by kernel_rfl) (by kernel_rfl) (fun _ _ _ h => h) (Or.inl ⟨by kernel_rfl, ?y16_428⟩) (hHeld) ?_
                case y16_428 =>
                  intro w' hSw
                  go_simp
                  try with_reducible rfl
                refine wpAnyH_take' (i := 17) (v := ?v17_429) (some 88) rfl rfl (by kernel_rfl) (by kernel_rfl) (by kernel_rfl) (fun _ _ _ h => h) (Or.inl ⟨by kernel_rfl, ?y17_429⟩) (hHeld) ?_
                case y17_429 =>
                  intro w' hSw
                  go_simp
                  try with_reducible rfl
                refine wpAnyH_take' (i := 18) (v := ?v18_430) (some 89) rfl rfl (by kernel_rfl) (by kernel_rfl) (by kernel_rfl) (fun _ _ _ h => h) (Or.inl ⟨by kernel_rfl, ?y18_430⟩) (hHeld) ?_
                case y18_430 =>
                  intro w' hSw
                  have kh' := fun i => (hSw.cell (p := ⟨hb, i, none⟩) lh).trans (kh i); go_simp
                  try with_reducible rfl
                refine wpAnyH_take' (i := 19) (v := ?v19_431) (some 90) rfl rfl (by kernel_rfl) (by kernel_rfl) (by kernel_rfl) (fun _ _ _ h => h) (Or.inl ⟨by kernel_rfl, ?y19_431⟩) (hHeld) ?_
                case y19_431 =>
                  intro w' hSw
                  go_simp
                  try with_reducible rfl
                refine wpAnyH_take' (i := 20) (v := ?v20_432) (some 91) rfl rfl (by kernel_rfl) (by kernel_rfl) (by kernel_rfl) (fun _ _ _ h => h) (Or.inl ⟨by kernel_rfl, ?y20_432⟩) (hHeld) ?_
                case y20_432 =>
                  intro w' hSw
                  go_simp
                  try with_reducible rfl
                refine wpAnyH_take' (i := 21) (v := ?v21_433) (some 92) rfl rfl (by kernel_rfl) (by kernel_rfl) (by kernel_rfl) (fun _ _ _ h => h) (Or.inl ⟨by kernel_rfl, ?y21_433⟩) (hHeld) ?_
                case y21_433 =>
                  intro w' hSw
                  have r0' := (hSw.cell (p := ⟨g, k2 * 2, none⟩) lg).trans b0; have r1' := (hSw.cell (p := ⟨g, k2 * 2 + 1, none⟩) lg).trans b1; go_simp
                  try with_reducible rfl
                refine wpAnyH_ready (rs := [22]) (by kernel_rfl) (by simp) ?_
                refine AllReadyH.cons rfl (fun K hK => ?_) AllReadyH.nil
                rw [if_pos (by kernel_rfl)]
                go_simp
                go_at_call 38
                refine (order_calls xa xb _).mono ?_
                rintro e w1 ⟨rfl, hxb⟩
                refine hK.out _ _ (ext_trans hHeld hxb) (fun hS => ?_)
                refine wpAnyH_take' (i := 23) (v := ?v23_434) (some 94) rfl rfl (by kernel_rfl) (by kernel_rfl) (by kernel_rfl) (fun _ _ _ h => h) (Or.inl ⟨by kernel_rfl, ?y23_434⟩) (hS) ?_
                case y23_434 =>
                  intro w' hSw
                  go_simp
                  try with_reducible rfl
                refine wpAnyH_take' (i := 24) (v := ?v24_435) (some 95) rfl rfl (by kernel_rfl) (by kernel_rfl) (by kernel_rfl) (fun _ _ _ h => h) (Or.inl ⟨by kernel_rfl, ?y24_435⟩) (hS) ?_
                case y24_435 =>
                  intro w' hSw
                  go_simp
                  try with_reducible rfl
                refine wpAnyH_done (by kernel_rfl) ?_ _
                go_simp
                have hbh2 := at_ext hbh (by simp) hS
                have hor2 := own_ext hor hS
                have hmr2 := hmr.ext hS
                have hcr2 := hcr.trans (Chg.ofExt hS)
                clear hHeld
                go_wp2
                refine bodyPost_ret (results_none rfl _ _ _) rfl ?_
                exact ⟨rfl, hcr2, RightPost.mk hpm HDN.out hbh2 hor2 hmr2 HFT.out hkr⟩
              · have h4' : ¬ (ordI xa xb < 0) := fun h => h4 (by have := (ordI_neg _ _).1 h; rw [hxa, hxb] at this; exact this)
                have HDS := Lib.hid (down_step HPD.out (by have := HLN.out; omega) HLE.out HID.out h4)
                clear h4 hxa hxb
                refine wp_region_held_drew (S := fun w' => Ext W10 w') (by kernel_rfl) (ext_drew (ext_refl _)) (fun hHeld => ?_)
                refine wpAnyH_take' (i := 0) (v := ?v0_436) (some 71) rfl rfl (by kernel_rfl) (by kernel_rfl) (by kernel_rfl) (fun _ _ _ h => h) (Or.inl ⟨by kernel_rfl, ?y0_436⟩) (hHeld) ?_
                case y0_436 =>
                  intro w' hSw
                  go_simp
                  try with_reducible rfl
                refine wpAnyH_take' (i := 1) (v := ?v1_437) (some 72) rfl rfl (by kernel_rfl) (by kernel_rfl) (by kernel_rfl) (fun _ _ _ h => h) (Or.inl ⟨by kernel_rfl, ?y1_437⟩) (hHeld) ?_
                case y1_437 =>
                  intro w' hSw
                  have kc' := fun i => (hSw.cell (p := ⟨w.heap.size, i, none⟩) lc).trans (kc i); go_simp
                  try with_reducible rfl
                refine wpAnyH_take' (i := 2) (v := ?v2_438) (some 73) rfl rfl (by kernel_rfl) (by kernel_rfl) (by kernel_rfl) (fun _ _ _ h => h) (Or.inl ⟨by kernel_rfl, ?y2_438⟩) (hHeld) ?_
                case y2_438 =>
                  intro w' hSw
                  go_simp
                  try with_reducible rfl
                refine wpAnyH_take' (i := 3) (v := ?v3_439) (some 74) rfl rfl (by kernel_rfl) (by kernel_rfl) (by kernel_rfl) (fun _ _ _ h => h) (Or.inl ⟨by kernel_rfl, ?y3_439⟩) (hHeld) ?_
                case y3_439 =>
                  intro w' hSw
                  go_simp
                  try with_reducible rfl
                refine wpAnyH_take' (i := 4) (v := ?v4_440) (some 75) rfl rfl (by kernel_rfl) (by kernel_rfl) (by kernel_rfl) (fun _ _ _ h => h) (Or.inl ⟨by kernel_rfl, ?y4_440⟩) (hHeld) ?_
                case y4_440 =>
                  intro w' hSw
                  have kh' := fun i => (hSw.cell (p := ⟨hb, i, none⟩) lh).trans (kh i); go_simp
                  try with_reducible rfl
                refine wpAnyH_take' (i := 5) (v := ?v5_441) (some 76) rfl rfl (by kernel_rfl) (by kernel_rfl) (by kernel_rfl) (fun _ _ _ h => h) (Or.inl ⟨by kernel_rfl, ?y5_441⟩) (hHeld) ?_
                case y5_441 =>
                  intro w' hSw
                  go_simp
                  try with_reducible rfl
                refine wpAnyH_take' (i := 6) (v := ?v6_442) (some 77) rfl rfl (by kernel_rfl) (by kernel_rfl) (by kernel_rfl) (fun _ _ _ h => h) (Or.inl ⟨by kernel_rfl, ?y6_442⟩) (hHeld) ?_
                case y6_442 =>
                  intro w' hSw
                  go_simp
                  try with_reducible rfl
                refine wpAnyH_take' (i := 7) (v := ?v7_443) (some 78) rfl rfl (by kernel_rfl) (by kernel_rfl) (by kernel_rfl) (fun _ _ _ h => h) (Or.inl ⟨by kernel_rfl, ?y7_443⟩) (hHeld) ?_
                case y7_443 =>
                  intro w' hSw
                  go_simp
                  try with_reducible rfl
                refine wpAnyH_take' (i := 8) (v := ?v8_444) (some 79) rfl rfl (by kernel_rfl) (by kernel_rfl) (by kernel_rfl) (fun _ _ _ h => h) (Or.inl ⟨by kernel_rfl, ?y8_444⟩) (hHeld) ?_
                case y8_444 =>
                  intro w' hSw
                  have kc' := fun i => (hSw.cell (p := ⟨w.heap.size, i, none⟩) lc).trans (kc i); go_simp
                  try with_reducible rfl
                refine wpAnyH_take' (i := 9) (v := ?v9_445) (some 80) rfl rfl (by kernel_rfl) (by kernel_rfl) (by kernel_rfl) (fun _ _ _ h => h) (Or.inl ⟨by kernel_rfl, ?y9_445⟩) (hHeld) ?_
                case y9_445 =>
                  intro w' hSw
                  go_simp
                  try with_reducible rfl
                refine wpAnyH_take' (i := 10) (v := ?v10_446) (some 81) rfl rfl (by kernel_rfl) (by kernel_rfl) (by kernel_rfl) (fun _ _ _ h => h) (Or.inl ⟨by kernel_rfl, ?y10_446⟩) (hHeld) ?_
                case y10_446 =>
                  intro w' hSw
                  go_simp
                  try with_reducible rfl
                refine wpAnyH_take' (i := 11) (v := ?v11_447) (some 82) rfl rfl (by kernel_rfl) (by kernel_rfl) (by kernel_rfl) (fun _ _ _ h => h) (Or.inl ⟨by kernel_rfl, ?y11_447⟩) (hHeld) ?_
                case y11_447 =>
                  intro w' hSw
                  have kh' := fun i => (hSw.cell (p := ⟨hb, i, none⟩) lh).trans (kh i); go_simp
                  try with_reducible rfl
                refine wpAnyH_take' (i := 12) (v := ?v12_448) (some 83) rfl rfl (by kernel_rfl) (by kernel_rfl) (by kernel_rfl) (fun _ _ _ h => h) (Or.inl ⟨by kernel_rfl, ?y12_448⟩) (hHeld) ?_
                case y12_448 =>
                  intro w' hSw
                  go_simp
                  try with_reducible rfl
                refine wpAnyH_take' (i := 13) (v := ?v13_449) (some 84) rfl rfl (by kernel_rfl) (by kernel_rfl) (by kernel_rfl) (fun _ _ _ h => h) (Or.inl ⟨by kernel_rfl, ?y13_449⟩) (hHeld) ?_
                case y13_449 =>
                  intro w' hSw
                  go_simp
                  try with_reducible rfl
                refine wpAnyH_take' (i := 14) (v := ?v14_450) (some 85) rfl rfl (by kernel_rfl) (by kernel_rfl) (by kernel_rfl) (fun _ _ _ h => h) (Or.inl ⟨by kernel_rfl, ?y14_450⟩) (hHeld) ?_
                case y14_450 =>
                  intro w' hSw
                  have r0' := (hSw.cell (p := ⟨g, j * 2, none⟩) lg).trans a0; have r1' := (hSw.cell (p := ⟨g, j * 2 + 1, none⟩) lg).trans a1; go_simp
                  try with_reducible rfl
                refine wpAnyH_take' (i := 15) (v := ?v15_451) (some 86) rfl rfl (by kernel_rfl) (by kernel_rfl) (by kernel_rfl) (fun _ _ _ h => h) (Or.inl ⟨by kernel_rfl, ?y15_451⟩) (hHeld) ?_
                case y15_451 =>
                  intro w' hSw
                  have kc' := fun i => (hSw.cell (p := ⟨w.heap.size, i, none⟩) lc).trans (kc i); go_simp
                  try with_reducible rfl
                refine wpAnyH_take' (i := 16) (v := ?v16_452) (some 87) rfl rfl (by kernel_rfl) (by kernel_rfl) (by kernel_rfl) (fun _ _ _ h => h) (Or.inl ⟨by kernel_rfl, ?y16_452⟩) (hHeld) ?_
                case y16_452 =>
                  intro w' hSw
                  go_simp
                  try with_reducible rfl
                refine wpAnyH_take' (i := 17) (v := ?v17_453) (some 88) rfl rfl (by kernel_rfl) (by kernel_rfl) (by kernel_rfl) (fun _ _ _ h => h) (Or.inl ⟨by kernel_rfl, ?y17_453⟩) (hHeld) ?_
                case y17_453 =>
                  intro w' hSw
                  go_simp
                  try with_reducible rfl
                refine wpAnyH_take' (i := 18) (v := ?v18_454) (some 89) rfl rfl (by kernel_rfl) (by kernel_rfl) (by kernel_rfl) (fun _ _ _ h => h) (Or.inl ⟨by kernel_rfl, ?y18_454⟩) (hHeld) ?_
                case y18_454 =>
                  intro w' hSw
                  have kh' := fun i => (hSw.cell (p := ⟨hb, i, none⟩) lh).trans (kh i); go_simp
                  try with_reducible rfl
                refine wpAnyH_take' (i := 19) (v := ?v19_455) (some 90) rfl rfl (by kernel_rfl) (by kernel_rfl) (by kernel_rfl) (fun _ _ _ h => h) (Or.inl ⟨by kernel_rfl, ?y19_455⟩) (hHeld) ?_
                case y19_455 =>
                  intro w' hSw
                  go_simp
                  try with_reducible rfl
                refine wpAnyH_take' (i := 20) (v := ?v20_456) (some 91) rfl rfl (by kernel_rfl) (by kernel_rfl) (by kernel_rfl) (fun _ _ _ h => h) (Or.inl ⟨by kernel_rfl, ?y20_456⟩) (hHeld) ?_
                case y20_456 =>
                  intro w' hSw
                  go_simp
                  try with_reducible rfl
                refine wpAnyH_take' (i := 21) (v := ?v21_457) (some 92) rfl rfl (by kernel_rfl) (by kernel_rfl) (by kernel_rfl) (fun _ _ _ h => h) (Or.inl ⟨by kernel_rfl, ?y21_457⟩) (hHeld) ?_
                case y21_457 =>
                  intro w' hSw
                  have r0' := (hSw.cell (p := ⟨g, k2 * 2, none⟩) lg).trans b0; have r1' := (hSw.cell (p := ⟨g, k2 * 2 + 1, none⟩) lg).trans b1; go_simp
                  try with_reducible rfl
                refine wpAnyH_ready (rs := [22]) (by kernel_rfl) (by simp) ?_
                refine AllReadyH.cons rfl (fun K hK => ?_) AllReadyH.nil
                rw [if_pos (by kernel_rfl)]
                go_simp
                go_at_call 38
                refine (order_calls xa xb _).mono ?_
                rintro e w1 ⟨rfl, hxb⟩
                refine hK.out _ _ (ext_trans hHeld hxb) (fun hS => ?_)
                refine wpAnyH_take' (i := 23) (v := ?v23_458) (some 94) rfl rfl (by kernel_rfl) (by kernel_rfl) (by kernel_rfl) (fun _ _ _ h => h) (Or.inl ⟨by kernel_rfl, ?y23_458⟩) (hS) ?_
                case y23_458 =>
                  intro w' hSw
                  go_simp
                  try with_reducible rfl
                refine wpAnyH_take' (i := 24) (v := ?v24_459) (some 95) rfl rfl (by kernel_rfl) (by kernel_rfl) (by kernel_rfl) (fun _ _ _ h => h) (Or.inl ⟨by kernel_rfl, ?y24_459⟩) (hS) ?_
                case y24_459 =>
                  intro w' hSw
                  go_simp
                  try with_reducible rfl
                refine wpAnyH_done (by kernel_rfl) ?_ _
                go_simp
                have hbc2 := at_ext hbc (by simp) hS
                have hbh2 := at_ext hbh (by simp) hS
                have hor2 := own_ext hor hS
                have hmr2 := hmr.ext hS
                have hcr2 := hcr.trans (Chg.ofExt hS)
                have HLJ := Lib.hid (show j < l'.length by have := HLN.out; omega)
                have HLK := Lib.hid (show k2 < l'.length by have := HLN.out; omega)
                have HL5 := Lib.hid (show l'.length ≤ 100000 by have := HLN.out; omega)
                have HSW := Lib.hid (fun w' (y1 : At w' w.heap.size _) (y2 : At w' hb #[.slice (some ⟨g, 0, none⟩) l'.length cap, .map (some mb), .int .i64 most]) y3 y4 => swap_calls l' M' j k2 w.heap.size hb mb g cap most w' y1 y2 y3 y4 HFT.out HID.out HLJ.out HLK.out HL5.out hd1 hd2 hd3 hd4 hd5)
                rw [HLN.out] at HSW
                clear hHeld kc kh lc lh lg a0 a1 b0 b1
                go_wp2_with (go_at_call 46; refine (HSW.out _ hbc2 hbh2 hor2 hmr2).mono ?_; rintro e w5 ⟨rfl, hc5, hh5, ho5, hm5⟩)
                have hnb : ¬ (w.heap.size = g ∨ w.heap.size = mb) := by omega
                go_roundg (l.length - k2)
                case measure => have := HLE.out.1; omega
                case rel => exact ⟨k2, swp l' j k2, _, rfl, by omega, hcr2.trans hc5, at_chg hbc2 (by simp) hc5 hnb, hh5, ho5, hm5, fits_swp HFT.out HID.out HLJ.out HLK.out, keys_put (keys_put hkr), (swp_perm HLJ.out HLK.out).trans hpm, HDS.out, kkl⟩
            · have h3' : ¬ (ordI xa xb < 0) := fun h => h3 (by have := (ordI_neg _ _).1 h; rw [hxa, hxb] at this; exact this)
              have HLEX := Lib.hid (show Least l' j k from least1 HK.out HK2.out (by have := HLN.out; omega) (Ahd.of_not h3 (HID.out.ne (by have := HLN.out; omega) (by have := HLN.out; omega) (by have := HK2.out; omega))))
              clear h3 hxa hxb
              go_upto_region 8 with fail
              refine wp_region_held_drew (S := fun w' => Ext wr w') (by kernel_rfl) (ext_drew (ext_refl _)) (fun hHeld => ?_)
              refine wpAnyH_take' (i := 0) (v := ?v0_460) (some 42) rfl rfl (by kernel_rfl) (by kernel_rfl) (by kernel_rfl) (fun _ _ _ h => h) (Or.inl ⟨by kernel_rfl, ?y0_460⟩) (hHeld) ?_
              case y0_460 =>
                intro w' hSw
                go_simp
                try with_reducible rfl
              refine wpAnyH_take' (i := 1) (v := ?v1_461) (some 43) rfl rfl (by kernel_rfl) (by kernel_rfl) (by kernel_rfl) (fun _ _ _ h => h) (Or.inl ⟨by kernel_rfl, ?y1_461⟩) (hHeld) ?_
              case y1_461 =>
                intro w' hSw
                go_simp
                try with_reducible rfl
              refine wpAnyH_take' (i := 2) (v := ?v2_462) (some 44) rfl rfl (by kernel_rfl) (by kernel_rfl) (by kernel_rfl) (fun _ _ _ h => h) (Or.inl ⟨by kernel_rfl, ?y2_462⟩) (hHeld) ?_
              case y2_462 =>
                intro w' hSw
                have kc' := fun i => (hSw.cell (p := ⟨w.heap.size, i, none⟩) lc).trans (kc i); go_simp
                try with_reducible rfl
              refine wpAnyH_take' (i := 3) (v := ?v3_463) (some 45) rfl rfl (by kernel_rfl) (by kernel_rfl) (by kernel_rfl) (fun _ _ _ h => h) (Or.inl ⟨by kernel_rfl, ?y3_463⟩) (hHeld) ?_
              case y3_463 =>
                intro w' hSw
                go_simp
                try with_reducible rfl
              refine wpAnyH_take' (i := 4) (v := ?v4_464) (some 46) rfl rfl (by kernel_rfl) (by kernel_rfl) (by kernel_rfl) (fun _ _ _ h => h) (Or.inl ⟨by kernel_rfl, ?y4_464⟩) (hHeld) ?_
              case y4_464 =>
                intro w' hSw
                go_simp
                try with_reducible rfl
              refine wpAnyH_take' (i := 5) (v := ?v5_465) (some 47) rfl rfl (by kernel_rfl) (by kernel_rfl) (by kernel_rfl) (fun _ _ _ h => h) (Or.inl ⟨by kernel_rfl, ?y5_465⟩) (hHeld) ?_
              case y5_465 =>
                intro w' hSw
                have kh' := fun i => (hSw.cell (p := ⟨hb, i, none⟩) lh).trans (kh i); go_simp
                try with_reducible rfl
              refine wpAnyH_take' (i := 6) (v := ?v6_466) (some 48) rfl rfl (by kernel_rfl) (by kernel_rfl) (by kernel_rfl) (fun _ _ _ h => h) (Or.inl ⟨by kernel_rfl, ?y6_466⟩) (hHeld) ?_
              case y6_466 =>
                intro w' hSw
                go_simp
                try with_reducible rfl
              refine wpAnyH_take' (i := 7) (v := ?v7_467) (some 49) rfl rfl (by kernel_rfl) (by kernel_rfl) (by kernel_rfl) (fun _ _ _ h => h) (Or.inl ⟨by kernel_rfl, ?y7_467⟩) (hHeld) ?_
              case y7_467 =>
                intro w' hSw
                go_simp
                try with_reducible rfl
              refine wpAnyH_take' (i := 8) (v := ?v8_468) (some 50) rfl rfl (by kernel_rfl) (by kernel_rfl) (by kernel_rfl) (fun _ _ _ h => h) (Or.inl ⟨by kernel_rfl, ?y8_468⟩) (hHeld) ?_
              case y8_468 =>
                intro w' hSw
                go_simp
                try with_reducible rfl
              refine wpAnyH_take' (i := 9) (v := ?v9_469) (some 51) rfl rfl (by kernel_rfl) (by kernel_rfl) (by kernel_rfl) (fun _ _ _ h => h) (Or.inl ⟨by kernel_rfl, ?y9_469⟩) (hHeld) ?_
              case y9_469 =>
                intro w' hSw
                have kc' := fun i => (hSw.cell (p := ⟨w.heap.size, i, none⟩) lc).trans (kc i); go_simp
                try with_reducible rfl
              refine wpAnyH_take' (i := 10) (v := ?v10_470) (some 52) rfl rfl (by kernel_rfl) (by kernel_rfl) (by kernel_rfl) (fun _ _ _ h => h) (Or.inl ⟨by kernel_rfl, ?y10_470⟩) (hHeld) ?_
              case y10_470 =>
                intro w' hSw
                go_simp
                try with_reducible rfl
              refine wpAnyH_take' (i := 11) (v := ?v11_471) (some 53) rfl rfl (by kernel_rfl) (by kernel_rfl) (by kernel_rfl) (fun _ _ _ h => h) (Or.inl ⟨by kernel_rfl, ?y11_471⟩) (hHeld) ?_
              case y11_471 =>
                intro w' hSw
                go_simp
                try with_reducible rfl
              refine wpAnyH_take' (i := 12) (v := ?v12_472) (some 54) rfl rfl (by kernel_rfl) (by kernel_rfl) (by kernel_rfl) (fun _ _ _ h => h) (Or.inl ⟨by kernel_rfl, ?y12_472⟩) (hHeld) ?_
              case y12_472 =>
                intro w' hSw
                have kh' := fun i => (hSw.cell (p := ⟨hb, i, none⟩) lh).trans (kh i); go_simp
                try with_reducible rfl
              refine wpAnyH_take' (i := 13) (v := ?v13_473) (some 55) rfl rfl (by kernel_rfl) (by kernel_rfl) (by kernel_rfl) (fun _ _ _ h => h) (Or.inl ⟨by kernel_rfl, ?y13_473⟩) (hHeld) ?_
              case y13_473 =>
                intro w' hSw
                go_simp
                try with_reducible rfl
              refine wpAnyH_take' (i := 14) (v := ?v14_474) (some 56) rfl rfl (by kernel_rfl) (by kernel_rfl) (by kernel_rfl) (fun _ _ _ h => h) (Or.inl ⟨by kernel_rfl, ?y14_474⟩) (hHeld) ?_
              case y14_474 =>
                intro w' hSw
                go_simp
                try with_reducible rfl
              refine wpAnyH_take' (i := 15) (v := ?v15_475) (some 57) rfl rfl (by kernel_rfl) (by kernel_rfl) (by kernel_rfl) (fun _ _ _ h => h) (Or.inl ⟨by kernel_rfl, ?y15_475⟩) (hHeld) ?_
              case y15_475 =>
                intro w' hSw
                go_simp
                try with_reducible rfl
              refine wpAnyH_take' (i := 16) (v := ?v16_476) (some 58) rfl rfl (by kernel_rfl) (by kernel_rfl) (by kernel_rfl) (fun _ _ _ h => h) (Or.inl ⟨by kernel_rfl, ?y16_476⟩) (hHeld) ?_
              case y16_476 =>
                intro w' hSw
                have r0' := (hSw.cell (p := ⟨g, k2 * 2, none⟩) lg).trans a0; have r1' := (hSw.cell (p := ⟨g, k2 * 2 + 1, none⟩) lg).trans a1; go_simp
                try with_reducible rfl
              refine wpAnyH_take' (i := 17) (v := ?v17_477) (some 59) rfl rfl (by kernel_rfl) (by kernel_rfl) (by kernel_rfl) (fun _ _ _ h => h) (Or.inl ⟨by kernel_rfl, ?y17_477⟩) (hHeld) ?_
              case y17_477 =>
                intro w' hSw
                have kc' := fun i => (hSw.cell (p := ⟨w.heap.size, i, none⟩) lc).trans (kc i); go_simp
                try with_reducible rfl
              refine wpAnyH_take' (i := 18) (v := ?v18_478) (some 60) rfl rfl (by kernel_rfl) (by kernel_rfl) (by kernel_rfl) (fun _ _ _ h => h) (Or.inl ⟨by kernel_rfl, ?y18_478⟩) (hHeld) ?_
              case y18_478 =>
                intro w' hSw
                go_simp
                try with_reducible rfl
              refine wpAnyH_take' (i := 19) (v := ?v19_479) (some 61) rfl rfl (by kernel_rfl) (by kernel_rfl) (by kernel_rfl) (fun _ _ _ h => h) (Or.inl ⟨by kernel_rfl, ?y19_479⟩) (hHeld) ?_
              case y19_479 =>
                intro w' hSw
                go_simp
                try with_reducible rfl
              refine wpAnyH_take' (i := 20) (v := ?v20_480) (some 62) rfl rfl (by kernel_rfl) (by kernel_rfl) (by kernel_rfl) (fun _ _ _ h => h) (Or.inl ⟨by kernel_rfl, ?y20_480⟩) (hHeld) ?_
              case y20_480 =>
                intro w' hSw
                have kh' := fun i => (hSw.cell (p := ⟨hb, i, none⟩) lh).trans (kh i); go_simp
                try with_reducible rfl
              refine wpAnyH_take' (i := 21) (v := ?v21_481) (some 63) rfl rfl (by kernel_rfl) (by kernel_rfl) (by kernel_rfl) (fun _ _ _ h => h) (Or.inl ⟨by kernel_rfl, ?y21_481⟩) (hHeld) ?_
              case y21_481 =>
                intro w' hSw
                go_simp
                try with_reducible rfl
              refine wpAnyH_take' (i := 22) (v := ?v22_482) (some 64) rfl rfl (by kernel_rfl) (by kernel_rfl) (by kernel_rfl) (fun _ _ _ h => h) (Or.inl ⟨by kernel_rfl, ?y22_482⟩) (hHeld) ?_
              case y22_482 =>
                intro w' hSw
                go_simp
                try with_reducible rfl
              refine wpAnyH_take' (i := 23) (v := ?v23_483) (some 65) rfl rfl (by kernel_rfl) (by kernel_rfl) (by kernel_rfl) (fun _ _ _ h => h) (Or.inl ⟨by kernel_rfl, ?y23_483⟩) (hHeld) ?_
              case y23_483 =>
                intro w' hSw
                have r0' := (hSw.cell (p := ⟨g, k * 2, none⟩) lg).trans b0; have r1' := (hSw.cell (p := ⟨g, k * 2 + 1, none⟩) lg).trans b1; go_simp
                try with_reducible rfl
              refine wpAnyH_ready (rs := [24]) (by kernel_rfl) (by simp) ?_
              refine AllReadyH.cons rfl (fun K hK => ?_) AllReadyH.nil
              rw [if_pos (by kernel_rfl)]
              go_simp
              go_at_call 38
              refine (order_calls xa xb _).mono ?_
              rintro e w1 ⟨rfl, hxb⟩
              refine hK.out _ _ (ext_trans hHeld hxb) (fun hS => ?_)
              refine wpAnyH_take' (i := 25) (v := ?v25_484) (some 67) rfl rfl (by kernel_rfl) (by kernel_rfl) (by kernel_rfl) (fun _ _ _ h => h) (Or.inl ⟨by kernel_rfl, ?y25_484⟩) (hS) ?_
              case y25_484 =>
                intro w' hSw
                go_simp
                try with_reducible rfl
              refine wpAnyH_take' (i := 26) (v := ?v26_485) (some 68) rfl rfl (by kernel_rfl) (by kernel_rfl) (by kernel_rfl) (fun _ _ _ h => h) (Or.inl ⟨by kernel_rfl, ?y26_485⟩) (hS) ?_
              case y26_485 =>
                intro w' hSw
                go_simp
                try with_reducible rfl
              refine wpAnyH_done (by kernel_rfl) ?_ _
              go_simp
              clear hHeld kc kh lc lh lg a0 a1 b0 b1
              go_upto_region 10 with fail
              refine wp_at ?_
              intro W10 hW
              have x10 : Ext wr W10 := by rw [hW]; repeat (first | exact ext_refl _ | assumption | refine ext_more' ?_ _ _ | refine ext_drew ?_ | refine ext_drewN ?_ _ | refine ext_alloc ?_ _)
              clear hW
              have hbc := at_ext hbc (by simp) x10
              have hbh := at_ext hbh (by simp) x10
              have hor := own_ext hor x10
              have hmr := hmr.ext x10
              have hcr := hcr.trans (Chg.ofExt x10)
              have HLE := Lib.hid (HLEX.out)
              have kkl : k < l.length := by have := HLE.out.2.1; have := HLN.out; omega
              have g1 : (((k : Nat) : Int)) < (l.length : Int) := by omega
              have g0 : (0 : Int) ≤ (((k : Nat) : Int)) := by omega
              have kc := hbc.1
              have kh := hbh.1
              have lc := at_lt hbc (by simp)
              have lh := at_lt hbh (by simp)
              have lg := own_lt hor
              obtain ⟨a0, a1⟩ := row_cells HLN.out hor (show j < l'.length by have := HLN.out; omega)
              obtain ⟨b0, b1⟩ := row_cells HLN.out hor (show k < l'.length by have := HLN.out; omega)
              obtain ⟨xa, hxa⟩ : ∃ x, x = at_ l' j := ⟨_, rfl⟩
              obtain ⟨xb, hxb⟩ : ∃ x, x = at_ l' k := ⟨_, rfl⟩
              rw [← hxa] at a0 a1
              rw [← hxb] at b0 b1
              by_cases h4 : Ahd (at_ l' j) (at_ l' k)
              · have h4' : ordI xa xb < 0 := (ordI_neg _ _).2 (by rw [hxa, hxb]; exact h4)
                have HDN := Lib.hid (down_done HPD.out HLE.out h4)
                clear h4 hxa hxb
                refine wp_region_held_drew (S := fun w' => Ext W10 w') (by kernel_rfl) (ext_drew (ext_refl _)) (fun hHeld => ?_)
                refine wpAnyH_take' (i := 0) (v := ?v0_486) (some 71) rfl rfl (by kernel_rfl) (by kernel_rfl) (by kernel_rfl) (fun _ _ _ h => h) (Or.inl ⟨by kernel_rfl, ?y0_486⟩) (hHeld) ?_
                case y0_486 =>
                  intro w' hSw
                  go_simp
                  try with_reducible rfl
                refine wpAnyH_take' (i := 1) (v := ?v1_487) (some 72) rfl rfl (by kernel_rfl) (by kernel_rfl) (by kernel_rfl) (fun _ _ _ h => h) (Or.inl ⟨by kernel_rfl, ?y1_487⟩) (hHeld) ?_
                case y1_487 =>
                  intro w' hSw
                  have kc' := fun i => (hSw.cell (p := ⟨w.heap.size, i, none⟩) lc).trans (kc i); go_simp
                  try with_reducible rfl
                refine wpAnyH_take' (i := 2) (v := ?v2_488) (some 73) rfl rfl (by kernel_rfl) (by kernel_rfl) (by kernel_rfl) (fun _ _ _ h => h) (Or.inl ⟨by kernel_rfl, ?y2_488⟩) (hHeld) ?_
                case y2_488 =>
                  intro w' hSw
                  go_simp
                  try with_reducible rfl
                refine wpAnyH_take' (i := 3) (v := ?v3_489) (some 74) rfl rfl (by kernel_rfl) (by kernel_rfl) (by kernel_rfl) (fun _ _ _ h => h) (Or.inl ⟨by kernel_rfl, ?y3_489⟩) (hHeld) ?_
                case y3_489 =>
                  intro w' hSw
                  go_simp
                  try with_reducible rfl
                refine wpAnyH_take' (i := 4) (v := ?v4_490) (some 75) rfl rfl (by kernel_rfl) (by kernel_rfl) (by kernel_rfl) (fun _ _ _ h => h) (Or.inl ⟨by kernel_rfl, ?y4_490⟩) (hHeld) ?_
                case y4_490 =>
                  intro w' hSw
                  have kh' := fun i => (hSw.cell (p := ⟨hb, i, none⟩) lh).trans (kh i); go_simp
                  try with_reducible rfl
                refine wpAnyH_take' (i := 5) (v := ?v5_491) (some 76) rfl rfl (by kernel_rfl) (by kernel_rfl) (by kernel_rfl) (fun _ _ _ h => h) (Or.inl ⟨by kernel_rfl, ?y5_491⟩) (hHeld) ?_
                case y5_491 =>
                  intro w' hSw
                  go_simp
                  try with_reducible rfl
                refine wpAnyH_take' (i := 6) (v := ?v6_492) (some 77) rfl rfl (by kernel_rfl) (by kernel_rfl) (by kernel_rfl) (fun _ _ _ h => h) (Or.inl ⟨by kernel_rfl, ?y6_492⟩) (hHeld) ?_
                case y6_492 =>
                  intro w' hSw
                  go_simp
                  try with_reducible rfl
                refine wpAnyH_take' (i := 7) (v := ?v7_493) (some 78) rfl rfl (by kernel_rfl) (by kernel_rfl) (by kernel_rfl) (fun _ _ _ h => h) (Or.inl ⟨by kernel_rfl, ?y7_493⟩) (hHeld) ?_
                case y7_493 =>
                  intro w' hSw
                  go_simp
                  try with_reducible rfl
                refine wpAnyH_take' (i := 8) (v := ?v8_494) (some 79) rfl rfl (by kernel_rfl) (by kernel_rfl) (by kernel_rfl) (fun _ _ _ h => h) (Or.inl ⟨by kernel_rfl, ?y8_494⟩) (hHeld) ?_
                case y8_494 =>
                  intro w' hSw
                  have kc' := fun i => (hSw.cell (p := ⟨w.heap.size, i, none⟩) lc).trans (kc i); go_simp
                  try with_reducible rfl
                refine wpAnyH_take' (i := 9) (v := ?v9_495) (some 80) rfl rfl (by kernel_rfl) (by kernel_rfl) (by kernel_rfl) (fun _ _ _ h => h) (Or.inl ⟨by kernel_rfl, ?y9_495⟩) (hHeld) ?_
                case y9_495 =>
                  intro w' hSw
                  go_simp
                  try with_reducible rfl
                refine wpAnyH_take' (i := 10) (v := ?v10_496) (some 81) rfl rfl (by kernel_rfl) (by kernel_rfl) (by kernel_rfl) (fun _ _ _ h => h) (Or.inl ⟨by kernel_rfl, ?y10_496⟩) (hHeld) ?_
                case y10_496 =>
                  intro w' hSw
                  go_simp
                  try with_reducible rfl
                refine wpAnyH_take' (i := 11) (v := ?v11_497) (some 82) rfl rfl (by kernel_rfl) (by kernel_rfl) (by kernel_rfl) (fun _ _ _ h => h) (Or.inl ⟨by kernel_rfl, ?y11_497⟩) (hHeld) ?_
                case y11_497 =>
                  intro w' hSw
                  have kh' := fun i => (hSw.cell (p := ⟨hb, i, none⟩) lh).trans (kh i); go_simp
                  try with_reducible rfl
                refine wpAnyH_take' (i := 12) (v := ?v12_498) (some 83) rfl rfl (by kernel_rfl) (by kernel_rfl) (by kernel_rfl) (fun _ _ _ h => h) (Or.inl ⟨by kernel_rfl, ?y12_498⟩) (hHeld) ?_
                case y12_498 =>
                  intro w' hSw
                  go_simp
                  try with_reducible rfl
                refine wpAnyH_take' (i := 13) (v := ?v13_499) (some 84) rfl rfl (by kernel_rfl) (by kernel_rfl) (by kernel_rfl) (fun _ _ _ h => h) (Or.inl ⟨by kernel_rfl, ?y13_499⟩) (hHeld) ?_
                case y13_499 =>
                  intro w' hSw
                  go_simp
                  try with_reducible rfl
                refine wpAnyH_take' (i := 14) (v := ?v14_500) (some 85) rfl rfl (by kernel_rfl) (by kernel_rfl) (by kernel_rfl) (fun _ _ _ h => h) (Or.inl ⟨by kernel_rfl, ?y14_500⟩) (hHeld) ?_
                case y14_500 =>
                  intro w' hSw
                  have r0' := (hSw.cell (p := ⟨g, j * 2, none⟩) lg).trans a0; have r1' := (hSw.cell (p := ⟨g, j * 2 + 1, none⟩) lg).trans a1; go_simp
                  try with_reducible rfl
                refine wpAnyH_take' (i := 15) (v := ?v15_501) (some 86) rfl rfl (by kernel_rfl) (by kernel_rfl) (by kernel_rfl) (fun _ _ _ h => h) (Or.inl ⟨by kernel_rfl, ?y15_501⟩) (hHeld) ?_
                case y15_501 =>
                  intro w' hSw
                  have kc' := fun i => (hSw.cell (p := ⟨w.heap.size, i, none⟩) lc).trans (kc i); go_simp
                  try with_reducible rfl
                refine wpAnyH_take' (i := 16) (v := ?v16_502) (some 87) rfl rfl (by kernel_rfl) (by kernel_rfl) (by kernel_rfl) (fun _ _ _ h => h) (Or.inl ⟨by kernel_rfl, ?y16_502⟩) (hHeld) ?_
                case y16_502 =>
                  intro w' hSw
                  go_simp
                  try with_reducible rfl
                refine wpAnyH_take' (i := 17) (v := ?v17_503) (some 88) rfl rfl (by kernel_rfl) (by kernel_rfl) (by kernel_rfl) (fun _ _ _ h => h) (Or.inl ⟨by kernel_rfl, ?y17_503⟩) (hHeld) ?_
                case y17_503 =>
                  intro w' hSw
                  go_simp
                  try with_reducible rfl
                refine wpAnyH_take' (i := 18) (v := ?v18_504) (some 89) rfl rfl (by kernel_rfl) (by kernel_rfl) (by kernel_rfl) (fun _ _ _ h => h) (Or.inl ⟨by kernel_rfl, ?y18_504⟩) (hHeld) ?_
                case y18_504 =>
                  intro w' hSw
                  have kh' := fun i => (hSw.cell (p := ⟨hb, i, none⟩) lh).trans (kh i); go_simp
                  try with_reducible rfl
                refine wpAnyH_take' (i := 19) (v := ?v19_505) (some 90) rfl rfl (by kernel_rfl) (by kernel_rfl) (by kernel_rfl) (fun _ _ _ h => h) (Or.inl ⟨by kernel_rfl, ?y19_505⟩) (hHeld) ?_
                case y19_505 =>
                  intro w' hSw
                  go_simp
                  try with_reducible rfl
                refine wpAnyH_take' (i := 20) (v := ?v20_506) (some 91) rfl rfl (by kernel_rfl) (by kernel_rfl) (by kernel_rfl) (fun _ _ _ h => h) (Or.inl ⟨by kernel_rfl, ?y20_506⟩) (hHeld) ?_
                case y20_506 =>
                  intro w' hSw
                  go_simp
                  try with_reducible rfl
                refine wpAnyH_take' (i := 21) (v := ?v21_507) (some 92) rfl rfl (by kernel_rfl) (by kernel_rfl) (by kernel_rfl) (fun _ _ _ h => h) (Or.inl ⟨by kernel_rfl, ?y21_507⟩) (hHeld) ?_
                case y21_507 =>
                  intro w' hSw
                  have r0' := (hSw.cell (p := ⟨g, k * 2, none⟩) lg).trans b0; have r1' := (hSw.cell (p := ⟨g, k * 2 + 1, none⟩) lg).trans b1; go_simp
                  try with_reducible rfl
                refine wpAnyH_ready (rs := [22]) (by kernel_rfl) (by simp) ?_
                refine AllReadyH.cons rfl (fun K hK => ?_) AllReadyH.nil
                rw [if_pos (by kernel_rfl)]
                go_simp
                go_at_call 38
                refine (order_calls xa xb _).mono ?_
                rintro e w1 ⟨rfl, hxb⟩
                refine hK.out _ _ (ext_trans hHeld hxb) (fun hS => ?_)
                refine wpAnyH_take' (i := 23) (v := ?v23_508) (some 94) rfl rfl (by kernel_rfl) (by kernel_rfl) (by kernel_rfl) (fun _ _ _ h => h) (Or.inl ⟨by kernel_rfl, ?y23_508⟩) (hS) ?_
                case y23_508 =>
                  intro w' hSw
                  go_simp
                  try with_reducible rfl
                refine wpAnyH_take' (i := 24) (v := ?v24_509) (some 95) rfl rfl (by kernel_rfl) (by kernel_rfl) (by kernel_rfl) (fun _ _ _ h => h) (Or.inl ⟨by kernel_rfl, ?y24_509⟩) (hS) ?_
                case y24_509 =>
                  intro w' hSw
                  go_simp
                  try with_reducible rfl
                refine wpAnyH_done (by kernel_rfl) ?_ _
                go_simp
                have hbh2 := at_ext hbh (by simp) hS
                have hor2 := own_ext hor hS
                have hmr2 := hmr.ext hS
                have hcr2 := hcr.trans (Chg.ofExt hS)
                clear hHeld
                go_wp2
                refine bodyPost_ret (results_none rfl _ _ _) rfl ?_
                exact ⟨rfl, hcr2, RightPost.mk hpm HDN.out hbh2 hor2 hmr2 HFT.out hkr⟩
              · have h4' : ¬ (ordI xa xb < 0) := fun h => h4 (by have := (ordI_neg _ _).1 h; rw [hxa, hxb] at this; exact this)
                have HDS := Lib.hid (down_step HPD.out (by have := HLN.out; omega) HLE.out HID.out h4)
                clear h4 hxa hxb
                refine wp_region_held_drew (S := fun w' => Ext W10 w') (by kernel_rfl) (ext_drew (ext_refl _)) (fun hHeld => ?_)
                refine wpAnyH_take' (i := 0) (v := ?v0_510) (some 71) rfl rfl (by kernel_rfl) (by kernel_rfl) (by kernel_rfl) (fun _ _ _ h => h) (Or.inl ⟨by kernel_rfl, ?y0_510⟩) (hHeld) ?_
                case y0_510 =>
                  intro w' hSw
                  go_simp
                  try with_reducible rfl
                refine wpAnyH_take' (i := 1) (v := ?v1_511) (some 72) rfl rfl (by kernel_rfl) (by kernel_rfl) (by kernel_rfl) (fun _ _ _ h => h) (Or.inl ⟨by kernel_rfl, ?y1_511⟩) (hHeld) ?_
                case y1_511 =>
                  intro w' hSw
                  have kc' := fun i => (hSw.cell (p := ⟨w.heap.size, i, none⟩) lc).trans (kc i); go_simp
                  try with_reducible rfl
                refine wpAnyH_take' (i := 2) (v := ?v2_512) (some 73) rfl rfl (by kernel_rfl) (by kernel_rfl) (by kernel_rfl) (fun _ _ _ h => h) (Or.inl ⟨by kernel_rfl, ?y2_512⟩) (hHeld) ?_
                case y2_512 =>
                  intro w' hSw
                  go_simp
                  try with_reducible rfl
                refine wpAnyH_take' (i := 3) (v := ?v3_513) (some 74) rfl rfl (by kernel_rfl) (by kernel_rfl) (by kernel_rfl) (fun _ _ _ h => h) (Or.inl ⟨by kernel_rfl, ?y3_513⟩) (hHeld) ?_
                case y3_513 =>
                  intro w' hSw
                  go_simp
                  try with_reducible rfl
                refine wpAnyH_take' (i := 4) (v := ?v4_514) (some 75) rfl rfl (by kernel_rfl) (by kernel_rfl) (by kernel_rfl) (fun _ _ _ h => h) (Or.inl ⟨by kernel_rfl, ?y4_514⟩) (hHeld) ?_
                case y4_514 =>
                  intro w' hSw
                  have kh' := fun i => (hSw.cell (p := ⟨hb, i, none⟩) lh).trans (kh i); go_simp
                  try with_reducible rfl
                refine wpAnyH_take' (i := 5) (v := ?v5_515) (some 76) rfl rfl (by kernel_rfl) (by kernel_rfl) (by kernel_rfl) (fun _ _ _ h => h) (Or.inl ⟨by kernel_rfl, ?y5_515⟩) (hHeld) ?_
                case y5_515 =>
                  intro w' hSw
                  go_simp
                  try with_reducible rfl
                refine wpAnyH_take' (i := 6) (v := ?v6_516) (some 77) rfl rfl (by kernel_rfl) (by kernel_rfl) (by kernel_rfl) (fun _ _ _ h => h) (Or.inl ⟨by kernel_rfl, ?y6_516⟩) (hHeld) ?_
                case y6_516 =>
                  intro w' hSw
                  go_simp
                  try with_reducible rfl
                refine wpAnyH_take' (i := 7) (v := ?v7_517) (some 78) rfl rfl (by kernel_rfl) (by kernel_rfl) (by kernel_rfl) (fun _ _ _ h => h) (Or.inl ⟨by kernel_rfl, ?y7_517⟩) (hHeld) ?_
                case y7_517 =>
                  intro w' hSw
                  go_simp
                  try with_reducible rfl
                refine wpAnyH_take' (i := 8) (v := ?v8_518) (some 79) rfl rfl (by kernel_rfl) (by kernel_rfl) (by kernel_rfl) (fun _ _ _ h => h) (Or.inl ⟨by kernel_rfl, ?y8_518⟩) (hHeld) ?_
                case y8_518 =>
                  intro w' hSw
                  have kc' := fun i => (hSw.cell (p := ⟨w.heap.size, i, none⟩) lc).trans (kc i); go_simp
                  try with_reducible rfl
                refine wpAnyH_take' (i := 9) (v := ?v9_519) (some 80) rfl rfl (by kernel_rfl) (by kernel_rfl) (by kernel_rfl) (fun _ _ _ h => h) (Or.inl ⟨by kernel_rfl, ?y9_519⟩) (hHeld) ?_
                case y9_519 =>
                  intro w' hSw
                  go_simp
                  try with_reducible rfl
                refine wpAnyH_take' (i := 10) (v := ?v10_520) (some 81) rfl rfl (by kernel_rfl) (by kernel_rfl) (by kernel_rfl) (fun _ _ _ h => h) (Or.inl ⟨by kernel_rfl, ?y10_520⟩) (hHeld) ?_
                case y10_520 =>
                  intro w' hSw
                  go_simp
                  try with_reducible rfl
                refine wpAnyH_take' (i := 11) (v := ?v11_521) (some 82) rfl rfl (by kernel_rfl) (by kernel_rfl) (by kernel_rfl) (fun _ _ _ h => h) (Or.inl ⟨by kernel_rfl, ?y11_521⟩) (hHeld) ?_
                case y11_521 =>
                  intro w' hSw
                  have kh' := fun i => (hSw.cell (p := ⟨hb, i, none⟩) lh).trans (kh i); go_simp
                  try with_reducible rfl
                refine wpAnyH_take' (i := 12) (v := ?v12_522) (some 83) rfl rfl (by kernel_rfl) (by kernel_rfl) (by kernel_rfl) (fun _ _ _ h => h) (Or.inl ⟨by kernel_rfl, ?y12_522⟩) (hHeld) ?_
                case y12_522 =>
                  intro w' hSw
                  go_simp
                  try with_reducible rfl
                refine wpAnyH_take' (i := 13) (v := ?v13_523) (some 84) rfl rfl (by kernel_rfl) (by kernel_rfl) (by kernel_rfl) (fun _ _ _ h => h) (Or.inl ⟨by kernel_rfl, ?y13_523⟩) (hHeld) ?_
                case y13_523 =>
                  intro w' hSw
                  go_simp
                  try with_reducible rfl
                refine wpAnyH_take' (i := 14) (v := ?v14_524) (some 85) rfl rfl (by kernel_rfl) (by kernel_rfl) (by kernel_rfl) (fun _ _ _ h => h) (Or.inl ⟨by kernel_rfl, ?y14_524⟩) (hHeld) ?_
                case y14_524 =>
                  intro w' hSw
                  have r0' := (hSw.cell (p := ⟨g, j * 2, none⟩) lg).trans a0; have r1' := (hSw.cell (p := ⟨g, j * 2 + 1, none⟩) lg).trans a1; go_simp
                  try with_reducible rfl
                refine wpAnyH_take' (i := 15) (v := ?v15_525) (some 86) rfl rfl (by kernel_rfl) (by kernel_rfl) (by kernel_rfl) (fun _ _ _ h => h) (Or.inl ⟨by kernel_rfl, ?y15_525⟩) (hHeld) ?_
                case y15_525 =>
                  intro w' hSw
                  have kc' := fun i => (hSw.cell (p := ⟨w.heap.size, i, none⟩) lc).trans (kc i); go_simp
                  try with_reducible rfl
                refine wpAnyH_take' (i := 16) (v := ?v16_526) (some 87) rfl rfl (by kernel_rfl) (by kernel_rfl) (by kernel_rfl) (fun _ _ _ h => h) (Or.inl ⟨by kernel_rfl, ?y16_526⟩) (hHeld) ?_
                case y16_526 =>
                  intro w' hSw
                  go_simp
                  try with_reducible rfl
                refine wpAnyH_take' (i := 17) (v := ?v17_527) (some 88) rfl rfl (by kernel_rfl) (by kernel_rfl) (by kernel_rfl) (fun _ _ _ h => h) (Or.inl ⟨by kernel_rfl, ?y17_527⟩) (hHeld) ?_
                case y17_527 =>
                  intro w' hSw
                  go_simp
                  try with_reducible rfl
                refine wpAnyH_take' (i := 18) (v := ?v18_528) (some 89) rfl rfl (by kernel_rfl) (by kernel_rfl) (by kernel_rfl) (fun _ _ _ h => h) (Or.inl ⟨by kernel_rfl, ?y18_528⟩) (hHeld) ?_
                case y18_528 =>
                  intro w' hSw
                  have kh' := fun i => (hSw.cell (p := ⟨hb, i, none⟩) lh).trans (kh i); go_simp
                  try with_reducible rfl
                refine wpAnyH_take' (i := 19) (v := ?v19_529) (some 90) rfl rfl (by kernel_rfl) (by kernel_rfl) (by kernel_rfl) (fun _ _ _ h => h) (Or.inl ⟨by kernel_rfl, ?y19_529⟩) (hHeld) ?_
                case y19_529 =>
                  intro w' hSw
                  go_simp
                  try with_reducible rfl
                refine wpAnyH_take' (i := 20) (v := ?v20_530) (some 91) rfl rfl (by kernel_rfl) (by kernel_rfl) (by kernel_rfl) (fun _ _ _ h => h) (Or.inl ⟨by kernel_rfl, ?y20_530⟩) (hHeld) ?_
                case y20_530 =>
                  intro w' hSw
                  go_simp
                  try with_reducible rfl
                refine wpAnyH_take' (i := 21) (v := ?v21_531) (some 92) rfl rfl (by kernel_rfl) (by kernel_rfl) (by kernel_rfl) (fun _ _ _ h => h) (Or.inl ⟨by kernel_rfl, ?y21_531⟩) (hHeld) ?_
                case y21_531 =>
                  intro w' hSw
                  have r0' := (hSw.cell (p := ⟨g, k * 2, none⟩) lg).trans b0; have r1' := (hSw.cell (p := ⟨g, k * 2 + 1, none⟩) lg).trans b1; go_simp
                  try with_reducible rfl
                refine wpAnyH_ready (rs := [22]) (by kernel_rfl) (by simp) ?_
                refine AllReadyH.cons rfl (fun K hK => ?_) AllReadyH.nil
                rw [if_pos (by kernel_rfl)]
                go_simp
                go_at_call 38
                refine (order_calls xa xb _).mono ?_
                rintro e w1 ⟨rfl, hxb⟩
                refine hK.out _ _ (ext_trans hHeld hxb) (fun hS => ?_)
                refine wpAnyH_take' (i := 23) (v := ?v23_532) (some 94) rfl rfl (by kernel_rfl) (by kernel_rfl) (by kernel_rfl) (fun _ _ _ h => h) (Or.inl ⟨by kernel_rfl, ?y23_532⟩) (hS) ?_
                case y23_532 =>
                  intro w' hSw
                  go_simp
                  try with_reducible rfl
                refine wpAnyH_take' (i := 24) (v := ?v24_533) (some 95) rfl rfl (by kernel_rfl) (by kernel_rfl) (by kernel_rfl) (fun _ _ _ h => h) (Or.inl ⟨by kernel_rfl, ?y24_533⟩) (hS) ?_
                case y24_533 =>
                  intro w' hSw
                  go_simp
                  try with_reducible rfl
                refine wpAnyH_done (by kernel_rfl) ?_ _
                go_simp
                have hbc2 := at_ext hbc (by simp) hS
                have hbh2 := at_ext hbh (by simp) hS
                have hor2 := own_ext hor hS
                have hmr2 := hmr.ext hS
                have hcr2 := hcr.trans (Chg.ofExt hS)
                have HLJ := Lib.hid (show j < l'.length by have := HLN.out; omega)
                have HLK := Lib.hid (show k < l'.length by have := HLN.out; omega)
                have HL5 := Lib.hid (show l'.length ≤ 100000 by have := HLN.out; omega)
                have HSW := Lib.hid (fun w' (y1 : At w' w.heap.size _) (y2 : At w' hb #[.slice (some ⟨g, 0, none⟩) l'.length cap, .map (some mb), .int .i64 most]) y3 y4 => swap_calls l' M' j k w.heap.size hb mb g cap most w' y1 y2 y3 y4 HFT.out HID.out HLJ.out HLK.out HL5.out hd1 hd2 hd3 hd4 hd5)
                rw [HLN.out] at HSW
                clear hHeld kc kh lc lh lg a0 a1 b0 b1
                go_wp2_with (go_at_call 46; refine (HSW.out _ hbc2 hbh2 hor2 hmr2).mono ?_; rintro e w5 ⟨rfl, hc5, hh5, ho5, hm5⟩)
                have hnb : ¬ (w.heap.size = g ∨ w.heap.size = mb) := by omega
                go_roundg (l.length - k)
                case measure => have := HLE.out.1; omega
                case rel => exact ⟨k, swp l' j k, _, rfl, by omega, hcr2.trans hc5, at_chg hbc2 (by simp) hc5 hnb, hh5, ho5, hm5, fits_swp HFT.out HID.out HLJ.out HLK.out, keys_put (keys_put hkr), (swp_perm HLJ.out HLK.out).trans hpm, HDS.out, kkl⟩
          · have n1 : ¬ ((k2 : Int) < (l.length : Int)) := by omega
            have HLEX := Lib.hid (show Least l' j k from least0 HK.out (by have := HLN.out; omega) (by have := HLN.out; have := HK2.out; omega))
            go_upto_region 8 with fail
            refine wp_region_held_drew (S := fun w' => Ext wr w') (by kernel_rfl) (ext_drew (ext_refl _)) (fun hHeld => ?_)
            refine wpAnyH_take' (i := 0) (v := ?v0_534) (some 42) rfl rfl (by kernel_rfl) (by kernel_rfl) (by kernel_rfl) (fun _ _ _ h => h) (Or.inl ⟨by kernel_rfl, ?y0_534⟩) (hHeld) ?_
            case y0_534 =>
              intro w' hSw
              go_simp
              try with_reducible rfl
            refine wpAnyH_take' (i := 1) (v := ?v1_535) (some 43) rfl rfl (by kernel_rfl) (by kernel_rfl) (by kernel_rfl) (fun _ _ _ h => h) (Or.inl ⟨by kernel_rfl, ?y1_535⟩) (hHeld) ?_
            case y1_535 =>
              intro w' hSw
              go_simp
              try with_reducible rfl
            refine wpAnyH_take' (i := 2) (v := ?v2_536) (some 44) rfl rfl (by kernel_rfl) (by kernel_rfl) (by kernel_rfl) (fun _ _ _ h => h) (Or.inl ⟨by kernel_rfl, ?y2_536⟩) (hHeld) ?_
            case y2_536 =>
              intro w' hSw
              have kc' := fun i => (hSw.cell (p := ⟨w.heap.size, i, none⟩) lc).trans (kc i); go_simp
              try with_reducible rfl
            refine wpAnyH_take' (i := 3) (v := ?v3_537) (some 45) rfl rfl (by kernel_rfl) (by kernel_rfl) (by kernel_rfl) (fun _ _ _ h => h) (Or.inl ⟨by kernel_rfl, ?y3_537⟩) (hHeld) ?_
            case y3_537 =>
              intro w' hSw
              go_simp
              try with_reducible rfl
            refine wpAnyH_take' (i := 4) (v := ?v4_538) (some 46) rfl rfl (by kernel_rfl) (by kernel_rfl) (by kernel_rfl) (fun _ _ _ h => h) (Or.inl ⟨by kernel_rfl, ?y4_538⟩) (hHeld) ?_
            case y4_538 =>
              intro w' hSw
              go_simp
              try with_reducible rfl
            refine wpAnyH_take' (i := 5) (v := ?v5_539) (some 47) rfl rfl (by kernel_rfl) (by kernel_rfl) (by kernel_rfl) (fun _ _ _ h => h) (Or.inl ⟨by kernel_rfl, ?y5_539⟩) (hHeld) ?_
            case y5_539 =>
              intro w' hSw
              have kh' := fun i => (hSw.cell (p := ⟨hb, i, none⟩) lh).trans (kh i); go_simp
              try with_reducible rfl
            refine wpAnyH_take' (i := 6) (v := ?v6_540) (some 48) rfl rfl (by kernel_rfl) (by kernel_rfl) (by kernel_rfl) (fun _ _ _ h => h) (Or.inl ⟨by kernel_rfl, ?y6_540⟩) (hHeld) ?_
            case y6_540 =>
              intro w' hSw
              go_simp
              try with_reducible rfl
            refine wpAnyH_take' (i := 7) (v := ?v7_541) (some 49) rfl rfl (by kernel_rfl) (by kernel_rfl) (by kernel_rfl) (fun _ _ _ h => h) (Or.inl ⟨by kernel_rfl, ?y7_541⟩) (hHeld) ?_
            case y7_541 =>
              intro w' hSw
              go_simp
              try with_reducible rfl
            refine wpAnyH_take' (i := 8) (v := ?v8_542) (some 50) rfl rfl (by kernel_rfl) (by kernel_rfl) (by kernel_rfl) (fun _ _ _ h => h) (Or.inl ⟨by kernel_rfl, ?y8_542⟩) (hHeld) ?_
            case y8_542 =>
              intro w' hSw
              go_simp
              try with_reducible rfl
            refine wpAnyH_take' (i := 9) (v := undef) (some 51) rfl rfl (by kernel_rfl) (by kernel_rfl) (by kernel_rfl) (fun _ _ _ h => h) (Or.inr ⟨by kernel_rfl, rfl⟩) (hHeld) ?_
            refine wpAnyH_take' (i := 10) (v := undef) (some 52) rfl rfl (by kernel_rfl) (by kernel_rfl) (by kernel_rfl) (fun _ _ _ h => h) (Or.inr ⟨by kernel_rfl, rfl⟩) (hHeld) ?_
            refine wpAnyH_take' (i := 11) (v := undef) (some 53) rfl rfl (by kernel_rfl) (by kernel_rfl) (by kernel_rfl) (fun _ _ _ h => h) (Or.inr ⟨by kernel_rfl, rfl⟩) (hHeld) ?_
            refine wpAnyH_take' (i := 12) (v := undef) (some 54) rfl rfl (by kernel_rfl) (by kernel_rfl) (by kernel_rfl) (fun _ _ _ h => h) (Or.inr ⟨by kernel_rfl, rfl⟩) (hHeld) ?_
            refine wpAnyH_take' (i := 13) (v := undef) (some 55) rfl rfl (by kernel_rfl) (by kernel_rfl) (by kernel_rfl) (fun _ _ _ h => h) (Or.inr ⟨by kernel_rfl, rfl⟩) (hHeld) ?_
            refine wpAnyH_take' (i := 14) (v := undef) (some 56) rfl rfl (by kernel_rfl) (by kernel_rfl) (by kernel_rfl) (fun _ _ _ h => h) (Or.inr ⟨by kernel_rfl, rfl⟩) (hHeld) ?_
            refine wpAnyH_take' (i := 15) (v := undef) (some 57) rfl rfl (by kernel_rfl) (by kernel_rfl) (by kernel_rfl) (fun _ _ _ h => h) (Or.inr ⟨by kernel_rfl, rfl⟩) (hHeld) ?_
            refine wpAnyH_take' (i := 16) (v := undef) (some 58) rfl rfl (by kernel_rfl) (by kernel_rfl) (by kernel_rfl) (fun _ _ _ h => h) (Or.inr ⟨by kernel_rfl, rfl⟩) (hHeld) ?_
            refine wpAnyH_take' (i := 17) (v := undef) (some 59) rfl rfl (by kernel_rfl) (by kernel_rfl) (by kernel_rfl) (fun _ _ _ h => h) (Or.inr ⟨by kernel_rfl, rfl⟩) (hHeld) ?_
            refine wpAnyH_take' (i := 18) (v := undef) (some 60) rfl rfl (by kernel_rfl) (by kernel_rfl) (by kernel_rfl) (fun _ _ _ h => h) (Or.inr ⟨by kernel_rfl, rfl⟩) (hHeld) ?_
            refine wpAnyH_take' (i := 19) (v := undef) (some 61) rfl rfl (by kernel_rfl) (by kernel_rfl) (by kernel_rfl) (fun _ _ _ h => h) (Or.inr ⟨by kernel_rfl, rfl⟩) (hHeld) ?_
            refine wpAnyH_take' (i := 20) (v := undef) (some 62) rfl rfl (by kernel_rfl) (by kernel_rfl) (by kernel_rfl) (fun _ _ _ h => h) (Or.inr ⟨by kernel_rfl, rfl⟩) (hHeld) ?_
            refine wpAnyH_take' (i := 21) (v := undef) (some 63) rfl rfl (by kernel_rfl) (by kernel_rfl) (by kernel_rfl) (fun _ _ _ h => h) (Or.inr ⟨by kernel_rfl, rfl⟩) (hHeld) ?_
            refine wpAnyH_take' (i := 22) (v := undef) (some 64) rfl rfl (by kernel_rfl) (by kernel_rfl) (by kernel_rfl) (fun _ _ _ h => h) (Or.inr ⟨by kernel_rfl, rfl⟩) (hHeld) ?_
            refine wpAnyH_take' (i := 23) (v := undef) (some 65) rfl rfl (by kernel_rfl) (by kernel_rfl) (by kernel_rfl) (fun _ _ _ h => h) (Or.inr ⟨by kernel_rfl, rfl⟩) (hHeld) ?_
            refine wpAnyH_take' (i := 24) (v := undef) (some 66) rfl rfl (by kernel_rfl) (by kernel_rfl) (by kernel_rfl) (fun _ _ _ h => h) (Or.inr ⟨by kernel_rfl, rfl⟩) (hHeld) ?_
            refine wpAnyH_take' (i := 25) (v := undef) (some 67) rfl rfl (by kernel_rfl) (by kernel_rfl) (by kernel_rfl) (fun _ _ _ h => h) (Or.inr ⟨by kernel_rfl, rfl⟩) (hHeld) ?_
            refine wpAnyH_take' (i := 26) (v := ?v26_560) (some 68) rfl rfl (by kernel_rfl) (by kernel_rfl) (by kernel_rfl) (fun _ _ _ h => h) (Or.inl ⟨by kernel_rfl, ?y26_560⟩) (hHeld) ?_
            case y26_560 =>
              intro w' hSw
              go_simp
              try with_reducible rfl
            refine wpAnyH_done (by kernel_rfl) ?_ _
            go_simp
            clear hHeld kc kh lc lh lg
            go_upto_region 10 with fail
            refine wp_at ?_
            intro W10 hW
            have x10 : Ext wr W10 := by rw [hW]; repeat (first | exact ext_refl _ | assumption | refine ext_more' ?_ _ _ | refine ext_drew ?_ | refine ext_drewN ?_ _ | refine ext_alloc ?_ _)
            clear hW
            have hbc := at_ext hbc (by simp) x10
            have hbh := at_ext hbh (by simp) x10
            have hor := own_ext hor x10
            have hmr := hmr.ext x10
            have hcr := hcr.trans (Chg.ofExt x10)
            have HLE := Lib.hid (HLEX.out)
            have kkl : k < l.length := by have := HLE.out.2.1; have := HLN.out; omega
            have g1 : (((k : Nat) : Int)) < (l.length : Int) := by omega
            have g0 : (0 : Int) ≤ (((k : Nat) : Int)) := by omega
            have kc := hbc.1
            have kh := hbh.1
            have lc := at_lt hbc (by simp)
            have lh := at_lt hbh (by simp)
            have lg := own_lt hor
            obtain ⟨a0, a1⟩ := row_cells HLN.out hor (show j < l'.length by have := HLN.out; omega)
            obtain ⟨b0, b1⟩ := row_cells HLN.out hor (show k < l'.length by have := HLN.out; omega)
            obtain ⟨xa, hxa⟩ : ∃ x, x = at_ l' j := ⟨_, rfl⟩
            obtain ⟨xb, hxb⟩ : ∃ x, x = at_ l' k := ⟨_, rfl⟩
            rw [← hxa] at a0 a1
            rw [← hxb] at b0 b1
            by_cases h4 : Ahd (at_ l' j) (at_ l' k)
            · have h4' : ordI xa xb < 0 := (ordI_neg _ _).2 (by rw [hxa, hxb]; exact h4)
              have HDN := Lib.hid (down_done HPD.out HLE.out h4)
              clear h4 hxa hxb
              refine wp_region_held_drew (S := fun w' => Ext W10 w') (by kernel_rfl) (ext_drew (ext_refl _)) (fun hHeld => ?_)
              refine wpAnyH_take' (i := 0) (v := ?v0_561) (some 71) rfl rfl (by kernel_rfl) (by kernel_rfl) (by kernel_rfl) (fun _ _ _ h => h) (Or.inl ⟨by kernel_rfl, ?y0_561⟩) (hHeld) ?_
              case y0_561 =>
                intro w' hSw
                go_simp
                try with_reducible rfl
              refine wpAnyH_take' (i := 1) (v := ?v1_562) (some 72) rfl rfl (by kernel_rfl) (by kernel_rfl) (by kernel_rfl) (fun _ _ _ h => h) (Or.inl ⟨by kernel_rfl, ?y1_562⟩) (hHeld) ?_
              case y1_562 =>
                intro w' hSw
                have kc' := fun i => (hSw.cell (p := ⟨w.heap.size, i, none⟩) lc).trans (kc i); go_simp
                try with_reducible rfl
              refine wpAnyH_take' (i := 2) (v := ?v2_563) (some 73) rfl rfl (by kernel_rfl) (by kernel_rfl) (by kernel_rfl) (fun _ _ _ h => h) (Or.inl ⟨by kernel_rfl, ?y2_563⟩) (hHeld) ?_
              case y2_563 =>
                intro w' hSw
                go_simp
                try with_reducible rfl
              refine wpAnyH_take' (i := 3) (v := ?v3_564) (some 74) rfl rfl (by kernel_rfl) (by kernel_rfl) (by kernel_rfl) (fun _ _ _ h => h) (Or.inl ⟨by kernel_rfl, ?y3_564⟩) (hHeld) ?_
              case y3_564 =>
                intro w' hSw
                go_simp
                try with_reducible rfl
              refine wpAnyH_take' (i := 4) (v := ?v4_565) (some 75) rfl rfl (by kernel_rfl) (by kernel_rfl) (by kernel_rfl) (fun _ _ _ h => h) (Or.inl ⟨by kernel_rfl, ?y4_565⟩) (hHeld) ?_
              case y4_565 =>
                intro w' hSw
                have kh' := fun i => (hSw.cell (p := ⟨hb, i, none⟩) lh).trans (kh i); go_simp
                try with_reducible rfl
              refine wpAnyH_take' (i := 5) (v := ?v5_566) (some 76) rfl rfl (by kernel_rfl) (by kernel_rfl) (by kernel_rfl) (fun _ _ _ h => h) (Or.inl ⟨by kernel_rfl, ?y5_566⟩) (hHeld) ?_
              case y5_566 =>
                intro w' hSw
                go_simp
                try with_reducible rfl
              refine wpAnyH_take' (i := 6) (v := ?v6_567) (some 77) rfl rfl (by kernel_rfl) (by kernel_rfl) (by kernel_rfl) (fun _ _ _ h => h) (Or.inl ⟨by kernel_rfl, ?y6_567⟩) (hHeld) ?_
              case y6_567 =>
                intro w' hSw
                go_simp
                try with_reducible rfl
              refine wpAnyH_take' (i := 7) (v := ?v7_568) (some 78) rfl rfl (by kernel_rfl) (by kernel_rfl) (by kernel_rfl) (fun _ _ _ h => h) (Or.inl ⟨by kernel_rfl, ?y7_568⟩) (hHeld) ?_
              case y7_568 =>
                intro w' hSw
                go_simp
                try with_reducible rfl
              refine wpAnyH_take' (i := 8) (v := ?v8_569) (some 79) rfl rfl (by kernel_rfl) (by kernel_rfl) (by kernel_rfl) (fun _ _ _ h => h) (Or.inl ⟨by kernel_rfl, ?y8_569⟩) (hHeld) ?_
              case y8_569 =>
                intro w' hSw
                have kc' := fun i => (hSw.cell (p := ⟨w.heap.size, i, none⟩) lc).trans (kc i); go_simp
                try with_reducible rfl
              refine wpAnyH_take' (i := 9) (v := ?v9_570) (some 80) rfl rfl (by kernel_rfl) (by kernel_rfl) (by kernel_rfl) (fun _ _ _ h => h) (Or.inl ⟨by kernel_rfl, ?y9_570⟩) (hHeld) ?_
              case y9_570 =>
                intro w' hSw
                go_simp
                try with_reducible rfl
              refine wpAnyH_take' (i := 10) (v := ?v10_571) (some 81) rfl rfl (by kernel_rfl) (by kernel_rfl) (by kernel_rfl) (fun _ _ _ h => h) (Or.inl ⟨by kernel_rfl, ?y10_571⟩) (hHeld) ?_
              case y10_571 =>
                intro w' hSw
                go_simp
                try with_reducible rfl
              refine wpAnyH_take' (i := 11) (v := ?v11_572) (some 82) rfl rfl (by kernel_rfl) (by kernel_rfl) (by kernel_rfl) (fun _ _ _ h => h) (Or.inl ⟨by kernel_rfl, ?y11_572⟩) (hHeld) ?_
              case y11_572 =>
                intro w' hSw
                have kh' := fun i => (hSw.cell (p := ⟨hb, i, none⟩) lh).trans (kh i); go_simp
                try with_reducible rfl
              refine wpAnyH_take' (i := 12) (v := ?v12_573) (some 83) rfl rfl (by kernel_rfl) (by kernel_rfl) (by kernel_rfl) (fun _ _ _ h => h) (Or.inl ⟨by kernel_rfl, ?y12_573⟩) (hHeld) ?_
              case y12_573 =>
                intro w' hSw
                go_simp
                try with_reducible rfl
              refine wpAnyH_take' (i := 13) (v := ?v13_574) (some 84) rfl rfl (by kernel_rfl) (by kernel_rfl) (by kernel_rfl) (fun _ _ _ h => h) (Or.inl ⟨by kernel_rfl, ?y13_574⟩) (hHeld) ?_
              case y13_574 =>
                intro w' hSw
                go_simp
                try with_reducible rfl
              refine wpAnyH_take' (i := 14) (v := ?v14_575) (some 85) rfl rfl (by kernel_rfl) (by kernel_rfl) (by kernel_rfl) (fun _ _ _ h => h) (Or.inl ⟨by kernel_rfl, ?y14_575⟩) (hHeld) ?_
              case y14_575 =>
                intro w' hSw
                have r0' := (hSw.cell (p := ⟨g, j * 2, none⟩) lg).trans a0; have r1' := (hSw.cell (p := ⟨g, j * 2 + 1, none⟩) lg).trans a1; go_simp
                try with_reducible rfl
              refine wpAnyH_take' (i := 15) (v := ?v15_576) (some 86) rfl rfl (by kernel_rfl) (by kernel_rfl) (by kernel_rfl) (fun _ _ _ h => h) (Or.inl ⟨by kernel_rfl, ?y15_576⟩) (hHeld) ?_
              case y15_576 =>
                intro w' hSw
                have kc' := fun i => (hSw.cell (p := ⟨w.heap.size, i, none⟩) lc).trans (kc i); go_simp
                try with_reducible rfl
              refine wpAnyH_take' (i := 16) (v := ?v16_577) (some 87) rfl rfl (by kernel_rfl) (by kernel_rfl) (by kernel_rfl) (fun _ _ _ h => h) (Or.inl ⟨by kernel_rfl, ?y16_577⟩) (hHeld) ?_
              case y16_577 =>
                intro w' hSw
                go_simp
                try with_reducible rfl
              refine wpAnyH_take' (i := 17) (v := ?v17_578) (some 88) rfl rfl (by kernel_rfl) (by kernel_rfl) (by kernel_rfl) (fun _ _ _ h => h) (Or.inl ⟨by kernel_rfl, ?y17_578⟩) (hHeld) ?_
              case y17_578 =>
                intro w' hSw
                go_simp
                try with_reducible rfl
              refine wpAnyH_take' (i := 18) (v := ?v18_579) (some 89) rfl rfl (by kernel_rfl) (by kernel_rfl) (by kernel_rfl) (fun _ _ _ h => h) (Or.inl ⟨by kernel_rfl, ?y18_579⟩) (hHeld) ?_
              case y18_579 =>
                intro w' hSw
                have kh' := fun i => (hSw.cell (p := ⟨hb, i, none⟩) lh).trans (kh i); go_simp
                try with_reducible rfl
              refine wpAnyH_take' (i := 19) (v := ?v19_580) (some 90) rfl rfl (by kernel_rfl) (by kernel_rfl) (by kernel_rfl) (fun _ _ _ h => h) (Or.inl ⟨by kernel_rfl, ?y19_580⟩) (hHeld) ?_
              case y19_580 =>
                intro w' hSw
                go_simp
                try with_reducible rfl
              refine wpAnyH_take' (i := 20) (v := ?v20_581) (some 91) rfl rfl (by kernel_rfl) (by kernel_rfl) (by kernel_rfl) (fun _ _ _ h => h) (Or.inl ⟨by kernel_rfl, ?y20_581⟩) (hHeld) ?_
              case y20_581 =>
                intro w' hSw
                go_simp
                try with_reducible rfl
              refine wpAnyH_take' (i := 21) (v := ?v21_582) (some 92) rfl rfl (by kernel_rfl) (by kernel_rfl) (by kernel_rfl) (fun _ _ _ h => h) (Or.inl ⟨by kernel_rfl, ?y21_582⟩) (hHeld) ?_
              case y21_582 =>
                intro w' hSw
                have r0' := (hSw.cell (p := ⟨g, k * 2, none⟩) lg).trans b0; have r1' := (hSw.cell (p := ⟨g, k * 2 + 1, none⟩) lg).trans b1; go_simp
                try with_reducible rfl
              refine wpAnyH_ready (rs := [22]) (by kernel_rfl) (by simp) ?_
              refine AllReadyH.cons rfl (fun K hK => ?_) AllReadyH.nil
              rw [if_pos (by kernel_rfl)]
              go_simp
              go_at_call 38
              refine (order_calls xa xb _).mono ?_
              rintro e w1 ⟨rfl, hxb⟩
              refine hK.out _ _ (ext_trans hHeld hxb) (fun hS => ?_)
              refine wpAnyH_take' (i := 23) (v := ?v23_583) (some 94) rfl rfl (by kernel_rfl) (by kernel_rfl) (by kernel_rfl) (fun _ _ _ h => h) (Or.inl ⟨by kernel_rfl, ?y23_583⟩) (hS) ?_
              case y23_583 =>
                intro w' hSw
                go_simp
                try with_reducible rfl
              refine wpAnyH_take' (i := 24) (v := ?v24_584) (some 95) rfl rfl (by kernel_rfl) (by kernel_rfl) (by kernel_rfl) (fun _ _ _ h => h) (Or.inl ⟨by kernel_rfl, ?y24_584⟩) (hS) ?_
              case y24_584 =>
                intro w' hSw
                go_simp
                try with_reducible rfl
              refine wpAnyH_done (by kernel_rfl) ?_ _
              go_simp
              have hbh2 := at_ext hbh (by simp) hS
              have hor2 := own_ext hor hS
              have hmr2 := hmr.ext hS
              have hcr2 := hcr.trans (Chg.ofExt hS)
              clear hHeld
              go_wp2
              refine bodyPost_ret (results_none rfl _ _ _) rfl ?_
              exact ⟨rfl, hcr2, RightPost.mk hpm HDN.out hbh2 hor2 hmr2 HFT.out hkr⟩
            · have h4' : ¬ (ordI xa xb < 0) := fun h => h4 (by have := (ordI_neg _ _).1 h; rw [hxa, hxb] at this; exact this)
              have HDS := Lib.hid (down_step HPD.out (by have := HLN.out; omega) HLE.out HID.out h4)
              clear h4 hxa hxb
              refine wp_region_held_drew (S := fun w' => Ext W10 w') (by kernel_rfl) (ext_drew (ext_refl _)) (fun hHeld => ?_)
              refine wpAnyH_take' (i := 0) (v := ?v0_585) (some 71) rfl rfl (by kernel_rfl) (by kernel_rfl) (by kernel_rfl) (fun _ _ _ h => h) (Or.inl ⟨by kernel_rfl, ?y0_585⟩) (hHeld) ?_
              case y0_585 =>
                intro w' hSw
                go_simp
                try with_reducible rfl
              refine wpAnyH_take' (i := 1) (v := ?v1_586) (some 72) rfl rfl (by kernel_rfl) (by kernel_rfl) (by kernel_rfl) (fun _ _ _ h => h) (Or.inl ⟨by kernel_rfl, ?y1_586⟩) (hHeld) ?_
              case y1_586 =>
                intro w' hSw
                have kc' := fun i => (hSw.cell (p := ⟨w.heap.size, i, none⟩) lc).trans (kc i); go_simp
                try with_reducible rfl
              refine wpAnyH_take' (i := 2) (v := ?v2_587) (some 73) rfl rfl (by kernel_rfl) (by kernel_rfl) (by kernel_rfl) (fun _ _ _ h => h) (Or.inl ⟨by kernel_rfl, ?y2_587⟩) (hHeld) ?_
              case y2_587 =>
                intro w' hSw
                go_simp
                try with_reducible rfl
              refine wpAnyH_take' (i := 3) (v := ?v3_588) (some 74) rfl rfl (by kernel_rfl) (by kernel_rfl) (by kernel_rfl) (fun _ _ _ h => h) (Or.inl ⟨by kernel_rfl, ?y3_588⟩) (hHeld) ?_
              case y3_588 =>
                intro w' hSw
                go_simp
                try with_reducible rfl
              refine wpAnyH_take' (i := 4) (v := ?v4_589) (some 75) rfl rfl (by kernel_rfl) (by kernel_rfl) (by kernel_rfl) (fun _ _ _ h => h) (Or.inl ⟨by kernel_rfl, ?y4_589⟩) (hHeld) ?_
              case y4_589 =>
                intro w' hSw
                have kh' := fun i => (hSw.cell (p := ⟨hb, i, none⟩) lh).trans (kh i); go_simp
                try with_reducible rfl
              refine wpAnyH_take' (i := 5) (v := ?v5_590) (some 76) rfl rfl (by kernel_rfl) (by kernel_rfl) (by kernel_rfl) (fun _ _ _ h => h) (Or.inl ⟨by kernel_rfl, ?y5_590⟩) (hHeld) ?_
              case y5_590 =>
                intro w' hSw
                go_simp
                try with_reducible rfl
              refine wpAnyH_take' (i := 6) (v := ?v6_591) (some 77) rfl rfl (by kernel_rfl) (by kernel_rfl) (by kernel_rfl) (fun _ _ _ h => h) (Or.inl ⟨by kernel_rfl, ?y6_591⟩) (hHeld) ?_
              case y6_591 =>
                intro w' hSw
                go_simp
                try with_reducible rfl
              refine wpAnyH_take' (i := 7) (v := ?v7_592) (some 78) rfl rfl (by kernel_rfl) (by kernel_rfl) (by kernel_rfl) (fun _ _ _ h => h) (Or.inl ⟨by kernel_rfl, ?y7_592⟩) (hHeld) ?_
              case y7_592 =>
                intro w' hSw
                go_simp
                try with_reducible rfl
              refine wpAnyH_take' (i := 8) (v := ?v8_593) (some 79) rfl rfl (by kernel_rfl) (by kernel_rfl) (by kernel_rfl) (fun _ _ _ h => h) (Or.inl ⟨by kernel_rfl, ?y8_593⟩) (hHeld) ?_
              case y8_593 =>
                intro w' hSw
                have kc' := fun i => (hSw.cell (p := ⟨w.heap.size, i, none⟩) lc).trans (kc i); go_simp
                try with_reducible rfl
              refine wpAnyH_take' (i := 9) (v := ?v9_594) (some 80) rfl rfl (by kernel_rfl) (by kernel_rfl) (by kernel_rfl) (fun _ _ _ h => h) (Or.inl ⟨by kernel_rfl, ?y9_594⟩) (hHeld) ?_
              case y9_594 =>
                intro w' hSw
                go_simp
                try with_reducible rfl
              refine wpAnyH_take' (i := 10) (v := ?v10_595) (some 81) rfl rfl (by kernel_rfl) (by kernel_rfl) (by kernel_rfl) (fun _ _ _ h => h) (Or.inl ⟨by kernel_rfl, ?y10_595⟩) (hHeld) ?_
              case y10_595 =>
                intro w' hSw
                go_simp
                try with_reducible rfl
              refine wpAnyH_take' (i := 11) (v := ?v11_596) (some 82) rfl rfl (by kernel_rfl) (by kernel_rfl) (by kernel_rfl) (fun _ _ _ h => h) (Or.inl ⟨by kernel_rfl, ?y11_596⟩) (hHeld) ?_
              case y11_596 =>
                intro w' hSw
                have kh' := fun i => (hSw.cell (p := ⟨hb, i, none⟩) lh).trans (kh i); go_simp
                try with_reducible rfl
              refine wpAnyH_take' (i := 12) (v := ?v12_597) (some 83) rfl rfl (by kernel_rfl) (by kernel_rfl) (by kernel_rfl) (fun _ _ _ h => h) (Or.inl ⟨by kernel_rfl, ?y12_597⟩) (hHeld) ?_
              case y12_597 =>
                intro w' hSw
                go_simp
                try with_reducible rfl
              refine wpAnyH_take' (i := 13) (v := ?v13_598) (some 84) rfl rfl (by kernel_rfl) (by kernel_rfl) (by kernel_rfl) (fun _ _ _ h => h) (Or.inl ⟨by kernel_rfl, ?y13_598⟩) (hHeld) ?_
              case y13_598 =>
                intro w' hSw
                go_simp
                try with_reducible rfl
              refine wpAnyH_take' (i := 14) (v := ?v14_599) (some 85) rfl rfl (by kernel_rfl) (by kernel_rfl) (by kernel_rfl) (fun _ _ _ h => h) (Or.inl ⟨by kernel_rfl, ?y14_599⟩) (hHeld) ?_
              case y14_599 =>
                intro w' hSw
                have r0' := (hSw.cell (p := ⟨g, j * 2, none⟩) lg).trans a0; have r1' := (hSw.cell (p := ⟨g, j * 2 + 1, none⟩) lg).trans a1; go_simp
                try with_reducible rfl
              refine wpAnyH_take' (i := 15) (v := ?v15_600) (some 86) rfl rfl (by kernel_rfl) (by kernel_rfl) (by kernel_rfl) (fun _ _ _ h => h) (Or.inl ⟨by kernel_rfl, ?y15_600⟩) (hHeld) ?_
              case y15_600 =>
                intro w' hSw
                have kc' := fun i => (hSw.cell (p := ⟨w.heap.size, i, none⟩) lc).trans (kc i); go_simp
                try with_reducible rfl
              refine wpAnyH_take' (i := 16) (v := ?v16_601) (some 87) rfl rfl (by kernel_rfl) (by kernel_rfl) (by kernel_rfl) (fun _ _ _ h => h) (Or.inl ⟨by kernel_rfl, ?y16_601⟩) (hHeld) ?_
              case y16_601 =>
                intro w' hSw
                go_simp
                try with_reducible rfl
              refine wpAnyH_take' (i := 17) (v := ?v17_602) (some 88) rfl rfl (by kernel_rfl) (by kernel_rfl) (by kernel_rfl) (fun _ _ _ h => h) (Or.inl ⟨by kernel_rfl, ?y17_602⟩) (hHeld) ?_
              case y17_602 =>
                intro w' hSw
                go_simp
                try with_reducible rfl
              refine wpAnyH_take' (i := 18) (v := ?v18_603) (some 89) rfl rfl (by kernel_rfl) (by kernel_rfl) (by kernel_rfl) (fun _ _ _ h => h) (Or.inl ⟨by kernel_rfl, ?y18_603⟩) (hHeld) ?_
              case y18_603 =>
                intro w' hSw
                have kh' := fun i => (hSw.cell (p := ⟨hb, i, none⟩) lh).trans (kh i); go_simp
                try with_reducible rfl
              refine wpAnyH_take' (i := 19) (v := ?v19_604) (some 90) rfl rfl (by kernel_rfl) (by kernel_rfl) (by kernel_rfl) (fun _ _ _ h => h) (Or.inl ⟨by kernel_rfl, ?y19_604⟩) (hHeld) ?_
              case y19_604 =>
                intro w' hSw
                go_simp
                try with_reducible rfl
              refine wpAnyH_take' (i := 20) (v := ?v20_605) (some 91) rfl rfl (by kernel_rfl) (by kernel_rfl) (by kernel_rfl) (fun _ _ _ h => h) (Or.inl ⟨by kernel_rfl, ?y20_605⟩) (hHeld) ?_
              case y20_605 =>
                intro w' hSw
                go_simp
                try with_reducible rfl
              refine wpAnyH_take' (i := 21) (v := ?v21_606) (some 92) rfl rfl (by kernel_rfl) (by kernel_rfl) (by kernel_rfl) (fun _ _ _ h => h) (Or.inl ⟨by kernel_rfl, ?y21_606⟩) (hHeld) ?_
              case y21_606 =>
                intro w' hSw
                have r0' := (hSw.cell (p := ⟨g, k * 2, none⟩) lg).trans b0; have r1' := (hSw.cell (p := ⟨g, k * 2 + 1, none⟩) lg).trans b1; go_simp
                try with_reducible rfl
              refine wpAnyH_ready (rs := [22]) (by kernel_rfl) (by simp) ?_
              refine AllReadyH.cons rfl (fun K hK => ?_) AllReadyH.nil
              rw [if_pos (by kernel_rfl)]
              go_simp
              go_at_call 38
              refine (order_calls xa xb _).mono ?_
              rintro e w1 ⟨rfl, hxb⟩
              refine hK.out _ _ (ext_trans hHeld hxb) (fun hS => ?_)
              refine wpAnyH_take' (i := 23) (v := ?v23_607) (some 94) rfl rfl (by kernel_rfl) (by kernel_rfl) (by kernel_rfl) (fun _ _ _ h => h) (Or.inl ⟨by kernel_rfl, ?y23_607⟩) (hS) ?_
              case y23_607 =>
                intro w' hSw
                go_simp
                try with_reducible rfl
              refine wpAnyH_take' (i := 24) (v := ?v24_608) (some 95) rfl rfl (by kernel_rfl) (by kernel_rfl) (by kernel_rfl) (fun _ _ _ h => h) (Or.inl ⟨by kernel_rfl, ?y24_608⟩) (hS) ?_
              case y24_608 =>
                intro w' hSw
                go_simp
                try with_reducible rfl
              refine wpAnyH_done (by kernel_rfl) ?_ _
              go_simp
              have hbc2 := at_ext hbc (by simp) hS
              have hbh2 := at_ext hbh (by simp) hS
              have hor2 := own_ext hor hS
              have hmr2 := hmr.ext hS
              have hcr2 := hcr.trans (Chg.ofExt hS)
              have HLJ := Lib.hid (show j < l'.length by have := HLN.out; omega)
              have HLK := Lib.hid (show k < l'.length by have := HLN.out; omega)
              have HL5 := Lib.hid (show l'.length ≤ 100000 by have := HLN.out; omega)
              have HSW := Lib.hid (fun w' (y1 : At w' w.heap.size _) (y2 : At w' hb #[.slice (some ⟨g, 0, none⟩) l'.length cap, .map (some mb), .int .i64 most]) y3 y4 => swap_calls l' M' j k w.heap.size hb mb g cap most w' y1 y2 y3 y4 HFT.out HID.out HLJ.out HLK.out HL5.out hd1 hd2 hd3 hd4 hd5)
              rw [HLN.out] at HSW
              clear hHeld kc kh lc lh lg a0 a1 b0 b1
              go_wp2_with (go_at_call 46; refine (HSW.out _ hbc2 hbh2 hor2 hmr2).mono ?_; rintro e w5 ⟨rfl, hc5, hh5, ho5, hm5⟩)
              have hnb : ¬ (w.heap.size = g ∨ w.heap.size = mb) := by omega
              go_roundg (l.length - k)
              case measure => have := HLE.out.1; omega
              case rel => exact ⟨k, swp l' j k, _, rfl, by omega, hcr2.trans hc5, at_chg hbc2 (by simp) hc5 hnb, hh5, ho5, hm5, fits_swp HFT.out HID.out HLJ.out HLK.out, keys_put (keys_put hkr), (swp_perm HLJ.out HLK.out).trans hpm, HDS.out, kkl⟩
end Go.Proofs.Ytkicofagjebnjaa

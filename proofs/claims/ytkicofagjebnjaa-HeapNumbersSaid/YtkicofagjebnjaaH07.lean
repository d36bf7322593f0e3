/- Pop, Drop. -/
import Derived.Test.YtkicofagjebnjaaG07b
namespace Go.Proofs.Ytkicofagjebnjaa
open Go.RowKit
set_option linter.unusedVariables false
set_option linter.unusedSimpArgs false

def drE (o : Option Tmr) : Int := match o with | some _ => 0 | none => 40
def drV (o : Option Tmr) : Value := .tuple #[.agg #[.int .i64 (o.getD ⟨0, 0⟩).due, .int .i64 (o.getD ⟨0, 0⟩).id], .int .i64 (drE o)]
theorem HpS.ext {w w' : World} {hb mb g cap : Nat} {most : Int} {l : List Tmr} {M : List (Int × Value)} (h : HpS w hb mb g cap most l M) (x : Ext w w') : HpS w' hb mb g cap most l M :=
  ⟨at_ext h.box (by simp) x, own_ext h.row x, h.map.ext x, h.fits, h.keys⟩
theorem HpV.s {w : World} {hb mb g cap : Nat} {most : Int} {l : List Tmr} {M : List (Int × Value)} (h : HpV w hb mb (some ⟨g, 0, none⟩) cap most l M) : HpS w hb mb g cap most l M := ⟨h.box, h.row, h.map, h.fits, h.keys⟩
/-- What take makes of a heap. -/
theorem take_post {w w1 w8 W9 : World} {hb mb g cap i : Nat} {most : Int} {l S : List Tmr} {rg : Option Nat} (ha : HA w hb mb rg S most) (hrg : rg = some g) (hpm : l.Perm S) (hids : Ids l) (hi : i < l.length) (hx : Ext w w1) (hc8 : Chg (fun q => q = hb ∨ q = g ∨ q = mb) w1 w8) (ht : TakePost w8 hb mb g cap most l i) (hc9 : Chg (fun q => q = w.heap.size) w8 W9) (hb0 : hb < w.heap.size) (hm0 : mb < w.heap.size) (hg0 : g < w.heap.size) :
    HPost w W9 hb mb rg (wo (at_ l i).id S) most := by
  obtain ⟨_, a1, a2, a3, a4, a5, a6, a7, a8⟩ := ha
  obtain ⟨l', M', q1, q2, q3⟩ := ht
  have q4 := q3.chg hc9 (show ¬ (hb = w.heap.size) by omega) (show ¬ (mb = w.heap.size) by omega) (show ¬ (g = w.heap.size) by omega)
  have hpr := rep_wo hpm hids hi
  have hle : (wo (at_ l i).id S).length ≤ S.length := List.length_filter_le _ _
  refine ⟨rg, ⟨⟨_, _, l', M', q4.v, q2, q1.trans hpr, by rw [hrg]; rfl⟩, wo_srt a1, ids_wo a2, a3, a4, a5, by omega, a7, a8⟩, ?_, .inl rfl⟩
  refine chg_in (chg_in (Chg.ofExt hx) hc8 (fun k _ h => ?_)) hc9 (fun k hk h => by omega)
  rcases h with h | h | h
  · exact .inl h
  · exact .inr (.inr (by rw [hrg, h]))
  · exact .inr (.inl h)
set_option maxRecDepth 100000 in
set_option maxHeartbeats 4000000 in
theorem drop_calls (dd : Int) (hb mb : Nat) (rg : Option Nat) (S : List Tmr) (most : Int) (w : World) (ha : HA w hb mb rg S most) :
    Calls Try.prog 12 #[.pointer (some ⟨hb, 0, none⟩), .int .i64 dd] w fun e w' => e = .returned (drV (fnd dd S)) ∧ HPost w w' hb mb rg (wo dd S) most := by
  have HAA := Lib.hid ha
  obtain ⟨⟨ms, cap, l, M, hv, hp, hpm, hrg⟩, hsrt, hids, hd2, hrh, hrm, hlen, hm1, hm2⟩ := ha
  have hll := hpm.length_eq
  have hln : l.length ≤ 65536 := by omega
  have hcap : l.length ≤ cap := (cap_of_own (n := 2) hv.row).1
  have HIL := Lib.hid (hids.perm hpm.symm)
  have HLL := Lib.hid hll
  have HV := Lib.hid hv; have HP := Lib.hid hp; have HPM := Lib.hid hpm; have HRG := Lib.hid hrg
  have HSR := Lib.hid hsrt; have HIS := Lib.hid hids
  have hb0 : hb < w.heap.size := at_lt hv.box (by simp)
  have hm0 : mb < w.heap.size := hv.map.lt
  have HBX := Lib.hid hv.box
  clear hv hp hpm hrg hids hsrt hll
  have HRH := Lib.hid hrh; have HRM := Lib.hid hrm
  have HFD := Lib.hid (fnd_perm (i := dd) HIL.out HPM.out)
  have HFN := Lib.hid (HV.out.fits.none (d := dd))
  have HTH := Lib.hid (HV.out.fits.there (d := dd))
  go_enter Try.func12, Try.ntmps12
  go_upto_region 1 with fail
  refine wp_at ?_
  intro W0 hW
  have x_W0 : Ext w W0 := by rw [hW]; repeat (first | exact ext_refl _ | assumption | refine ext_more' ?_ _ _ | refine ext_drew ?_ | refine ext_drewN ?_ _ | refine ext_alloc ?_ _)
  have br := at_new (by rw [hW]; repeat (first | exact ext_refl _ | assumption | refine ext_more' ?_ _ _ | refine ext_drew ?_ | refine ext_drewN ?_ _ | refine ext_alloc ?_ _) : Ext (World.alloc w (.cells _ _)) W0)
  clear hW
  have HBH := Lib.hid (at_ext HBX.out (by simp) x_W0)
  have kh := HBH.out.1
  have lh := at_lt HBH.out (by simp)
  go_upto_region 3 with (go_at_call 33; refine (made_calls hb mb _ (at_lt (at_ext HBH.out (by simp) (by repeat (first | exact ext_refl _ | assumption | refine ext_more' ?_ _ _ | refine ext_drew ?_ | refine ext_drewN ?_ _ | refine ext_alloc ?_ _))) (by simp)) (by rw [(at_ext HBH.out (by simp) (by repeat (first | exact ext_refl _ | assumption | refine ext_more' ?_ _ _ | refine ext_drew ?_ | refine ext_drewN ?_ _ | refine ext_alloc ?_ _))).1]; rfl)).mono ?_; rintro e w1 ⟨rfl, hx⟩; obtain ⟨r, d, rfl⟩ := ext_form hx; clear hx)
  refine wp_at ?_
  intro W1 hW
  have x_W1 : Ext W0 W1 := by rw [hW]; repeat (first | exact ext_refl _ | assumption | refine ext_more' ?_ _ _ | refine ext_drew ?_ | refine ext_drewN ?_ _ | refine ext_alloc ?_ _)
  clear hW
  have br := at_ext br (by simp) x_W1
  have hx := ext_trans x_W0 x_W1
  have HBH1 := Lib.hid (at_ext HBH.out (by simp) x_W1)
  clear x_W0 x_W1 kh lh
  have kh := HBH1.out.1
  have lh := at_lt HBH1.out (by simp)
  have hlk := (run_mlook (P := Try.prog) Try.underlying49 Try.underlying3 (HV.out.map.ext hx).mp dd (int0z7 W1)).2
  rcases HTH.out with ⟨i, hi, hid, hmk⟩ | ⟨hno, hmk⟩
  · have HF := Lib.hid (show fnd dd S = some (at_ l i) by rw [← HFD.out]; exact fnd_some HIL.out (at_mem hi) hid)
    rw [hmk] at hlk
    simp only [Option.getD_some, Option.isSome_some] at hlk
    obtain ⟨g, rfl⟩ := own_some (by omega) HV.out.row
    have hrg2 : rg = some g := HRG.out.symm
    have hg0 : g < w.heap.size := own_lt HV.out.row
    have hg1 : g ≠ hb := fun e => HRH.out (by rw [hrg2, e])
    have hg2 : g ≠ mb := fun e => HRM.out (by rw [hrg2, e])
    have HR2 := Lib.hid hrg2
    obtain ⟨x, hxx⟩ : ∃ x, x = at_ l i := ⟨_, rfl⟩
    have HXX := Lib.hid hxx.symm
    rw [← hxx] at HF hid
    have HID := Lib.hid hid
    have HI9 := Lib.hid hi
    have HS := Lib.hid (HV.out.s.ext hx)
    clear hxx hmk hi hrg2 hid
    go_upto_region 6 with fail
    refine wp_at ?_
    intro W2 hW
    have x_W2 : Ext W1 W2 := by rw [hW]; repeat (first | exact ext_refl _ | assumption | refine ext_more' ?_ _ _ | refine ext_drew ?_ | refine ext_drewN ?_ _ | refine ext_alloc ?_ _)
    clear hW
    have br := at_ext br (by simp) x_W2
    have hx2 := ext_trans hx x_W2
    have HS2 := Lib.hid (HS.out.ext x_W2)
    clear HS kh lh hlk x_W2 hx
    go_wp2_with (go_at_call 34; (with_reducible refine (take_calls l M i hb mb g cap most _ (HS2.out.ext ?lt1) HP.out HIL.out HI9.out (by omega) hg1 hd2 hg2).mono ?_); (case lt1 => repeat (first | exact ext_refl _ | assumption | refine ext_more' ?_ _ _ | refine ext_drew ?_ | refine ext_drewN ?_ _ | refine ext_alloc ?_ _)); rw [HXX.out]; rintro e w8 ⟨rfl, hc8, ht8⟩; have br8 := at_chg br (by simp) hc8 (show ¬ (w.heap.size = hb ∨ w.heap.size = g ∨ w.heap.size = mb) by omega); have kbr := br8.1; have fbr := br8.2; have lbr := at_lt br8 (by simp))
    refine post_at ?_
    intro W9 hW
    have b9 : At W9 w.heap.size #[.int .i64 x.due, .int .i64 x.id] := by rw [hW]; exact at_put (at_put br8 (by simp) rfl) (by simp) rfl
    have hc9 : Chg (fun q => q = w.heap.size) w8 W9 := by rw [hW]; exact chg_put (chg_put (Chg.refl _ _))
    clear hW kbr fbr lbr
    have k_br := b9.1
    refine bodyPost_ret (by simp [results, Try.results12, go_sem, k_br]; rfl) rfl ?_
    exact ⟨by rw [HF.out]; rfl, by have := take_post HAA.out HR2.out HPM.out HIL.out HI9.out hx2 hc8 ht8 hc9 hb0 hm0 hg0; rw [HXX.out, HID.out] at this; exact this⟩
  · have HF := Lib.hid (show fnd dd S = none by rw [← HFD.out]; exact HFN.out.1 hmk)
    rw [hmk] at hlk
    simp only [Option.getD_none, Option.isSome_none] at hlk
    clear hmk hno
    have kbr := br.1
    have fbr := br.2
    have lbr := at_lt br (by simp)
    go_wp2
    refine post_at ?_
    intro W9 hW
    have b9 : At W9 w.heap.size #[.int .i64 (0), .int .i64 (0)] := by rw [hW]; exact at_put (at_put br (by simp) rfl) (by simp) rfl
    have x9 : Ext w W9 := by rw [hW]; exact ext_set (ext_set hx (Nat.le_refl _) _) (Nat.le_refl _) _
    clear hW kbr fbr lbr
    have k_br := b9.1
    refine bodyPost_ret (by simp [results, Try.results12, go_sem, k_br]; rfl) rfl ?_
    exact ⟨by rw [HF.out]; rfl, by rw [wo_none (fnd_none.1 HF.out)]; exact HPost.same HAA.out x9⟩
set_option maxRecDepth 100000 in
set_option maxHeartbeats 4000000 in
theorem pop_calls (hb mb : Nat) (rg : Option Nat) (S : List Tmr) (most : Int) (w : World) (ha : HA w hb mb rg S most) :
    Calls Try.prog 13 #[.pointer (some ⟨hb, 0, none⟩)] w fun e w' => e = .returned (otV S.head?) ∧ HPost w w' hb mb rg S.tail most := by
  have HAA := Lib.hid ha
  obtain ⟨⟨ms, cap, l, M, hv, hp, hpm, hrg⟩, hsrt, hids, hd2, hrh, hrm, hlen, hm1, hm2⟩ := ha
  have hll := hpm.length_eq
  have hln : l.length ≤ 65536 := by omega
  have hcap : l.length ≤ cap := (cap_of_own (n := 2) hv.row).1
  have HIL := Lib.hid (hids.perm hpm.symm)
  have HLL := Lib.hid hll
  have HV := Lib.hid hv; have HP := Lib.hid hp; have HPM := Lib.hid hpm; have HRG := Lib.hid hrg
  have HSR := Lib.hid hsrt; have HIS := Lib.hid hids
  have hb0 : hb < w.heap.size := at_lt hv.box (by simp)
  have hm0 : mb < w.heap.size := hv.map.lt
  have HBX := Lib.hid hv.box
  clear hv hp hpm hrg hids hsrt hll
  have HRH := Lib.hid hrh; have HRM := Lib.hid hrm
  go_enter Try.func13, Try.ntmps13
  go_upto_region 1 with fail
  refine wp_at ?_
  intro W0 hW
  have x_W0 : Ext w W0 := by rw [hW]; repeat (first | exact ext_refl _ | assumption | refine ext_more' ?_ _ _ | refine ext_drew ?_ | refine ext_drewN ?_ _ | refine ext_alloc ?_ _)
  have br := at_new (by rw [hW]; repeat (first | exact ext_refl _ | assumption | refine ext_more' ?_ _ _ | refine ext_drew ?_ | refine ext_drewN ?_ _ | refine ext_alloc ?_ _) : Ext (World.alloc w (.cells _ _)) W0)
  clear hW
  have HBH := Lib.hid (at_ext HBX.out (by simp) x_W0)
  have kh := HBH.out.1
  have lh := at_lt HBH.out (by simp)
  by_cases h0 : l.length = 0
  · have hS : S = [] := List.eq_nil_of_length_eq_zero (by have := HLL.out; omega)
    have HS := Lib.hid hS
    have g0 : ((l.length : Int) == 0) = true := by rw [beq_iff_eq]; omega
    clear h0 hS
    go_upto_region 2 with (go_at_call 33; refine (made_calls hb mb _ (at_lt (at_ext HBH.out (by simp) (by repeat (first | exact ext_refl _ | assumption | refine ext_more' ?_ _ _ | refine ext_drew ?_ | refine ext_drewN ?_ _ | refine ext_alloc ?_ _))) (by simp)) (by rw [(at_ext HBH.out (by simp) (by repeat (first | exact ext_refl _ | assumption | refine ext_more' ?_ _ _ | refine ext_drew ?_ | refine ext_drewN ?_ _ | refine ext_alloc ?_ _))).1]; rfl)).mono ?_; rintro e w1 ⟨rfl, hx⟩; obtain ⟨r, d, rfl⟩ := ext_form hx; clear hx)
    refine wp_at ?_
    intro W1 hW
    have x_W1 : Ext W0 W1 := by rw [hW]; repeat (first | exact ext_refl _ | assumption | refine ext_more' ?_ _ _ | refine ext_drew ?_ | refine ext_drewN ?_ _ | refine ext_alloc ?_ _)
    clear hW
    have br := at_ext br (by simp) x_W1
    have hx := ext_trans x_W0 x_W1
    clear x_W0 x_W1 kh lh
    have kbr := br.1
    have fbr := br.2
    have lbr := at_lt br (by simp)
    go_wp2
    refine post_at ?_
    intro W9 hW
    have b9 : At W9 w.heap.size #[.int .i64 (0), .int .i64 (0)] := by rw [hW]; exact at_put (at_put br (by simp) rfl) (by simp) rfl
    have x9 : Ext w W9 := by rw [hW]; exact ext_set (ext_set hx (Nat.le_refl _) _) (Nat.le_refl _) _
    clear hW kbr fbr lbr
    have k_br := b9.1
    refine bodyPost_ret (by simp [results, Try.results13, go_sem, k_br]; rfl) rfl ?_
    exact ⟨by rw [HS.out]; rfl, by rw [show S.tail = S by rw [HS.out]; rfl]; exact HPost.same HAA.out x9⟩
  have hl0 : 0 < l.length := by omega
  have g0 : ((l.length : Int) == 0) = false := by rw [beq_eq_false_iff_ne]; omega
  have hmn := hp_min HP.out HPM.out HSR.out hl0
  have HI9 := Lib.hid hl0
  obtain ⟨g, rfl⟩ := own_some hl0 HV.out.row
  have hrg2 : rg = some g := HRG.out.symm
  have hg0 : g < w.heap.size := own_lt HV.out.row
  have hg1 : g ≠ hb := fun e => HRH.out (by rw [hrg2, e])
  have hg2 : g ≠ mb := fun e => HRM.out (by rw [hrg2, e])
  have HR2 := Lib.hid hrg2
  obtain ⟨x, hxx⟩ : ∃ x, x = at_ l 0 := ⟨_, rfl⟩
  have HXX := Lib.hid hxx.symm
  rw [← hxx] at hmn
  have HM := Lib.hid hmn
  have HWO := Lib.hid (show wo x.id S = S.tail by
    have h1 := HIS.out
    rw [HM.out.2] at h1
    have h2 := wo_head h1
    rw [← HM.out.2] at h2; exact h2)
  clear h0 hxx hrg2 hl0 hmn
  go_upto_region 3 with (go_at_call 33; refine (made_calls hb mb _ (at_lt (at_ext HBH.out (by simp) (by repeat (first | exact ext_refl _ | assumption | refine ext_more' ?_ _ _ | refine ext_drew ?_ | refine ext_drewN ?_ _ | refine ext_alloc ?_ _))) (by simp)) (by rw [(at_ext HBH.out (by simp) (by repeat (first | exact ext_refl _ | assumption | refine ext_more' ?_ _ _ | refine ext_drew ?_ | refine ext_drewN ?_ _ | refine ext_alloc ?_ _))).1]; rfl)).mono ?_; rintro e w1 ⟨rfl, hx⟩; obtain ⟨r, d, rfl⟩ := ext_form hx; clear hx)
  refine wp_at ?_
  intro W1 hW
  have x_W1 : Ext W0 W1 := by rw [hW]; repeat (first | exact ext_refl _ | assumption | refine ext_more' ?_ _ _ | refine ext_drew ?_ | refine ext_drewN ?_ _ | refine ext_alloc ?_ _)
  clear hW
  have br := at_ext br (by simp) x_W1
  have hx2 := ext_trans x_W0 x_W1
  have HS2 := Lib.hid (HV.out.s.ext hx2)
  clear x_W0 x_W1 kh lh
  have HTK := Lib.hid (fun w' (hs : HpS w' hb mb g cap most l M) => show Calls Try.prog 34 #[.pointer (some ⟨hb, 0, none⟩), .int .i64 0] w' _ from take_calls l M 0 hb mb g cap most w' hs HP.out HIL.out HI9.out (by omega) hg1 hd2 hg2)
  go_wp2_with (go_at_call 34; (with_reducible refine (HTK.out _ (HS2.out.ext ?lt1)).mono ?_); (case lt1 => repeat (first | exact ext_refl _ | assumption | refine ext_more' ?_ _ _ | refine ext_drew ?_ | refine ext_drewN ?_ _ | refine ext_alloc ?_ _)); rw [HXX.out]; rintro e w8 ⟨rfl, hc8, ht8⟩; have br8 := at_chg br (by simp) hc8 (show ¬ (w.heap.size = hb ∨ w.heap.size = g ∨ w.heap.size = mb) by omega); have kbr := br8.1; have fbr := br8.2; have lbr := at_lt br8 (by simp))
  refine post_at ?_
  intro W9 hW
  have b9 : At W9 w.heap.size #[.int .i64 x.due, .int .i64 x.id] := by rw [hW]; exact at_put (at_put br8 (by simp) rfl) (by simp) rfl
  have hc9 : Chg (fun q => q = w.heap.size) w8 W9 := by rw [hW]; exact chg_put (chg_put (Chg.refl _ _))
  clear hW kbr fbr lbr
  have k_br := b9.1
  refine bodyPost_ret (by simp [results, Try.results13, go_sem, k_br]; rfl) rfl ?_
  exact ⟨by rw [HM.out.1]; rfl, by have := take_post HAA.out HR2.out HPM.out HIL.out HI9.out hx2 hc8 ht8 hc9 hb0 hm0 hg0; rw [HXX.out, HWO.out] at this; exact this⟩
end Go.Proofs.Ytkicofagjebnjaa

/- Get. -/
import Derived.Test.YtkicofagjebnjaaG07
namespace Go.Proofs.Ytkicofagjebnjaa
open Go.RowKit
set_option linter.unusedVariables false
set_option linter.unusedSimpArgs false

set_option maxRecDepth 100000 in
set_option maxHeartbeats 4000000 in
theorem get_calls (dd : Int) (hb mb : Nat) (rg : Option Nat) (S : List Tmr) (most : Int) (w : World) (ha : HA w hb mb rg S most) : Calls Try.prog 25 #[.pointer (some ⟨hb, 0, none⟩), .int .i64 dd] w fun e w' => e = .returned (otV (fnd dd S)) ∧ Ext w w' := by
  have HAA := Lib.hid ha
  obtain ⟨⟨ms, cap, l, M, hv, hp, hpm, hrg⟩, hsrt, hids, hd2, hrh, hrm, hlen, hm1, hm2⟩ := ha
  have hll := hpm.length_eq
  have hln : l.length ≤ 65536 := by omega
  have hcap : l.length ≤ cap := (cap_of_own (n := 2) hv.row).1
  have HIL := Lib.hid (hids.perm hpm.symm)
  have HLL := Lib.hid hll
  have HV := Lib.hid hv; have HP := Lib.hid hp; have HPM := Lib.hid hpm; have HRG := Lib.hid hrg
  have HSR := Lib.hid hsrt; have HIS := Lib.hid hids
  have hb0 : hb < w.heap.size := at_lt hv.box (by simp)
  have hm0 : mb < w.heap.size := hv.map.lt
  have HBX := Lib.hid hv.box
  clear hv hp hpm hrg hids hsrt hll
  have HFD := Lib.hid (fnd_perm (i := dd) HIL.out HPM.out)
  have HFN := Lib.hid (HV.out.fits.none (d := dd))
  have HTH := Lib.hid (HV.out.fits.there (d := dd))
  go_enter Try.func25, Try.ntmps25
  go_upto_region 1 with fail
  refine wp_at ?_
  intro W0 hW
  have x_W0 : Ext w W0 := by rw [hW]; repeat (first | exact ext_refl _ | assumption | refine ext_more' ?_ _ _ | refine ext_drew ?_ | refine ext_drewN ?_ _ | refine ext_alloc ?_ _)
  have br := at_new (by rw [hW]; repeat (first | exact ext_refl _ | assumption | refine ext_more' ?_ _ _ | refine ext_drew ?_ | refine ext_drewN ?_ _ | refine ext_alloc ?_ _) : Ext (World.alloc w (.cells _ _)) W0)
  clear hW
  have HBH := Lib.hid (at_ext HBX.out (by simp) x_W0)
  have kh := HBH.out.1
  have lh := at_lt HBH.out (by simp)
  go_upto_region 3 with (go_at_call 33; refine (made_calls hb mb _ (at_lt (at_ext HBH.out (by simp) (by repeat (first | exact ext_refl _ | assumption | refine ext_more' ?_ _ _ | refine ext_drew ?_ | refine ext_drewN ?_ _ | refine ext_alloc ?_ _))) (by simp)) (by rw [(at_ext HBH.out (by simp) (by repeat (first | exact ext_refl _ | assumption | refine ext_more' ?_ _ _ | refine ext_drew ?_ | refine ext_drewN ?_ _ | refine ext_alloc ?_ _))).1]; rfl)).mono ?_; rintro e w1 ⟨rfl, hx⟩; obtain ⟨r, d, rfl⟩ := ext_form hx; clear hx)
  refine wp_at ?_
  intro W1 hW
  have x_W1 : Ext W0 W1 := by rw [hW]; repeat (first | exact ext_refl _ | assumption | refine ext_more' ?_ _ _ | refine ext_drew ?_ | refine ext_drewN ?_ _ | refine ext_alloc ?_ _)
  clear hW
  have br := at_ext br (by simp) x_W1
  have hx := ext_trans x_W0 x_W1
  have HBH1 := Lib.hid (at_ext HBH.out (by simp) x_W1)
  clear x_W0 x_W1 kh lh
  have kh := HBH1.out.1
  have lh := at_lt HBH1.out (by simp)
  have hlk := (run_mlook (P := Try.prog) Try.underlying49 Try.underlying3 (HV.out.map.ext hx).mp dd (int0z7 W1)).2
  rcases HTH.out with ⟨i, hi, hid, hmk⟩ | ⟨hno, hmk⟩
  · have HF := Lib.hid (show fnd dd S = some (at_ l i) by rw [← HFD.out]; exact fnd_some HIL.out (at_mem hi) hid)
    rw [hmk] at hlk
    simp only [Option.getD_some, Option.isSome_some] at hlk
    obtain ⟨g, rfl⟩ := own_some (by omega) HV.out.row
    obtain ⟨x, hxx⟩ : ∃ x, x = at_ l i := ⟨_, rfl⟩
    rw [← hxx] at HF
    obtain ⟨d0, d1⟩ := row_cells rfl (own_ext HV.out.row hx) hi
    rw [← hxx] at d0 d1
    have lg := own_lt (own_ext HV.out.row hx)
    have i0 : (0 : Int) ≤ (i : Int) := by omega
    have i1 : (i : Int) < (l.length : Int) := by omega
    have hne : w.heap.size ≠ g := by have := own_lt HV.out.row; omega
    clear hxx hid hmk hi
    have kbr := br.1
    have fbr := br.2
    have lbr := at_lt br (by simp)
    go_wp2
    refine post_at ?_
    intro W9 hW
    have b9 : At W9 w.heap.size #[.int .i64 (x.due), .int .i64 (x.id)] := by rw [hW]; exact at_put (at_put br (by simp) rfl) (by simp) rfl
    have x9 : Ext w W9 := by rw [hW]; exact ext_set (ext_set hx (Nat.le_refl _) _) (Nat.le_refl _) _
    clear hW kbr fbr lbr
    have k_br := b9.1
    refine bodyPost_ret (by simp [results, Try.results25, go_sem, k_br]; rfl) rfl ?_
    exact ⟨by rw [HF.out]; rfl, x9⟩
  · have HF := Lib.hid (show fnd dd S = none by rw [← HFD.out]; exact HFN.out.1 hmk)
    rw [hmk] at hlk
    simp only [Option.getD_none, Option.isSome_none] at hlk
    clear hmk hno
    have kbr := br.1
    have fbr := br.2
    have lbr := at_lt br (by simp)
    go_wp2
    refine post_at ?_
    intro W9 hW
    have b9 : At W9 w.heap.size #[.int .i64 (0), .int .i64 (0)] := by rw [hW]; exact at_put (at_put br (by simp) rfl) (by simp) rfl
    have x9 : Ext w W9 := by rw [hW]; exact ext_set (ext_set hx (Nat.le_refl _) _) (Nat.le_refl _) _
    clear hW kbr fbr lbr
    have k_br := b9.1
    refine bodyPost_ret (by simp [results, Try.results25, go_sem, k_br]; rfl) rfl ?_
    exact ⟨by rw [HF.out]; rfl, x9⟩
end Go.Proofs.Ytkicofagjebnjaa

/- All: in order. -/
import Derived.Test.YtkicofagjebnjaaP07
namespace Go.Proofs.Ytkicofagjebnjaa
open Go.RowKit
set_option linter.unusedVariables false
set_option linter.unusedSimpArgs false

theorem sort_none (p : Option Addr) (cap : Nat) (fv : Value) (w : World) : Calls Try.prog 37 #[.slice p 0 cap, fv] w fun e w' => e = .returned (.tuple #[]) ∧ w' = w := AnyF.slices_SortFunc_none Try.sortT p cap fv w
def AllPost (w : World) (S : List Tmr) (e : Ending) (w' : World) : Prop := ∃ ms cap, e = .returned (.slice ms S.length cap) ∧ w'.ownsRow w.heap.size 29 2 (.slice ms S.length cap) S.length (S.flatMap tmrC) ∧ Ext w w'
theorem all_nil (w : World) : Calls Try.prog 20 #[.pointer none] w fun e w' => e = .returned (.slice none 0 0) ∧ Ext w w' := by
  go_enter Try.func20, Try.ntmps20
  go_wp2
  go_ret
  exact ⟨rfl, by repeat (first | exact ext_refl _ | assumption | refine ext_more' ?_ _ _ | refine ext_drew ?_ | refine ext_drewN ?_ _ | refine ext_alloc ?_ _)⟩
set_option maxRecDepth 100000 in
set_option maxHeartbeats 8000000 in
theorem all_calls (hb mb : Nat) (rg : Option Nat) (S : List Tmr) (most : Int) (w : World) (ha : HA w hb mb rg S most) : Calls Try.prog 20 #[.pointer (some ⟨hb, 0, none⟩)] w (AllPost w S) := by
  have HAA := Lib.hid ha
  obtain ⟨⟨ms, cap, l, M, hv, hp, hpm, hrg⟩, hsrt, hids, hd2, hrh, hrm, hlen, hm1, hm2⟩ := ha
  have hll := hpm.length_eq
  have hln : l.length ≤ 65536 := by omega
  have hcap : l.length ≤ cap := (cap_of_own (n := 2) hv.row).1
  have HIL := Lib.hid (hids.perm hpm.symm)
  have HLL := Lib.hid hll
  have HV := Lib.hid hv; have HP := Lib.hid hp; have HPM := Lib.hid hpm; have HRG := Lib.hid hrg
  have HSR := Lib.hid hsrt; have HIS := Lib.hid hids
  have hb0 : hb < w.heap.size := at_lt hv.box (by simp)
  have hm0 : mb < w.heap.size := hv.map.lt
  have HBX := Lib.hid hv.box
  clear hv hp hpm hrg hids hsrt hll
  have kh := HBX.out.1
  have lh := hb0
  have HCL := Lib.hid (fun w' (hx : Ext w w') => clone_tmr ms cap l w' (rows_of_own (g := tmrC) (fun _ => rfl) (own_ext HV.out.row hx)) (by omega))
  go_enter Try.func20, Try.ntmps20
  by_cases h0 : l.length = 0
  · have hS : S = [] := List.eq_nil_of_length_eq_zero (by have := HLL.out; omega)
    have HS := Lib.hid hS
    have hle : l = [] := List.eq_nil_of_length_eq_zero h0
    clear hS h0
    subst hle
    go_wp2_with (first | (go_at_call 36; refine (HCL.out _ (by repeat (first | exact ext_refl _ | assumption | refine ext_more' ?_ _ _ | refine ext_drew ?_ | refine ext_drewN ?_ _ | refine ext_alloc ?_ _))).mono ?_; unfold ClonePost7; rintro e w1 ⟨ms1, cap1, rfl, ho1, hx1⟩; have HO1 := Lib.hid ho1; have HX1 := Lib.hid hx1; clear ho1 hx1) | (go_at_call 37; refine (sort_none _ _ _ _).mono ?_; rintro e w2 ⟨rfl, rfl⟩))
    go_ret
    refine ⟨ms1, cap1, by rw [HS.out]; rfl, ?_, HX1.out⟩
    rw [HS.out]; exact HO1.out
  have HSS := Lib.hid (show (l.mergeSort fun x y => !(ltOf ordI) y x) = S from srt_ext (sort_srt HIL.out) HSR.out ((List.mergeSort_perm _ _).trans HPM.out))
  have HSF := Lib.hid (fun g cap base w' ho => sort_calls g cap base l w' ho (by omega))
  have hl0 : 0 < l.length := by omega
  clear h0
  go_wp2_with (first | (go_at_call 36; refine (HCL.out _ (by repeat (first | exact ext_refl _ | assumption | refine ext_more' ?_ _ _ | refine ext_drew ?_ | refine ext_drewN ?_ _ | refine ext_alloc ?_ _))).mono ?_; unfold ClonePost7; rintro e w1 ⟨ms1, cap1, rfl, ho1, hx1⟩; obtain ⟨g1, rfl⟩ := own_some hl0 ho1; have HO1 := Lib.hid ho1; have HX1 := Lib.hid hx1; clear ho1 hx1) | (go_at_call 37; refine (HSF.out _ _ _ _ HO1.out).mono ?_; rw [HSS.out]; rintro e w2 ⟨rfl, ho2, hc2⟩; have HO2 := Lib.hid ho2; have HC2 := Lib.hid hc2; clear ho2 hc2))
  go_ret
  have h2 := HO2.out
  rw [HLL.out] at h2
  exact ⟨_, _, by rw [HLL.out]; rfl, h2, ext_chg HX1.out HC2.out (fun q (h : q = g1) => by have := (HO1.out.lt g1 rfl).1; omega)⟩
end Go.Proofs.Ytkicofagjebnjaa

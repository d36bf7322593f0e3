/- HeapAgain. -/
import Derived.Test.YtkicofagjebnjaaR07
import Derived.Test.YtkicofagjebnjaaSp7b
import Derived.Test.YtkicofagjebnjaaU07p
namespace Go.Proofs.Ytkicofagjebnjaa
open Go.RowKit
set_option linter.unusedVariables false
set_option linter.unusedSimpArgs false

theorem wo_wo (d : Int) (S : List Tmr) : wo d (wo d S) = wo d S := wo_none (fun x hx e => by
  have := (List.mem_filter.1 hx).2
  simp [e] at this)
/-- How many of the first ones have that Id. -/
def cnI (d : Int) (S : List Tmr) (j : Nat) : Nat := ((S.take j).filter fun t => decide (t.id = d)).length
theorem cnI_succ {d : Int} {S : List Tmr} {j : Nat} (h : j < S.length) : cnI d S (j + 1) = cnI d S j + (if (at_ S j).id = d then 1 else 0) := by
  unfold cnI
  rw [List.take_succ_eq_append_getElem h, List.filter_append, List.length_append, at_eq h]
  by_cases e : S[j].id = d <;> simp [e]
theorem cnI_all {d : Int} {S : List Tmr} (hi : Ids S) {t : Tmr} (ht : t ∈ S) (e : t.id = d) : cnI d S S.length = 1 := by
  have h2 := wo_length hi (fnd_some hi ht e)
  unfold cnI
  rw [List.take_length]
  have h3 : (S.filter fun t => decide (t.id = d)).length + (S.filter fun t => !decide (t.id = d)).length = S.length := by
    clear h2 ht hi
    induction S with
    | nil => rfl
    | cons a S ih =>
      by_cases e : a.id = d
      · simp [e]; omega
      · simp [e]; omega
  unfold wo at h2
  omega
set_option maxRecDepth 100000 in
set_option maxHeartbeats 16000000 in
theorem again_walk (wh du : Int) (s : Option Addr) (cap : Nat) (l : List Tmr) (w : World) (hl : Rows_ w s l.length 2 (fun i => tmrC (at_ l i))) (hca : l.length ≤ cap) (hmx : cap ≤ maxLen) :
    Calls Try.prog 10 #[.slice s l.length cap, .int .i64 wh, .int .i64 du] w fun e w' => e = .returned (.bool true) ∧ Ext w w' := by
  have HLL := Lib.hid hl
  have HMX := Lib.hid hmx
  have H0 := Lib.hid (has_old w)
  clear hl hmx
  go_enter Try.func10, Try.ntmps10
  go_upto_region 4 with (go_at_call 11; refine (made07_calls s cap l _ (rows_on2 HLL.out (ext_trans (H0.out.oldAt 0 rfl) (by repeat (first | exact ext_refl _ | assumption | refine ext_more' ?_ _ _ | refine ext_drew ?_ | refine ext_drewN ?_ _ | refine ext_alloc ?_ _)))) hca HMX.out).mono ?_; intro e w1 hp1; obtain ⟨hb, mb, rg1, tb, M1, rfl, hth1, hh1⟩ := (H0.out.ext (by repeat (first | exact ext_refl _ | assumption | refine ext_more' ?_ _ _ | refine ext_drew ?_ | refine ext_drewN ?_ _ | refine ext_alloc ?_ _))).made hp1; have HT1 := Lib.hid hth1; have HQ1 := Lib.hid hh1; clear hp1 hth1 hh1)
  refine wp_at ?_
  intro W4 hW
  have x_W4 : Ext w1 W4 := by rw [hW]; repeat (first | exact ext_refl _ | assumption | refine ext_more' ?_ _ _ | refine ext_drew ?_ | refine ext_drewN ?_ _ | refine ext_alloc ?_ _)
  have H4 := Lib.hid (HQ1.out.ext x_W4)
  clear HQ1 x_W4 H0
  clear hW
  have hSl := mkS_len l (min l.length 300)
  obtain ⟨hso, hsi⟩ := mkS_ok l (min l.length 300)
  generalize mkS l (min l.length 300) = S at H4 HT1 hSl hso hsi
  have hS3 : S.length ≤ 300 := by omega
  have HSO := Lib.hid hso; have HSI := Lib.hid hsi
  have HS6 := Lib.hid (show S.length ≤ 1000000 by omega)
  clear hSl hso hsi
  go_upto_region 5 with (go_at_call 20; refine (all_calls hb mb _ _ _ _ ((H4.out.ext (by repeat (first | exact ext_refl _ | assumption | refine ext_more' ?_ _ _ | refine ext_drew ?_ | refine ext_drewN ?_ _ | refine ext_alloc ?_ _))).heapAt 1 rfl)).mono ?_; intro e wa hp; obtain ⟨ms9, cap9, rfl, hh⟩ := (H4.out.ext (by repeat (first | exact ext_refl _ | assumption | refine ext_more' ?_ _ _ | refine ext_drew ?_ | refine ext_drewN ?_ _ | refine ext_alloc ?_ _))).all hp; have HA9 := Lib.hid hh; clear hp hh)
  refine wp_at ?_
  intro W5 hW
  have x_W5 : Ext wa W5 := by rw [hW]; repeat (first | exact ext_refl _ | assumption | refine ext_more' ?_ _ _ | refine ext_drew ?_ | refine ext_drewN ?_ _ | refine ext_alloc ?_ _)
  have hh : Has W5 [oldR w, heapR hb mb rg1 S 1000, mapR tb .i64 M1, tRow ms9 cap9 S] := HA9.out.ext x_W5
  have H5 := Lib.hid hh
  clear hh HA9 x_W5 H4
  clear hW
  have hml := HT1.out.2.1
  have hfl := run_mlen7 (P := Try.prog) (ty := 3) Try.underlying25 (H5.out.mapAt 2 rfl)
  rw [hml] at hfl
  clear hml
  go_upto_region 7 with (first | (go_at_call 20; refine (all_calls hb mb _ _ _ _ ((H5.out.ext (by repeat (first | exact ext_refl _ | assumption | refine ext_more' ?_ _ _ | refine ext_drew ?_ | refine ext_drewN ?_ _ | refine ext_alloc ?_ _))).heapAt 1 rfl)).mono ?_; intro e wb hp; obtain ⟨ms8, cap8, rfl, hh⟩ := (H5.out.ext (by repeat (first | exact ext_refl _ | assumption | refine ext_more' ?_ _ _ | refine ext_drew ?_ | refine ext_drewN ?_ _ | refine ext_alloc ?_ _))).all hp; have HA8 := Lib.hid hh; clear hp hh) | (go_at_call 19; refine ((HA8.out.ext (by repeat (first | exact ext_refl _ | assumption | refine ext_more' ?_ _ _ | refine ext_drew ?_ | refine ext_drewN ?_ _ | refine ext_alloc ?_ _))).same 3 4 rfl rfl HS6.out).mono ?_; rintro e wc ⟨rfl, hx⟩; have HXC := Lib.hid hx; clear hx))
  refine wp_at ?_
  intro W7 hW
  have x_W7 : Ext wc W7 := by rw [hW]; repeat (first | exact ext_refl _ | assumption | refine ext_more' ?_ _ _ | refine ext_drew ?_ | refine ext_drewN ?_ _ | refine ext_alloc ?_ _)
  have hh : Has W7 [oldR w, heapR hb mb rg1 S 1000, mapR tb .i64 M1, tRow ms9 cap9 S] := (HA8.out.ext (ext_trans HXC.out x_W7)).del 4
  have H7 := Lib.hid hh
  clear hh HA8 HXC x_W7 H5
  clear hW
  clear hfl
  by_cases h0 : S.length = 0
  · go_wp2_with (go_at_call 16; refine (awake07_calls _).mono ?_; rintro e wa ⟨rfl, hxa⟩; have HXA := Lib.hid hxa; clear hxa)
    go_ret
    exact ⟨rfl, ext_trans ((H7.out.oldAt 0 rfl)) (ext_trans (by repeat (first | exact ext_refl _ | assumption | refine ext_more' ?_ _ _ | refine ext_drew ?_ | refine ext_drewN ?_ _ | refine ext_alloc ?_ _)) HXA.out)⟩
  have hpos : (0 : Int) < (S.length : Int) := by omega
  have hne : ¬ ((S.length : Int) = 0) := by omega
  have hm1 := Int.emod_nonneg wh hne
  have hm2 := Int.emod_lt_of_pos wh hpos
  obtain ⟨k, hk⟩ : ∃ k : Nat, wh % (S.length : Int) = (k : Int) := ⟨(wh % (S.length : Int)).toNat, by omega⟩
  have hkl : k < S.length := by omega
  have HK := Lib.hid hk
  have HMEM := Lib.hid (at_mem hkl)
  obtain ⟨bk, ok, ek, qk, c0, c1⟩ := tmr_cells (V := fun i => at_ S i) (tRow_rows H7.out 3 rfl) (ext_refl W7) hkl
  have hc9 := (tRow_cap H7.out 3 rfl).1
  have hk0 : (0 : Int) ≤ (k : Int) := by omega
  have hk1 : (k : Int) < (S.length : Int) := by omega
  have hk2 : (S.length : Int) ≤ 300 := by omega
  subst ek
  obtain ⟨x, hx⟩ : ∃ x, x = at_ S k := ⟨_, rfl⟩
  rw [← hx] at c0 c1 HMEM
  clear hk hm1 hm2 hx
  have H7b := H7
  go_upto_region 10 with (go_at_call 32; refine (pickL_calls _ _ _ hpos (by omega)).mono ?_; rw [HK.out]; rintro e wp ⟨rfl, hx⟩; have c0p := (hx.cell (p := ⟨bk, ok + k * 2, none⟩) qk).trans c0; have c1p := (hx.cell (p := ⟨bk, ok + k * 2 + 1, none⟩) qk).trans c1; have qp := Nat.lt_of_lt_of_le qk hx.size; have HXP := Lib.hid hx; clear hx)
  refine wp_at ?_
  intro W10 hW
  have x_W10 : Ext wp W10 := by rw [hW]; repeat (first | exact ext_refl _ | assumption | refine ext_more' ?_ _ _ | refine ext_drew ?_ | refine ext_drewN ?_ _ | refine ext_alloc ?_ _)
  have hh2 := H7.out.ext HXP.out
  have hb2 := (hh2.box (ext_refl _) (show 0 < (#[.int .i64 x.due, .int .i64 x.id] : Array Value).size from sz2 _ _) (by rw [hW]; repeat (first | exact ext_refl _ | assumption | refine ext_more' ?_ _ _ | refine ext_drew ?_ | refine ext_drewN ?_ _ | refine ext_alloc ?_ _) : Ext (World.alloc wp (.cells _ _)) W10))
  have hh : Has W10 [oldR w, heapR hb mb rg1 S 1000, mapR tb .i64 M1, tRow (some ⟨bk, ok, none⟩) cap9 S, boxR wp.heap.size #[.int .i64 x.due, .int .i64 x.id] (sz2 _ _)] := hb2
  have H10 := Lib.hid hh
  clear hh hh2 hb2 x_W10 HXP H7 H7b c0 c1 qk c0p c1p qp
  clear hW
  obtain ⟨xb, hxb⟩ : ∃ xb, xb = wp.heap.size := ⟨_, rfl⟩
  rw [← hxb] at H10 ⊢
  clear hxb hk0 hk1 hk2 hc9
  generalize (some ⟨bk, ok, none⟩ : Option Addr) = ms9 at H10 ⊢
  have HFX := Lib.hid (fnd_some HSI.out HMEM.out rfl)
  have kx := (H10.out.boxAt 4 rfl).1
  have fx := (H10.out.boxAt 4 rfl).2
  have lx := at_lt (H10.out.boxAt 4 rfl) (sz2 _ _)
  go_upto_region 11 with (go_at_call 12; refine (drop_calls x.id hb mb _ S 1000 _ ((H10.out.ext (by repeat (first | exact ext_refl _ | assumption | refine ext_more' ?_ _ _ | refine ext_drew ?_ | refine ext_drewN ?_ _ | refine ext_alloc ?_ _))).heapAt 1 rfl)).mono ?_; rw [show drV (fnd x.id S) = .tuple #[.agg #[.int .i64 x.due, .int .i64 x.id], .int .i64 0] by rw [HFX.out]; rfl]; rintro e wd ⟨rfl, hp⟩; have HP := Lib.hid hp; clear hp)
  refine wp_at ?_
  intro W11 hW
  have x_W11 : Ext wd W11 := by rw [hW]; repeat (first | exact ext_refl _ | assumption | refine ext_more' ?_ _ _ | refine ext_drew ?_ | refine ext_drewN ?_ _ | refine ext_alloc ?_ _)
  obtain ⟨rg2, hh2⟩ := (H10.out.ext (by repeat (first | exact ext_refl _ | assumption | refine ext_more' ?_ _ _ | refine ext_drew ?_ | refine ext_drewN ?_ _ | refine ext_alloc ?_ _))).heap 1 rfl HP.out
  have hb2 := (hh2.box (ext_refl _) (show 0 < (#[.int .i64 x.due, .int .i64 x.id] : Array Value).size from sz2 _ _) (by rw [hW]; repeat (first | exact ext_refl _ | assumption | refine ext_more' ?_ _ _ | refine ext_drew ?_ | refine ext_drewN ?_ _ | refine ext_alloc ?_ _) : Ext (World.alloc wd (.cells _ _)) W11))
  have hh : Has W11 [oldR w, heapR hb mb rg2 (wo x.id S) 1000, mapR tb .i64 M1, tRow ms9 cap9 S, boxR xb #[.int .i64 x.due, .int .i64 x.id] (sz2 _ _), boxR wd.heap.size #[.int .i64 x.due, .int .i64 x.id] (sz2 _ _)] := hb2
  have H11 := Lib.hid hh
  clear hh hh2 hb2 x_W11 HP H10 kx fx lx
  clear hW
  obtain ⟨yb, hyb⟩ : ∃ yb, yb = wd.heap.size := ⟨_, rfl⟩
  rw [← hyb] at H11 ⊢
  clear hyb
  have hfw : fnd x.id (wo x.id S) = none := by rw [fnd_wo, if_pos rfl]
  have HFW := Lib.hid hfw
  clear hfw
  have kx := (H11.out.boxAt 4 rfl).1
  have fx := (H11.out.boxAt 4 rfl).2
  have lx := at_lt (H11.out.boxAt 4 rfl) (sz2 _ _)
  go_upto_region 12 with (go_at_call 12; refine (drop_calls x.id hb mb _ (wo x.id S) 1000 _ ((H11.out.ext (by repeat (first | exact ext_refl _ | assumption | refine ext_more' ?_ _ _ | refine ext_drew ?_ | refine ext_drewN ?_ _ | refine ext_alloc ?_ _))).heapAt 1 rfl)).mono ?_; rw [show drV (fnd x.id (wo x.id S)) = .tuple #[.agg #[.int .i64 0, .int .i64 0], .int .i64 40] by rw [HFW.out]; rfl, wo_wo]; rintro e wd2 ⟨rfl, hp⟩; have HP := Lib.hid hp; clear hp)
  refine wp_at ?_
  intro W12 hW
  have x_W12 : Ext wd2 W12 := by rw [hW]; repeat (first | exact ext_refl _ | assumption | refine ext_more' ?_ _ _ | refine ext_drew ?_ | refine ext_drewN ?_ _ | refine ext_alloc ?_ _)
  obtain ⟨rg3, hh2⟩ := (H11.out.ext (by repeat (first | exact ext_refl _ | assumption | refine ext_more' ?_ _ _ | refine ext_drew ?_ | refine ext_drewN ?_ _ | refine ext_alloc ?_ _))).heap 1 rfl HP.out
  have hh : Has W12 [oldR w, heapR hb mb rg3 (wo x.id S) 1000, mapR tb .i64 M1, tRow ms9 cap9 S, boxR xb #[.int .i64 x.due, .int .i64 x.id] (sz2 _ _), boxR yb #[.int .i64 x.due, .int .i64 x.id] (sz2 _ _)] := hh2.ext x_W12
  have H12 := Lib.hid hh
  clear hh hh2 x_W12 HP H11 kx fx lx
  clear hW
  have kx := (H12.out.boxAt 4 rfl).1
  have fx := (H12.out.boxAt 4 rfl).2
  have lx := at_lt (H12.out.boxAt 4 rfl) (sz2 _ _)
  go_upto_region 13 with (go_at_call 25; refine (get_calls x.id hb mb _ (wo x.id S) 1000 _ ((H12.out.ext (by repeat (first | exact ext_refl _ | assumption | refine ext_more' ?_ _ _ | refine ext_drew ?_ | refine ext_drewN ?_ _ | refine ext_alloc ?_ _))).heapAt 1 rfl)).mono ?_; rw [show otV (fnd x.id (wo x.id S)) = .tuple #[.agg #[.int .i64 0, .int .i64 0], .bool false] by rw [HFW.out]; rfl]; rintro e wg ⟨rfl, hx⟩; have HXG := Lib.hid (ext_trans (show Ext W12 _ from by repeat (first | exact ext_refl _ | assumption | refine ext_more' ?_ _ _ | refine ext_drew ?_ | refine ext_drewN ?_ _ | refine ext_alloc ?_ _)) hx); clear hx)
  refine wp_at ?_
  intro W13 hW
  have x_W13 : Ext wg W13 := by rw [hW]; repeat (first | exact ext_refl _ | assumption | refine ext_more' ?_ _ _ | refine ext_drew ?_ | refine ext_drewN ?_ _ | refine ext_alloc ?_ _)
  have hh := H12.out.ext (ext_trans HXG.out x_W13)
  have H13 := Lib.hid hh
  clear hh x_W13 HXG H12 kx fx lx
  clear hW
  have kx := (H13.out.boxAt 4 rfl).1
  have fx := (H13.out.boxAt 4 rfl).2
  have lx := at_lt (H13.out.boxAt 4 rfl) (sz2 _ _)
  go_upto_region 14 with fail
  refine wp_at ?_
  intro W14 hW
  have hat : At W14 xb #[.int .i64 du, .int .i64 x.id] := by rw [hW]; exact at_put (H13.out.boxAt 4 rfl) (by simp) rfl
  have hch : Chg (fun q => q = xb) W13 W14 := by rw [hW]; exact chg_put (Chg.refl _ _)
  have hh : Has W14 [oldR w, heapR hb mb rg3 (wo x.id S) 1000, mapR tb .i64 M1, tRow ms9 cap9 S, boxR xb #[.int .i64 du, .int .i64 x.id] (sz2 _ _), boxR yb #[.int .i64 x.due, .int .i64 x.id] (sz2 _ _)] := H13.out.wrote 4 rfl (sz2 _ _) hat hch
  have H14 := Lib.hid hh
  clear hh hat hch hW H13 kx fx lx
  have hwl := wo_length HSI.out HFX.out
  have HWI := Lib.hid (ids_wo (i := x.id) HSI.out)
  have HE1 := Lib.hid (show putE (wo x.id S) 1000 ⟨du, x.id⟩ = 0 by unfold putE; rw [show (⟨du, x.id⟩ : Tmr).id = x.id from rfl, HFW.out, if_neg (by simp), if_neg (by omega)])
  have HS1 := Lib.hid (show putS (wo x.id S) 1000 ⟨du, x.id⟩ = ins ⟨du, x.id⟩ (wo x.id S) by unfold putS; rw [HE1.out]; rfl)
  obtain ⟨S2, hS2⟩ : ∃ S2, S2 = ins ⟨du, x.id⟩ (wo x.id S) := ⟨_, rfl⟩
  have HL2 := Lib.hid (show S2.length = S.length by rw [hS2, ins_length, hwl])
  have HI2 := Lib.hid (show Ids S2 by rw [hS2]; exact ids_ins HWI.out (fnd_none.1 HFW.out))
  have HM2 := Lib.hid (show ∀ t, t ∈ S2 ↔ (t = ⟨du, x.id⟩ ∨ t ∈ wo x.id S) by
    intro t
    rw [hS2, (ins_perm _ _).mem_iff, List.mem_cons])
  have HF2 := Lib.hid (show fnd x.id S2 = some ⟨du, x.id⟩ from fnd_some HI2.out ((HM2.out _).2 (.inl rfl)) rfl)
  rw [← hS2] at HS1
  clear hwl hS2
  have kx := (H14.out.boxAt 4 rfl).1
  have fx := (H14.out.boxAt 4 rfl).2
  have lx := at_lt (H14.out.boxAt 4 rfl) (sz2 _ _)
  go_upto_region 15 with (go_at_call 22; refine (put_calls ⟨du, x.id⟩ hb mb _ (wo x.id S) 1000 _ ((H14.out.ext (by repeat (first | exact ext_refl _ | assumption | refine ext_more' ?_ _ _ | refine ext_drew ?_ | refine ext_drewN ?_ _ | refine ext_alloc ?_ _))).heapAt 1 rfl)).mono ?_; rw [HE1.out, HS1.out]; rintro e wq ⟨rfl, hp⟩; have HP := Lib.hid hp; clear hp)
  refine wp_at ?_
  intro W15 hW
  have x_W15 : Ext wq W15 := by rw [hW]; repeat (first | exact ext_refl _ | assumption | refine ext_more' ?_ _ _ | refine ext_drew ?_ | refine ext_drewN ?_ _ | refine ext_alloc ?_ _)
  obtain ⟨rg4, hh2⟩ := (H14.out.ext (by repeat (first | exact ext_refl _ | assumption | refine ext_more' ?_ _ _ | refine ext_drew ?_ | refine ext_drewN ?_ _ | refine ext_alloc ?_ _))).heap 1 rfl HP.out
  have hh : Has W15 [oldR w, heapR hb mb rg4 S2 1000, mapR tb .i64 M1, tRow ms9 cap9 S, boxR xb #[.int .i64 du, .int .i64 x.id] (sz2 _ _), boxR yb #[.int .i64 x.due, .int .i64 x.id] (sz2 _ _)] := hh2.ext x_W15
  have H15 := Lib.hid hh
  clear hh hh2 x_W15 HP H14 kx fx lx
  clear hW
  have kx := (H15.out.boxAt 4 rfl).1
  have fx := (H15.out.boxAt 4 rfl).2
  have lx := at_lt (H15.out.boxAt 4 rfl) (sz2 _ _)
  go_upto_region 16 with (go_at_call 25; refine (get_calls x.id hb mb _ S2 1000 _ ((H15.out.ext (by repeat (first | exact ext_refl _ | assumption | refine ext_more' ?_ _ _ | refine ext_drew ?_ | refine ext_drewN ?_ _ | refine ext_alloc ?_ _))).heapAt 1 rfl)).mono ?_; rw [show otV (fnd x.id S2) = .tuple #[.agg #[.int .i64 du, .int .i64 x.id], .bool true] by rw [HF2.out]; rfl]; rintro e wg ⟨rfl, hx⟩; have HXG := Lib.hid (ext_trans (show Ext W15 _ from by repeat (first | exact ext_refl _ | assumption | refine ext_more' ?_ _ _ | refine ext_drew ?_ | refine ext_drewN ?_ _ | refine ext_alloc ?_ _)) hx); clear hx)
  refine wp_at ?_
  intro W16 hW
  have x_W16 : Ext wg W16 := by rw [hW]; repeat (first | exact ext_refl _ | assumption | refine ext_more' ?_ _ _ | refine ext_drew ?_ | refine ext_drewN ?_ _ | refine ext_alloc ?_ _)
  have hh2 := H15.out.ext HXG.out
  have hb2 := (hh2.box (ext_refl _) (show 0 < (#[.int .i64 du, .int .i64 x.id] : Array Value).size from sz2 _ _) (by rw [hW]; repeat (first | exact ext_refl _ | assumption | refine ext_more' ?_ _ _ | refine ext_drew ?_ | refine ext_drewN ?_ _ | refine ext_alloc ?_ _) : Ext (World.alloc wg (.cells _ _)) W16))
  have hh : Has W16 [oldR w, heapR hb mb rg4 S2 1000, mapR tb .i64 M1, tRow ms9 cap9 S, boxR xb #[.int .i64 du, .int .i64 x.id] (sz2 _ _), boxR yb #[.int .i64 x.due, .int .i64 x.id] (sz2 _ _), boxR wg.heap.size #[.int .i64 du, .int .i64 x.id] (sz2 _ _)] := hb2
  have H16 := Lib.hid hh
  clear hh hh2 hb2 x_W16 HXG H15 kx fx lx
  clear hW
  obtain ⟨zb, hzb⟩ : ∃ zb, zb = wg.heap.size := ⟨_, rfl⟩
  rw [← hzb] at H16 ⊢
  clear hzb
  have kx := (H16.out.boxAt 4 rfl).1
  have fx := (H16.out.boxAt 4 rfl).2
  have lx := at_lt (H16.out.boxAt 4 rfl) (sz2 _ _)
  have ky := (H16.out.boxAt 5 rfl).1
  have fy := (H16.out.boxAt 5 rfl).2
  have ly := at_lt (H16.out.boxAt 5 rfl) (sz2 _ _)
  have kz := (H16.out.boxAt 6 rfl).1
  have fz := (H16.out.boxAt 6 rfl).2
  have lz := at_lt (H16.out.boxAt 6 rfl) (sz2 _ _)
  go_upto_region 19 with (go_at_call 15; refine (len_calls hb mb _ _ _ _ ((H16.out.ext (by repeat (first | exact ext_refl _ | assumption | refine ext_more' ?_ _ _ | refine ext_drew ?_ | refine ext_drewN ?_ _ | refine ext_alloc ?_ _))).heapAt 1 rfl)).mono ?_; rw [HL2.out]; rintro e wl ⟨rfl, hx⟩; have HXG := Lib.hid (ext_trans (show Ext W16 _ from by repeat (first | exact ext_refl _ | assumption | refine ext_more' ?_ _ _ | refine ext_drew ?_ | refine ext_drewN ?_ _ | refine ext_alloc ?_ _)) hx); clear hx)
  refine wp_at ?_
  intro W19 hW
  have x_W19 : Ext wl W19 := by rw [hW]; repeat (first | exact ext_refl _ | assumption | refine ext_more' ?_ _ _ | refine ext_drew ?_ | refine ext_drewN ?_ _ | refine ext_alloc ?_ _)
  have hh : Has W19 [oldR w, heapR hb mb rg4 S2 1000, mapR tb .i64 M1, tRow ms9 cap9 S, boxR xb #[.int .i64 du, .int .i64 x.id] (sz2 _ _)] := ((H16.out.ext (ext_trans HXG.out x_W19)).del 6).del 5
  have H19 := Lib.hid hh
  clear hh x_W19 HXG H16 kx fx lx ky fy ly kz fz lz
  clear hW
  go_upto_region 20 with (go_at_call 20; refine (all_calls hb mb _ _ _ _ ((H19.out.ext (by repeat (first | exact ext_refl _ | assumption | refine ext_more' ?_ _ _ | refine ext_drew ?_ | refine ext_drewN ?_ _ | refine ext_alloc ?_ _))).heapAt 1 rfl)).mono ?_; intro e wa hp; obtain ⟨ms7, cap7, rfl, hh⟩ := (H19.out.ext (by repeat (first | exact ext_refl _ | assumption | refine ext_more' ?_ _ _ | refine ext_drew ?_ | refine ext_drewN ?_ _ | refine ext_alloc ?_ _))).all hp; have HA7 := Lib.hid hh; clear hp hh)
  refine wp_at ?_
  intro W20 hW
  have x_W20 : Ext wa W20 := by rw [hW]; repeat (first | exact ext_refl _ | assumption | refine ext_more' ?_ _ _ | refine ext_drew ?_ | refine ext_drewN ?_ _ | refine ext_alloc ?_ _)
  have hh : Has W20 [oldR w, heapR hb mb rg4 S2 1000, mapR tb .i64 M1, tRow ms9 cap9 S, boxR xb #[.int .i64 du, .int .i64 x.id] (sz2 _ _), tRow ms7 cap7 S2] := HA7.out.ext x_W20
  have H20 := Lib.hid hh
  clear hh HA7 x_W20 H19
  clear hW
  have hL2 : S2.length ≤ 300 := by rw [HL2.out]; exact hS3
  go_loopg [21, 129] S2.length (fun gk k21 k129 wr => ∃ (j : Nat), k21 = .int .i64 (cnI x.id S2 j) ∧ k129 = .int .i64 j ∧ gk + j = S2.length ∧ Ext W20 wr)
  case atStart => exact ⟨0, rfl, rfl, rfl, by repeat (first | exact ext_refl _ | assumption | refine ext_more' ?_ _ _ | refine ext_drew ?_ | refine ext_drewN ?_ _ | refine ext_alloc ?_ _)⟩
  case round =>
    obtain ⟨j, rfl, rfl, hgj, hx⟩ := hrel
    have HX := Lib.hid hx
    clear hx
    by_cases hj : j < S2.length
    rotate_left
    · have n1 : ¬ ((j : Int) < (S2.length : Int)) := by omega
      have hje : j = S2.length := by omega
      have hc1 : cnI x.id S2 j = 1 := by rw [hje]; exact cnI_all HI2.out ((HM2.out _).2 (.inl rfl)) rfl
      rw [hc1]
      clear hc1 hje
      go_wp2_with (go_at_call 16; refine (awake07_calls _).mono ?_; rintro e wz ⟨rfl, hxa⟩; have HXA := Lib.hid hxa; clear hxa)
      go_ret
      exact ⟨rfl, ext_trans (H20.out.oldAt 0 rfl) (ext_trans HX.out (ext_trans (by repeat (first | exact ext_refl _ | assumption | refine ext_more' ?_ _ _ | refine ext_drew ?_ | refine ext_drewN ?_ _ | refine ext_alloc ?_ _)) HXA.out))⟩
    have n1 : (j : Int) < (S2.length : Int) := by omega
    have n0 : (0 : Int) ≤ (j : Int) := by omega
    have hc0 : cnI x.id S2 j ≤ S2.length := by unfold cnI; exact Nat.le_trans (List.length_filter_le _ _) (by rw [List.length_take]; omega)
    have HCS := Lib.hid (cnI_succ (d := x.id) hj)
    have HMJ := Lib.hid (at_mem hj)
    obtain ⟨cn, hcn⟩ : ∃ cn, cn = cnI x.id S2 j := ⟨_, rfl⟩
    rw [← hcn] at hc0 HCS ⊢
    have hcn3 : cn ≤ 300 := by omega
    obtain ⟨bl, ol, rfl, ql, c0, c1⟩ := tmr_cells (V := fun i => at_ S2 i) (tRow_rows H20.out 5 rfl) HX.out hj
    have q1 := Nat.lt_of_lt_of_le ql HX.out.size
    have hcp := (tRow_cap H20.out 5 rfl).1
    obtain ⟨t, ht⟩ : ∃ t, t = at_ S2 j := ⟨_, rfl⟩
    rw [← ht] at c0 c1 HCS HMJ
    clear ht hcn
    go_upto_region 22 with fail
    refine wp_at ?_
    intro W22 hW
    have x_W22 : Ext wr W22 := by rw [hW]; repeat (first | exact ext_refl _ | assumption | refine ext_more' ?_ _ _ | refine ext_drew ?_ | refine ext_drewN ?_ _ | refine ext_alloc ?_ _)
    have bt := at_new (by rw [hW]; repeat (first | exact ext_refl _ | assumption | refine ext_more' ?_ _ _ | refine ext_drew ?_ | refine ext_drewN ?_ _ | refine ext_alloc ?_ _) : Ext (World.alloc wr (.cells _ _)) W22)
    have kt := bt.1
    have ft := bt.2
    have lt := at_lt bt (sz2 _ _)
    have HX22 := Lib.hid (ext_trans HX.out x_W22)
    have H22 := Lib.hid (H20.out.ext HX22.out)
    clear bt x_W22 c0 c1 q1 ql
    clear hW
    have kx := (H22.out.boxAt 4 rfl).1
    have fx := (H22.out.boxAt 4 rfl).2
    have lx := at_lt (H22.out.boxAt 4 rfl) (sz2 _ _)
    rcases (HM2.out t).1 HMJ.out with ht | ht
    · subst ht
      have hcs := HCS.out
      simp only [if_true] at hcs
      have HCQ := Lib.hid hcs
      clear hcs
      go_upto_region 28 with fail
      refine wp_at ?_
      intro W28 hW
      have x_W28 : Ext W22 W28 := by rw [hW]; repeat (first | exact ext_refl _ | assumption | refine ext_more' ?_ _ _ | refine ext_drew ?_ | refine ext_drewN ?_ _ | refine ext_alloc ?_ _)
      have HX28 := Lib.hid (ext_trans HX22.out x_W28)
      clear x_W28 kx fx lx kt ft lt
      clear hW
      go_wp2
      go_roundg (gk - 1)
      case measure => omega
      case rel => exact ⟨j + 1, by rw [HCQ.out]; go_num, by go_num, by omega, HX28.out⟩
    · have hidn : t.id ≠ x.id := fun e => fnd_none.1 HFW.out t ht e
      have htS : t ∈ S := wo_sub _ _ t ht
      have HLK := Lib.hid (show fnd t.id S = some t from fnd_some HSI.out htS rfl)
      have hcs := HCS.out
      rw [if_neg hidn] at hcs
      have HCQ := Lib.hid hcs
      have hb1 : (t.id == x.id) = false := by simpa using hidn
      have hb2 : ¬ (t.id = x.id) := hidn
      clear hcs hidn htS ht
      go_upto_region 26 with fail
      refine wp_at ?_
      intro W26 hW
      have x_W26 : Ext W22 W26 := by rw [hW]; repeat (first | exact ext_refl _ | assumption | refine ext_more' ?_ _ _ | refine ext_drew ?_ | refine ext_drewN ?_ _ | refine ext_alloc ?_ _)
      have HX26 := Lib.hid (ext_trans HX22.out x_W26)
      have H26 := Lib.hid (H22.out.ext x_W26)
      have kt' := fun i => (x_W26.cell (p := ⟨wr.heap.size, i, none⟩) lt).trans (kt i)
      have lt' := Nat.lt_of_lt_of_le lt x_W26.size
      clear x_W26 kx fx lx kt ft lt
      clear hW
      have hlk := (run_mlook (P := Try.prog) Try.underlying25 Try.underlying3 (H26.out.mapAt 2 rfl) t.id (int0z8 W26)).1
      rw [HT1.out.1, HLK.out] at hlk
      simp only [Option.map_some, Option.getD_some] at hlk
      go_upto_region 28 with fail
      refine wp_at ?_
      intro W28 hW
      have x_W28 : Ext W26 W28 := by rw [hW]; repeat (first | exact ext_refl _ | assumption | refine ext_more' ?_ _ _ | refine ext_drew ?_ | refine ext_drewN ?_ _ | refine ext_alloc ?_ _)
      have HX28 := Lib.hid (ext_trans HX26.out x_W28)
      clear x_W28 kt' lt' hlk hb1 hb2
      clear hW
      go_wp2
      go_roundg (gk - 1)
      case measure => omega
      case rel => exact ⟨j + 1, by rw [HCQ.out]; rfl, by go_num, by omega, HX28.out⟩
end Go.Proofs.Ytkicofagjebnjaa

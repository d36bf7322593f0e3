/- HistoryKinds. -/
import Derived.Test.YthpgmefjgidkgaaVE12b
import Derived.Test.YthpgmefjgidkgaaS12h
namespace Go.Proofs.Ythpgmefjgidkgaa
open Go.RowKit
set_option linter.unusedVariables false
set_option linter.unusedSimpArgs false

theorem at_row7 {W W5 : World} {c0 c1 c2 c3 c4 c5 c6 : Array Value} {t0 t1 t2 t3 t4 t5 t6 : TypeId} (h : W5 = (((((((W.alloc (.cells c0 t0)).alloc (.cells c1 t1)).alloc (.cells c2 t2)).alloc (.cells c3 t3)).alloc (.cells c4 t4)).alloc (.cells c5 t5)).alloc (.cells c6 t6))) : At W5 (W.heap.size) c0 ∧ At W5 (W.heap.size + 1) c1 ∧ At W5 (W.heap.size + 1 + 1) c2 ∧ At W5 (W.heap.size + 1 + 1 + 1) c3 ∧ At W5 (W.heap.size + 1 + 1 + 1 + 1) c4 ∧ At W5 (W.heap.size + 1 + 1 + 1 + 1 + 1) c5 ∧ At W5 (W.heap.size + 1 + 1 + 1 + 1 + 1 + 1) c6 := by
  rw [h]
  refine ⟨?_, ?_, ?_, ?_, ?_, ?_, ?_⟩
  · have := at_new (ext_alloc (ext_alloc (ext_alloc (ext_alloc (ext_alloc (ext_alloc (ext_refl _) _) _) _) _) _) _ : Ext (W.alloc (.cells c0 t0)) (((((((W.alloc (.cells c0 t0)).alloc (.cells c1 t1)).alloc (.cells c2 t2)).alloc (.cells c3 t3)).alloc (.cells c4 t4)).alloc (.cells c5 t5)).alloc (.cells c6 t6)))
    simpa only [sz_alloc] using this
  · have := at_new (ext_alloc (ext_alloc (ext_alloc (ext_alloc (ext_alloc (ext_refl _) _) _) _) _) _ : Ext ((W.alloc (.cells c0 t0)).alloc (.cells c1 t1)) (((((((W.alloc (.cells c0 t0)).alloc (.cells c1 t1)).alloc (.cells c2 t2)).alloc (.cells c3 t3)).alloc (.cells c4 t4)).alloc (.cells c5 t5)).alloc (.cells c6 t6)))
    simpa only [sz_alloc] using this
  · have := at_new (ext_alloc (ext_alloc (ext_alloc (ext_alloc (ext_refl _) _) _) _) _ : Ext (((W.alloc (.cells c0 t0)).alloc (.cells c1 t1)).alloc (.cells c2 t2)) (((((((W.alloc (.cells c0 t0)).alloc (.cells c1 t1)).alloc (.cells c2 t2)).alloc (.cells c3 t3)).alloc (.cells c4 t4)).alloc (.cells c5 t5)).alloc (.cells c6 t6)))
    simpa only [sz_alloc] using this
  · have := at_new (ext_alloc (ext_alloc (ext_alloc (ext_refl _) _) _) _ : Ext ((((W.alloc (.cells c0 t0)).alloc (.cells c1 t1)).alloc (.cells c2 t2)).alloc (.cells c3 t3)) (((((((W.alloc (.cells c0 t0)).alloc (.cells c1 t1)).alloc (.cells c2 t2)).alloc (.cells c3 t3)).alloc (.cells c4 t4)).alloc (.cells c5 t5)).alloc (.cells c6 t6)))
    simpa only [sz_alloc] using this
  · have := at_new (ext_alloc (ext_alloc (ext_refl _) _) _ : Ext (((((W.alloc (.cells c0 t0)).alloc (.cells c1 t1)).alloc (.cells c2 t2)).alloc (.cells c3 t3)).alloc (.cells c4 t4)) (((((((W.alloc (.cells c0 t0)).alloc (.cells c1 t1)).alloc (.cells c2 t2)).alloc (.cells c3 t3)).alloc (.cells c4 t4)).alloc (.cells c5 t5)).alloc (.cells c6 t6)))
    simpa only [sz_alloc] using this
  · have := at_new (ext_alloc (ext_refl _) _ : Ext ((((((W.alloc (.cells c0 t0)).alloc (.cells c1 t1)).alloc (.cells c2 t2)).alloc (.cells c3 t3)).alloc (.cells c4 t4)).alloc (.cells c5 t5)) (((((((W.alloc (.cells c0 t0)).alloc (.cells c1 t1)).alloc (.cells c2 t2)).alloc (.cells c3 t3)).alloc (.cells c4 t4)).alloc (.cells c5 t5)).alloc (.cells c6 t6)))
    simpa only [sz_alloc] using this
  · have := at_new (ext_refl _ : Ext (((((((W.alloc (.cells c0 t0)).alloc (.cells c1 t1)).alloc (.cells c2 t2)).alloc (.cells c3 t3)).alloc (.cells c4 t4)).alloc (.cells c5 t5)).alloc (.cells c6 t6)) (((((((W.alloc (.cells c0 t0)).alloc (.cells c1 t1)).alloc (.cells c2 t2)).alloc (.cells c3 t3)).alloc (.cells c4 t4)).alloc (.cells c5 t5)).alloc (.cells c6 t6)))
    simpa only [sz_alloc] using this
set_option maxRecDepth 100000 in
set_option maxHeartbeats 8000000 in
theorem kinds_walk (c : Int) (hc0 : 0 ≤ c) (hc1 : c ≤ 255) (w : World) :
    Calls Try.prog 6 #[.int .u8 c] w fun e w' => e = .returned (.bool true) ∧ Ext w w' := by
  go_enter Try.func6, Try.ntmps6
  go_upto_region 2 with fail
  refine wp_at ?_
  intro W1 hW
  have x1 : Ext w W1 := by rw [hW]; repeat (first | exact ext_refl _ | assumption | refine ext_more' ?_ _ _ | refine ext_drew ?_ | refine ext_drewN ?_ _ | refine ext_alloc ?_ _)
  have bs := at_new (by rw [hW]; repeat (first | exact ext_refl _ | assumption | refine ext_more' ?_ _ _ | refine ext_drew ?_ | refine ext_drewN ?_ _ | refine ext_alloc ?_ _) : Ext (World.alloc w (.cells _ _)) W1)
  clear hW
  go_upto_region 3 with fail
  refine wp_at ?_
  intro W2 hW
  have x2 : Ext W1 W2 := by rw [hW]; repeat (first | exact ext_refl _ | assumption | refine ext_more' ?_ _ _ | refine ext_drew ?_ | refine ext_drewN ?_ _ | refine ext_alloc ?_ _)
  have ba := at_new (by rw [hW]; repeat (first | exact ext_refl _ | assumption | refine ext_more' ?_ _ _ | refine ext_drew ?_ | refine ext_drewN ?_ _ | refine ext_alloc ?_ _) : Ext (World.alloc W1 (.cells _ _)) W2)
  clear hW
  replace bs := at_ext bs (by simp) x2
  go_upto_region 4 with fail
  refine wp_at ?_
  intro W3 hW
  have x3 : Ext W2 W3 := by rw [hW]; repeat (first | exact ext_refl _ | assumption | refine ext_more' ?_ _ _ | refine ext_drew ?_ | refine ext_drewN ?_ _ | refine ext_alloc ?_ _)
  have bl := at_new (by rw [hW]; repeat (first | exact ext_refl _ | assumption | refine ext_more' ?_ _ _ | refine ext_drew ?_ | refine ext_drewN ?_ _ | refine ext_alloc ?_ _) : Ext (World.alloc W2 (.cells _ _)) W3)
  clear hW
  replace bs := at_ext bs (by simp) x3
  replace ba := at_ext ba (by simp) x3
  go_upto_region 5 with fail
  refine wp_at ?_
  intro W4 hW
  have x4 : Ext W3 W4 := by rw [hW]; repeat (first | exact ext_refl _ | assumption | refine ext_more' ?_ _ _ | refine ext_drew ?_ | refine ext_drewN ?_ _ | refine ext_alloc ?_ _)
  have bo := at_new (by rw [hW]; repeat (first | exact ext_refl _ | assumption | refine ext_more' ?_ _ _ | refine ext_drew ?_ | refine ext_drewN ?_ _ | refine ext_alloc ?_ _) : Ext (World.alloc W3 (.cells _ _)) W4)
  clear hW
  replace bs := at_ext bs (by simp) x4
  replace ba := at_ext ba (by simp) x4
  replace bl := at_ext bl (by simp) x4
  have k_bs := bs.1
  have l_bs := at_lt bs (by simp)
  have k_ba := ba.1
  have l_ba := at_lt ba (by simp)
  have k_bl := bl.1
  have l_bl := at_lt bl (by simp)
  have k_bo := bo.1
  have l_bo := at_lt bo (by simp)
  have HX4 := Lib.hid (ext_trans x1 (ext_trans x2 (ext_trans x3 x4)))
  clear x1 x2 x3 x4
  have nbs3 := fun (o0 o1 o2 : Obj) => (at_ext bs (by simp) (ext_alloc (ext_alloc (ext_alloc (ext_refl _) _) _) _ : Ext W4 (((W4.alloc o0).alloc o1).alloc o2))).1
  have nbs4 := fun (o0 o1 o2 o3 : Obj) => (at_ext bs (by simp) (ext_alloc (ext_alloc (ext_alloc (ext_alloc (ext_refl _) _) _) _) _ : Ext W4 ((((W4.alloc o0).alloc o1).alloc o2).alloc o3))).1
  have nbs5 := fun (o0 o1 o2 o3 o4 : Obj) => (at_ext bs (by simp) (ext_alloc (ext_alloc (ext_alloc (ext_alloc (ext_alloc (ext_refl _) _) _) _) _) _ : Ext W4 (((((W4.alloc o0).alloc o1).alloc o2).alloc o3).alloc o4))).1
  have nbs6 := fun (o0 o1 o2 o3 o4 o5 : Obj) => (at_ext bs (by simp) (ext_alloc (ext_alloc (ext_alloc (ext_alloc (ext_alloc (ext_alloc (ext_refl _) _) _) _) _) _) _ : Ext W4 ((((((W4.alloc o0).alloc o1).alloc o2).alloc o3).alloc o4).alloc o5))).1
  have nba3 := fun (o0 o1 o2 : Obj) => (at_ext ba (by simp) (ext_alloc (ext_alloc (ext_alloc (ext_refl _) _) _) _ : Ext W4 (((W4.alloc o0).alloc o1).alloc o2))).1
  have nba4 := fun (o0 o1 o2 o3 : Obj) => (at_ext ba (by simp) (ext_alloc (ext_alloc (ext_alloc (ext_alloc (ext_refl _) _) _) _) _ : Ext W4 ((((W4.alloc o0).alloc o1).alloc o2).alloc o3))).1
  have nba5 := fun (o0 o1 o2 o3 o4 : Obj) => (at_ext ba (by simp) (ext_alloc (ext_alloc (ext_alloc (ext_alloc (ext_alloc (ext_refl _) _) _) _) _) _ : Ext W4 (((((W4.alloc o0).alloc o1).alloc o2).alloc o3).alloc o4))).1
  have nba6 := fun (o0 o1 o2 o3 o4 o5 : Obj) => (at_ext ba (by simp) (ext_alloc (ext_alloc (ext_alloc (ext_alloc (ext_alloc (ext_alloc (ext_refl _) _) _) _) _) _) _ : Ext W4 ((((((W4.alloc o0).alloc o1).alloc o2).alloc o3).alloc o4).alloc o5))).1
  have nbl3 := fun (o0 o1 o2 : Obj) => (at_ext bl (by simp) (ext_alloc (ext_alloc (ext_alloc (ext_refl _) _) _) _ : Ext W4 (((W4.alloc o0).alloc o1).alloc o2))).1
  have nbl4 := fun (o0 o1 o2 o3 : Obj) => (at_ext bl (by simp) (ext_alloc (ext_alloc (ext_alloc (ext_alloc (ext_refl _) _) _) _) _ : Ext W4 ((((W4.alloc o0).alloc o1).alloc o2).alloc o3))).1
  have nbl5 := fun (o0 o1 o2 o3 o4 : Obj) => (at_ext bl (by simp) (ext_alloc (ext_alloc (ext_alloc (ext_alloc (ext_alloc (ext_refl _) _) _) _) _) _ : Ext W4 (((((W4.alloc o0).alloc o1).alloc o2).alloc o3).alloc o4))).1
  have nbl6 := fun (o0 o1 o2 o3 o4 o5 : Obj) => (at_ext bl (by simp) (ext_alloc (ext_alloc (ext_alloc (ext_alloc (ext_alloc (ext_alloc (ext_refl _) _) _) _) _) _) _ : Ext W4 ((((((W4.alloc o0).alloc o1).alloc o2).alloc o3).alloc o4).alloc o5))).1
  have nbo3 := fun (o0 o1 o2 : Obj) => (at_ext bo (by simp) (ext_alloc (ext_alloc (ext_alloc (ext_refl _) _) _) _ : Ext W4 (((W4.alloc o0).alloc o1).alloc o2))).1
  have nbo4 := fun (o0 o1 o2 o3 : Obj) => (at_ext bo (by simp) (ext_alloc (ext_alloc (ext_alloc (ext_alloc (ext_refl _) _) _) _) _ : Ext W4 ((((W4.alloc o0).alloc o1).alloc o2).alloc o3))).1
  have nbo5 := fun (o0 o1 o2 o3 o4 : Obj) => (at_ext bo (by simp) (ext_alloc (ext_alloc (ext_alloc (ext_alloc (ext_alloc (ext_refl _) _) _) _) _) _ : Ext W4 (((((W4.alloc o0).alloc o1).alloc o2).alloc o3).alloc o4))).1
  have nbo6 := fun (o0 o1 o2 o3 o4 o5 : Obj) => (at_ext bo (by simp) (ext_alloc (ext_alloc (ext_alloc (ext_alloc (ext_alloc (ext_alloc (ext_refl _) _) _) _) _) _) _ : Ext W4 ((((((W4.alloc o0).alloc o1).alloc o2).alloc o3).alloc o4).alloc o5))).1
  go_upto_region 6 with fail
  clear nbs3 nbs4 nbs5 nbs6 nba3 nba4 nba5 nba6 nbl3 nbl4 nbl5 nbl6 nbo3 nbo4 nbo5 nbo6
  refine wp_at ?_
  intro W5 hW
  have x5 : Ext W4 W5 := by rw [hW]; repeat (first | exact ext_refl _ | assumption | refine ext_more' ?_ _ _ | refine ext_drew ?_ | refine ext_drewN ?_ _ | refine ext_alloc ?_ _)
  obtain ⟨y0, y1, y2, y3, y4, y5, y6⟩ := at_row7 hW
  clear hW y0
  clear k_bs l_bs k_ba l_ba k_bl l_bl k_bo l_bo
  replace bs := at_ext bs (by simp) x5
  replace ba := at_ext ba (by simp) x5
  replace bo := at_ext bo (by simp) x5
  have k_bs := bs.1
  have l_bs := at_lt bs (by simp)
  have k_ba := ba.1
  have l_ba := at_lt ba (by simp)
  have k_bo := bo.1
  have l_bo := at_lt bo (by simp)
  clear bl
  have HX5 := Lib.hid (ext_trans HX4.out x5)
  clear x5 HX4
  have hb60 : ∀ w, (Instr.build 60 #[(0, .agg #[.int .u8 1, .int .i64 0, .int .i64 0, .int .i64 0, .int .i64 0, .int .i64 0, .string ⟨#[112]⟩]), (1, .agg #[.int .u8 2, .int .i64 0, .int .i64 1, .int .i64 1, .int .i64 0, .int .i64 0, .string ⟨#[97]⟩]), (2, .agg #[.int .u8 2, .int .i64 0, .int .i64 2, .int .i64 2, .int .i64 0, .int .i64 0, .string ⟨#[]⟩]), (3, .agg #[.int .u8 3, .int .i64 0, .int .i64 1, .int .i64 1, .int .i64 0, .int .i64 0, .string ⟨#[]⟩]), (4, .agg #[.int .u8 4, .int .i64 0, .int .i64 1, .int .i64 0, .int .i64 0, .int .i64 0, .string ⟨#[]⟩]), (5, .agg #[.int .u8 5, .int .i64 0, .int .i64 0, .int .i64 0, .int .i64 0, .int .i64 0, .string ⟨#[]⟩]), (6, .agg #[.int .u8 6, .int .i64 0, .int .i64 0, .int .i64 0, .int .i64 0, .int .i64 0, .string ⟨#[]⟩]), (7, .agg #[.int .u8 7, .int .i64 0, .int .i64 0, .int .i64 0, .int .i64 0, .int .i64 0, .string ⟨#[]⟩])]).run Try.prog w = .ok (.agg #[.int .u8 1, .int .i64 0, .int .i64 0, .int .i64 0, .int .i64 0, .int .i64 0, .string ⟨#[112]⟩, .int .u8 2, .int .i64 0, .int .i64 1, .int .i64 1, .int .i64 0, .int .i64 0, .string ⟨#[97]⟩, .int .u8 2, .int .i64 0, .int .i64 2, .int .i64 2, .int .i64 0, .int .i64 0, .string ⟨#[]⟩, .int .u8 3, .int .i64 0, .int .i64 1, .int .i64 1, .int .i64 0, .int .i64 0, .string ⟨#[]⟩, .int .u8 4, .int .i64 0, .int .i64 1, .int .i64 0, .int .i64 0, .int .i64 0, .string ⟨#[]⟩, .int .u8 5, .int .i64 0, .int .i64 0, .int .i64 0, .int .i64 0, .int .i64 0, .string ⟨#[]⟩, .int .u8 6, .int .i64 0, .int .i64 0, .int .i64 0, .int .i64 0, .int .i64 0, .string ⟨#[]⟩, .int .u8 7, .int .i64 0, .int .i64 0, .int .i64 0, .int .i64 0, .int .i64 0, .string ⟨#[]⟩]) w := fun w => run_build w _ _ _ (by kernel_rfl)
  refine wp_region_list ?_
  refine wpList_plain (by rfl) (fun K' hK' => ?_)
  go_simp
  refine hK' _ _ ?_
  clear hK'
  refine wpList_plain (by rfl) (fun K' hK' => ?_)
  go_simp
  refine hK' _ _ ?_
  clear hK'
  refine wpList_plain (by rfl) (fun K' hK' => ?_)
  go_simp
  refine hK' _ _ ?_
  clear hK'
  refine wpList_plain (by rfl) (fun K' hK' => ?_)
  go_simp
  refine hK' _ _ ?_
  clear hK'
  refine wpList_plain (by rfl) (fun K' hK' => ?_)
  go_simp
  refine hK' _ _ ?_
  clear hK'
  refine wpList_plain (by rfl) (fun K' hK' => ?_)
  go_simp
  refine hK' _ _ ?_
  clear hK'
  refine wpList_plain (by rfl) (fun K' hK' => ?_)
  go_simp
  refine hK' _ _ ?_
  clear hK'
  refine wpList_plain (by rfl) (fun K' hK' => ?_)
  go_simp
  refine hK' _ _ ?_
  clear hK'
  refine wpList_plain (by rfl) (fun K' hK' => ?_)
  go_simp
  refine hK' _ _ ?_
  clear hK'
  refine wpList_plain (by rfl) (fun K' hK' => ?_)
  go_simp
  refine hK' _ _ ?_
  clear hK'
  refine list_storeS rfl 60 (.tmp 8) (.tmp 47) rfl W5.heap.size _ (#[.int .u8 1, .int .i64 0, .int .i64 0, .int .i64 0, .int .i64 0, .int .i64 0, .string ⟨#[112]⟩, .int .u8 2, .int .i64 0, .int .i64 1, .int .i64 1, .int .i64 0, .int .i64 0, .string ⟨#[97]⟩, .int .u8 2, .int .i64 0, .int .i64 2, .int .i64 2, .int .i64 0, .int .i64 0, .string ⟨#[]⟩, .int .u8 3, .int .i64 0, .int .i64 1, .int .i64 1, .int .i64 0, .int .i64 0, .string ⟨#[]⟩, .int .u8 4, .int .i64 0, .int .i64 1, .int .i64 0, .int .i64 0, .int .i64 0, .string ⟨#[]⟩, .int .u8 5, .int .i64 0, .int .i64 0, .int .i64 0, .int .i64 0, .int .i64 0, .string ⟨#[]⟩, .int .u8 6, .int .i64 0, .int .i64 0, .int .i64 0, .int .i64 0, .int .i64 0, .string ⟨#[]⟩, .int .u8 7, .int .i64 0, .int .i64 0, .int .i64 0, .int .i64 0, .int .i64 0, .string ⟨#[]⟩]) rfl rfl (at_new (ext_refl _)) (by rfl) (by kernel_rfl) (by kernel_rfl) ?_
  intro W6 b8 hc6
  have x6 : Ext W5 W6 := ext_chg (ext_alloc (ext_refl _) _) hc6 (fun i h => by omega)
  refine wpList_nil ?_
  clear hc6 hb60
  clear k_bs l_bs k_ba l_ba k_bo l_bo
  clear bs ba bo
  go_upto_region 8 with fail
  refine wp_at ?_
  intro W7 hW
  have x7 : Ext W6 W7 := by rw [hW]; repeat (first | exact ext_refl _ | assumption | refine ext_more' ?_ _ _ | refine ext_drew ?_ | refine ext_drewN ?_ _ | refine ext_alloc ?_ _)
  have b9 := at_new (by rw [hW]; repeat (first | exact ext_refl _ | assumption | refine ext_more' ?_ _ _ | refine ext_drew ?_ | refine ext_drewN ?_ _ | refine ext_alloc ?_ _) : Ext (World.alloc W6 (.cells _ _)) W7)
  clear hW
  have HR0 := Lib.hid (show Rows_ W7 (some ⟨W4.heap.size, 0, none⟩) (kL 0).length 7 (fun j => evC ((kL 0).getD j default)) from fun h => absurd h (by decide))
  have HR1 := Lib.hid (show Rows_ W7 (some ⟨W4.heap.size + 1, 0, none⟩) (kL 1).length 7 (fun j => evC ((kL 1).getD j default)) from rows_on2 (rows_box (g := evC) (n := 7) (fun _ => rfl) (kL 1) y1 rfl (by simp)) (ext_trans x6 x7))
  have HR2 := Lib.hid (show Rows_ W7 (some ⟨W4.heap.size + 1 + 1, 0, none⟩) (kL 2).length 7 (fun j => evC ((kL 2).getD j default)) from rows_on2 (rows_box (g := evC) (n := 7) (fun _ => rfl) (kL 2) y2 rfl (by simp)) (ext_trans x6 x7))
  have HR3 := Lib.hid (show Rows_ W7 (some ⟨W4.heap.size + 1 + 1 + 1, 0, none⟩) (kL 3).length 7 (fun j => evC ((kL 3).getD j default)) from rows_on2 (rows_box (g := evC) (n := 7) (fun _ => rfl) (kL 3) y3 rfl (by simp)) (ext_trans x6 x7))
  have HR4 := Lib.hid (show Rows_ W7 (some ⟨W4.heap.size + 1 + 1 + 1 + 1, 0, none⟩) (kL 4).length 7 (fun j => evC ((kL 4).getD j default)) from rows_on2 (rows_box (g := evC) (n := 7) (fun _ => rfl) (kL 4) y4 rfl (by simp)) (ext_trans x6 x7))
  have HR5 := Lib.hid (show Rows_ W7 (some ⟨W4.heap.size + 1 + 1 + 1 + 1 + 1, 0, none⟩) (kL 5).length 7 (fun j => evC ((kL 5).getD j default)) from rows_on2 (rows_box (g := evC) (n := 7) (fun _ => rfl) (kL 5) y5 rfl (by simp)) (ext_trans x6 x7))
  replace y6 := at_ext y6 (by simp) (ext_trans x6 x7)
  replace b8 := at_ext b8 (by simp) x7
  have HX7 := Lib.hid (ext_trans HX5.out (ext_trans x6 x7))
  have HB8 := Lib.hid b8
  have HB9 := Lib.hid b9
  have k_y6 := y6.1
  have l_y6 := at_lt y6 (by simp)
  clear x6 x7 HX5 y1 y2 y3 y4 y5 b8 b9
  go_wp2
  go_loopg [50] 6 (fun g kk wr => ∃ i : Nat, kk = .int .i64 i ∧ g + i = 6 ∧ Ext W7 wr)
  case atStart => exact ⟨0, rfl, rfl, ext_refl _⟩
  case round =>
    obtain ⟨i, rfl, hgi, hxr⟩ := hrel
    have HXR := Lib.hid hxr
    clear k_y6 l_y6 y6 hxr
    by_cases hi : i < 6
    rotate_left
    · have hi3 : ¬ ((i : Int) < 6) := by omega
      go_wp2_with (go_at_call 9; refine (awake12_calls _).mono ?_; rintro e w9 ⟨rfl, hb9⟩)
      go_ret
      exact ⟨rfl, ext_trans (ext_trans HX7.out HXR.out) hb9⟩
    have hi3 : (i : Int) < 6 := by omega
    obtain ⟨ms, hrun, hrows⟩ : ∃ ms : Option Addr, (∀ w, (Instr.index 59 (.agg #[.slice (some ⟨W4.heap.size, 0, none⟩) 0 0, .slice (some ⟨W4.heap.size + 1, 0, none⟩) 1 1, .slice (some ⟨W4.heap.size + 1 + 1, 0, none⟩) 2 2, .slice (some ⟨W4.heap.size + 1 + 1 + 1, 0, none⟩) 2 2, .slice (some ⟨W4.heap.size + 1 + 1 + 1 + 1, 0, none⟩) 3 3, .slice (some ⟨W4.heap.size + 1 + 1 + 1 + 1 + 1, 0, none⟩) 2 2]) (.int .i64 i)).run Try.prog w = .ok (.slice ms (kL i).length (kL i).length) w) ∧ Rows_ W7 ms (kL i).length 7 (fun j => evC ((kL i).getD j default)) := by
      rcases six hi with rfl | rfl | rfl | rfl | rfl | rfl
      · exact ⟨_, fun _ => rfl, HR0.out⟩
      · exact ⟨_, fun _ => rfl, HR1.out⟩
      · exact ⟨_, fun _ => rfl, HR2.out⟩
      · exact ⟨_, fun _ => rfl, HR3.out⟩
      · exact ⟨_, fun _ => rfl, HR4.out⟩
      · exact ⟨_, fun _ => rfl, HR5.out⟩
    have HRW := Lib.hid hrows
    have HKN := Lib.hid (kL_N hi); have HKH := Lib.hid (kL_H hi); have HKP := Lib.hid (kL_P hi)
    have HTB := Lib.hid (fun (k : Nat) (hk : k < 8) => kinds_next hi hk hc0 hc1)
    have hws : HXR = HXR ∧ W7.cell? ⟨W6.heap.size, i, none⟩ = some (.string (kWs i)) := ⟨rfl, by
      rw [HB9.out.1]
      rcases six hi with rfl | rfl | rfl | rfl | rfl | rfl <;> rfl⟩
    have HWS := Lib.hid hws.2
    have HCH := Lib.hid (show ∀ k, k < 8 → ∀ w, (Instr.index 9 (.string (kWs i)) (.int .i64 (k : Nat))).run Try.prog w = .ok (.int .u8 (if kY i k = true then 121 else 45)) w from fun k hk => by
      rcases six hi with rfl | rfl | rfl | rfl | rfl | rfl <;> rcases eight hk with rfl | rfl | rfl | rfl | rfl | rfl | rfl | rfl <;> exact fun _ => rfl)
    have hll := kL_len hi
    have hlast := Lib.hid (kH_last hi)
    obtain ⟨l, hl⟩ : ∃ l, l = kL i := ⟨_, rfl⟩
    obtain ⟨h, hh⟩ : ∃ h, h = kH i := ⟨_, rfl⟩
    obtain ⟨ws, hws2⟩ : ∃ ws, ws = kWs i := ⟨_, rfl⟩
    simp only [← hl] at hrun HRW HKN HKH HKP hll
    simp only [← hh] at HKH HKP HTB hlast
    simp only [← hws2] at HWS HCH
    have HUL := Lib.hid (show ∀ j, j < l.length → 0 ≤ (l.getD j default).k ∧ (l.getD j default).k ≤ 255 from by
      rw [hl]
      rcases six hi with rfl | rfl | rfl | rfl | rfl | rfl <;> decide)
    clear hl hh hws2 hws hrows
    have b8 := at_ext HB8.out (by simp) HXR.out
    have b9 := at_ext HB9.out (by simp) HXR.out
    go_upto_region 12 with (go_at_call 16; refine (fold_calls _ _ l _ (rows_on2 HRW.out HXR.out) (by omega) (by omega) HUL.out).mono ?_; rintro e v3 ⟨m3, rfl, hi3, hb3⟩; rw [HKH.out, HKN.out]; rw [HKH.out] at hi3; simp only [hC]; have HI3 := Lib.hid hi3; clear hi3)
    refine wp_at ?_
    intro W12 hW
    have x12 : Ext wr W12 := by rw [hW]; repeat (first | exact ext_refl _ | assumption | refine ext_more' ?_ _ _ | refine ext_drew ?_ | refine ext_drewN ?_ _ | refine ext_alloc ?_ _)
    have bh := at_new (by rw [hW]; repeat (first | exact ext_refl _ | assumption | refine ext_more' ?_ _ _ | refine ext_drew ?_ | refine ext_drewN ?_ _ | refine ext_alloc ?_ _) : Ext (World.alloc v3 (.cells _ _)) W12)
    have y3 : Ext v3 W12 := by rw [hW]; repeat (first | exact ext_refl _ | assumption | refine ext_more' ?_ _ _ | refine ext_drew ?_ | refine ext_drewN ?_ _ | refine ext_alloc ?_ _)
    clear hW
    have HX12 := Lib.hid (ext_trans HXR.out x12)
    have HI12 := Lib.hid (HI3.out.ext y3)
    have HBH := Lib.hid (show At W12 v3.heap.size (hC h m3) from bh)
    have hbn : W6.heap.size < v3.heap.size := by have := at_lt HB9.out (by simp); have := HXR.out.size; have := hb3.size; omega
    clear y3 hb3 bh HI3 hrun x12 b9
    have b8 := at_ext HB8.out (by simp) HX12.out
    go_upto_region 14 with fail
    refine wp_region_list ?_
    refine wpList_load_mid rfl 60 (.tmp 8) rfl W5.heap.size 0 rfl [.int .u8 1, .int .i64 0, .int .i64 0, .int .i64 0, .int .i64 0, .int .i64 0, .string ⟨#[112]⟩, .int .u8 2, .int .i64 0, .int .i64 1, .int .i64 1, .int .i64 0, .int .i64 0, .string ⟨#[97]⟩, .int .u8 2, .int .i64 0, .int .i64 2, .int .i64 2, .int .i64 0, .int .i64 0, .string ⟨#[]⟩, .int .u8 3, .int .i64 0, .int .i64 1, .int .i64 1, .int .i64 0, .int .i64 0, .string ⟨#[]⟩, .int .u8 4, .int .i64 0, .int .i64 1, .int .i64 0, .int .i64 0, .int .i64 0, .string ⟨#[]⟩, .int .u8 5, .int .i64 0, .int .i64 0, .int .i64 0, .int .i64 0, .int .i64 0, .string ⟨#[]⟩, .int .u8 6, .int .i64 0, .int .i64 0, .int .i64 0, .int .i64 0, .int .i64 0, .string ⟨#[]⟩, .int .u8 7, .int .i64 0, .int .i64 0, .int .i64 0, .int .i64 0, .int .i64 0, .string ⟨#[]⟩] _ (fun j v hv => by rw [Nat.zero_add, b8.1]; simpa using hv) Try.underlying60 rfl (by kernel_rfl) ?_
    refine wpList_plain (by rfl) (fun K' hK' => ?_)
    go_simp
    refine hK' _ _ ?_
    clear hK'
    refine wpList_nil ?_
    go_wp2
    go_loopg [64] 8 (fun g kk wr => ∃ k : Nat, kk = .int .i64 k ∧ g + k = 8 ∧ Ext W12 wr)
    case atStart => exact ⟨0, rfl, rfl, ext_refl _⟩
    case round =>
      obtain ⟨k, rfl, hgk, hxk⟩ := hrel
      have HXK := Lib.hid hxk
      clear b8 hxk
      by_cases hk : k < 8
      rotate_left
      · have hk3 : ¬ ((k : Int) < 8) := by omega
        go_wp2
        go_roundg (6 - (i + 1))
        case measure => omega
        case rel => exact ⟨i + 1, by go_num, by omega, ext_trans HX12.out HXK.out⟩
      have hk3 : (k : Int) < 8 := by omega
      have hre : ∀ w, (Instr.index 60 (.agg #[.int .u8 1, .int .i64 0, .int .i64 0, .int .i64 0, .int .i64 0, .int .i64 0, .string ⟨#[112]⟩, .int .u8 2, .int .i64 0, .int .i64 1, .int .i64 1, .int .i64 0, .int .i64 0, .string ⟨#[97]⟩, .int .u8 2, .int .i64 0, .int .i64 2, .int .i64 2, .int .i64 0, .int .i64 0, .string ⟨#[]⟩, .int .u8 3, .int .i64 0, .int .i64 1, .int .i64 1, .int .i64 0, .int .i64 0, .string ⟨#[]⟩, .int .u8 4, .int .i64 0, .int .i64 1, .int .i64 0, .int .i64 0, .int .i64 0, .string ⟨#[]⟩, .int .u8 5, .int .i64 0, .int .i64 0, .int .i64 0, .int .i64 0, .int .i64 0, .string ⟨#[]⟩, .int .u8 6, .int .i64 0, .int .i64 0, .int .i64 0, .int .i64 0, .int .i64 0, .string ⟨#[]⟩, .int .u8 7, .int .i64 0, .int .i64 0, .int .i64 0, .int .i64 0, .int .i64 0, .string ⟨#[]⟩]) (.int .i64 k)).run Try.prog w = .ok (.agg #[.int .u8 (kE k).k, .int .i64 (kE k).at', .int .i64 (kE k).n, .int .i64 (kE k).p, .int .i64 (kE k).a, .int .i64 (kE k).b, .string (kE k).s]) w := by
        rcases eight hk with rfl | rfl | rfl | rfl | rfl | rfl | rfl | rfl <;> exact fun _ => rfl
      have htb := HTB.out k hk
      have hch := HCH.out k hk
      have hek : 0 ≤ (kE k).k ∧ (kE k).k ≤ 255 := by rcases eight hk with rfl | rfl | rfl | rfl | rfl | rfl | rfl | rfl <;> decide
      obtain ⟨⟨ek, eat, en, ep, ea, eb, es⟩, he⟩ : ∃ e, e = kE k := ⟨_, rfl⟩
      rw [← he] at hre htb hek
      simp only at hre htb hek
      clear he
      obtain ⟨⟨h2, q⟩, hnx⟩ : ∃ x : Hs × Int, nextH h ⟨ek, c, en, ep, ea, eb, es⟩ = x := ⟨_, rfl⟩
      rw [hnx] at htb
      simp only at htb
      have HN := Lib.hid hnx
      clear hnx
      have HBK := Lib.hid (at_ext HBH.out (by simp [hC]) HXK.out)
      have kh := HBK.out.1
      have lh := at_lt HBK.out (by simp [hC])
      unfold hC at kh
      go_upto_region 17 with fail
      refine wp_at ?_
      intro W17 hW
      have x17 : Ext wr W17 := by rw [hW]; repeat (first | exact ext_refl _ | assumption | refine ext_more' ?_ _ _ | refine ext_drew ?_ | refine ext_drewN ?_ _ | refine ext_alloc ?_ _)
      have b17 := at_new (by rw [hW]; repeat (first | exact ext_refl _ | assumption | refine ext_more' ?_ _ _ | refine ext_drew ?_ | refine ext_drewN ?_ _ | refine ext_alloc ?_ _) : Ext (World.alloc wr (.cells _ _)) W17)
      clear hW kh lh hre
      have HBK2 := Lib.hid (at_ext HBK.out (by simp [hC]) x17)
      have kh := HBK2.out.1
      have lh := at_lt HBK2.out (by simp [hC])
      unfold hC at kh
      have k17 := b17.1
      have f17 := b17.2
      have l17 := at_lt b17 (by simp)
      have hwc : IntKind.i64.wrap c = c := IntWalk.i64_in _ (by omega)
      have hwd : IntKind.i64.wrap (h.last + c) = c := by rw [hlast.out, Int.zero_add]; exact hwc
      go_upto_region 18 with fail
      refine wp_at ?_
      intro W18 hW
      have b18 : At W18 wr.heap.size #[.int .u8 ek, .int .i64 c, .int .i64 en, .int .i64 ep, .int .i64 ea, .int .i64 eb, .string es] := by rw [hW]; exact at_put b17 (by simp) rfl
      have x18 : Ext wr W18 := by rw [hW]; exact ext_set x17 (Nat.le_refl _) _
      clear hW kh lh k17 f17 l17 b17 x17 HBK2
      have HXW := Lib.hid (ext_trans HXK.out x18)
      have HBK3 := Lib.hid (at_ext HBK.out (by simp [hC]) x18)
      have kh := HBK3.out.1
      have lh := at_lt HBK3.out (by simp [hC])
      unfold hC at kh
      have k18 := b18.1
      have l18 := at_lt b18 (by simp)
      have hw9 : W18.cell? ⟨W6.heap.size, i, none⟩ = some (.string ws) := by
        rw [(ext_trans HX12.out HXW.out).cell (p := ⟨W6.heap.size, i, none⟩) (at_lt HB9.out (by simp))]; exact HWS.out
      have lw9 : W6.heap.size < W18.heap.size := Nat.lt_of_lt_of_le (at_lt HB9.out (by simp)) (ext_trans HX12.out HXW.out).size
      have ix0 : (0 : Int) ≤ (i : Int) := by omega
      cases hy : kY i k
      all_goals
        rw [hy] at htb hch
        simp only [Bool.false_eq_true, if_false, if_true] at htb hch
        subst htb
        clear hy
        go_upto_region 19 with (go_at_call 10; refine (nextF_calls h m3 ⟨ek, c, en, ep, ea, eb, es⟩ _ _ HKP.out (by omega) (HI12.out.ext (ext_trans HXW.out (by repeat (first | exact ext_refl _ | assumption | refine ext_more' ?_ _ _ | refine ext_drew ?_ | refine ext_drewN ?_ _ | refine ext_alloc ?_ _)))) hek.1 hek.2).mono ?_; unfold NextPost; rw [HN.out]; rintro e w19 ⟨m2, rfl, hp0, hb⟩; simp only [hC]; clear hp0)
        refine wp_at ?_
        intro W19 hW
        have x19 : Ext W18 W19 := by rw [hW]; repeat (first | exact ext_refl _ | assumption | refine ext_more' ?_ _ _ | refine ext_drew ?_ | refine ext_drewN ?_ _ | refine ext_alloc ?_ _)
        clear hW kh lh k18 l18
        have hw10 : W19.cell? ⟨W6.heap.size, i, none⟩ = some (.string ws) := by
          rw [x19.cell (p := ⟨W6.heap.size, i, none⟩) lw9]; exact hw9
        have lw10 : W6.heap.size < W19.heap.size := Nat.lt_of_lt_of_le lw9 x19.size
        have HXZ := Lib.hid (ext_trans HXW.out x19)
        clear hw9 lw9 x19
        go_wp2
        go_roundg (8 - (k + 1))
        case measure => omega
        case rel => exact ⟨k + 1, by go_num, by omega, HXZ.out⟩
end Go.Proofs.Ythpgmefjgidkgaa

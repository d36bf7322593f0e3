/- HistoryWrong. -/
import Derived.Test.YthpgmefjgidkgaaVE12b
import Derived.Test.YthpgmefjgidkgaaS12g
namespace Go.Proofs.Ythpgmefjgidkgaa
open Go.RowKit
set_option linter.unusedVariables false
set_option linter.unusedSimpArgs false

theorem own_stB {w : World} {b base j : Nat} {T : TypeId} {sz n : Nat} {v x : Value} {xs : List Value} (h : w.ownsRow base T sz v n xs) (hb : b < base) : (w.setCell ⟨b, j, none⟩ x).ownsRow base T sz v n xs :=
  own_chgS h (chg_put (b := b) (Chg.refl _ _)) (fun k e hk => by have := (h.lt k e).1; omega)
set_option maxRecDepth 100000 in
set_option maxHeartbeats 8000000 in
theorem wrong_walk (s : Option Addr) (cap : Nat) (l : List Ev) (w : World) (hrows : Rows_ w s l.length 7 (fun i => evC (l.getD i default))) (hcap : l.length ≤ cap) (hmax : cap ≤ maxLen) (hu : ∀ i, i < l.length → 0 ≤ (l.getD i default).k ∧ (l.getD i default).k ≤ 255) (c : Int) (hc0 : 0 ≤ c) (hc1 : c ≤ 255) :
    Calls Try.prog 5 #[.slice s l.length cap, .int .u8 c] w fun e w' => e = .returned (.bool true) ∧ Ext w w' := by
  have HROWS := Lib.hid hrows; have HU := Lib.hid hu
  clear hrows hu
  have hm : cap ≤ 9223372036854775807 := by unfold maxLen at hmax; exact hmax
  obtain ⟨L, hL⟩ : ∃ L, L = l.take 80 := ⟨_, rfl⟩
  have hLl : L.length = min l.length 80 := by rw [hL, List.length_take]; omega
  have hget : ∀ i, i < L.length → L.getD i default = l.getD i default := fun i hi => by
    rw [hL]; simp only [List.getD_eq_getElem?_getD]; rw [List.getElem?_take_of_lt (by omega)]
  have HRL := Lib.hid (show Rows_ w s L.length 7 (fun i => evC (L.getD i default)) from rows_cong2 (rows_take HROWS.out (by omega)) (fun i hi => by rw [hget i hi]))
  have HUL := Lib.hid (show ∀ i, i < L.length → 0 ≤ (L.getD i default).k ∧ (L.getD i default).k ≤ 255 from fun i hi => by rw [hget i hi]; exact HU.out i (by omega))
  have q1 : mn (l.length : Int) 80 = (L.length : Int) := by rw [show (80 : Int) = ((80 : Nat) : Int) from rfl, mn_castH, hLl]
  have hl80 : L.length ≤ 80 := by omega
  have hlc : L.length ≤ cap := by omega
  have hn : foldN L ≤ 80 := by have := foldN_le L; omega
  obtain ⟨n, hnn⟩ : ∃ n, n = foldN L := ⟨_, rfl⟩
  obtain ⟨h, hh⟩ : ∃ h, h = foldH L := ⟨_, rfl⟩
  have HP := Lib.hid (show FhP h n by rw [hh, hnn]; exact fh_P (foldN_ok L))
  rw [← hnn] at hn
  have HHH := Lib.hid hh.symm; have HNN := Lib.hid hnn.symm
  have hq1 : h.cmds.length ≤ 100 := by have := HP.out.cl; omega
  have hq2 : h.tries.length ≤ 100 := by have := HP.out.tl; omega
  have hq3 : h.known.length ≤ 100 := by have := HP.out.kl; omega
  have hq4 : 0 ≤ h.len ∧ h.len ≤ 100 := by have := HP.out.len; omega
  clear hL hLl hget hh hnn
  go_enter Try.func5, Try.ntmps5
  go_wp2_with fail
  refine (few_calls _ _ l _ hcap (by unfold maxLen at hmax; omega) HROWS.out).mono ?_
  rintro e w1 ⟨⟨g, rfl⟩, hb⟩
  have X1 := Lib.hid hb
  clear hb
  cases g
  · go_wp2_with (go_at_call 9; refine (awake12_calls _).mono ?_; rintro e w9 ⟨rfl, hb9⟩)
    go_ret
    exact ⟨rfl, ext_trans X1.out hb9⟩
  go_upto_region 4 with (go_at_call 16; refine (fold_calls _ cap L _ (rows_on2 HRL.out X1.out) (by omega) hlc HUL.out).mono ?_; rintro e v3 ⟨m3, rfl, hi3, hb3⟩; rw [HHH.out, HNN.out]; rw [HHH.out] at hi3; simp only [hC]; have HI3' := Lib.hid hi3; clear hi3)
  refine wp_at ?_
  intro W3 hW
  have x3 : Ext w1 W3 := by rw [hW]; repeat (first | exact ext_refl _ | assumption | refine ext_more' ?_ _ _ | refine ext_drew ?_ | refine ext_drewN ?_ _ | refine ext_alloc ?_ _)
  have bh := at_new (by rw [hW]; repeat (first | exact ext_refl _ | assumption | refine ext_more' ?_ _ _ | refine ext_drew ?_ | refine ext_drewN ?_ _ | refine ext_alloc ?_ _) : Ext (World.alloc v3 (.cells _ _)) W3)
  have y3 : Ext v3 W3 := by rw [hW]; repeat (first | exact ext_refl _ | assumption | refine ext_more' ?_ _ _ | refine ext_drew ?_ | refine ext_drewN ?_ _ | refine ext_alloc ?_ _)
  clear hW
  have HI3 := Lib.hid (HI3'.out.ext y3)
  have HBH3 := Lib.hid (show At W3 v3.heap.size (hC h m3) from bh)
  have HXW3 := Lib.hid (ext_trans X1.out x3)
  have hk1 : h.cmds.length ≤ m3.cc := HI3.out.2.2.2.2.1
  have hk2 : h.tries.length ≤ m3.tc := HI3.out.2.2.2.2.2.1
  have hk3 : h.known.length ≤ m3.kc := HI3.out.2.2.2.2.2.2.1
  clear y3 HI3' hb3 x3 X1 bh
  have kh := HBH3.out.1
  have lh := at_lt HBH3.out (by simp [hC])
  unfold hC at kh
  go_upto_region 5 with fail
  refine wp_at ?_
  intro W4 hW
  have x4 : Ext W3 W4 := by rw [hW]; repeat (first | exact ext_refl _ | assumption | refine ext_more' ?_ _ _ | refine ext_drew ?_ | refine ext_drewN ?_ _ | refine ext_alloc ?_ _)
  have bx := at_new (by rw [hW]; repeat (first | exact ext_refl _ | assumption | refine ext_more' ?_ _ _ | refine ext_drew ?_ | refine ext_drewN ?_ _ | refine ext_alloc ?_ _) : Ext (World.alloc W3 (.cells _ _)) W4)
  clear hW
  have HX4 := Lib.hid x4
  have HB4d := Lib.hid (show At W4.drew W3.heap.size #[.string h.prog, .int .i64 h.arg, (.slice m3.cs h.cmds.length m3.cc), (.slice m3.ts h.tries.length m3.tc), (.slice m3.ks h.known.length m3.kc), .slice m3.ss h.sigs.length m3.sc, .bool h.stopped, .bool h.closed, .int .i64 h.out.st, .int .i64 h.out.v, .int .i64 h.len, .int .i64 h.last] from at_drewI bx)
  have HZ4 := Lib.hid (show W3.heap.size < W4.heap.size from at_lt bx (by simp))
  clear kh lh x4 bx
  refine wp_region_held_drew (S := fun w' => Ext W3 w') (by kernel_rfl) (ext_drew HX4.out) (fun hHeld => ?_)
  refine wpAnyH_take' (i := 0) (v := ?v0) (some 22) rfl rfl (by kernel_rfl) (by kernel_rfl) (by kernel_rfl) (fun _ _ _ h => h) (Or.inl ⟨by rfl, ?y0⟩) hHeld ?_
  case y0 =>
    intro w' hSw
    go_simp
    try with_reducible rfl
  refine wpAnyH_take' (i := 1) (v := ?v1) (some 23) rfl rfl (by kernel_rfl) (by kernel_rfl) (by kernel_rfl) (fun _ _ _ h => h) (Or.inl ⟨by rfl, ?y1⟩) hHeld ?_
  case y1 =>
    intro w' hSw
    have kh := (at_ext HBH3.out (by simp [hC]) hSw).1
    unfold hC at kh
    go_simp
    try with_reducible rfl
  refine wpAnyH_take' (i := 3) (v := ?v3) (some 25) rfl rfl (by kernel_rfl) (by kernel_rfl) (by kernel_rfl) (fun _ _ _ h => h) (Or.inl ⟨by rfl, ?y3⟩) hHeld ?_
  case y3 =>
    intro w' hSw
    go_simp
    try with_reducible rfl
  refine wpAnyH_take' (i := 4) (v := ?v4) (some 26) rfl rfl (by kernel_rfl) (by kernel_rfl) (by kernel_rfl) (fun _ _ _ h => h) (Or.inl ⟨by rfl, ?y4⟩) hHeld ?_
  case y4 =>
    intro w' hSw
    have kh := (at_ext HBH3.out (by simp [hC]) hSw).1
    unfold hC at kh
    go_simp
    try with_reducible rfl
  refine wpAnyH_at 10 (fun a0 W0 L' a' w' => ∃ u24 u27 u28 u29 : Value, a' = frm [(24, u24), (27, u27), (28, u28), (29, u29)] a0 ∧ Ext W3 w' ∧ W4.heap.size ≤ w'.heap.size ∧ At w' W3.heap.size #[.string h.prog, .int .i64 h.arg, (bif L' 7 then u24 else (.slice m3.cs h.cmds.length m3.cc)), (bif L' 9 then u27 else (.slice m3.ts h.tries.length m3.tc)), (.slice m3.ks h.known.length m3.kc), .slice m3.ss h.sigs.length m3.sc, .bool h.stopped, .bool h.closed, .int .i64 h.out.st, .int .i64 h.out.v, .int .i64 h.len, .int .i64 h.last] ∧ Aft (L' 2) (∃ ms cap, u24 = .slice ms h.cmds.length cap ∧ w'.ownsRow W4.heap.size 56 5 (.slice ms h.cmds.length cap) h.cmds.length (h.cmds.flatMap cmdC)) ∧ Aft (L' 5) (∃ ms cap, u27 = .slice ms h.tries.length cap ∧ w'.ownsRow W4.heap.size 3 1 (.slice ms h.tries.length cap) h.tries.length (h.tries.flatMap numC)) ∧ Aft (L' 6) (u28 = .pointer (some ⟨W3.heap.size, 2, none⟩)) ∧ Aft (L' 8) (u29 = .pointer (some ⟨W3.heap.size, 3, none⟩))) [2, 5, 6, 7, 8, 9] [0, 1, 2, 3, 4, 5, 6, 7, 8, 9] (by kernel_rfl) (by kernel_rfl) (by kernel_rfl) (fun _ _ _ h => by obtain ⟨_, _, _, _, _, hX, _⟩ := h; exact hX) ?i0 ?st ?en
  case i0 => exact ⟨_, _, _, _, (frm_rd [24, 27, 28, 29] _).symm, (ext_drew HX4.out), (Nat.le_refl _), HB4d.out, (Aft.no (by kernel_rfl)), (Aft.no (by kernel_rfl)), (Aft.no (by kernel_rfl)), (Aft.no (by kernel_rfl))⟩
  case st =>
    refine StepsI.cons [] [5, 6, 7, 8, 9] 10 rfl (by kernel_rfl) (by kernel_rfl) ?s2 ?_
    case s2 =>
      rintro L' a' w' K' hi hp hn ⟨u24, u27, u28, u29, rfl, hX, hZ, hB, h2, h5, h6, h8⟩ hK
      have n7 := hn 7 (by simp)
      have n9 := hn 9 (by simp)
      have hB0 := hB
      simp only [n7, n9, cond_true, cond_false] at hB0
      refine Stp.mk ?_
      rw [if_pos (by rfl)]
      go_simp
      go_at_call 18
      refine (copycmds_c m3.cs m3.cc h.cmds _ (by omega) (by omega) (rows_on2 HI3.out.1 hX)).mono ?_
      rintro e w1 ⟨ms, cap, rfl, ho, hb⟩
      exact hK.out _ _ ⟨(.slice ms h.cmds.length cap), u27, u28, u29, by kernel_rfl, (ext_trans hX hb), (Nat.le_trans hZ hb.size), (by simp only [show upd L' 2 7 = false from n7, show upd L' 2 9 = false from n9, cond_false]; exact at_ext hB0 (by simp) hb), (Aft.new ⟨ms, cap, rfl, own_low ho hZ⟩), (h5.map (own_keep hb)), h6, h8⟩
    refine StepsI.cons [2] [7, 8, 9] 10 rfl (by kernel_rfl) (by kernel_rfl) ?s5 ?_
    case s5 =>
      rintro L' a' w' K' hi hp hn ⟨u24, u27, u28, u29, rfl, hX, hZ, hB, h2, h5, h6, h8⟩ hK
      have n7 := hn 7 (by simp)
      have n9 := hn 9 (by simp)
      have hB0 := hB
      simp only [n7, n9, cond_true, cond_false] at hB0
      refine Stp.mk ?_
      rw [if_pos (by rfl)]
      go_simp
      go_at_call 19
      refine (copyints_c m3.ts m3.tc h.tries _ (by omega) (by omega) (rows_on2 HI3.out.2.1 hX)).mono ?_
      rintro e w1 ⟨ms, cap, rfl, ho, hb⟩
      exact hK.out _ _ ⟨u24, (.slice ms h.tries.length cap), u28, u29, by kernel_rfl, (ext_trans hX hb), (Nat.le_trans hZ hb.size), (by simp only [show upd L' 5 7 = false from n7, show upd L' 5 9 = false from n9, cond_false]; exact at_ext hB0 (by simp) hb), (h2.map (own_keep hb)), (Aft.new ⟨ms, cap, rfl, own_low ho hZ⟩), h6, h8⟩
    refine StepsI.cons [2] [7, 8, 9] 10 rfl (by kernel_rfl) (by kernel_rfl) ?s6 ?_
    case s6 =>
      rintro L' a' w' K' hi hp hn ⟨u24, u27, u28, u29, rfl, hX, hZ, hB, h2, h5, h6, h8⟩ hK
      refine Stp.mk ?_
      rw [if_pos (by rfl)]
      go_simp
      exact hK.out _ _ ⟨u24, u27, (.pointer (some ⟨W3.heap.size, 2, none⟩)), u29, by kernel_rfl, hX, hZ, hB, h2, h5, (Aft.new rfl), h8⟩
    refine StepsI.cons [2, 5, 6] [8, 9] 10 rfl (by kernel_rfl) (by kernel_rfl) ?s7 ?_
    case s7 =>
      rintro L' a' w' K' hi hp hn ⟨u24, u27, u28, u29, rfl, hX, hZ, hB, h2, h5, h6, h8⟩ hK
      have n7 := hi
      have n9 := hn 9 (by simp)
      have hB0 := hB
      simp only [n7, n9, cond_true, cond_false] at hB0
      have e6 := h6.get (hp 6 (by simp))
      have q2 := h2.get (hp 2 (by simp))
      obtain ⟨ms, cap, e2, ho⟩ := q2
      have lb := at_lt hB0 (by simp)
      have kb := hB0.1
      have fb := hB0.2
      refine Stp.mk ?_
      rw [if_pos (by rfl)]
      go_simp
      exact hK.out _ _ ⟨(.slice ms h.cmds.length cap), u27, (.pointer (some ⟨W3.heap.size, 2, none⟩)), u29, by kernel_rfl, (ext_set hX (Nat.le_refl _) _), (Nat.le_trans hZ (chg_put (b := W3.heap.size) (Chg.refl _ _)).size), (at_put hB0 (by simp) (by simp [n7, n9, upd])), (Aft.new ⟨ms, cap, rfl, own_stB ho HZ4.out⟩), (h5.map (fun ⟨ms, cap, e, h⟩ => ⟨ms, cap, e, own_stB h HZ4.out⟩)), (Aft.new rfl), h8⟩
    refine StepsI.cons [2, 5, 6, 7] [9] 10 rfl (by kernel_rfl) (by kernel_rfl) ?s8 ?_
    case s8 =>
      rintro L' a' w' K' hi hp hn ⟨u24, u27, u28, u29, rfl, hX, hZ, hB, h2, h5, h6, h8⟩ hK
      refine Stp.mk ?_
      rw [if_pos (by rfl)]
      go_simp
      exact hK.out _ _ ⟨u24, u27, u28, (.pointer (some ⟨W3.heap.size, 3, none⟩)), by kernel_rfl, hX, hZ, hB, h2, h5, h6, (Aft.new rfl)⟩
    refine StepsI.cons [2, 5, 6, 7, 8] [] 10 rfl (by kernel_rfl) (by kernel_rfl) ?s9 ?_
    case s9 =>
      rintro L' a' w' K' hi hp hn ⟨u24, u27, u28, u29, rfl, hX, hZ, hB, h2, h5, h6, h8⟩ hK
      have p7 := hp 7 (by simp)
      have n9 := hi
      have hB0 := hB
      simp only [p7, n9, cond_true, cond_false] at hB0
      have e8 := h8.get (hp 8 (by simp))
      have q5 := h5.get (hp 5 (by simp))
      obtain ⟨ms, cap, e5, ho⟩ := q5
      have lb := at_lt hB0 (by simp)
      have kb := hB0.1
      have fb := hB0.2
      refine Stp.mk ?_
      rw [if_pos (by rfl)]
      go_simp
      exact hK.out _ _ ⟨u24, (.slice ms h.tries.length cap), u28, (.pointer (some ⟨W3.heap.size, 3, none⟩)), by kernel_rfl, (ext_set hX (Nat.le_refl _) _), (Nat.le_trans hZ (chg_put (b := W3.heap.size) (Chg.refl _ _)).size), (at_put hB0 (by simp) (by simp [n9, p7, upd])), (h2.map (fun ⟨ms, cap, e, h⟩ => ⟨ms, cap, e, own_stB h HZ4.out⟩)), (Aft.new ⟨ms, cap, rfl, own_stB ho HZ4.out⟩), h6, (Aft.new rfl)⟩
    exact StepsI.nil
  rintro L' a' W5 hL ⟨u24, u27, u28, u29, rfl, hX, hZ, hB, h2, h5, h6, h8⟩
  have l7 := hL 7 (by decide)
  have l9 := hL 9 (by decide)
  simp only [l7, l9, cond_true] at hB
  obtain ⟨ms1, cap1, e2, o1⟩ := h2.get (hL 2 (by decide))
  obtain ⟨ms2, cap2, e5, o2⟩ := h5.get (hL 5 (by decide))
  subst e2
  subst e5
  have HB5 := Lib.hid (show At W5 W3.heap.size (hC h ⟨ms1, cap1, ms2, cap2, m3.ks, m3.kc, m3.ss, m3.sc⟩) from hB)
  have O1 := Lib.hid o1; have O2 := Lib.hid o2
  have HX5 := Lib.hid hX; have HZ5 := Lib.hid hZ
  clear o1 o2 hB hX hZ h2 h5 h6 h8 l7 l9 hL hHeld HB4d
  simp only [frm_cons, frm_nil]
  have hc7 : c.tmod 7 = c % 7 ∧ 0 ≤ c % 7 ∧ c % 7 < 7 := by refine ⟨?_, by omega, by omega⟩; rw [Int.tmod_eq_emod_of_nonneg hc0]
  have hcs : c % 7 = 0 ∨ c % 7 = 1 ∨ c % 7 = 2 ∨ c % 7 = 3 ∨ c % 7 = 4 ∨ c % 7 = 5 ∨ c % 7 = 6 := by omega
  rcases hcs with hcs | hcs | hcs | hcs | hcs | hcs | hcs
  · have hr1 : c.tmod 7 = 0 := by omega
    have hr2 : c % 7 = 0 := by omega
    clear hc7
    have kb := HB5.out.1
    have lb := at_lt HB5.out (by simp [hC])
    have fb := HB5.out.2
    unfold hC at kb
    go_upto_region 21 with fail
    refine wp_at ?_
    intro W9 hW
    have HX9 := Lib.hid (show Ext W3 W9 by rw [hW]; exact ext_set HX5.out (Nat.le_refl _) _)
    have HBX9 := Lib.hid (show At W9 W3.heap.size (hC { h with len := h.len + 1 } ⟨ms1, cap1, ms2, cap2, m3.ks, m3.kc, m3.ss, m3.sc⟩) by rw [hW]; exact at_put HB5.out (by simp [hC]) rfl)
    have O1' := Lib.hid (show W9.ownsRow W4.heap.size 56 5 (.slice ms1 h.cmds.length cap1) h.cmds.length (h.cmds.flatMap cmdC) by rw [hW]; exact own_stB O1.out HZ4.out)
    have O2' := Lib.hid (show W9.ownsRow W4.heap.size 3 1 (.slice ms2 h.tries.length cap2) h.tries.length (h.tries.flatMap numC) by rw [hW]; exact own_stB O2.out HZ4.out)
    clear hW kb lb fb
    have HIX := Lib.hid (show HsIn W9 { h with len := h.len + 1 } ⟨ms1, cap1, ms2, cap2, m3.ks, m3.kc, m3.ss, m3.sc⟩ from ⟨rows_of_own (g := cmdC) (fun _ => rfl) O1'.out, rows_of_own (g := numC) (fun _ => rfl) O2'.out, rows_on2 HI3.out.2.2.1 HX9.out, rows_on2 HI3.out.2.2.2.1 HX9.out, (cap_of_own (n := 5) O1'.out).1, (cap_of_own (n := 1) O2'.out).1, HI3.out.2.2.2.2.2.2.1, HI3.out.2.2.2.2.2.2.2⟩)
    have HRX := Lib.hid (show hrB { h with len := h.len + 1 } = false from wr_0 HP.out.right)
    have HKX := Lib.hid (show ∀ i, i < ({ h with len := h.len + 1 } : Hs).cmds.length → 0 ≤ (({ h with len := h.len + 1 } : Hs).cmds.getD i default).kind ∧ (({ h with len := h.len + 1 } : Hs).cmds.getD i default).kind ≤ 255 from HP.out.kd)
    have HSX := Lib.hid (show HsSm { h with len := h.len + 1 } from by have h1 := HP.out.cl; have h2 := HP.out.tl; have h3 := HP.out.kl; have h4 := HP.out.sl; unfold HsSm; simp only [List.length_append, List.length_cons, List.length_nil]; omega)
    obtain ⟨x, hx⟩ : ∃ x, x = ({ h with len := h.len + 1 } : Hs) := ⟨_, rfl⟩
    rw [← hx] at HIX HRX HKX HSX HBX9
    clear hx
    have HBH9 := Lib.hid (at_ext HBH3.out (by simp [hC]) HX9.out)
    have HIH9 := Lib.hid (HI3.out.ext HX9.out)
    have HSH := Lib.hid (sm_of HP.out (by omega))
    have kh := HBH9.out.1
    have lh := at_lt HBH9.out (by simp [hC])
    have kx := HBX9.out.1
    have lx := at_lt HBX9.out (by simp [hC])
    unfold hC at kh kx
    go_wp2_with (first | (go_at_call 13; (with_reducible refine (rightF_calls h m3 _ HSH.out HP.out.kd (HIH9.out.ext ?la1)).mono ?_); (case la1 => repeat (first | exact ext_refl _ | assumption | refine ext_more' ?_ _ _ | refine ext_drew ?_ | refine ext_drewN ?_ _ | refine ext_alloc ?_ _)); rw [HP.out.right]; rintro e v16 ⟨rfl, hbv⟩; obtain ⟨r, d, rfl⟩ := ext_form hbv; clear hbv) | (go_at_call 13; (with_reducible refine (rightF_calls x ⟨ms1, cap1, ms2, cap2, m3.ks, m3.kc, m3.ss, m3.sc⟩ _ HSX.out HKX.out (HIX.out.ext ?la2)).mono ?_); (case la2 => repeat (first | exact ext_refl _ | assumption | refine ext_more' ?_ _ _ | refine ext_drew ?_ | refine ext_drewN ?_ _ | refine ext_alloc ?_ _)); rw [HRX.out]; rintro e v17 ⟨rfl, hbv⟩; obtain ⟨r, d, rfl⟩ := ext_form hbv; clear hbv) | (go_at_call 9; refine (awake12_calls _).mono ?_; rintro e w9 ⟨rfl, hb9⟩; obtain ⟨r, d, rfl⟩ := ext_form hb9; clear hb9))
    go_ret
    exact ⟨rfl, ext_trans HXW3.out (ext_trans HX9.out (by repeat (first | exact ext_refl _ | assumption | refine ext_more' ?_ _ _ | refine ext_drew ?_ | refine ext_drewN ?_ _ | refine ext_alloc ?_ _)))⟩
  · have hr1 : c.tmod 7 = 1 := by omega
    have hr2 : c % 7 = 1 := by omega
    clear hc7
    have kb := HB5.out.1
    have lb := at_lt HB5.out (by simp [hC])
    have fb := HB5.out.2
    unfold hC at kb
    go_upto_region 21 with fail
    refine wp_at ?_
    intro W9 hW
    have HX9 := Lib.hid (show Ext W3 W9 by rw [hW]; exact ext_set HX5.out (Nat.le_refl _) _)
    have HBX9 := Lib.hid (show At W9 W3.heap.size (hC { h with last := -1 } ⟨ms1, cap1, ms2, cap2, m3.ks, m3.kc, m3.ss, m3.sc⟩) by rw [hW]; exact at_put HB5.out (by simp [hC]) rfl)
    have O1' := Lib.hid (show W9.ownsRow W4.heap.size 56 5 (.slice ms1 h.cmds.length cap1) h.cmds.length (h.cmds.flatMap cmdC) by rw [hW]; exact own_stB O1.out HZ4.out)
    have O2' := Lib.hid (show W9.ownsRow W4.heap.size 3 1 (.slice ms2 h.tries.length cap2) h.tries.length (h.tries.flatMap numC) by rw [hW]; exact own_stB O2.out HZ4.out)
    clear hW kb lb fb
    have HIX := Lib.hid (show HsIn W9 { h with last := -1 } ⟨ms1, cap1, ms2, cap2, m3.ks, m3.kc, m3.ss, m3.sc⟩ from ⟨rows_of_own (g := cmdC) (fun _ => rfl) O1'.out, rows_of_own (g := numC) (fun _ => rfl) O2'.out, rows_on2 HI3.out.2.2.1 HX9.out, rows_on2 HI3.out.2.2.2.1 HX9.out, (cap_of_own (n := 5) O1'.out).1, (cap_of_own (n := 1) O2'.out).1, HI3.out.2.2.2.2.2.2.1, HI3.out.2.2.2.2.2.2.2⟩)
    have HRX := Lib.hid (show hrB { h with last := -1 } = false from wr_1 HP.out.right)
    have HKX := Lib.hid (show ∀ i, i < ({ h with last := -1 } : Hs).cmds.length → 0 ≤ (({ h with last := -1 } : Hs).cmds.getD i default).kind ∧ (({ h with last := -1 } : Hs).cmds.getD i default).kind ≤ 255 from HP.out.kd)
    have HSX := Lib.hid (show HsSm { h with last := -1 } from by have h1 := HP.out.cl; have h2 := HP.out.tl; have h3 := HP.out.kl; have h4 := HP.out.sl; unfold HsSm; simp only [List.length_append, List.length_cons, List.length_nil]; omega)
    obtain ⟨x, hx⟩ : ∃ x, x = ({ h with last := -1 } : Hs) := ⟨_, rfl⟩
    rw [← hx] at HIX HRX HKX HSX HBX9
    clear hx
    have HBH9 := Lib.hid (at_ext HBH3.out (by simp [hC]) HX9.out)
    have HIH9 := Lib.hid (HI3.out.ext HX9.out)
    have HSH := Lib.hid (sm_of HP.out (by omega))
    have kh := HBH9.out.1
    have lh := at_lt HBH9.out (by simp [hC])
    have kx := HBX9.out.1
    have lx := at_lt HBX9.out (by simp [hC])
    unfold hC at kh kx
    go_wp2_with (first | (go_at_call 13; (with_reducible refine (rightF_calls h m3 _ HSH.out HP.out.kd (HIH9.out.ext ?la1)).mono ?_); (case la1 => repeat (first | exact ext_refl _ | assumption | refine ext_more' ?_ _ _ | refine ext_drew ?_ | refine ext_drewN ?_ _ | refine ext_alloc ?_ _)); rw [HP.out.right]; rintro e v16 ⟨rfl, hbv⟩; obtain ⟨r, d, rfl⟩ := ext_form hbv; clear hbv) | (go_at_call 13; (with_reducible refine (rightF_calls x ⟨ms1, cap1, ms2, cap2, m3.ks, m3.kc, m3.ss, m3.sc⟩ _ HSX.out HKX.out (HIX.out.ext ?la2)).mono ?_); (case la2 => repeat (first | exact ext_refl _ | assumption | refine ext_more' ?_ _ _ | refine ext_drew ?_ | refine ext_drewN ?_ _ | refine ext_alloc ?_ _)); rw [HRX.out]; rintro e v17 ⟨rfl, hbv⟩; obtain ⟨r, d, rfl⟩ := ext_form hbv; clear hbv) | (go_at_call 9; refine (awake12_calls _).mono ?_; rintro e w9 ⟨rfl, hb9⟩; obtain ⟨r, d, rfl⟩ := ext_form hb9; clear hb9))
    go_ret
    exact ⟨rfl, ext_trans HXW3.out (ext_trans HX9.out (by repeat (first | exact ext_refl _ | assumption | refine ext_more' ?_ _ _ | refine ext_drew ?_ | refine ext_drewN ?_ _ | refine ext_alloc ?_ _)))⟩
  · have hr1 : c.tmod 7 = 2 := by omega
    have hr2 : c % 7 = 2 := by omega
    clear hc7
    have hza := HZ5.out
    have hz4a := HZ4.out
    have kba := HB5.out.1
    have lba := at_lt HB5.out (by simp [hC])
    unfold hC at kba
    obtain ⟨ia, hia, hzaa, hzba, hzca⟩ := info_parts int_info
    have M63a := Lib.hid (show h.tries.length + 1 ≤ maxLen by unfold maxLen; omega)
    have M47a := Lib.hid (show (h.tries.length + 1) * 8 ≤ 140737488355328 by omega)
    have HNa := Lib.hid (show ∀ w', Ext (W5.alloc (.cells #[.int .i64 0] 3)) w' → Rds w' (some ⟨W5.heap.size, 0, none⟩) 1 1 (numC (0 : Int)) from fun w' h' => rds_newV (X := W5) h' rfl)
    go_upto_region 21 with (at_builtin; refine list_app rfl (.tmp 48) (.tmp 49) 26 rfl W4.heap.size 3 ia _ 1 8 Try.underlying26 hia hzaa hzba hzca rfl (by decide) (.slice ms2 h.tries.length cap2) h.tries.length (h.tries.flatMap numC) rfl (own_ext O2.out (by repeat (first | exact ext_refl _ | assumption | refine ext_more' ?_ _ _ | refine ext_drew ?_ | refine ext_drewN ?_ _ | refine ext_alloc ?_ _))) _ 1 _ (numC (0 : Int)) rfl (HNa.out _ (by repeat (first | exact ext_refl _ | assumption | refine ext_more' ?_ _ _ | refine ext_drew ?_ | refine ext_drewN ?_ _ | refine ext_alloc ?_ _))) (oneCell_num _) M63a.out M47a.out (by simp; omega) ?_; intro va wa howna hga; obtain ⟨msa, capa, rfl⟩ := own_slice howna; have hha := grown_at hga (at_ext HB5.out (by simp [hC]) (by repeat (first | exact ext_refl _ | assumption | refine ext_more' ?_ _ _ | refine ext_drew ?_ | refine ext_drewN ?_ _ | refine ext_alloc ?_ _))) (by simp [hC]) (fun e => by have := (O2.out.lt _ e).1; omega); have HHa := Lib.hid hha; have kqa := hha.1; have fqa := hha.2; have lqa := at_lt hha (by simp [hC]); unfold hC at kqa; have HOWNa := Lib.hid howna; have HGa := Lib.hid hga; clear howna hga hha)
    refine wp_at ?_
    intro Wa hW
    have xaa : Ext W5 (W5.alloc (.cells #[.int .i64 0] 3)) := ext_alloc (ext_refl _) _
    have HXa := Lib.hid (show Ext W3 Wa by rw [hW]; exact ext_set (ext_grown (ext_trans HX5.out xaa) HGa.out (fun q e => by have := (O2.out.lt q e).1; omega)) (Nat.le_refl _) _)
    have HZa := Lib.hid (show W4.heap.size ≤ Wa.heap.size by rw [hW]; exact Nat.le_trans hza (Nat.le_trans xaa.size (Nat.le_trans HGa.out.size (chg_put (b := W3.heap.size) (Chg.refl _ _)).size)))
    have HBa := Lib.hid (show At Wa W3.heap.size (hC { h with tries := h.tries ++ [0] } ⟨ms1, cap1, msa, capa, m3.ks, m3.kc, m3.ss, m3.sc⟩) by rw [hW]; exact at_put HHa.out (by simp [hC]) (by simp [hC]))
    have hfla : (h.tries ++ [(0 : Int)]).flatMap numC = h.tries.flatMap numC ++ numC (0 : Int) := by simp
    have hfma : (h.tries ++ [(0 : Int)]).length = h.tries.length + 1 := by simp
    have OWa := Lib.hid (show Wa.ownsRow W4.heap.size 3 1 (.slice msa (h.tries ++ [(0 : Int)]).length capa) (h.tries ++ [(0 : Int)]).length ((h.tries ++ [(0 : Int)]).flatMap numC) by rw [hW, hfla, hfma]; exact own_stB HOWNa.out HZ4.out)
    have OQa := Lib.hid (own_stB (j := 3) (x := .slice msa (h.tries.length + 1) capa) (own_grown (own_ext O1.out xaa) HGa.out (own_apart (own_ext O1.out xaa) (own_ext O2.out xaa) (by decide))) HZ4.out)
    rw [← hW] at OQa
    clear hW kqa fqa lqa kba lba xaa hfla hfma HOWNa HGa HHa HNa
    have HX9 := HXa
    have HBX9 := HBa
    have O1' := OQa
    have O2' := OWa
    have HIX := Lib.hid (show HsIn Wa { h with tries := h.tries ++ [0] } ⟨ms1, cap1, msa, capa, m3.ks, m3.kc, m3.ss, m3.sc⟩ from ⟨rows_of_own (g := cmdC) (fun _ => rfl) O1'.out, rows_of_own (g := numC) (fun _ => rfl) O2'.out, rows_on2 HI3.out.2.2.1 HX9.out, rows_on2 HI3.out.2.2.2.1 HX9.out, (cap_of_own (n := 5) O1'.out).1, (cap_of_own (n := 1) O2'.out).1, HI3.out.2.2.2.2.2.2.1, HI3.out.2.2.2.2.2.2.2⟩)
    have HRX := Lib.hid (show hrB { h with tries := h.tries ++ [0] } = false from wr_2 HP.out.right)
    have HKX := Lib.hid (show ∀ i, i < ({ h with tries := h.tries ++ [0] } : Hs).cmds.length → 0 ≤ (({ h with tries := h.tries ++ [0] } : Hs).cmds.getD i default).kind ∧ (({ h with tries := h.tries ++ [0] } : Hs).cmds.getD i default).kind ≤ 255 from HP.out.kd)
    have HSX := Lib.hid (show HsSm { h with tries := h.tries ++ [0] } from by have h1 := HP.out.cl; have h2 := HP.out.tl; have h3 := HP.out.kl; have h4 := HP.out.sl; unfold HsSm; simp only [List.length_append, List.length_cons, List.length_nil]; omega)
    obtain ⟨x, hx⟩ : ∃ x, x = ({ h with tries := h.tries ++ [0] } : Hs) := ⟨_, rfl⟩
    rw [← hx] at HIX HRX HKX HSX HBX9
    clear hx
    have HBH9 := Lib.hid (at_ext HBH3.out (by simp [hC]) HX9.out)
    have HIH9 := Lib.hid (HI3.out.ext HX9.out)
    have HSH := Lib.hid (sm_of HP.out (by omega))
    have kh := HBH9.out.1
    have lh := at_lt HBH9.out (by simp [hC])
    have kx := HBX9.out.1
    have lx := at_lt HBX9.out (by simp [hC])
    unfold hC at kh kx
    go_wp2_with (first | (go_at_call 13; (with_reducible refine (rightF_calls h m3 _ HSH.out HP.out.kd (HIH9.out.ext ?la1)).mono ?_); (case la1 => repeat (first | exact ext_refl _ | assumption | refine ext_more' ?_ _ _ | refine ext_drew ?_ | refine ext_drewN ?_ _ | refine ext_alloc ?_ _)); rw [HP.out.right]; rintro e v16 ⟨rfl, hbv⟩; obtain ⟨r, d, rfl⟩ := ext_form hbv; clear hbv) | (go_at_call 13; (with_reducible refine (rightF_calls x ⟨ms1, cap1, msa, capa, m3.ks, m3.kc, m3.ss, m3.sc⟩ _ HSX.out HKX.out (HIX.out.ext ?la2)).mono ?_); (case la2 => repeat (first | exact ext_refl _ | assumption | refine ext_more' ?_ _ _ | refine ext_drew ?_ | refine ext_drewN ?_ _ | refine ext_alloc ?_ _)); rw [HRX.out]; rintro e v17 ⟨rfl, hbv⟩; obtain ⟨r, d, rfl⟩ := ext_form hbv; clear hbv) | (go_at_call 9; refine (awake12_calls _).mono ?_; rintro e w9 ⟨rfl, hb9⟩; obtain ⟨r, d, rfl⟩ := ext_form hb9; clear hb9))
    go_ret
    exact ⟨rfl, ext_trans HXW3.out (ext_trans HX9.out (by repeat (first | exact ext_refl _ | assumption | refine ext_more' ?_ _ _ | refine ext_drew ?_ | refine ext_drewN ?_ _ | refine ext_alloc ?_ _)))⟩
  · have hr1 : c.tmod 7 = 3 := by omega
    have hr2 : c % 7 = 3 := by omega
    clear hc7
    have hza := HZ5.out
    have hz4a := HZ4.out
    have kba := HB5.out.1
    have lba := at_lt HB5.out (by simp [hC])
    unfold hC at kba
    obtain ⟨ia, hia, hzaa, hzba, hzca⟩ := info_parts cmd_info
    have M63a := Lib.hid (show h.cmds.length + 1 ≤ maxLen by unfold maxLen; omega)
    have M47a := Lib.hid (show (h.cmds.length + 1) * 48 ≤ 140737488355328 by omega)
    have HNa := Lib.hid (show ∀ w', Ext (W5.alloc (.cells #[.int .i64 ((h.cmds.length : Int) + 2), .int .u8 2, .string ⟨#[]⟩, .int .i64 0, .int .i64 0] 56)) w' → Rds w' (some ⟨W5.heap.size, 0, none⟩) 1 5 (cmdC (⟨h.cmds.length + 2, 2, emp, 0, 0⟩ : Cmd)) from fun w' h' => rds_newV (X := W5) h' rfl)
    go_upto_region 16 with (at_builtin; refine list_app rfl (.tmp 55) (.tmp 61) 25 rfl W4.heap.size 56 ia _ 5 48 Try.underlying25 hia hzaa hzba hzca rfl (by decide) (.slice ms1 h.cmds.length cap1) h.cmds.length (h.cmds.flatMap cmdC) rfl (own_ext O1.out (by repeat (first | exact ext_refl _ | assumption | refine ext_more' ?_ _ _ | refine ext_drew ?_ | refine ext_drewN ?_ _ | refine ext_alloc ?_ _))) _ 1 _ (cmdC (⟨h.cmds.length + 2, 2, emp, 0, 0⟩ : Cmd)) rfl (HNa.out _ (by repeat (first | exact ext_refl _ | assumption | refine ext_more' ?_ _ _ | refine ext_drew ?_ | refine ext_drewN ?_ _ | refine ext_alloc ?_ _))) (oneCell_cmd _) M63a.out M47a.out (by simp; omega) ?_; intro va wa howna hga; obtain ⟨msa, capa, rfl⟩ := own_slice howna; have hha := grown_at hga (at_ext HB5.out (by simp [hC]) (by repeat (first | exact ext_refl _ | assumption | refine ext_more' ?_ _ _ | refine ext_drew ?_ | refine ext_drewN ?_ _ | refine ext_alloc ?_ _))) (by simp [hC]) (fun e => by have := (O1.out.lt _ e).1; omega); have HHa := Lib.hid hha; have kqa := hha.1; have fqa := hha.2; have lqa := at_lt hha (by simp [hC]); unfold hC at kqa; have HOWNa := Lib.hid howna; have HGa := Lib.hid hga; clear howna hga hha)
    refine wp_at ?_
    intro Wa hW
    have xaa : Ext W5 (W5.alloc (.cells #[.int .i64 ((h.cmds.length : Int) + 2), .int .u8 2, .string ⟨#[]⟩, .int .i64 0, .int .i64 0] 56)) := ext_alloc (ext_refl _) _
    have HXa := Lib.hid (show Ext W3 Wa by rw [hW]; exact ext_set (ext_grown (ext_trans HX5.out xaa) HGa.out (fun q e => by have := (O1.out.lt q e).1; omega)) (Nat.le_refl _) _)
    have HZa := Lib.hid (show W4.heap.size ≤ Wa.heap.size by rw [hW]; exact Nat.le_trans hza (Nat.le_trans xaa.size (Nat.le_trans HGa.out.size (chg_put (b := W3.heap.size) (Chg.refl _ _)).size)))
    have HBa := Lib.hid (show At Wa W3.heap.size (hC { h with cmds := h.cmds ++ [⟨h.cmds.length + 2, 2, emp, 0, 0⟩] } ⟨msa, capa, ms2, cap2, m3.ks, m3.kc, m3.ss, m3.sc⟩) by rw [hW]; exact at_put HHa.out (by simp [hC]) (by simp [hC]))
    have hfla : (h.cmds ++ [(⟨h.cmds.length + 2, 2, emp, 0, 0⟩ : Cmd)]).flatMap cmdC = h.cmds.flatMap cmdC ++ cmdC (⟨h.cmds.length + 2, 2, emp, 0, 0⟩ : Cmd) := by simp
    have hfma : (h.cmds ++ [(⟨h.cmds.length + 2, 2, emp, 0, 0⟩ : Cmd)]).length = h.cmds.length + 1 := by simp
    have OWa := Lib.hid (show Wa.ownsRow W4.heap.size 56 5 (.slice msa (h.cmds ++ [(⟨h.cmds.length + 2, 2, emp, 0, 0⟩ : Cmd)]).length capa) (h.cmds ++ [(⟨h.cmds.length + 2, 2, emp, 0, 0⟩ : Cmd)]).length ((h.cmds ++ [(⟨h.cmds.length + 2, 2, emp, 0, 0⟩ : Cmd)]).flatMap cmdC) by rw [hW, hfla, hfma]; exact own_stB HOWNa.out HZ4.out)
    have OQa := Lib.hid (own_stB (j := 2) (x := .slice msa (h.cmds.length + 1) capa) (own_grown (own_ext O2.out xaa) HGa.out (own_apart (own_ext O2.out xaa) (own_ext O1.out xaa) (by decide))) HZ4.out)
    rw [← hW] at OQa
    clear hW kqa fqa lqa kba lba xaa hfla hfma HOWNa HGa HHa HNa
    have hzb := HZa.out
    have hz4b := HZ4.out
    have kbb := HBa.out.1
    have lbb := at_lt HBa.out (by simp [hC])
    unfold hC at kbb
    obtain ⟨ib, hib, hzab, hzbb, hzcb⟩ := info_parts int_info
    have M63b := Lib.hid (show h.tries.length + 1 ≤ maxLen by unfold maxLen; omega)
    have M47b := Lib.hid (show (h.tries.length + 1) * 8 ≤ 140737488355328 by omega)
    have HNb := Lib.hid (show ∀ w', Ext (Wa.alloc (.cells #[.int .i64 0] 3)) w' → Rds w' (some ⟨Wa.heap.size, 0, none⟩) 1 1 (numC (0 : Int)) from fun w' h' => rds_newV (X := Wa) h' rfl)
    go_upto_region 21 with (at_builtin; refine list_app rfl (.tmp 65) (.tmp 66) 26 rfl W4.heap.size 3 ib _ 1 8 Try.underlying26 hib hzab hzbb hzcb rfl (by decide) (.slice ms2 h.tries.length cap2) h.tries.length (h.tries.flatMap numC) rfl (own_ext OQa.out (by repeat (first | exact ext_refl _ | assumption | refine ext_more' ?_ _ _ | refine ext_drew ?_ | refine ext_drewN ?_ _ | refine ext_alloc ?_ _))) _ 1 _ (numC (0 : Int)) rfl (HNb.out _ (by repeat (first | exact ext_refl _ | assumption | refine ext_more' ?_ _ _ | refine ext_drew ?_ | refine ext_drewN ?_ _ | refine ext_alloc ?_ _))) (oneCell_num _) M63b.out M47b.out (by simp; omega) ?_; intro vb wb hownb hgb; obtain ⟨msb, capb, rfl⟩ := own_slice hownb; have hhb := grown_at hgb (at_ext HBa.out (by simp [hC]) (by repeat (first | exact ext_refl _ | assumption | refine ext_more' ?_ _ _ | refine ext_drew ?_ | refine ext_drewN ?_ _ | refine ext_alloc ?_ _))) (by simp [hC]) (fun e => by have := (OQa.out.lt _ e).1; omega); have HHb := Lib.hid hhb; have kqb := hhb.1; have fqb := hhb.2; have lqb := at_lt hhb (by simp [hC]); unfold hC at kqb; have HOWNb := Lib.hid hownb; have HGb := Lib.hid hgb; clear hownb hgb hhb)
    refine wp_at ?_
    intro Wb hW
    have xab : Ext Wa (Wa.alloc (.cells #[.int .i64 0] 3)) := ext_alloc (ext_refl _) _
    have HXb := Lib.hid (show Ext W3 Wb by rw [hW]; exact ext_set (ext_grown (ext_trans HXa.out xab) HGb.out (fun q e => by have := (OQa.out.lt q e).1; omega)) (Nat.le_refl _) _)
    have HZb := Lib.hid (show W4.heap.size ≤ Wb.heap.size by rw [hW]; exact Nat.le_trans hzb (Nat.le_trans xab.size (Nat.le_trans HGb.out.size (chg_put (b := W3.heap.size) (Chg.refl _ _)).size)))
    have HBb := Lib.hid (show At Wb W3.heap.size (hC { h with cmds := h.cmds ++ [⟨h.cmds.length + 2, 2, emp, 0, 0⟩], tries := h.tries ++ [0] } ⟨msa, capa, msb, capb, m3.ks, m3.kc, m3.ss, m3.sc⟩) by rw [hW]; exact at_put HHb.out (by simp [hC]) (by simp [hC]))
    have hflb : (h.tries ++ [(0 : Int)]).flatMap numC = h.tries.flatMap numC ++ numC (0 : Int) := by simp
    have hfmb : (h.tries ++ [(0 : Int)]).length = h.tries.length + 1 := by simp
    have OWb := Lib.hid (show Wb.ownsRow W4.heap.size 3 1 (.slice msb (h.tries ++ [(0 : Int)]).length capb) (h.tries ++ [(0 : Int)]).length ((h.tries ++ [(0 : Int)]).flatMap numC) by rw [hW, hflb, hfmb]; exact own_stB HOWNb.out HZ4.out)
    have OQb := Lib.hid (own_stB (j := 3) (x := .slice msb (h.tries.length + 1) capb) (own_grown (own_ext OWa.out xab) HGb.out (own_apart (own_ext OWa.out xab) (own_ext OQa.out xab) (by decide))) HZ4.out)
    rw [← hW] at OQb
    clear hW kqb fqb lqb kbb lbb xab hflb hfmb HOWNb HGb HHb HNb
    have HX9 := HXb
    have HBX9 := HBb
    have O1' := OQb
    have O2' := OWb
    have HIX := Lib.hid (show HsIn Wb { h with cmds := h.cmds ++ [⟨h.cmds.length + 2, 2, emp, 0, 0⟩], tries := h.tries ++ [0] } ⟨msa, capa, msb, capb, m3.ks, m3.kc, m3.ss, m3.sc⟩ from ⟨rows_of_own (g := cmdC) (fun _ => rfl) O1'.out, rows_of_own (g := numC) (fun _ => rfl) O2'.out, rows_on2 HI3.out.2.2.1 HX9.out, rows_on2 HI3.out.2.2.2.1 HX9.out, (cap_of_own (n := 5) O1'.out).1, (cap_of_own (n := 1) O2'.out).1, HI3.out.2.2.2.2.2.2.1, HI3.out.2.2.2.2.2.2.2⟩)
    have HRX := Lib.hid (show hrB { h with cmds := h.cmds ++ [⟨h.cmds.length + 2, 2, emp, 0, 0⟩], tries := h.tries ++ [0] } = false from wr_3 HP.out.right)
    have HKX := Lib.hid (show ∀ i, i < ({ h with cmds := h.cmds ++ [⟨h.cmds.length + 2, 2, emp, 0, 0⟩], tries := h.tries ++ [0] } : Hs).cmds.length → 0 ≤ (({ h with cmds := h.cmds ++ [⟨h.cmds.length + 2, 2, emp, 0, 0⟩], tries := h.tries ++ [0] } : Hs).cmds.getD i default).kind ∧ (({ h with cmds := h.cmds ++ [⟨h.cmds.length + 2, 2, emp, 0, 0⟩], tries := h.tries ++ [0] } : Hs).cmds.getD i default).kind ≤ 255 from fun i hi => by
            simp only [getD_app]
            split
            · exact HP.out.kd i (by assumption)
            · split
              · simp
              · show 0 ≤ (default : Cmd).kind ∧ (default : Cmd).kind ≤ 255; decide)
    have HSX := Lib.hid (show HsSm { h with cmds := h.cmds ++ [⟨h.cmds.length + 2, 2, emp, 0, 0⟩], tries := h.tries ++ [0] } from by have h1 := HP.out.cl; have h2 := HP.out.tl; have h3 := HP.out.kl; have h4 := HP.out.sl; unfold HsSm; simp only [List.length_append, List.length_cons, List.length_nil]; omega)
    obtain ⟨x, hx⟩ : ∃ x, x = ({ h with cmds := h.cmds ++ [⟨h.cmds.length + 2, 2, emp, 0, 0⟩], tries := h.tries ++ [0] } : Hs) := ⟨_, rfl⟩
    rw [← hx] at HIX HRX HKX HSX HBX9
    clear hx
    have HBH9 := Lib.hid (at_ext HBH3.out (by simp [hC]) HX9.out)
    have HIH9 := Lib.hid (HI3.out.ext HX9.out)
    have HSH := Lib.hid (sm_of HP.out (by omega))
    have kh := HBH9.out.1
    have lh := at_lt HBH9.out (by simp [hC])
    have kx := HBX9.out.1
    have lx := at_lt HBX9.out (by simp [hC])
    unfold hC at kh kx
    go_wp2_with (first | (go_at_call 13; (with_reducible refine (rightF_calls h m3 _ HSH.out HP.out.kd (HIH9.out.ext ?la1)).mono ?_); (case la1 => repeat (first | exact ext_refl _ | assumption | refine ext_more' ?_ _ _ | refine ext_drew ?_ | refine ext_drewN ?_ _ | refine ext_alloc ?_ _)); rw [HP.out.right]; rintro e v16 ⟨rfl, hbv⟩; obtain ⟨r, d, rfl⟩ := ext_form hbv; clear hbv) | (go_at_call 13; (with_reducible refine (rightF_calls x ⟨msa, capa, msb, capb, m3.ks, m3.kc, m3.ss, m3.sc⟩ _ HSX.out HKX.out (HIX.out.ext ?la2)).mono ?_); (case la2 => repeat (first | exact ext_refl _ | assumption | refine ext_more' ?_ _ _ | refine ext_drew ?_ | refine ext_drewN ?_ _ | refine ext_alloc ?_ _)); rw [HRX.out]; rintro e v17 ⟨rfl, hbv⟩; obtain ⟨r, d, rfl⟩ := ext_form hbv; clear hbv) | (go_at_call 9; refine (awake12_calls _).mono ?_; rintro e w9 ⟨rfl, hb9⟩; obtain ⟨r, d, rfl⟩ := ext_form hb9; clear hb9))
    go_ret
    exact ⟨rfl, ext_trans HXW3.out (ext_trans HX9.out (by repeat (first | exact ext_refl _ | assumption | refine ext_more' ?_ _ _ | refine ext_drew ?_ | refine ext_drewN ?_ _ | refine ext_alloc ?_ _)))⟩
  · have hr1 : c.tmod 7 = 4 := by omega
    have hr2 : c % 7 = 4 := by omega
    clear hc7
    have kb := HB5.out.1
    have lb := at_lt HB5.out (by simp [hC])
    have fb := HB5.out.2
    unfold hC at kb
    go_upto_region 21 with fail
    refine wp_at ?_
    intro W9 hW
    have HX9 := Lib.hid (show Ext W3 W9 by rw [hW]; exact ext_set HX5.out (Nat.le_refl _) _)
    have HBX9 := Lib.hid (show At W9 W3.heap.size (hC { h with out := ⟨4, h.out.v⟩ } ⟨ms1, cap1, ms2, cap2, m3.ks, m3.kc, m3.ss, m3.sc⟩) by rw [hW]; exact at_put HB5.out (by simp [hC]) rfl)
    have O1' := Lib.hid (show W9.ownsRow W4.heap.size 56 5 (.slice ms1 h.cmds.length cap1) h.cmds.length (h.cmds.flatMap cmdC) by rw [hW]; exact own_stB O1.out HZ4.out)
    have O2' := Lib.hid (show W9.ownsRow W4.heap.size 3 1 (.slice ms2 h.tries.length cap2) h.tries.length (h.tries.flatMap numC) by rw [hW]; exact own_stB O2.out HZ4.out)
    clear hW kb lb fb
    have HIX := Lib.hid (show HsIn W9 { h with out := ⟨4, h.out.v⟩ } ⟨ms1, cap1, ms2, cap2, m3.ks, m3.kc, m3.ss, m3.sc⟩ from ⟨rows_of_own (g := cmdC) (fun _ => rfl) O1'.out, rows_of_own (g := numC) (fun _ => rfl) O2'.out, rows_on2 HI3.out.2.2.1 HX9.out, rows_on2 HI3.out.2.2.2.1 HX9.out, (cap_of_own (n := 5) O1'.out).1, (cap_of_own (n := 1) O2'.out).1, HI3.out.2.2.2.2.2.2.1, HI3.out.2.2.2.2.2.2.2⟩)
    have HRX := Lib.hid (show hrB { h with out := ⟨4, h.out.v⟩ } = false from wr_4 HP.out.right)
    have HKX := Lib.hid (show ∀ i, i < ({ h with out := ⟨4, h.out.v⟩ } : Hs).cmds.length → 0 ≤ (({ h with out := ⟨4, h.out.v⟩ } : Hs).cmds.getD i default).kind ∧ (({ h with out := ⟨4, h.out.v⟩ } : Hs).cmds.getD i default).kind ≤ 255 from HP.out.kd)
    have HSX := Lib.hid (show HsSm { h with out := ⟨4, h.out.v⟩ } from by have h1 := HP.out.cl; have h2 := HP.out.tl; have h3 := HP.out.kl; have h4 := HP.out.sl; unfold HsSm; simp only [List.length_append, List.length_cons, List.length_nil]; omega)
    obtain ⟨x, hx⟩ : ∃ x, x = ({ h with out := ⟨4, h.out.v⟩ } : Hs) := ⟨_, rfl⟩
    rw [← hx] at HIX HRX HKX HSX HBX9
    clear hx
    have HBH9 := Lib.hid (at_ext HBH3.out (by simp [hC]) HX9.out)
    have HIH9 := Lib.hid (HI3.out.ext HX9.out)
    have HSH := Lib.hid (sm_of HP.out (by omega))
    have kh := HBH9.out.1
    have lh := at_lt HBH9.out (by simp [hC])
    have kx := HBX9.out.1
    have lx := at_lt HBX9.out (by simp [hC])
    unfold hC at kh kx
    go_wp2_with (first | (go_at_call 13; (with_reducible refine (rightF_calls h m3 _ HSH.out HP.out.kd (HIH9.out.ext ?la1)).mono ?_); (case la1 => repeat (first | exact ext_refl _ | assumption | refine ext_more' ?_ _ _ | refine ext_drew ?_ | refine ext_drewN ?_ _ | refine ext_alloc ?_ _)); rw [HP.out.right]; rintro e v16 ⟨rfl, hbv⟩; obtain ⟨r, d, rfl⟩ := ext_form hbv; clear hbv) | (go_at_call 13; (with_reducible refine (rightF_calls x ⟨ms1, cap1, ms2, cap2, m3.ks, m3.kc, m3.ss, m3.sc⟩ _ HSX.out HKX.out (HIX.out.ext ?la2)).mono ?_); (case la2 => repeat (first | exact ext_refl _ | assumption | refine ext_more' ?_ _ _ | refine ext_drew ?_ | refine ext_drewN ?_ _ | refine ext_alloc ?_ _)); rw [HRX.out]; rintro e v17 ⟨rfl, hbv⟩; obtain ⟨r, d, rfl⟩ := ext_form hbv; clear hbv) | (go_at_call 9; refine (awake12_calls _).mono ?_; rintro e w9 ⟨rfl, hb9⟩; obtain ⟨r, d, rfl⟩ := ext_form hb9; clear hb9))
    go_ret
    exact ⟨rfl, ext_trans HXW3.out (ext_trans HX9.out (by repeat (first | exact ext_refl _ | assumption | refine ext_more' ?_ _ _ | refine ext_drew ?_ | refine ext_drewN ?_ _ | refine ext_alloc ?_ _)))⟩
  · have hr1 : c.tmod 7 = 5 := by omega
    have hr2 : c % 7 = 5 := by omega
    clear hc7
    obtain ⟨ik, hik, hka, hkb, hkc⟩ := info_parts kno_info
    have MK63 := Lib.hid (show h.known.length + 1 ≤ maxLen by unfold maxLen; omega)
    have MK47 := Lib.hid (show (h.known.length + 1) * 24 ≤ 140737488355328 by omega)
    go_upto_region 20 with fail
    refine wp_at ?_
    intro W6 hW
    obtain rfl : W5 = W6 := hW.symm
    refine wp_region_held_drew (S := fun w' => Ext W3 w') (by kernel_rfl) (ext_drew HX5.out) (fun hHeld => ?_)
    refine wpAnyH_take' (i := 0) (v := ?z0) (some 75) rfl rfl (by kernel_rfl) (by kernel_rfl) (by kernel_rfl) (fun _ _ _ h => h) (Or.inl ⟨by rfl, ?t0⟩) hHeld ?_
    case t0 =>
      intro w' hSw
      go_simp
      try with_reducible rfl
    refine wpAnyH_take' (i := 3) (v := ?z3) (some 78) rfl rfl (by kernel_rfl) (by kernel_rfl) (by kernel_rfl) (fun _ _ _ h => h) (Or.inl ⟨by rfl, ?t3⟩) hHeld ?_
    case t3 =>
      intro w' hSw
      go_simp
      try with_reducible rfl
    refine wpAnyH_at 12 (fun a0 W0 L' a' w' => ∃ u76 u77 u79 u80 u81 u82 u83 u84 u85 : Value, a' = frm [(76, u76), (77, u77), (79, u79), (80, u80), (81, u81), (82, u82), (83, u83), (84, u84), (85, u85)] a0 ∧ Ext W3 w' ∧ W5.heap.size ≤ w'.heap.size ∧ Chg (fun q => q = W3.heap.size ∨ W5.heap.size ≤ q) W5 w' ∧ At w' W3.heap.size #[.string h.prog, .int .i64 h.arg, (.slice ms1 h.cmds.length cap1), (.slice ms2 h.tries.length cap2), (bif L' 11 then u84 else (.slice m3.ks h.known.length m3.kc)), .slice m3.ss h.sigs.length m3.sc, .bool h.stopped, .bool h.closed, .int .i64 h.out.st, .int .i64 h.out.v, .int .i64 h.len, .int .i64 h.last] ∧ Aft (L' 1) (u76 = (.slice m3.ks h.known.length m3.kc)) ∧ Aft (L' 2) (Bef (L' 9) (∃ ms cap, u77 = .slice ms h.known.length cap ∧ w'.ownsRow W5.heap.size 44 3 (.slice ms h.known.length cap) h.known.length (h.known.flatMap knoC))) ∧ Aft (L' 4) (u79 = .slice ms1 h.cmds.length cap1) ∧ Aft (L' 5) (u80 = .int .i64 (h.cmds.length : Int)) ∧ Aft (L' 6) (u81 = .int .i64 ((h.cmds.length : Int) + 1)) ∧ Aft (L' 7) (u82 = .agg #[.int .i64 ((h.cmds.length : Int) + 1), .int .i64 0, .int .i64 0]) ∧ Aft (L' 8) (Bef (L' 9) (∃ bn, u83 = .slice (some ⟨bn, 0, none⟩) 1 1 ∧ Rds w' (some ⟨bn, 0, none⟩) 1 3 (knoC (⟨h.cmds.length + 1, ⟨0, 0⟩⟩ : Kno)))) ∧ Aft (L' 9) (∃ ms cap, u84 = .slice ms (h.known.length + 1) cap ∧ w'.ownsRow W5.heap.size 44 3 (.slice ms (h.known.length + 1) cap) (h.known.length + 1) ((h.known ++ [(⟨h.cmds.length + 1, ⟨0, 0⟩⟩ : Kno)]).flatMap knoC)) ∧ Aft (L' 10) (u85 = .pointer (some ⟨W3.heap.size, 4, none⟩))) [1, 2, 4, 5, 6, 7, 8, 9, 10, 11] [0, 1, 2, 3, 4, 5, 6, 7, 8, 9, 10, 11] (by kernel_rfl) (by kernel_rfl) (by kernel_rfl) (fun _ _ _ h => by obtain ⟨_, _, _, _, _, _, _, _, _, _, hX, _⟩ := h; exact hX) ?i9 ?swt9 ?en9
    case i9 => exact ⟨_, _, _, _, _, _, _, _, _, (frm_rd [76, 77, 79, 80, 81, 82, 83, 84, 85] _).symm, (ext_drew HX5.out), (Nat.le_refl _), (Chg.drew (Chg.refl _ _)), (show At _ _ _ from at_drewI HB5.out), (Aft.no (by kernel_rfl)), (Aft.no (by kernel_rfl)), (Aft.no (by kernel_rfl)), (Aft.no (by kernel_rfl)), (Aft.no (by kernel_rfl)), (Aft.no (by kernel_rfl)), (Aft.no (by kernel_rfl)), (Aft.no (by kernel_rfl)), (Aft.no (by kernel_rfl))⟩
    case swt9 =>
      refine StepsI.cons [] [2, 9, 10, 11] 12 rfl (by kernel_rfl) (by kernel_rfl) ?sw1 ?_
      case sw1 =>
        rintro L' a' w' K' hi hp hn ⟨u76, u77, u79, u80, u81, u82, u83, u84, u85, rfl, hX, hZ, hCg, hB, h1, h2, h4, h5, h6, h7, h8, h9, h10⟩ hK
        have hB0 := hB
        have n11 := hn 11 (by simp)
        simp only [n11, cond_false] at hB0
        have kb := hB0.1
        refine Stp.mk ?_
        rw [if_pos (by rfl)]
        go_simp
        exact hK.out _ _ ⟨((.slice m3.ks h.known.length m3.kc)), u77, u79, u80, u81, u82, u83, u84, u85, by kernel_rfl, hX, hZ, hCg, hB, (Aft.new rfl), h2, h4, h5, h6, h7, h8, h9, h10⟩
      refine StepsI.cons [1] [9, 10, 11] 12 rfl (by kernel_rfl) (by kernel_rfl) ?sw2 ?_
      case sw2 =>
        rintro L' a' w' K' hi hp hn ⟨u76, u77, u79, u80, u81, u82, u83, u84, u85, rfl, hX, hZ, hCg, hB, h1, h2, h4, h5, h6, h7, h8, h9, h10⟩ hK
        have hB0 := hB
        have n11 := hn 11 (by simp)
        simp only [n11, cond_false] at hB0
        have e1 := h1.get (hp 1 (by simp))
        refine Stp.mk ?_
        rw [if_pos (by rfl)]
        go_simp
        go_at_call 20
        refine (copykns_c m3.ks m3.kc h.known _ (by omega) (by omega) (rows_on2 HI3.out.2.2.1 hX)).mono ?_
        rintro e w1 ⟨ms, cap, rfl, ho, hb⟩
        exact hK.out _ _ ⟨((.slice m3.ks h.known.length m3.kc)), (.slice ms h.known.length cap), u79, u80, u81, u82, u83, u84, u85, by kernel_rfl, (ext_trans hX hb), (Nat.le_trans hZ hb.size), (hCg.trans (Chg.ofExt hb)), (by simp only [show upd L' 2 11 = false from n11, cond_false]; exact at_ext hB0 (by simp) hb), (Aft.new rfl), (Aft.new (Bef.new ⟨ms, cap, rfl, own_low ho hZ⟩)), h4, h5, h6, h7, (h8.map fun h => h.map fun ⟨bn, e, h⟩ => ⟨bn, e, h.ext hb⟩), (Aft.no (hn 9 (by simp))), h10⟩
      refine StepsI.cons [] [5, 6, 7, 8, 9, 10, 11] 12 rfl (by kernel_rfl) (by kernel_rfl) ?sw4 ?_
      case sw4 =>
        rintro L' a' w' K' hi hp hn ⟨u76, u77, u79, u80, u81, u82, u83, u84, u85, rfl, hX, hZ, hCg, hB, h1, h2, h4, h5, h6, h7, h8, h9, h10⟩ hK
        have hB0 := hB
        have n11 := hn 11 (by simp)
        simp only [n11, cond_false] at hB0
        have kb := hB0.1
        refine Stp.mk ?_
        rw [if_pos (by rfl)]
        go_simp
        exact hK.out _ _ ⟨u76, u77, (.slice ms1 h.cmds.length cap1), u80, u81, u82, u83, u84, u85, by kernel_rfl, hX, hZ, hCg, hB, h1, h2, (Aft.new rfl), h5, h6, h7, h8, h9, h10⟩
      refine StepsI.cons [4] [6, 7, 8, 9, 10, 11] 12 rfl (by kernel_rfl) (by kernel_rfl) ?sw5 ?_
      case sw5 =>
        rintro L' a' w' K' hi hp hn ⟨u76, u77, u79, u80, u81, u82, u83, u84, u85, rfl, hX, hZ, hCg, hB, h1, h2, h4, h5, h6, h7, h8, h9, h10⟩ hK
        have e4 := h4.get (hp 4 (by simp))
        refine Stp.mk ?_
        rw [if_pos (by rfl)]
        go_simp
        exact hK.out _ _ ⟨u76, u77, (.slice ms1 h.cmds.length cap1), (.int .i64 (h.cmds.length : Int)), u81, u82, u83, u84, u85, by kernel_rfl, hX, hZ, hCg, hB, h1, h2, (Aft.new rfl), (Aft.new rfl), h6, h7, h8, h9, h10⟩
      refine StepsI.cons [4, 5] [7, 8, 9, 10, 11] 12 rfl (by kernel_rfl) (by kernel_rfl) ?sw6 ?_
      case sw6 =>
        rintro L' a' w' K' hi hp hn ⟨u76, u77, u79, u80, u81, u82, u83, u84, u85, rfl, hX, hZ, hCg, hB, h1, h2, h4, h5, h6, h7, h8, h9, h10⟩ hK
        have e5 := h5.get (hp 5 (by simp))
        have hwr : IntKind.i64.wrap ((h.cmds.length : Int) + 1) = (h.cmds.length : Int) + 1 := IntWalk.i64_in _ (by omega)
        refine Stp.mk ?_
        rw [if_pos (by rfl)]
        go_simp
        exact hK.out _ _ ⟨u76, u77, u79, (.int .i64 (h.cmds.length : Int)), (.int .i64 ((h.cmds.length : Int) + 1)), u82, u83, u84, u85, by kernel_rfl, hX, hZ, hCg, hB, h1, h2, h4, (Aft.new rfl), (Aft.new rfl), h7, h8, h9, h10⟩
      refine StepsI.cons [4, 5, 6] [8, 9, 10, 11] 12 rfl (by kernel_rfl) (by kernel_rfl) ?sw7 ?_
      case sw7 =>
        rintro L' a' w' K' hi hp hn ⟨u76, u77, u79, u80, u81, u82, u83, u84, u85, rfl, hX, hZ, hCg, hB, h1, h2, h4, h5, h6, h7, h8, h9, h10⟩ hK
        have e6 := h6.get (hp 6 (by simp))
        refine Stp.mk ?_
        rw [if_pos (by rfl)]
        go_simp
        exact hK.out _ _ ⟨u76, u77, u79, u80, (.int .i64 ((h.cmds.length : Int) + 1)), (.agg #[.int .i64 ((h.cmds.length : Int) + 1), .int .i64 0, .int .i64 0]), u83, u84, u85, by kernel_rfl, hX, hZ, hCg, hB, h1, h2, h4, h5, (Aft.new rfl), (Aft.new rfl), h8, h9, h10⟩
      refine StepsI.cons [4, 5, 6, 7] [9, 10, 11] 12 rfl (by kernel_rfl) (by kernel_rfl) ?sw8 ?_
      case sw8 =>
        rintro L' a' w' K' hi hp hn ⟨u76, u77, u79, u80, u81, u82, u83, u84, u85, rfl, hX, hZ, hCg, hB, h1, h2, h4, h5, h6, h7, h8, h9, h10⟩ hK
        have hB0 := hB
        have n11 := hn 11 (by simp)
        simp only [n11, cond_false] at hB0
        have e7 := h7.get (hp 7 (by simp))
        refine Stp.mk ?_
        rw [if_pos (by rfl)]
        go_simp
        exact hK.out _ _ ⟨u76, u77, u79, u80, u81, (.agg #[.int .i64 ((h.cmds.length : Int) + 1), .int .i64 0, .int .i64 0]), (.slice (some ⟨w'.heap.size, 0, none⟩) 1 1), u84, u85, by kernel_rfl, (ext_alloc hX _), (Nat.le_trans hZ (ext_alloc (ext_refl _) _).size), (hCg.trans (Chg.ofExt (ext_alloc (ext_refl _) _))), (by simp only [show upd L' 8 11 = false from n11, cond_false]; exact at_ext hB0 (by simp) (ext_alloc (ext_refl _) _)), h1, (h2.map fun h => h.map fun ⟨ms, cap, e, h⟩ => ⟨ms, cap, e, own_ext h (ext_alloc (ext_refl _) _)⟩), h4, h5, h6, (Aft.new rfl), (Aft.new (Bef.new ⟨_, rfl, rds_newV (X := w') (ext_refl _) rfl⟩)), (Aft.no (hn 9 (by simp))), h10⟩
      refine StepsI.cons [1, 2, 4, 5, 6, 7, 8] [10, 11] 12 rfl (by kernel_rfl) (by kernel_rfl) ?sw9 ?_
      case sw9 =>
        rintro L' a' w' K' hi hp hn ⟨u76, u77, u79, u80, u81, u82, u83, u84, u85, rfl, hX, hZ, hCg, hB, h1, h2, h4, h5, h6, h7, h8, h9, h10⟩ hK
        have hB0 := hB
        have n11 := hn 11 (by simp)
        simp only [n11, cond_false] at hB0
        have q2 := h2.get (hp 2 (by simp))
        obtain ⟨msz, capz, e2, ho⟩ := q2.get hi
        have q8 := h8.get (hp 8 (by simp))
        obtain ⟨bn, e8, hr8⟩ := q8.get hi
        refine Stp.mk ?_
        refine step_app3 (by rfl) (.tmp 77) (.tmp 83) 27 (by rfl) W5.heap.size 44 ik _ 3 24 Try.underlying27 hik hka hkb hkc rfl (by decide) (.slice msz h.known.length capz) h.known.length (h.known.flatMap knoC) u77 (by kernel_rfl) e2 ho (some ⟨bn, 0, none⟩) 1 1 (knoC (⟨h.cmds.length + 1, ⟨0, 0⟩⟩ : Kno)) u83 (by kernel_rfl) e8 hr8 (oneCell_kno _) MK63.out MK47.out hZ ?_
        intro v4 w4 hown4 hg4 hbk4
        obtain ⟨ms, cap, rfl⟩ := own_slice hown4
        have hfl : (h.known ++ [(⟨h.cmds.length + 1, ⟨0, 0⟩⟩ : Kno)]).flatMap knoC = h.known.flatMap knoC ++ knoC (⟨h.cmds.length + 1, ⟨0, 0⟩⟩ : Kno) := by simp
        have hz4 := HZ4.out
        have hz5 := HZ5.out
        exact hK.out _ _ ⟨u76, u77, u79, u80, u81, u82, u83, (.slice ms (h.known.length + 1) cap), u85, by kernel_rfl, (ext_grown hX hg4 (fun q e => by have := (ho.lt q e).1; omega)), (Nat.le_trans hZ hg4.size), (hCg.trans (chg_grown (bx := W3.heap.size) hg4 (fun q e => (ho.lt q e).1))), (by simp only [show upd L' 9 11 = false from n11, cond_false]; exact grown_at hg4 hB0 (by simp) (fun e => by have := (ho.lt _ e).1; omega)), h1, (Aft.new (Bef.no rfl)), h4, h5, h6, h7, (Aft.new (Bef.no rfl)), (Aft.new ⟨ms, cap, rfl, by rw [hfl]; exact hown4⟩), h10⟩
      refine StepsI.cons [1, 2, 4, 5, 6, 7, 8, 9] [11] 12 rfl (by kernel_rfl) (by kernel_rfl) ?sw10 ?_
      case sw10 =>
        rintro L' a' w' K' hi hp hn ⟨u76, u77, u79, u80, u81, u82, u83, u84, u85, rfl, hX, hZ, hCg, hB, h1, h2, h4, h5, h6, h7, h8, h9, h10⟩ hK
        refine Stp.mk ?_
        rw [if_pos (by rfl)]
        go_simp
        exact hK.out _ _ ⟨u76, u77, u79, u80, u81, u82, u83, u84, (.pointer (some ⟨W3.heap.size, 4, none⟩)), by kernel_rfl, hX, hZ, hCg, hB, h1, h2, h4, h5, h6, h7, h8, h9, (Aft.new rfl)⟩
      refine StepsI.cons [1, 2, 4, 5, 6, 7, 8, 9, 10] [] 12 rfl (by kernel_rfl) (by kernel_rfl) ?sw11 ?_
      case sw11 =>
        rintro L' a' w' K' hi hp hn ⟨u76, u77, u79, u80, u81, u82, u83, u84, u85, rfl, hX, hZ, hCg, hB, h1, h2, h4, h5, h6, h7, h8, h9, h10⟩ hK
        have hB0 := hB
        simp only [hi, cond_false] at hB0
        have e10 := h10.get (hp 10 (by simp))
        have q9 := h9.get (hp 9 (by simp))
        obtain ⟨ms, cap, e9, ho⟩ := q9
        have kb := hB0.1
        have fb := hB0.2
        have lb := at_lt hB0 (by simp)
        have hz5 : W3.heap.size < W5.heap.size := Nat.lt_of_lt_of_le HZ4.out HZ5.out
        refine Stp.mk ?_
        rw [if_pos (by rfl)]
        go_simp
        exact hK.out _ _ ⟨u76, u77, u79, u80, u81, u82, u83, (.slice ms (h.known.length + 1) cap), (.pointer (some ⟨W3.heap.size, 4, none⟩)), by kernel_rfl, (ext_set hX (Nat.le_refl _) _), (Nat.le_trans hZ (chg_put (b := W3.heap.size) (Chg.refl _ _)).size), (hCg.setCell (.inr (.inl rfl)) _), (at_put hB0 (by simp) rfl), h1, (Aft.new (Bef.no (hp 9 (by simp)))), h4, h5, h6, h7, (Aft.new (Bef.no (hp 9 (by simp)))), (Aft.new ⟨ms, cap, rfl, own_stB ho hz5⟩), (Aft.new rfl)⟩
      exact StepsI.nil
    rintro L' a' W9 hL ⟨u76, u77, u79, u80, u81, u82, u83, u84, u85, rfl, hX, hZ, hCg, hB, h1, h2, h4, h5, h6, h7, h8, h9, h10⟩
    have l11 := hL 11 (by decide)
    simp only [l11, cond_true] at hB
    obtain ⟨msk, capk, e9, ok⟩ := h9.get (hL 9 (by decide))
    subst e9
    have hz4 := HZ4.out
    have hz5 := HZ5.out
    have hlk : (h.known ++ [(⟨h.cmds.length + 1, ⟨0, 0⟩⟩ : Kno)]).length = h.known.length + 1 := by simp
    have HX9 := Lib.hid hX
    have HBX9 := Lib.hid (show At W9 W3.heap.size (hC { h with known := h.known ++ [⟨h.cmds.length + 1, ⟨0, 0⟩⟩] } ⟨ms1, cap1, ms2, cap2, msk, capk, m3.ss, m3.sc⟩) by unfold hC; simp only [hlk]; exact hB)
    have OKW := Lib.hid (show W9.ownsRow W5.heap.size 44 3 (.slice msk (h.known ++ [(⟨h.cmds.length + 1, ⟨0, 0⟩⟩ : Kno)]).length capk) (h.known ++ [(⟨h.cmds.length + 1, ⟨0, 0⟩⟩ : Kno)]).length ((h.known ++ [(⟨h.cmds.length + 1, ⟨0, 0⟩⟩ : Kno)]).flatMap knoC) by rw [hlk]; exact ok)
    have O1' := Lib.hid (own_chgS O1.out hCg (fun k e hk => by have h1 := (O1.out.lt k e).1; have h2 := (O1.out.lt k e).2; omega))
    have O2' := Lib.hid (own_chgS O2.out hCg (fun k e hk => by have h1 := (O2.out.lt k e).1; have h2 := (O2.out.lt k e).2; omega))
    clear ok hB hX hZ hCg h1 h2 h4 h5 h6 h7 h8 h9 h10 l11 hL hHeld hlk
    simp only [frm_cons, frm_nil]
    have HIX := Lib.hid (show HsIn W9 { h with known := h.known ++ [⟨h.cmds.length + 1, ⟨0, 0⟩⟩] } ⟨ms1, cap1, ms2, cap2, msk, capk, m3.ss, m3.sc⟩ from ⟨rows_of_own (g := cmdC) (fun _ => rfl) O1'.out, rows_of_own (g := numC) (fun _ => rfl) O2'.out, rows_of_own (g := knoC) (fun _ => rfl) OKW.out, rows_on2 HI3.out.2.2.2.1 HX9.out, (cap_of_own (n := 5) O1'.out).1, (cap_of_own (n := 1) O2'.out).1, (cap_of_own (n := 3) OKW.out).1, HI3.out.2.2.2.2.2.2.2⟩)
    have HRX := Lib.hid (show hrB { h with known := h.known ++ [⟨h.cmds.length + 1, ⟨0, 0⟩⟩] } = false from wr_5 HP.out.right)
    have HKX := Lib.hid (show ∀ i, i < ({ h with known := h.known ++ [⟨h.cmds.length + 1, ⟨0, 0⟩⟩] } : Hs).cmds.length → 0 ≤ (({ h with known := h.known ++ [⟨h.cmds.length + 1, ⟨0, 0⟩⟩] } : Hs).cmds.getD i default).kind ∧ (({ h with known := h.known ++ [⟨h.cmds.length + 1, ⟨0, 0⟩⟩] } : Hs).cmds.getD i default).kind ≤ 255 from HP.out.kd)
    have HSX := Lib.hid (show HsSm { h with known := h.known ++ [⟨h.cmds.length + 1, ⟨0, 0⟩⟩] } from by have h1 := HP.out.cl; have h2 := HP.out.tl; have h3 := HP.out.kl; have h4 := HP.out.sl; unfold HsSm; simp only [List.length_append, List.length_cons, List.length_nil]; omega)
    obtain ⟨x, hx⟩ : ∃ x, x = ({ h with known := h.known ++ [⟨h.cmds.length + 1, ⟨0, 0⟩⟩] } : Hs) := ⟨_, rfl⟩
    rw [← hx] at HIX HRX HKX HSX HBX9
    clear hx
    have HBH9 := Lib.hid (at_ext HBH3.out (by simp [hC]) HX9.out)
    have HIH9 := Lib.hid (HI3.out.ext HX9.out)
    have HSH := Lib.hid (sm_of HP.out (by omega))
    have kh := HBH9.out.1
    have lh := at_lt HBH9.out (by simp [hC])
    have kx := HBX9.out.1
    have lx := at_lt HBX9.out (by simp [hC])
    unfold hC at kh kx
    go_wp2_with (first | (go_at_call 13; (with_reducible refine (rightF_calls h m3 _ HSH.out HP.out.kd (HIH9.out.ext ?la1)).mono ?_); (case la1 => repeat (first | exact ext_refl _ | assumption | refine ext_more' ?_ _ _ | refine ext_drew ?_ | refine ext_drewN ?_ _ | refine ext_alloc ?_ _)); rw [HP.out.right]; rintro e v16 ⟨rfl, hbv⟩; obtain ⟨r, d, rfl⟩ := ext_form hbv; clear hbv) | (go_at_call 13; (with_reducible refine (rightF_calls x ⟨ms1, cap1, ms2, cap2, msk, capk, m3.ss, m3.sc⟩ _ HSX.out HKX.out (HIX.out.ext ?la2)).mono ?_); (case la2 => repeat (first | exact ext_refl _ | assumption | refine ext_more' ?_ _ _ | refine ext_drew ?_ | refine ext_drewN ?_ _ | refine ext_alloc ?_ _)); rw [HRX.out]; rintro e v17 ⟨rfl, hbv⟩; obtain ⟨r, d, rfl⟩ := ext_form hbv; clear hbv) | (go_at_call 9; refine (awake12_calls _).mono ?_; rintro e w9 ⟨rfl, hb9⟩; obtain ⟨r, d, rfl⟩ := ext_form hb9; clear hb9))
    go_ret
    exact ⟨rfl, ext_trans HXW3.out (ext_trans HX9.out (by repeat (first | exact ext_refl _ | assumption | refine ext_more' ?_ _ _ | refine ext_drew ?_ | refine ext_drewN ?_ _ | refine ext_alloc ?_ _)))⟩
  · have hr1 : c.tmod 7 = 6 := by omega
    have hr2 : c % 7 = 6 := by omega
    clear hc7
    have kb := HB5.out.1
    have lb := at_lt HB5.out (by simp [hC])
    have fb := HB5.out.2
    unfold hC at kb
    go_upto_region 21 with fail
    refine wp_at ?_
    intro W9 hW
    have HX9 := Lib.hid (show Ext W3 W9 by rw [hW]; exact ext_set HX5.out (Nat.le_refl _) _)
    have HBX9 := Lib.hid (show At W9 W3.heap.size (hC { h with closed := !h.closed } ⟨ms1, cap1, ms2, cap2, m3.ks, m3.kc, m3.ss, m3.sc⟩) by rw [hW]; exact at_put HB5.out (by simp [hC]) rfl)
    have O1' := Lib.hid (show W9.ownsRow W4.heap.size 56 5 (.slice ms1 h.cmds.length cap1) h.cmds.length (h.cmds.flatMap cmdC) by rw [hW]; exact own_stB O1.out HZ4.out)
    have O2' := Lib.hid (show W9.ownsRow W4.heap.size 3 1 (.slice ms2 h.tries.length cap2) h.tries.length (h.tries.flatMap numC) by rw [hW]; exact own_stB O2.out HZ4.out)
    clear hW kb lb fb
    have HIX := Lib.hid (show HsIn W9 { h with closed := !h.closed } ⟨ms1, cap1, ms2, cap2, m3.ks, m3.kc, m3.ss, m3.sc⟩ from ⟨rows_of_own (g := cmdC) (fun _ => rfl) O1'.out, rows_of_own (g := numC) (fun _ => rfl) O2'.out, rows_on2 HI3.out.2.2.1 HX9.out, rows_on2 HI3.out.2.2.2.1 HX9.out, (cap_of_own (n := 5) O1'.out).1, (cap_of_own (n := 1) O2'.out).1, HI3.out.2.2.2.2.2.2.1, HI3.out.2.2.2.2.2.2.2⟩)
    have HRX := Lib.hid (show hrB { h with closed := !h.closed } = false from wr_6 HP.out.right)
    have HKX := Lib.hid (show ∀ i, i < ({ h with closed := !h.closed } : Hs).cmds.length → 0 ≤ (({ h with closed := !h.closed } : Hs).cmds.getD i default).kind ∧ (({ h with closed := !h.closed } : Hs).cmds.getD i default).kind ≤ 255 from HP.out.kd)
    have HSX := Lib.hid (show HsSm { h with closed := !h.closed } from by have h1 := HP.out.cl; have h2 := HP.out.tl; have h3 := HP.out.kl; have h4 := HP.out.sl; unfold HsSm; simp only [List.length_append, List.length_cons, List.length_nil]; omega)
    obtain ⟨x, hx⟩ : ∃ x, x = ({ h with closed := !h.closed } : Hs) := ⟨_, rfl⟩
    rw [← hx] at HIX HRX HKX HSX HBX9
    clear hx
    have HBH9 := Lib.hid (at_ext HBH3.out (by simp [hC]) HX9.out)
    have HIH9 := Lib.hid (HI3.out.ext HX9.out)
    have HSH := Lib.hid (sm_of HP.out (by omega))
    have kh := HBH9.out.1
    have lh := at_lt HBH9.out (by simp [hC])
    have kx := HBX9.out.1
    have lx := at_lt HBX9.out (by simp [hC])
    unfold hC at kh kx
    go_wp2_with (first | (go_at_call 13; (with_reducible refine (rightF_calls h m3 _ HSH.out HP.out.kd (HIH9.out.ext ?la1)).mono ?_); (case la1 => repeat (first | exact ext_refl _ | assumption | refine ext_more' ?_ _ _ | refine ext_drew ?_ | refine ext_drewN ?_ _ | refine ext_alloc ?_ _)); rw [HP.out.right]; rintro e v16 ⟨rfl, hbv⟩; obtain ⟨r, d, rfl⟩ := ext_form hbv; clear hbv) | (go_at_call 13; (with_reducible refine (rightF_calls x ⟨ms1, cap1, ms2, cap2, m3.ks, m3.kc, m3.ss, m3.sc⟩ _ HSX.out HKX.out (HIX.out.ext ?la2)).mono ?_); (case la2 => repeat (first | exact ext_refl _ | assumption | refine ext_more' ?_ _ _ | refine ext_drew ?_ | refine ext_drewN ?_ _ | refine ext_alloc ?_ _)); rw [HRX.out]; rintro e v17 ⟨rfl, hbv⟩; obtain ⟨r, d, rfl⟩ := ext_form hbv; clear hbv) | (go_at_call 9; refine (awake12_calls _).mono ?_; rintro e w9 ⟨rfl, hb9⟩; obtain ⟨r, d, rfl⟩ := ext_form hb9; clear hb9))
    go_ret
    exact ⟨rfl, ext_trans HXW3.out (ext_trans HX9.out (by repeat (first | exact ext_refl _ | assumption | refine ext_more' ?_ _ _ | refine ext_drew ?_ | refine ext_drewN ?_ _ | refine ext_alloc ?_ _)))⟩
end Go.Proofs.Ythpgmefjgidkgaa

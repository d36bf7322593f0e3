/- The chapter's examples of layer 12. -/
import Derived.Test.YthpgmefjgidkgaaVB12
import Derived.Test.YthpgmefjgidkgaaS12d
import Derived.Test.YthpgmefjgidkgaaWj2
namespace Go.Proofs.Ythpgmefjgidkgaa
open Go.RowKit
set_option linter.unusedVariables false
set_option linter.unusedSimpArgs false

theorem hC_size (h : Hs) (m : Hm) : (hC h m).size = 12 := rfl
theorem hC_one (h : Hs) (m : Hm) : (hC h m).all (·.oneCell') = true := by
  unfold hC
  simp only [← Array.all_toList, List.all_cons, List.all_nil]
  rfl
theorem nx_a : nextH exH4 ex3 = (exH4, 103) := by unfold nextH; rw [ex_r3]; rfl
theorem nx_b : nextH exH3 exE1 = (exH3, 103) := by
  have : evR exE1 = true := by simp [evR, exE1, kindB, numB, plainB, noneB_emp]
  unfold nextH; rw [this]; rfl
theorem nx_c : nextH exH4 exE2 = (exC, 0) := by unfold nextH; rw [ex_e2]; rfl
theorem nx_d : nextH exC exE3 = (exC, 103) := by
  have : evR exE3 = true := by simp [evR, exE3, kindB, plainB, noneB_emp]
  unfold nextH; rw [this]; rfl
theorem rows_cong2 {w : World} {s : Option Addr} {len n : Nat} {f g : Nat → List Value} (h : Rows_ w s len n f) (he : ∀ i, i < len → f i = g i) : Rows_ w s len n g := fun hl => by
  obtain ⟨b, o, hs, hb, hr⟩ := h hl
  exact ⟨b, o, hs, hb, fun i hi => by rw [← he i hi]; exact hr i hi⟩
theorem ex_pre (i : Nat) (hi : i < 3) : evC (exL.getD i default) = evC (([ex0, ex1, ex2] : List Ev).getD i default) := by
  have h : i = 0 ∨ i = 1 ∨ i = 2 := by omega
  rcases h with rfl | rfl | rfl <;> rfl
theorem rows_box {α : Type} [Inhabited α] {g : α → List Value} {n : Nat} (hg : ∀ x, (g x).length = n) {W : World} {b : Nat} {cs : Array Value} (l : List α) (h : At W b cs) (hc : cs.toList = l.flatMap g) (hp : 0 < cs.size) : Rows_ W (some ⟨b, 0, none⟩) l.length n (fun i => g (l.getD i default)) := fun hl =>
  ⟨b, 0, rfl, at_lt h hp, fun i hi => ⟨hg _, fun k hk => by
    have hf := flat_get hg l i k hi hk
    rw [← hc, Array.getElem?_toList] at hf
    rw [Nat.zero_add, h.1]; exact hf⟩⟩
set_option maxRecDepth 100000 in
set_option maxHeartbeats 4000000 in
theorem awake12_calls (w : World) : Calls Try.prog 9 #[] w fun e w' => e = .returned (.bool true) ∧ Ext w w' := by
  go_enter Try.func9, Try.ntmps9
  go_upto_region 2 with fail
  refine wp_at ?_
  intro W1 hW
  have x1 : Ext w W1 := by rw [hW]; repeat (first | exact ext_refl _ | assumption | refine ext_more' ?_ _ _ | refine ext_drew ?_ | refine ext_drewN ?_ _ | refine ext_alloc ?_ _)
  have bl := at_new (by rw [hW]; repeat (first | exact ext_refl _ | assumption | refine ext_more' ?_ _ _ | refine ext_drew ?_ | refine ext_drewN ?_ _ | refine ext_alloc ?_ _) : Ext (World.alloc w (.cells _ _)) W1)
  clear hW
  have k_bl := bl.1
  have l_bl := at_lt bl (by simp)
  have HR4 := Lib.hid (rows_box (g := evC) (n := 7) (fun _ => rfl) exL bl rfl (by simp))
  go_upto_region 3 with (go_at_call 16; refine (fold_calls _ 4 exL _ HR4.out (by decide) (by decide) (by decide)).mono ?_; rintro e v2 ⟨m2, rfl, hi2, hb2⟩; rw [ex_n4, ex_H4]; rw [ex_H4] at hi2; simp only [hC]; have HI2 := Lib.hid hi2; clear hi2)
  clear k_bl l_bl
  refine wp_at ?_
  intro W3 hW
  have x3 : Ext W1 W3 := by rw [hW]; repeat (first | exact ext_refl _ | assumption | refine ext_more' ?_ _ _ | refine ext_drew ?_ | refine ext_drewN ?_ _ | refine ext_alloc ?_ _)
  have bh := at_new (by rw [hW]; repeat (first | exact ext_refl _ | assumption | refine ext_more' ?_ _ _ | refine ext_drew ?_ | refine ext_drewN ?_ _ | refine ext_alloc ?_ _) : Ext (World.alloc v2 (.cells _ _)) W3)
  have y3 : Ext v2 W3 := by rw [hW]; repeat (first | exact ext_refl _ | assumption | refine ext_more' ?_ _ _ | refine ext_drew ?_ | refine ext_drewN ?_ _ | refine ext_alloc ?_ _)
  clear hW
  replace bl := at_ext bl (by simp) x3
  clear hb2
  have k_bl := bl.1
  have l_bl := at_lt bl (by simp)
  have k_bh := bh.1
  have l_bh := at_lt bh (by simp)
  go_upto_region 4 with (go_at_call 14; refine (over_calls exH4 m2 1 _ (HI2.out.ext y3) (sm_of ex_P4 (by decide))).mono ?_; rw [show knO exH4.known 1 = some ⟨0, 7⟩ from rfl]; rintro e v4 ⟨rfl, hb4⟩; simp only [ovV, Option.isSome_some, Option.getD_some])
  clear k_bl l_bl k_bh l_bh
  refine wp_at ?_
  intro W4 hW
  have x4 : Ext W3 W4 := by rw [hW]; repeat (first | exact ext_refl _ | assumption | refine ext_more' ?_ _ _ | refine ext_drew ?_ | refine ext_drewN ?_ _ | refine ext_alloc ?_ _)
  have bo := at_new (by rw [hW]; repeat (first | exact ext_refl _ | assumption | refine ext_more' ?_ _ _ | refine ext_drew ?_ | refine ext_drewN ?_ _ | refine ext_alloc ?_ _) : Ext (World.alloc v4 (.cells _ _)) W4)
  clear hW
  replace bl := at_ext bl (by simp) x4
  replace bh := at_ext bh (by simp) x4
  clear hb4
  have k_bl := bl.1
  have l_bl := at_lt bl (by simp)
  have k_bh := bh.1
  have l_bh := at_lt bh (by simp)
  have hi12 : (Try.prog.info? 32).map (·.size) = some 12 := by kernel_rfl
  refine wp_region_held_drew (S := fun w' => Ext W4 w') (by kernel_rfl) (ext_drew (ext_refl _)) (fun hHeld => ?_)
  refine wpAnyH_take' (i := 0) (v := ?v0) (some 32) rfl rfl (by kernel_rfl) (by kernel_rfl) (by kernel_rfl) (fun _ _ _ h => h) (Or.inl ⟨by rfl, ?y0⟩) hHeld ?_
  case y0 =>
    intro w' hSw
    have kl := (at_ext bl (by simp) hSw).1
    have kh := (at_ext bh (by simp) hSw).1
    go_simp
    try with_reducible rfl
  refine wpAnyH_take' (i := 1) (v := ?v1) (some 33) rfl rfl (by kernel_rfl) (by kernel_rfl) (by kernel_rfl) (fun _ _ _ h => h) (Or.inl ⟨by rfl, ?y1⟩) hHeld ?_
  case y1 =>
    intro w' hSw
    have kl := (at_ext bl (by simp) hSw).1
    have kh := (at_ext bh (by simp) hSw).1
    go_simp
    try with_reducible rfl
  refine wpAnyH_take' (i := 2) (v := ?v2) (some 34) rfl rfl (by kernel_rfl) (by kernel_rfl) (by kernel_rfl) (fun _ _ _ h => h) (Or.inl ⟨by rfl, ?y2⟩) hHeld ?_
  case y2 =>
    intro w' hSw
    have kl := (at_ext bl (by simp) hSw).1
    have kh := (at_ext bh (by simp) hSw).1
    go_simp
    try with_reducible rfl
  refine wpAnyH_take' (i := 3) (v := ?v3) (some 35) rfl rfl (by kernel_rfl) (by kernel_rfl) (by kernel_rfl) (fun _ _ _ h => h) (Or.inl ⟨by rfl, ?y3⟩) hHeld ?_
  case y3 =>
    intro w' hSw
    have kl := (at_ext bl (by simp) hSw).1
    have kh := (at_ext bh (by simp) hSw).1
    go_simp
    try with_reducible rfl
  refine wpAnyH_at 11 (fun a0 W0 L' a' w' => ∃ u6 u7 u31 u36 u37 u38 : Value, a' = frm [(6, u6), (7, u7), (31, u31), (36, u36), (37, u37), (38, u38)] a0 ∧ Ext W4 w' ∧ Aft (L' 4) (∃ m, u36 = .tuple #[.agg (hC exH4 m), .int .i64 103]) ∧ Aft (L' 5) (∃ m, u31 = .tuple #[.agg (hC exH4 m), .int .i64 103]) ∧ Aft (L' 6) (∃ m, u37 = .agg (hC exH4 m)) ∧ Aft (L' 7) (u38 = .int .i64 103) ∧ Aft (L' 8) (∃ bb, W4.heap.size ≤ bb ∧ u6 = .pointer (some ⟨bb, 0, none⟩) ∧ Bef (L' 9) (At w' bb #[.string ⟨#[]⟩, .int .i64 0, .slice none 0 0, .slice none 0 0, .slice none 0 0, .slice none 0 0, .bool false, .bool false, .int .i64 0, .int .i64 0, .int .i64 0, .int .i64 0])) ∧ Aft (L' 9) (∃ bb m, u6 = .pointer (some ⟨bb, 0, none⟩) ∧ At w' bb (hC exH4 m) ∧ W4.heap.size ≤ bb) ∧ Aft (L' 10) (u7 = .int .i64 103)) [4, 5, 6, 7, 8, 9, 10] [0, 1, 2, 3, 4, 5, 6, 7, 8, 9, 10] (by kernel_rfl) (by kernel_rfl) (by kernel_rfl) (fun _ _ _ h => by obtain ⟨_, _, _, _, _, _, _, hX, _⟩ := h; exact hX) ?i0 ?st ?en
  case i0 => exact ⟨_, _, _, _, _, _, (frm_rd [6, 7, 31, 36, 37, 38] _).symm, hHeld, (Aft.no (by kernel_rfl)), (Aft.no (by kernel_rfl)), (Aft.no (by kernel_rfl)), (Aft.no (by kernel_rfl)), (Aft.no (by kernel_rfl)), (Aft.no (by kernel_rfl)), (Aft.no (by kernel_rfl))⟩
  case st =>
    refine StepsI.cons [] [5, 6, 7, 9, 10] 11 rfl (by kernel_rfl) (by kernel_rfl) ?s4 ?_
    case s4 =>
      rintro L' a' w' K' hi hp hn ⟨u6, u7, u31, u36, u37, u38, rfl, hX, h4, h5, h6, h7, h8, h9, h10⟩ hK
      refine Stp.mk ?_
      rw [if_pos (by rfl)]
      go_simp
      go_at_call 10
      refine (nextF_calls exH4 m2 ex3 _ 4 ex_P4 (by decide) (HI2.out.ext (ext_trans y3 (ext_trans x4 hX))) (by decide) (by decide)).mono ?_
      unfold NextPost
      rw [show nextH exH4 ex3 = (exH4, 103) from nx_a]
      rintro e w1 ⟨m, rfl, hi4, hb⟩
      exact hK.out _ _ ⟨u6, u7, u31, (.tuple #[.agg (hC exH4 m), .int .i64 103]), u37, u38, by kernel_rfl, (ext_trans hX hb), (Aft.new ⟨m, rfl⟩), (Aft.no (hn 5 (by simp))), (Aft.no (hn 6 (by simp))), h7, (h8.map fun ⟨bb, hl, e, h⟩ => ⟨bb, hl, e, h.map fun h => at_ext h (by simp) hb⟩), (Aft.no (hn 9 (by simp))), h10⟩
    refine StepsI.cons [4] [6, 7, 9, 10] 11 rfl (by kernel_rfl) (by kernel_rfl) ?s5 ?_
    case s5 =>
      rintro L' a' w' K' hi hp hn ⟨u6, u7, u31, u36, u37, u38, rfl, hX, h4, h5, h6, h7, h8, h9, h10⟩ hK
      have q := h4.get (hp 4 (by simp))
      obtain ⟨m, e1⟩ := q
      refine Stp.mk ?_
      rw [if_pos (by rfl)]
      go_simp
      exact hK.out _ _ ⟨u6, u7, (.tuple #[.agg (hC exH4 m), .int .i64 103]), (.tuple #[.agg (hC exH4 m), .int .i64 103]), u37, u38, by kernel_rfl, hX, (Aft.new ⟨m, rfl⟩), (Aft.new ⟨m, rfl⟩), h6, h7, h8, h9, h10⟩
    refine StepsI.cons [4, 5] [9, 10] 11 rfl (by kernel_rfl) (by kernel_rfl) ?s6 ?_
    case s6 =>
      rintro L' a' w' K' hi hp hn ⟨u6, u7, u31, u36, u37, u38, rfl, hX, h4, h5, h6, h7, h8, h9, h10⟩ hK
      have q := h5.get (hp 5 (by simp))
      obtain ⟨m, e1⟩ := q
      refine Stp.mk ?_
      rw [if_pos (by rfl)]
      go_simp
      exact hK.out _ _ ⟨u6, u7, (.tuple #[.agg (hC exH4 m), .int .i64 103]), u36, (.agg (hC exH4 m)), u38, by kernel_rfl, hX, h4, (Aft.new ⟨m, rfl⟩), (Aft.new ⟨m, rfl⟩), h7, h8, h9, h10⟩
    refine StepsI.cons [4, 5] [10] 11 rfl (by kernel_rfl) (by kernel_rfl) ?s7 ?_
    case s7 =>
      rintro L' a' w' K' hi hp hn ⟨u6, u7, u31, u36, u37, u38, rfl, hX, h4, h5, h6, h7, h8, h9, h10⟩ hK
      have q := h5.get (hp 5 (by simp))
      obtain ⟨m, e1⟩ := q
      refine Stp.mk ?_
      rw [if_pos (by rfl)]
      go_simp
      exact hK.out _ _ ⟨u6, u7, (.tuple #[.agg (hC exH4 m), .int .i64 103]), u36, u37, (.int .i64 103), by kernel_rfl, hX, h4, (Aft.new ⟨m, rfl⟩), h6, (Aft.new rfl), h8, h9, h10⟩
    refine StepsI.cons [] [9, 10] 11 rfl (by kernel_rfl) (by kernel_rfl) ?s8 ?_
    case s8 =>
      rintro L' a' w' K' hi hp hn ⟨u6, u7, u31, u36, u37, u38, rfl, hX, h4, h5, h6, h7, h8, h9, h10⟩ hK
      refine Stp.mk ?_
      rw [if_pos (by rfl)]
      go_simp
      exact hK.out _ _ ⟨(.pointer (some ⟨w'.heap.size, 0, none⟩)), u7, u31, u36, u37, u38, by kernel_rfl, (ext_alloc hX _), h4, h5, h6, h7, (Aft.new ⟨_, hX.size, rfl, Bef.new (at_new (ext_refl _))⟩), (Aft.no (hn 9 (by simp))), h10⟩
    refine StepsI.cons [4, 5, 6, 8] [10] 11 rfl (by kernel_rfl) (by kernel_rfl) ?s9 ?_
    case s9 =>
      rintro L' a' w' K' hi hp hn ⟨u6, u7, u31, u36, u37, u38, rfl, hX, h4, h5, h6, h7, h8, h9, h10⟩ hK
      have q := h8.get (hp 8 (by simp))
      obtain ⟨bb, hlb, e1, hat0⟩ := q
      have hat := hat0.get hi
      have q2 := h6.get (hp 6 (by simp))
      obtain ⟨m, e2⟩ := q2
      refine Stp.mk ?_
      rw [if_pos (by rfl)]
      with_reducible refine wp_storeS 32 (.tmp 6) (.tmp 37) ?ax1x1 bb ?ax1x2 (hC exH4 m) ?ax1x3 ?ax1x4 ?ax1x5 ?ax1x6 ?ax1x7 ?ax1x8 ?ax1x9
      case ax1x1 => rfl
      case ax1x5 => exact hat
      case ax1x3 => exact Eq.trans (by kernel_rfl) e1
      case ax1x4 => exact Eq.trans (by kernel_rfl) e2
      case ax1x6 => exact (by rw [hC_size]; rfl)
      case ax1x7 => exact (by rw [hC_size]; exact hi12)
      case ax1x8 => exact (hC_one _ _)
      intro w1 hat1 hc1
      exact hK.out _ _ ⟨u6, u7, u31, u36, u37, u38, by kernel_rfl, (ext_chg hX hc1 (fun i h => by omega)), h4, h5, h6, h7, (Aft.new ⟨bb, hlb, e1, Bef.no rfl⟩), (Aft.new ⟨bb, m, e1, hat1, hlb⟩), h10⟩
    refine StepsI.cons [4, 5, 6, 7, 8, 9] [] 11 rfl (by kernel_rfl) (by kernel_rfl) ?s10 ?_
    case s10 =>
      rintro L' a' w' K' hi hp hn ⟨u6, u7, u31, u36, u37, u38, rfl, hX, h4, h5, h6, h7, h8, h9, h10⟩ hK
      have q := h7.get (hp 7 (by simp))
      refine Stp.mk ?_
      rw [if_pos (by rfl)]
      go_simp
      exact hK.out _ _ ⟨u6, (.int .i64 103), u31, u36, u37, (.int .i64 103), by kernel_rfl, hX, h4, h5, h6, (Aft.new rfl), h8, h9, (Aft.new rfl)⟩
    exact StepsI.nil
  rintro L' a' W5 hL ⟨u6, u7, u31, u36, u37, u38, rfl, hX, h4, h5, h6, h7, h8, h9, h10⟩
  have q := h9.get (hL 9 (by decide))
  obtain ⟨bb, m, e1, hB, hlb⟩ := q
  have e2 := h10.get (hL 10 (by decide))
  subst e1
  subst e2
  clear h4 h5 h6 h7 h8 h9 h10 hL hHeld
  clear k_bl l_bl k_bh l_bh
  replace bl := at_ext bl (by simp) hX
  replace bh := at_ext bh (by simp) hX
  replace bo := at_ext bo (by simp) hX
  have HX5 := Lib.hid (ext_trans x1 (ext_trans x3 (ext_trans x4 hX)))
  have HI5 := Lib.hid (HI2.out.ext (ext_trans y3 (ext_trans x4 hX)))
  have HR3 := Lib.hid (rows_cong2 (g := fun i => evC (([ex0, ex1, ex2] : List Ev).getD i default)) (rows_take (m := 3) (rows_on2 HR4.out (ext_trans x3 (ext_trans x4 hX))) (by decide)) (fun i hi => ex_pre i hi))
  clear x1 x3 x4 hX y3 HI2 HR4 hB hlb
  have k_bl := bl.1
  have l_bl := at_lt bl (by simp)
  simp only [frm_cons, frm_nil]
  go_upto_region 6 with (go_at_call 16; refine (fold_calls _ 4 [ex0, ex1, ex2] _ HR3.out (by decide) (by decide) (by decide)).mono ?_; rintro e v6 ⟨m6, rfl, hi6, hb6⟩; rw [ex_n3, ex_H3]; rw [ex_H3] at hi6; simp only [hC]; have HI6 := Lib.hid hi6; clear hi6)
  clear k_bl l_bl
  refine wp_at ?_
  intro W6 hW
  have x6 : Ext W5 W6 := by rw [hW]; repeat (first | exact ext_refl _ | assumption | refine ext_more' ?_ _ _ | refine ext_drew ?_ | refine ext_drewN ?_ _ | refine ext_alloc ?_ _)
  have bt := at_new (by rw [hW]; repeat (first | exact ext_refl _ | assumption | refine ext_more' ?_ _ _ | refine ext_drew ?_ | refine ext_drewN ?_ _ | refine ext_alloc ?_ _) : Ext (World.alloc v6 (.cells _ _)) W6)
  have y6 : Ext v6 W6 := by rw [hW]; repeat (first | exact ext_refl _ | assumption | refine ext_more' ?_ _ _ | refine ext_drew ?_ | refine ext_drewN ?_ _ | refine ext_alloc ?_ _)
  clear hW
  replace bh := at_ext bh (by simp) x6
  replace bo := at_ext bo (by simp) x6
  clear hb6 bl HR3
  have HI6' := Lib.hid (HI6.out.ext y6)
  have HX6 := Lib.hid (ext_trans HX5.out x6)
  have HI5' := Lib.hid (HI5.out.ext x6)
  clear y6 HI6 x6 HX5 HI5
  have k_bt := bt.1
  have l_bt := at_lt bt (by simp)
  go_upto_region 7 with (go_at_call 10; refine (nextF_calls exH3 m6 exE1 _ 3 ex_P3 (by decide) (HI6'.out.ext (by repeat (first | exact ext_refl _ | assumption | refine ext_more' ?_ _ _ | refine ext_drew ?_ | refine ext_drewN ?_ _ | refine ext_alloc ?_ _))) (by decide) (by decide)).mono ?_; rintro e v7 ⟨m7, rfl, hi7, hb7⟩; rw [nx_b]; rw [nx_b] at hi7; replace hi7 := OwnsH.hsin hi7; simp only [hC]; have HI7 := Lib.hid hi7; have HBB7 := Lib.hid hb7; clear hi7)
  clear k_bt l_bt
  refine wp_at ?_
  intro W7 hW
  have x7 : Ext W6 W7 := by rw [hW]; repeat (first | exact ext_refl _ | assumption | refine ext_more' ?_ _ _ | refine ext_drew ?_ | refine ext_drewN ?_ _ | refine ext_alloc ?_ _)
  clear hW
  replace bh := at_ext bh (by simp) x7
  replace bo := at_ext bo (by simp) x7
  replace bt := at_ext bt (by simp) x7
  clear HI7 HBB7
  have HX7 := Lib.hid (ext_trans HX6.out x7)
  have HI67 := Lib.hid (HI6'.out.ext x7)
  have HI57 := Lib.hid (HI5'.out.ext x7)
  clear x7 HX6 HI6' HI5'
  have k_bh := bh.1
  have l_bh := at_lt bh (by simp)
  go_upto_region 8 with (go_at_call 10; refine (nextF_calls exH4 m2 exE2 _ 4 ex_P4 (by decide) (HI57.out.ext (by repeat (first | exact ext_refl _ | assumption | refine ext_more' ?_ _ _ | refine ext_drew ?_ | refine ext_drewN ?_ _ | refine ext_alloc ?_ _))) (by decide) (by decide)).mono ?_; rintro e v8 ⟨m8, rfl, hi8, hb8⟩; rw [nx_c]; rw [nx_c] at hi8; replace hi8 := OwnsH.hsin hi8; simp only [hC]; have HI8 := Lib.hid hi8; have HBB8 := Lib.hid hb8; clear hi8)
  clear k_bh l_bh
  refine wp_at ?_
  intro W8 hW
  have x8 : Ext W7 W8 := by rw [hW]; repeat (first | exact ext_refl _ | assumption | refine ext_more' ?_ _ _ | refine ext_drew ?_ | refine ext_drewN ?_ _ | refine ext_alloc ?_ _)
  have bc := at_new (by rw [hW]; repeat (first | exact ext_refl _ | assumption | refine ext_more' ?_ _ _ | refine ext_drew ?_ | refine ext_drewN ?_ _ | refine ext_alloc ?_ _) : Ext (World.alloc v8 (.cells _ _)) W8)
  have y8 : Ext v8 W8 := by rw [hW]; repeat (first | exact ext_refl _ | assumption | refine ext_more' ?_ _ _ | refine ext_drew ?_ | refine ext_drewN ?_ _ | refine ext_alloc ?_ _)
  clear hW
  replace bh := at_ext bh (by simp) x8
  replace bo := at_ext bo (by simp) x8
  replace bt := at_ext bt (by simp) x8
  have HI8' := Lib.hid (HI8.out.ext y8)
  have HX8 := Lib.hid (ext_trans HX7.out x8)
  have HI68 := Lib.hid (HI67.out.ext x8)
  have HI58 := Lib.hid (HI57.out.ext x8)
  clear x8 HX7 HI67 HI57 HI8 HBB8 y8
  have k_bc := bc.1
  have l_bc := at_lt bc (by simp)
  go_upto_region 9 with (go_at_call 10; refine (nextF_calls exC m8 exE3 _ 5 ex_PC (by decide) (HI8'.out.ext (by repeat (first | exact ext_refl _ | assumption | refine ext_more' ?_ _ _ | refine ext_drew ?_ | refine ext_drewN ?_ _ | refine ext_alloc ?_ _))) (by decide) (by decide)).mono ?_; rintro e v9 ⟨m9, rfl, hi9, hb9⟩; rw [nx_d]; rw [nx_d] at hi9; replace hi9 := OwnsH.hsin hi9; simp only [hC]; have HI9 := Lib.hid hi9; have HBB9 := Lib.hid hb9; clear hi9)
  clear k_bc l_bc
  refine wp_at ?_
  intro W9 hW
  have x9 : Ext W8 W9 := by rw [hW]; repeat (first | exact ext_refl _ | assumption | refine ext_more' ?_ _ _ | refine ext_drew ?_ | refine ext_drewN ?_ _ | refine ext_alloc ?_ _)
  clear hW
  replace bh := at_ext bh (by simp) x9
  replace bo := at_ext bo (by simp) x9
  replace bt := at_ext bt (by simp) x9
  have HX9 := Lib.hid (ext_trans HX8.out x9)
  have HI69 := Lib.hid (HI68.out.ext x9)
  have HI59 := Lib.hid (HI58.out.ext x9)
  clear x9 HX8 HI68 HI58 HI9 HBB9 bc HI8'
  have k_bh := bh.1
  have l_bh := at_lt bh (by simp)
  have k_bo := bo.1
  have l_bo := at_lt bo (by simp)
  have k_bt := bt.1
  have l_bt := at_lt bt (by simp)
  have ho4 : (openL exH4).length = 0 := by kernel_rfl
  have ho3 : (openL exH3).length = 1 := by kernel_rfl
  have HSM4 := Lib.hid (sm_of ex_P4 (by decide))
  have HSM3 := Lib.hid (sm_of ex_P3 (by decide))
  have HO4 := Lib.hid ho4
  have HO3 := Lib.hid ho3
  clear ho4 ho3
  go_wp2_with (first
    | (go_at_call 15; (with_reducible refine (openF_calls exH4 m2 _ HSM4.out (HI59.out.ext ?lx4)).mono ?_); (case lx4 => repeat (first | exact ext_refl _ | assumption | refine ext_more' ?_ _ _ | refine ext_drew ?_ | refine ext_drewN ?_ _ | refine ext_alloc ?_ _)); rw [HO4.out]; rintro e v10 ⟨⟨ms10, cap10, rfl⟩, hb10⟩; obtain ⟨r, d, rfl⟩ := ext_form hb10; clear hb10)
    | (go_at_call 15; (with_reducible refine (openF_calls exH3 m6 _ HSM3.out (HI69.out.ext ?lx3)).mono ?_); (case lx3 => repeat (first | exact ext_refl _ | assumption | refine ext_more' ?_ _ _ | refine ext_drew ?_ | refine ext_drewN ?_ _ | refine ext_alloc ?_ _)); rw [HO3.out]; rintro e v11 ⟨⟨ms11, cap11, rfl⟩, hb11⟩; obtain ⟨r, d, rfl⟩ := ext_form hb11; clear hb11))
  go_ret
  exact ⟨rfl, ext_trans HX9.out (by repeat (first | exact ext_refl _ | assumption | refine ext_more' ?_ _ _ | refine ext_drew ?_ | refine ext_drewN ?_ _ | refine ext_alloc ?_ _))⟩
end Go.Proofs.Ythpgmefjgidkgaa

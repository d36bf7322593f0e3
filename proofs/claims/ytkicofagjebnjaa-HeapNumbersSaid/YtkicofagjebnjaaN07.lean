/- The laws' helpers of layer 7, more. -/
import Derived.Test.YtkicofagjebnjaaL07
namespace Go.Proofs.Ytkicofagjebnjaa
open Go.RowKit
set_option linter.unusedVariables false
set_option linter.unusedSimpArgs false

set_option maxRecDepth 100000 in
set_option maxHeartbeats 4000000 in
theorem t_calls (a b : Int) (w : World) : Calls Try.prog 24 #[.int .i64 a, .int .i64 b] w fun e w' => e = .returned (.agg #[.int .i64 a, .int .i64 b]) ∧ Ext w w' := by
  go_enter Try.func24, Try.ntmps24
  go_wp2
  refine post_at ?_
  intro W1 hW
  have x1 : Ext w W1 := by rw [hW]; repeat (first | exact ext_refl _ | assumption | refine ext_more' ?_ _ _ | refine ext_drew ?_ | refine ext_drewN ?_ _ | refine ext_alloc ?_ _)
  have b1 := at_new (by rw [hW]; repeat (first | exact ext_refl _ | assumption | refine ext_more' ?_ _ _ | refine ext_drew ?_ | refine ext_drewN ?_ _ | refine ext_alloc ?_ _) : Ext (World.alloc w (.cells _ _)) W1)
  clear hW
  have k1 := b1.1
  refine bodyPost_ret (by simp [results, Try.results24, go_sem, k1]; rfl) rfl ?_
  exact ⟨rfl, x1⟩
set_option maxRecDepth 100000 in
set_option maxHeartbeats 4000000 in
theorem ahead_calls (a b : Tmr) (w : World) : Calls Try.prog 14 #[.agg #[.int .i64 a.due, .int .i64 a.id], .agg #[.int .i64 b.due, .int .i64 b.id]] w fun e w' => e = .returned (.bool (ahd a b)) ∧ Ext w w' := by
  by_cases h1 : a.due < b.due
  · have HA := Lib.hid (show ahd a b = true by unfold ahd; simp [h1])
    go_enter Try.func14, Try.ntmps14
    go_wp2
    go_ret
    exact ⟨by rw [HA.out]; rfl, by repeat (first | exact ext_refl _ | assumption | refine ext_more' ?_ _ _ | refine ext_drew ?_ | refine ext_drewN ?_ _ | refine ext_alloc ?_ _)⟩
  · by_cases h2 : a.due = b.due
    · have g2 : (a.due == b.due) = true := by simpa using h2
      by_cases h3 : a.id < b.id
      · have HA := Lib.hid (show ahd a b = true by unfold ahd; simp [h2, h3])
        clear h2
        go_enter Try.func14, Try.ntmps14
        go_wp2
        go_ret
        exact ⟨by rw [HA.out]; rfl, by repeat (first | exact ext_refl _ | assumption | refine ext_more' ?_ _ _ | refine ext_drew ?_ | refine ext_drewN ?_ _ | refine ext_alloc ?_ _)⟩
      · have HA := Lib.hid (show ahd a b = false by unfold ahd; simp [h2, h3])
        clear h2
        go_enter Try.func14, Try.ntmps14
        go_wp2
        go_ret
        exact ⟨by rw [HA.out]; rfl, by repeat (first | exact ext_refl _ | assumption | refine ext_more' ?_ _ _ | refine ext_drew ?_ | refine ext_drewN ?_ _ | refine ext_alloc ?_ _)⟩
    · have g2 : (a.due == b.due) = false := by simpa using h2
      have HA := Lib.hid (show ahd a b = false by unfold ahd; simp [h1, h2])
      clear h2
      go_enter Try.func14, Try.ntmps14
      go_wp2
      go_ret
      exact ⟨by rw [HA.out]; rfl, by repeat (first | exact ext_refl _ | assumption | refine ext_more' ?_ _ _ | refine ext_drew ?_ | refine ext_drewN ?_ _ | refine ext_alloc ?_ _)⟩
set_option maxRecDepth 100000 in
set_option maxHeartbeats 4000000 in
theorem same7_calls (s1 s2 : Option Addr) (c1 c2 : Nat) (L : List Tmr) (w : World) (hl : L.length ≤ 1000000) (h1 : Rows_ w s1 L.length 2 (fun i => tmrC (at_ L i))) (h2 : Rows_ w s2 L.length 2 (fun i => tmrC (at_ L i))) :
    Calls Try.prog 19 #[.slice s1 L.length c1, .slice s2 L.length c2] w fun e w' => e = .returned (.bool true) ∧ Ext w w' := by
  have H1 := Lib.hid h1; have H2 := Lib.hid h2; clear h1 h2
  go_enter Try.func19, Try.ntmps19
  go_upto_region 4 with fail
  go_loopg [5] L.length (fun gk k wr => ∃ (i : Nat), k = .int .i64 i ∧ gk + i = L.length ∧ Ext w wr)
  case atStart => exact ⟨0, rfl, by omega, ext_refl _⟩
  case round =>
    obtain ⟨i, rfl, hgi, hx⟩ := hrel
    have HX := Lib.hid hx; clear hx
    by_cases hi : i < L.length
    · obtain ⟨b, o, rfl, hb, c0, c1⟩ := tmr_cells (V := fun i => at_ L i) H1.out HX.out hi
      obtain ⟨b', o', rfl, hb', d0, d1⟩ := tmr_cells (V := fun i => at_ L i) H2.out HX.out hi
      obtain ⟨x, hx⟩ : ∃ x, x = at_ L i := ⟨_, rfl⟩
      rw [← hx] at c0 c1 d0 d1
      clear hx
      have q1 : b < wr.heap.size := Nat.lt_of_lt_of_le hb HX.out.size
      have q2 : b' < wr.heap.size := Nat.lt_of_lt_of_le hb' HX.out.size
      have hi3 : (i : Int) < L.length := by omega
      have hi0 : (0 : Int) ≤ (i : Int) := by omega
      go_upto_region 6 with fail
      refine wp_region_held_drew (S := fun w' => Ext wr w') (by kernel_rfl) (ext_drew (ext_refl _)) (fun hHeld => ?_)
      refine wpAnyH_take' (i := 0) (v := ?v0_709) (some 17) rfl rfl (by kernel_rfl) (by kernel_rfl) (by kernel_rfl) (fun _ _ _ h => h) (Or.inl ⟨by kernel_rfl, ?y0_709⟩) (hHeld) ?_
      case y0_709 =>
        intro w' hSw
        go_simp
        try with_reducible rfl
      refine wpAnyH_take' (i := 1) (v := ?v1_710) (some 18) rfl rfl (by kernel_rfl) (by kernel_rfl) (by kernel_rfl) (fun _ _ _ h => h) (Or.inl ⟨by kernel_rfl, ?y1_710⟩) (hHeld) ?_
      case y1_710 =>
        intro w' hSw
        go_simp
        try with_reducible rfl
      refine wpAnyH_take' (i := 2) (v := ?v2_711) (some 19) rfl rfl (by kernel_rfl) (by kernel_rfl) (by kernel_rfl) (fun _ _ _ h => h) (Or.inl ⟨by kernel_rfl, ?y2_711⟩) (hHeld) ?_
      case y2_711 =>
        intro w' hSw
        go_simp
        try with_reducible rfl
      refine wpAnyH_take' (i := 3) (v := ?v3_712) (some 20) rfl rfl (by kernel_rfl) (by kernel_rfl) (by kernel_rfl) (fun _ _ _ h => h) (Or.inl ⟨by kernel_rfl, ?y3_712⟩) (hHeld) ?_
      case y3_712 =>
        intro w' hSw
        have c0' := (hSw.cell (p := ⟨b, o + i * 2, none⟩) q1).trans c0; have c1' := (hSw.cell (p := ⟨b, o + i * 2 + 1, none⟩) q1).trans c1; go_simp
        try with_reducible rfl
      refine wpAnyH_take' (i := 4) (v := ?v4_713) (some 21) rfl rfl (by kernel_rfl) (by kernel_rfl) (by kernel_rfl) (fun _ _ _ h => h) (Or.inl ⟨by kernel_rfl, ?y4_713⟩) (hHeld) ?_
      case y4_713 =>
        intro w' hSw
        go_simp
        try with_reducible rfl
      refine wpAnyH_take' (i := 5) (v := ?v5_714) (some 22) rfl rfl (by kernel_rfl) (by kernel_rfl) (by kernel_rfl) (fun _ _ _ h => h) (Or.inl ⟨by kernel_rfl, ?y5_714⟩) (hHeld) ?_
      case y5_714 =>
        intro w' hSw
        go_simp
        try with_reducible rfl
      refine wpAnyH_take' (i := 6) (v := ?v6_715) (some 23) rfl rfl (by kernel_rfl) (by kernel_rfl) (by kernel_rfl) (fun _ _ _ h => h) (Or.inl ⟨by kernel_rfl, ?y6_715⟩) (hHeld) ?_
      case y6_715 =>
        intro w' hSw
        go_simp
        try with_reducible rfl
      refine wpAnyH_take' (i := 7) (v := ?v7_716) (some 24) rfl rfl (by kernel_rfl) (by kernel_rfl) (by kernel_rfl) (fun _ _ _ h => h) (Or.inl ⟨by kernel_rfl, ?y7_716⟩) (hHeld) ?_
      case y7_716 =>
        intro w' hSw
        have d0' := (hSw.cell (p := ⟨b', o' + i * 2, none⟩) q2).trans d0; have d1' := (hSw.cell (p := ⟨b', o' + i * 2 + 1, none⟩) q2).trans d1; go_simp
        try with_reducible rfl
      refine wpAnyH_take' (i := 8) (v := ?v8_717) (some 25) rfl rfl (by kernel_rfl) (by kernel_rfl) (by kernel_rfl) (fun _ _ _ h => h) (Or.inl ⟨by kernel_rfl, ?y8_717⟩) (hHeld) ?_
      case y8_717 =>
        intro w' hSw
        go_simp
        try with_reducible rfl
      refine wpAnyH_done (by kernel_rfl) ?_ _
      go_simp
      go_wp2
      go_roundg (gk - 1)
      case measure => omega
      case rel => exact ⟨i + 1, by go_num, by omega, ext_trans HX.out hHeld⟩
    · have hi3 : ¬ ((i : Int) < L.length) := by omega
      go_wp2
      go_ret
      exact ⟨rfl, HX.out⟩

def FillPost (w : World) (l : List Tmr) (most : Int) (e : Ending) (w' : World) : Prop :=
  ∃ hb mb rg, e = .returned (.tuple #[.pointer (some ⟨hb, 0, none⟩), .bool true]) ∧ HA w' hb mb rg (mkS l l.length) most ∧ Ext w w' ∧ w.heap.size ≤ hb ∧ w.heap.size ≤ mb ∧ ∀ q, rg = some q → w.heap.size ≤ q
set_option maxRecDepth 100000 in
set_option maxHeartbeats 8000000 in
theorem filled_calls (most : Int) (s : Option Addr) (cap : Nat) (l : List Tmr) (w : World) (hrows : Rows_ w s l.length 2 (fun i => tmrC (at_ l i))) (hcap : l.length ≤ cap) (h1 : 1 ≤ most) (h2 : most ≤ 65536) (hlm : (l.length : Int) ≤ most) (hds : ∀ i, i < l.length → fnd (at_ l i).id (mkS l i) = none) :
    Calls Try.prog 23 #[.int .i64 most, .slice s l.length cap] w (FillPost w l most) := by
  have HROWS := Lib.hid hrows
  have HDS := Lib.hid hds
  clear hrows hds
  go_enter Try.func23, Try.ntmps23
  go_upto_region 4 with (go_at_call 21; refine (new_ok most _ h1 h2).mono ?_; rintro e w1 ⟨hb, mb, rfl, ha1, hz1, hz2, hx1⟩; have HA1 := Lib.hid ha1; have HX1 := Lib.hid hx1; clear ha1 hx1)
  refine wp_at ?_
  intro W1 hW
  obtain rfl : w1 = W1 := hW.symm
  go_loopg [8, 9] l.length (fun gk k8 k9 wr => ∃ (i : Nat) (rg : Option Nat), k8 = .bool true ∧ k9 = .int .i64 i ∧ gk + i = l.length ∧ HA wr hb mb rg (mkS l i) most ∧ Ext w wr ∧ (∀ q, rg = some q → w.heap.size ≤ q))
  case atStart => exact ⟨0, none, rfl, rfl, rfl, HA1.out, HX1.out, (fun q (h : (none : Option Nat) = some q) => nomatch h)⟩
  case round =>
    obtain ⟨i, rg, rfl, rfl, hgi, ha, hx, hrw⟩ := hrel
    have HA3 := Lib.hid ha; have HX3 := Lib.hid hx; have HRW := Lib.hid hrw
    clear ha hx hrw
    have hsl := mkS_len l i
    by_cases hil : i < l.length
    rotate_left
    · have n1 : ¬ ((i : Int) < (l.length : Int)) := by omega
      have hie : l.length = i := by omega
      have HIE := Lib.hid hie
      clear hie
      go_wp2
      refine bodyPost_ret (results_tmp2 rfl _ _ _) rfl ?_
      exact ⟨hb, mb, rg, rfl, by rw [HIE.out]; exact HA3.out, HX3.out, hz1, hz2, HRW.out⟩
    have n1 : (i : Int) < (l.length : Int) := by omega
    have n0 : (0 : Int) ≤ (i : Int) := by omega
    obtain ⟨b, o, rfl, q0, c0, c1⟩ := tmr_cells (V := fun i => at_ l i) HROWS.out HX3.out hil
    have hf := HDS.out i hil
    obtain ⟨x, hxx⟩ : ∃ x, x = at_ l i := ⟨_, rfl⟩
    rw [← hxx] at c0 c1 hf
    have hmk : mkS l (i + 1) = if (fnd x.id (mkS l i)).isSome = true then mkS l i else ins x (mkS l i) := by rw [mkS, ← hxx]
    obtain ⟨S, hS⟩ : ∃ S, S = mkS l i := ⟨_, rfl⟩
    rw [← hS] at hmk HA3 hsl hf
    clear hxx hS
    rw [hf] at hmk
    simp only [Option.isSome_none, Bool.false_eq_true, if_false] at hmk
    have he : putE S most x = 0 := by unfold putE; rw [hf, if_neg (by simp), if_neg (by omega)]
    have HE := Lib.hid he
    have HSS := Lib.hid (show putS S most x = ins x S by unfold putS; rw [he]; rfl)
    have HMK := Lib.hid hmk
    clear he hmk hf
    go_upto_region 5 with (go_at_call 22; refine (put_calls x hb mb rg S most _ (HA3.out.ext (by repeat (first | exact ext_refl _ | assumption | refine ext_more' ?_ _ _ | refine ext_drew ?_ | refine ext_drewN ?_ _ | refine ext_alloc ?_ _)))).mono ?_; rw [HE.out, HSS.out]; rintro e w9 ⟨rfl, hp9⟩; have HP9 := Lib.hid hp9; clear hp9)
    obtain ⟨rg', ha9, hc9, hr9⟩ := HP9.out
    have hnl : ∀ q, q < w.heap.size → ¬ (q = hb ∨ q = mb ∨ rg = some q) := by
      intro q hq h
      rcases h with h | h | h
      · omega
      · omega
      · have := HRW.out _ h; omega
    have HA9 := Lib.hid ha9
    have HX9 := Lib.hid (ext_chg HX3.out hc9 (fun q h => Nat.le_of_not_lt fun hq => hnl q hq h))
    have hz9 := HX3.out.size
    have HRW9 := Lib.hid (show ∀ q, rg' = some q → w.heap.size ≤ q from fun q e => by
      rcases hr9 with h | ⟨g, h, hg⟩
      · exact HRW.out q (by rw [← h, e])
      · rw [h] at e; injection e with e; omega)
    clear c0 c1 HP9 hc9 hr9 ha9
    refine wp_at ?_
    intro W9 hW
    obtain rfl : w9 = W9 := hW.symm
    go_wp2
    go_roundg (gk - 1)
    case measure => omega
    case rel => exact ⟨i + 1, rg', rfl, by go_num, by omega, by rw [HMK.out]; exact HA9.out, HX9.out, HRW9.out⟩
def PopsOk (S : List Tmr) (x : Tmr) (b : Bool) : Prop := b = S.head?.isSome ∧ x = S.head?.getD ⟨0, 0⟩
set_option maxRecDepth 100000 in
set_option maxHeartbeats 8000000 in
theorem pops_calls (x : Tmr) (b : Bool) (hb mb : Nat) (rg : Option Nat) (S : List Tmr) (most : Int) (w : World) (ha : HA w hb mb rg S most) (hok : PopsOk S x b) :
    Calls Try.prog 35 #[.pointer (some ⟨hb, 0, none⟩), .agg #[.int .i64 x.due, .int .i64 x.id], .bool b] w fun e w' => e = .returned (.bool true) ∧ HPost w w' hb mb rg S.tail most := by
  have HAA := Lib.hid ha
  have HOB := Lib.hid hok.1.symm
  have HOX := Lib.hid hok.2.symm
  have hb0 := ha.hb
  have hm0 := ha.mb
  have HR0 := Lib.hid ha.rg
  clear ha hok
  go_enter Try.func35, Try.ntmps35
  go_upto_region 1 with fail
  refine wp_at ?_
  intro W0 hW
  have x_W0 : Ext w W0 := by rw [hW]; repeat (first | exact ext_refl _ | assumption | refine ext_more' ?_ _ _ | refine ext_drew ?_ | refine ext_drewN ?_ _ | refine ext_alloc ?_ _)
  have bt := at_new (by rw [hW]; repeat (first | exact ext_refl _ | assumption | refine ext_more' ?_ _ _ | refine ext_drew ?_ | refine ext_drewN ?_ _ | refine ext_alloc ?_ _) : Ext (World.alloc w (.cells _ _)) W0)
  clear hW
  have HA0 := Lib.hid (HAA.out.ext x_W0)
  go_upto_region 2 with (go_at_call 18; refine (next_calls7 hb mb rg S most _ HA0.out).mono ?_; rintro e w2 ⟨rfl, hx2⟩; simp only [otV]; rw [HOB.out, HOX.out])
  refine wp_at ?_
  intro W1 hW
  have x_W1 : Ext W0 W1 := by rw [hW]; repeat (first | exact ext_refl _ | assumption | refine ext_more' ?_ _ _ | refine ext_drew ?_ | refine ext_drewN ?_ _ | refine ext_alloc ?_ _)
  have bx := at_new (by rw [hW]; repeat (first | exact ext_refl _ | assumption | refine ext_more' ?_ _ _ | refine ext_drew ?_ | refine ext_drewN ?_ _ | refine ext_alloc ?_ _) : Ext (World.alloc w2 (.cells _ _)) W1)
  clear hW
  have bt := at_ext bt (by simp) x_W1
  have HA1 := Lib.hid (HA0.out.ext x_W1)
  have hx1 := ext_trans x_W0 x_W1
  have HZ2 := Lib.hid (show w.heap.size ≤ w2.heap.size from Nat.le_trans x_W0.size hx2.size)
  clear hx2 x_W0 x_W1 HA0
  have HBT := Lib.hid bt; have HBX := Lib.hid bx
  have hz1 := hx1.size
  have lx := at_lt bx (by simp)
  have HX1 := Lib.hid hx1
  clear bt bx hx1
  go_upto_region 3 with (go_at_call 13; refine (pop_calls hb mb rg S most _ HA1.out).mono ?_; rintro e w3 ⟨rfl, hp3⟩; simp only [otV]; rw [HOB.out, HOX.out]; have HP3 := Lib.hid hp3; clear hp3)
  refine wp_at ?_
  intro W3 hW
  have x3 : Ext w3 W3 := by rw [hW]; repeat (first | exact ext_refl _ | assumption | refine ext_more' ?_ _ _ | refine ext_drew ?_ | refine ext_drewN ?_ _ | refine ext_alloc ?_ _)
  have b9 := at_new (by rw [hW]; repeat (first | exact ext_refl _ | assumption | refine ext_more' ?_ _ _ | refine ext_drew ?_ | refine ext_drewN ?_ _ | refine ext_alloc ?_ _) : Ext (World.alloc w3 (.cells _ _)) W3)
  clear hW
  obtain ⟨rg', ha3, hc3, hr3⟩ := HP3.out
  have hnl : ∀ q, w.heap.size ≤ q → ¬ (q = hb ∨ q = mb ∨ rg = some q) := by
    intro q hq h
    rcases h with h | h | h
    · omega
    · omega
    · have := HR0.out _ h; omega
  have hw2 : w.heap.size ≤ w2.heap.size := by first | omega | (have := HZ2.out; omega)
  have bt := at_ext (at_chg HBT.out (by simp) hc3 (hnl _ (Nat.le_refl _))) (by simp) x3
  have bx := at_ext (at_chg HBX.out (by simp) hc3 (hnl _ hw2)) (by simp) x3
  have HPP := Lib.hid (show HPost w W3 hb mb rg S.tail most from ⟨rg', ha3.ext x3, (Chg.ofExt HX1.out).trans (hc3.trans (Chg.ofExt x3)), by
    rcases hr3 with h | ⟨g, h, hg⟩
    · exact .inl h
    · exact .inr ⟨g, h, by omega⟩⟩)
  have kt := bt.1
  have lt := at_lt bt (by simp)
  have kx := bx.1
  have lx' := at_lt bx (by simp)
  have k9 := b9.1
  have l9 := at_lt b9 (by simp)
  clear HBT HBX HP3 hc3 hr3 ha3 x3
  go_wp2
  refine post_at ?_
  intro W9 hW
  have x9 : Ext W3 W9 := by rw [hW]; repeat (first | exact ext_refl _ | assumption | refine ext_more' ?_ _ _ | refine ext_drew ?_ | refine ext_drewN ?_ _ | refine ext_alloc ?_ _)
  clear hW
  go_ret
  refine ⟨by simp, ?_⟩
  obtain ⟨rg', q1, q2, q3⟩ := HPP.out
  exact ⟨rg', q1.ext x9, q2.trans (Chg.ofExt x9), q3⟩
end Go.Proofs.Ytkicofagjebnjaa

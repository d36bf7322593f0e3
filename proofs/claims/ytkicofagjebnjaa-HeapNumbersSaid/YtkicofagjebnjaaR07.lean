/- The chapter's examples of layer 7. -/
import Derived.Test.YtkicofagjebnjaaQ07
namespace Go.Proofs.Ytkicofagjebnjaa
open Go.RowKit
set_option linter.unusedVariables false
set_option linter.unusedSimpArgs false

theorem rows_box7 {α : Type} [Inhabited α] {g : α → List Value} {n : Nat} (hg : ∀ x, (g x).length = n) {W : World} {b : Nat} {cs : Array Value} (l : List α) (h : At W b cs) (hc : cs.toList = l.flatMap g) (hp : 0 < cs.size) : Rows_ W (some ⟨b, 0, none⟩) l.length n (fun i => g (l.getD i default)) := fun hl =>
  ⟨b, 0, rfl, at_lt h hp, fun i hi => ⟨hg _, fun k hk => by
    have hf := flat_get hg l i k hi hk
    rw [← hc, Array.getElem?_toList] at hf
    rw [Nat.zero_add, h.1]; exact hf⟩⟩
theorem at_newM (w : World) (r : Array Obj) (d : Nat) (cs : Array Value) (t : TypeId) : At ((more w r d).alloc (.cells cs t)) (w.heap.size + r.size) cs := by
  have h := at_new (ext_refl ((more w r d).alloc (.cells cs t)))
  rw [more_size] at h
  exact h
instance (S : List Tmr) (x : Tmr) (b : Bool) : Decidable (PopsOk S x b) := by unfold PopsOk; exact inferInstance
def eA : List Tmr := [⟨5, 1⟩, ⟨3, 2⟩, ⟨5, 0⟩]
def eB : List Tmr := [⟨9, 1⟩, ⟨2, 3⟩, ⟨4, 2⟩]
def sA : List Tmr := [⟨3, 2⟩, ⟨5, 0⟩, ⟨5, 1⟩]
theorem sA_wo : wo 2 sA = [⟨5, 0⟩, ⟨5, 1⟩] := by decide +kernel
def sB : List Tmr := [⟨2, 3⟩, ⟨4, 2⟩, ⟨9, 1⟩]
theorem eA_S : mkS eA eA.length = sA := by decide +kernel
theorem eB_S : mkS eB eB.length = sB := by decide +kernel
theorem eA_ds : ∀ i, i < eA.length → fnd (at_ eA i).id (mkS eA i) = none := by decide +kernel
theorem eB_ds : ∀ i, i < eB.length → fnd (at_ eB i).id (mkS eB i) = none := by decide +kernel
theorem same_d (ms : Option Addr) (cap b : Nat) (w : World) (h1 : Rows_ w ms 2 2 (fun i => tmrC (at_ ([⟨2, 3⟩, ⟨4, 2⟩] : List Tmr) i))) (h2 : Rows_ w (some ⟨b, 0, none⟩) 2 2 (fun i => tmrC (at_ ([⟨2, 3⟩, ⟨4, 2⟩] : List Tmr) i))) : Calls Try.prog 19 #[.slice ms 2 cap, .slice (some ⟨b, 0, none⟩) 2 2] w fun e w' => e = .returned (.bool true) ∧ Ext w w' := same7_calls ms (some ⟨b, 0, none⟩) cap 2 ([⟨2, 3⟩, ⟨4, 2⟩] : List Tmr) w (by decide) h1 h2
theorem same_r (ms : Option Addr) (cap b : Nat) (w : World) (h1 : Rows_ w ms 1 2 (fun i => tmrC (at_ ([⟨9, 1⟩] : List Tmr) i))) (h2 : Rows_ w (some ⟨b, 0, none⟩) 1 2 (fun i => tmrC (at_ ([⟨9, 1⟩] : List Tmr) i))) : Calls Try.prog 19 #[.slice ms 1 cap, .slice (some ⟨b, 0, none⟩) 1 1] w fun e w' => e = .returned (.bool true) ∧ Ext w w' := same7_calls ms (some ⟨b, 0, none⟩) cap 1 ([⟨9, 1⟩] : List Tmr) w (by decide) h1 h2
theorem due4 (hb mb : Nat) (rg : Option Nat) (w : World) (ha : HA w hb mb rg sB 9) : Calls Try.prog 17 #[.pointer (some ⟨hb, 0, none⟩), .int .i64 4] w fun e w' => ∃ ms cap, e = .returned (.slice ms 2 cap) ∧ w'.ownsRow w.heap.size 29 2 (.slice ms 2 cap) 2 (([⟨2, 3⟩, ⟨4, 2⟩] : List Tmr).flatMap tmrC) ∧ HA w' hb mb rg [⟨9, 1⟩] 9 ∧ Chg (fun q => q = hb ∨ q = mb ∨ rg = some q) w w' :=
  (due_calls 4 hb mb rg sB 9 w ha).mono fun e w' h => by
    unfold DuePost at h
    rw [show sB.takeWhile (dueB 4) = [⟨2, 3⟩, ⟨4, 2⟩] from by decide +kernel, show sB.dropWhile (dueB 4) = [⟨9, 1⟩] from by decide +kernel] at h
    exact h
theorem fil_eA (b : Nat) (w : World) (h : Rows_ w (some ⟨b, 0, none⟩) 3 2 (fun i => tmrC (at_ eA i))) : Calls Try.prog 23 #[.int .i64 9, .slice (some ⟨b, 0, none⟩) 3 3] w fun e w' => ∃ hb mb rg, e = .returned (.tuple #[.pointer (some ⟨hb, 0, none⟩), .bool true]) ∧ HA w' hb mb rg sA 9 ∧ Ext w w' ∧ w.heap.size ≤ hb ∧ w.heap.size ≤ mb ∧ ∀ q, rg = some q → w.heap.size ≤ q :=
  (filled_calls 9 _ 3 eA w h (by decide) (by decide) (by decide) (by decide) eA_ds).mono fun e w' ⟨hb, mb, rg, h1, h2, h3⟩ => ⟨hb, mb, rg, h1, by rw [eA_S] at h2; exact h2, h3⟩
theorem fil_eB (b : Nat) (w : World) (h : Rows_ w (some ⟨b, 0, none⟩) 3 2 (fun i => tmrC (at_ eB i))) : Calls Try.prog 23 #[.int .i64 9, .slice (some ⟨b, 0, none⟩) 3 3] w fun e w' => ∃ hb mb rg, e = .returned (.tuple #[.pointer (some ⟨hb, 0, none⟩), .bool true]) ∧ HA w' hb mb rg sB 9 ∧ Ext w w' ∧ w.heap.size ≤ hb ∧ w.heap.size ≤ mb ∧ ∀ q, rg = some q → w.heap.size ≤ q :=
  (filled_calls 9 _ 3 eB w h (by decide) (by decide) (by decide) (by decide) eB_ds).mono fun e w' ⟨hb, mb, rg, h1, h2, h3⟩ => ⟨hb, mb, rg, h1, by rw [eB_S] at h2; exact h2, h3⟩
set_option maxRecDepth 100000 in
set_option maxHeartbeats 8000000 in
theorem awake07_calls (w : World) : Calls Try.prog 16 #[] w fun e w' => e = .returned (.bool true) ∧ Ext w w' := by
  go_enter Try.func16, Try.ntmps16
  go_upto_region 2 with (first | (go_at_call 24; refine (t_calls _ _ _).mono ?_; rintro e v ⟨rfl, hx⟩; obtain ⟨r, d, rfl⟩ := ext_form hx; clear hx) | (go_at_call 23; refine (fil_eA _ _ (rows_box7 (g := tmrC) (n := 2) (fun _ => rfl) eA (at_newM _ _ _ _ _) rfl (by simp))).mono ?_; rintro e w1 ⟨hb, mb, rg, rfl, haw1, hxw1, hz1, hz2, hz3⟩; have HAw1 := Lib.hid haw1; have HXw1 := Lib.hid hxw1; have HZ3 := Lib.hid hz3; clear haw1 hxw1 hz3))
  refine wp_at ?_
  intro W2 hW
  have x2 : Ext w1 W2 := by rw [hW]; repeat (first | exact ext_refl _ | assumption | refine ext_more' ?_ _ _ | refine ext_drew ?_ | refine ext_drewN ?_ _ | refine ext_alloc ?_ _)
  clear hW
  have HA2 := Lib.hid (HAw1.out.ext x2)
  have HX2 := Lib.hid (show Ext w W2 from ext_trans (ext_trans (by repeat (first | exact ext_refl _ | assumption | refine ext_more' ?_ _ _ | refine ext_drew ?_ | refine ext_drewN ?_ _ | refine ext_alloc ?_ _)) HXw1.out) x2)
  clear x2 HAw1
  go_upto_region 3 with (go_at_call 18; refine (next_calls7 hb mb rg sA 9 _ HA2.out).mono ?_; rw [show otV sA.head? = .tuple #[.agg #[.int .i64 3, .int .i64 2], .bool true] from rfl]; rintro e w2 ⟨rfl, hx2⟩)
  refine wp_at ?_
  intro W3 hW
  have x_W3 : Ext W2 W3 := by rw [hW]; repeat (first | exact ext_refl _ | assumption | refine ext_more' ?_ _ _ | refine ext_drew ?_ | refine ext_drewN ?_ _ | refine ext_alloc ?_ _)
  have bx := at_new (by rw [hW]; repeat (first | exact ext_refl _ | assumption | refine ext_more' ?_ _ _ | refine ext_drew ?_ | refine ext_drewN ?_ _ | refine ext_alloc ?_ _) : Ext (World.alloc w2 (.cells _ _)) W3)
  clear hW
  have hb2 := HA2.out.hb
  have hm2 := HA2.out.mb
  have HN2 := Lib.hid HA2.out.rg
  have hz22 := hx2.size
  clear hx2
  have HA3 := Lib.hid (HA2.out.ext x_W3)
  have hx3 := ext_trans HX2.out x_W3
  have HX3 := Lib.hid hx3
  clear hx3 x_W3 HA2 HX2
  have HBX := Lib.hid bx
  clear bx
  go_upto_region 4 with (go_at_call 12; refine (drop_calls 2 hb mb rg sA 9 _ HA3.out).mono ?_; rw [show drV (fnd 2 sA) = .tuple #[.agg #[.int .i64 3, .int .i64 2], .int .i64 0] from rfl]; rintro e w4 ⟨rfl, hp4⟩; have HP4 := Lib.hid hp4; clear hp4)
  refine wp_at ?_
  intro W4 hW
  have x4 : Ext w4 W4 := by rw [hW]; repeat (first | exact ext_refl _ | assumption | refine ext_more' ?_ _ _ | refine ext_drew ?_ | refine ext_drewN ?_ _ | refine ext_alloc ?_ _)
  have by_ := at_new (by rw [hW]; repeat (first | exact ext_refl _ | assumption | refine ext_more' ?_ _ _ | refine ext_drew ?_ | refine ext_drewN ?_ _ | refine ext_alloc ?_ _) : Ext (World.alloc w4 (.cells _ _)) W4)
  clear hW
  obtain ⟨rg4, ha4, hc4, hr4⟩ := HP4.out
  rw [sA_wo] at ha4
  have hbx2 := HBX.out
  have hlx := at_lt HBX.out (by simp)
  have hh3 := HA3.out.hb
  have hm3 := HA3.out.mb
  have hn3 := HA3.out.rg
  have hnx : ¬ (w2.heap.size = hb ∨ w2.heap.size = mb ∨ rg = some w2.heap.size) := by
    rintro (h | h | h)
    · omega
    · omega
    · have := HN2.out _ h; omega
  have bx := at_ext (at_chg HBX.out (by simp) hc4 hnx) (by simp) x4
  have h44 : ∀ k, k < W3.heap.size → rg4 = some k → rg = some k := fun k hk e => by
    rcases hr4 with h | ⟨g, h, hg⟩
    · rw [← h]; exact e
    · rw [h] at e; injection e with e; omega
  have hz4 := hc4.size
  have hnx4 : ¬ (w2.heap.size = hb ∨ w2.heap.size = mb ∨ rg4 = some w2.heap.size) := fun h => hnx (h.imp id (Or.imp id (h44 _ hlx)))
  have hny4 : ¬ (w4.heap.size = hb ∨ w4.heap.size = mb ∨ rg4 = some w4.heap.size) := by
    rintro (h | h | h)
    · omega
    · omega
    · have := ha4.rg _ h; omega
  have HA4 := Lib.hid (ha4.ext x4)
  have hzz := x4.size
  clear hbx2 HP4
  refine wp_region_held_drew (S := fun w' => Chg (fun q => q = hb ∨ q = mb ∨ rg4 = some q) W4 w') (by kernel_rfl) (Chg.drew (Chg.refl _ _)) (fun hHeld => ?_)
  refine wpAnyH_take' (i := 0) (v := ?v0_718) (some 27) rfl rfl (by kernel_rfl) (by kernel_rfl) (by kernel_rfl) (fun _ _ _ h => h) (Or.inl ⟨by kernel_rfl, ?y0_718⟩) (hHeld) ?_
  case y0_718 =>
    intro w' hSw
    go_simp
    try with_reducible rfl
  refine wpAnyH_take' (i := 1) (v := ?v1_719) (some 28) rfl rfl (by kernel_rfl) (by kernel_rfl) (by kernel_rfl) (fun _ _ _ h => h) (Or.inl ⟨by kernel_rfl, ?y1_719⟩) (hHeld) ?_
  case y1_719 =>
    intro w' hSw
    go_simp
    try with_reducible rfl
  refine wpAnyH_take' (i := 2) (v := ?v2_720) (some 29) rfl rfl (by kernel_rfl) (by kernel_rfl) (by kernel_rfl) (fun _ _ _ h => h) (Or.inl ⟨by kernel_rfl, ?y2_720⟩) (hHeld) ?_
  case y2_720 =>
    intro w' hSw
    go_simp
    try with_reducible rfl
  refine wpAnyH_take' (i := 3) (v := ?v3_721) (some 30) rfl rfl (by kernel_rfl) (by kernel_rfl) (by kernel_rfl) (fun _ _ _ h => h) (Or.inl ⟨by kernel_rfl, ?y3_721⟩) (hHeld) ?_
  case y3_721 =>
    intro w' hSw
    go_simp
    try with_reducible rfl
  refine wpAnyH_take' (i := 4) (v := ?v4_722) (some 31) rfl rfl (by kernel_rfl) (by kernel_rfl) (by kernel_rfl) (fun _ _ _ h => h) (Or.inl ⟨by kernel_rfl, ?y4_722⟩) (hHeld) ?_
  case y4_722 =>
    intro w' hSw
    go_simp
    try with_reducible rfl
  refine wpAnyH_take' (i := 5) (v := ?v5_723) (some 32) rfl rfl (by kernel_rfl) (by kernel_rfl) (by kernel_rfl) (fun _ _ _ h => h) (Or.inl ⟨by kernel_rfl, ?y5_723⟩) (hHeld) ?_
  case y5_723 =>
    intro w' hSw
    go_simp
    try with_reducible rfl
  refine wpAnyH_take' (i := 6) (v := ?v6_724) (some 33) rfl rfl (by kernel_rfl) (by kernel_rfl) (by kernel_rfl) (fun _ _ _ h => h) (Or.inl ⟨by kernel_rfl, ?y6_724⟩) (hHeld) ?_
  case y6_724 =>
    intro w' hSw
    go_simp
    try with_reducible rfl
  refine wpAnyH_take' (i := 7) (v := ?v7_725) (some 34) rfl rfl (by kernel_rfl) (by kernel_rfl) (by kernel_rfl) (fun _ _ _ h => h) (Or.inl ⟨by kernel_rfl, ?y7_725⟩) (hHeld) ?_
  case y7_725 =>
    intro w' hSw
    have kx' := (at_chg bx (by simp) hSw hnx4).1; have lx' := at_lt (at_chg bx (by simp) hSw hnx4) (by simp); go_simp
    try with_reducible rfl
  refine wpAnyH_ready (rs := [8]) (by kernel_rfl) (by simp) ?_
  refine AllReadyH.cons rfl (fun K hK => ?_) AllReadyH.nil
  rw [if_pos (by kernel_rfl)]
  go_simp
  go_at_call 24
  refine (t_calls _ _ _).mono ?_
  rintro e u8 ⟨rfl, hx8⟩
  refine hK.out _ _ (hHeld.trans (Chg.ofExt hx8)) (fun hS => ?_)
  clear hK
  have HA8 := Lib.hid ((HA4.out.ext (ext_drew (ext_refl _))).ext hx8)
  have HZ8 := Lib.hid hS.size
  clear hx8
  refine wpAnyH_take' (i := 9) (v := ?v9_726) (some 36) rfl rfl (by kernel_rfl) (by kernel_rfl) (by kernel_rfl) (fun _ _ _ h => h) (Or.inl ⟨by kernel_rfl, ?y9_726⟩) (hS) ?_
  case y9_726 =>
    intro w' hSw
    go_simp
    try with_reducible rfl
  refine wpAnyH_take' (i := 10) (v := ?v10_727) (some 37) rfl rfl (by kernel_rfl) (by kernel_rfl) (by kernel_rfl) (fun _ _ _ h => h) (Or.inl ⟨by kernel_rfl, ?y10_727⟩) (hS) ?_
  case y10_727 =>
    intro w' hSw
    go_simp
    try with_reducible rfl
  refine wpAnyH_take' (i := 11) (v := ?v11_728) (some 38) rfl rfl (by kernel_rfl) (by kernel_rfl) (by kernel_rfl) (fun _ _ _ h => h) (Or.inl ⟨by kernel_rfl, ?y11_728⟩) (hS) ?_
  case y11_728 =>
    intro w' hSw
    go_simp
    try with_reducible rfl
  refine wpAnyH_take' (i := 12) (v := ?v12_729) (some 39) rfl rfl (by kernel_rfl) (by kernel_rfl) (by kernel_rfl) (fun _ _ _ h => h) (Or.inl ⟨by kernel_rfl, ?y12_729⟩) (hS) ?_
  case y12_729 =>
    intro w' hSw
    have ky' := (at_chg by_ (by simp) hSw hny4).1; have ly' := at_lt (at_chg by_ (by simp) hSw hny4) (by simp); go_simp
    try with_reducible rfl
  refine wpAnyH_take' (i := 13) (v := ?v13_730) (some 40) rfl rfl (by kernel_rfl) (by kernel_rfl) (by kernel_rfl) (fun _ _ _ h => h) (Or.inl ⟨by kernel_rfl, ?y13_730⟩) (hS) ?_
  case y13_730 =>
    intro w' hSw
    have kx' := (at_chg bx (by simp) hSw hnx4).1; have lx' := at_lt (at_chg bx (by simp) hSw hnx4) (by simp); go_simp
    try with_reducible rfl
  refine wpAnyH_take' (i := 14) (v := ?v14_731) (some 41) rfl rfl (by kernel_rfl) (by kernel_rfl) (by kernel_rfl) (fun _ _ _ h => h) (Or.inl ⟨by kernel_rfl, ?y14_731⟩) (hS) ?_
  case y14_731 =>
    intro w' hSw
    go_simp
    try with_reducible rfl
  refine wpAnyH_take' (i := 15) (v := ?v15_732) (some 42) rfl rfl (by kernel_rfl) (by kernel_rfl) (by kernel_rfl) (fun _ _ _ h => h) (Or.inl ⟨by kernel_rfl, ?y15_732⟩) (hS) ?_
  case y15_732 =>
    intro w' hSw
    go_simp
    try with_reducible rfl
  refine wpAnyH_take' (i := 16) (v := ?v16_733) (some 43) rfl rfl (by kernel_rfl) (by kernel_rfl) (by kernel_rfl) (fun _ _ _ h => h) (Or.inl ⟨by kernel_rfl, ?y16_733⟩) (hS) ?_
  case y16_733 =>
    intro w' hSw
    go_simp
    try with_reducible rfl
  refine wpAnyH_take' (i := 17) (v := ?v17_734) (some 44) rfl rfl (by kernel_rfl) (by kernel_rfl) (by kernel_rfl) (fun _ _ _ h => h) (Or.inl ⟨by kernel_rfl, ?y17_734⟩) (hS) ?_
  case y17_734 =>
    intro w' hSw
    go_simp
    try with_reducible rfl
  refine wpAnyH_take' (i := 18) (v := ?v18_735) (some 45) rfl rfl (by kernel_rfl) (by kernel_rfl) (by kernel_rfl) (fun _ _ _ h => h) (Or.inl ⟨by kernel_rfl, ?y18_735⟩) (hS) ?_
  case y18_735 =>
    intro w' hSw
    go_simp
    try with_reducible rfl
  refine wpAnyH_take' (i := 19) (v := ?v19_736) (some 46) rfl rfl (by kernel_rfl) (by kernel_rfl) (by kernel_rfl) (fun _ _ _ h => h) (Or.inl ⟨by kernel_rfl, ?y19_736⟩) (hS) ?_
  case y19_736 =>
    intro w' hSw
    go_simp
    try with_reducible rfl
  refine wpAnyH_take' (i := 20) (v := ?v20_737) (some 47) rfl rfl (by kernel_rfl) (by kernel_rfl) (by kernel_rfl) (fun _ _ _ h => h) (Or.inl ⟨by kernel_rfl, ?y20_737⟩) (hS) ?_
  case y20_737 =>
    intro w' hSw
    go_simp
    try with_reducible rfl
  refine wpAnyH_take' (i := 21) (v := ?v21_738) (some 48) rfl rfl (by kernel_rfl) (by kernel_rfl) (by kernel_rfl) (fun _ _ _ h => h) (Or.inl ⟨by kernel_rfl, ?y21_738⟩) (hS) ?_
  case y21_738 =>
    intro w' hSw
    go_simp
    try with_reducible rfl
  refine wpAnyH_ready (rs := [22]) (by kernel_rfl) (by simp) ?_
  refine AllReadyH.cons rfl (fun K hK => ?_) AllReadyH.nil
  rw [if_pos (by kernel_rfl)]
  go_simp
  go_at_call 24
  refine (t_calls _ _ _).mono ?_
  rintro e u22 ⟨rfl, hx22⟩
  refine hK.out _ _ (hS.trans (Chg.ofExt hx22)) (fun hS => ?_)
  clear hK
  have HA22 := Lib.hid ((HA8.out).ext hx22)
  have HZ22 := Lib.hid hS.size
  clear hx22
  have g0 : ∀ q, q < W4.heap.size → rg4 = some q → rg4 = some q := fun _ _ h => h
  refine wpAnyH_ready (rs := [23]) (by kernel_rfl) (by simp) ?_
  refine AllReadyH.cons rfl (fun K hK => ?_) AllReadyH.nil
  rw [if_pos (by kernel_rfl)]
  go_simp
  go_at_call 22
  refine (put_calls ⟨7, 1⟩ hb mb rg4 [⟨5, 0⟩, ⟨5, 1⟩] 9 _ HA22.out).mono ?_
  rw [show putE [⟨5, 0⟩, ⟨5, 1⟩] 9 ⟨7, 1⟩ = 40 from by decide +kernel, show putS [⟨5, 0⟩, ⟨5, 1⟩] 9 ⟨7, 1⟩ = [⟨5, 0⟩, ⟨5, 1⟩] from by decide +kernel]
  rintro e u23 ⟨rfl, rg5, ha23, hc23, hr23⟩
  refine hK.out _ _ (chg_in hS hc23 (fun q hq h => h.imp id (Or.imp id (g0 q hq)))) (fun hS => ?_)
  clear hK
  have HA23 := Lib.hid ha23
  have HZ23 := Lib.hid hS.size
  have g23 : ∀ q, q < W4.heap.size → rg5 = some q → rg4 = some q := fun q hq e => by
    rcases hr23 with h | ⟨g, h, hg⟩
    · rw [← h]; exact e
    · rw [h] at e; injection e with e; have := HZ22.out; omega
  refine wpAnyH_take' (i := 24) (v := ?v24_739) (some 51) rfl rfl (by kernel_rfl) (by kernel_rfl) (by kernel_rfl) (fun _ _ _ h => h) (Or.inl ⟨by kernel_rfl, ?y24_739⟩) (hS) ?_
  case y24_739 =>
    intro w' hSw
    go_simp
    try with_reducible rfl
  refine wpAnyH_take' (i := 25) (v := ?v25_740) (some 52) rfl rfl (by kernel_rfl) (by kernel_rfl) (by kernel_rfl) (fun _ _ _ h => h) (Or.inl ⟨by kernel_rfl, ?y25_740⟩) (hS) ?_
  case y25_740 =>
    intro w' hSw
    go_simp
    try with_reducible rfl
  refine wpAnyH_take' (i := 26) (v := ?v26_741) (some 53) rfl rfl (by kernel_rfl) (by kernel_rfl) (by kernel_rfl) (fun _ _ _ h => h) (Or.inl ⟨by kernel_rfl, ?y26_741⟩) (hS) ?_
  case y26_741 =>
    intro w' hSw
    go_simp
    try with_reducible rfl
  refine wpAnyH_take' (i := 27) (v := ?v27_742) (some 54) rfl rfl (by kernel_rfl) (by kernel_rfl) (by kernel_rfl) (fun _ _ _ h => h) (Or.inl ⟨by kernel_rfl, ?y27_742⟩) (hS) ?_
  case y27_742 =>
    intro w' hSw
    go_simp
    try with_reducible rfl
  refine wpAnyH_ready (rs := [28]) (by kernel_rfl) (by simp) ?_
  refine AllReadyH.cons rfl (fun K hK => ?_) AllReadyH.nil
  rw [if_pos (by kernel_rfl)]
  go_simp
  go_at_call 24
  refine (t_calls _ _ _).mono ?_
  rintro e u28 ⟨rfl, hx28⟩
  refine hK.out _ _ (hS.trans (Chg.ofExt hx28)) (fun hS => ?_)
  clear hK
  have HA28 := Lib.hid ((HA23.out).ext hx28)
  have HZ28 := Lib.hid hS.size
  clear hx28
  refine wpAnyH_ready (rs := [29]) (by kernel_rfl) (by simp) ?_
  refine AllReadyH.cons rfl (fun K hK => ?_) AllReadyH.nil
  rw [if_pos (by kernel_rfl)]
  go_simp
  go_at_call 35
  refine (pops_calls ⟨5, 0⟩ true hb mb rg5 [⟨5, 0⟩, ⟨5, 1⟩] 9 _ HA28.out (by decide)).mono ?_
  rintro e u29 ⟨rfl, rg6, ha29, hc29, hr29⟩
  refine hK.out _ _ (chg_in hS hc29 (fun q hq h => h.imp id (Or.imp id (g23 q hq)))) (fun hS => ?_)
  clear hK
  have HA29 := Lib.hid ha29
  have HZ29 := Lib.hid hS.size
  have g29 : ∀ q, q < W4.heap.size → rg6 = some q → rg4 = some q := fun q hq e => by
    rcases hr29 with h | ⟨g, h, hg⟩
    · exact g23 q hq (by rw [← h]; exact e)
    · rw [h] at e; injection e with e; have := HZ28.out; omega
  refine wpAnyH_take' (i := 30) (v := ?v30_743) (some 57) rfl rfl (by kernel_rfl) (by kernel_rfl) (by kernel_rfl) (fun _ _ _ h => h) (Or.inl ⟨by kernel_rfl, ?y30_743⟩) (hS) ?_
  case y30_743 =>
    intro w' hSw
    go_simp
    try with_reducible rfl
  refine wpAnyH_take' (i := 31) (v := ?v31_744) (some 58) rfl rfl (by kernel_rfl) (by kernel_rfl) (by kernel_rfl) (fun _ _ _ h => h) (Or.inl ⟨by kernel_rfl, ?y31_744⟩) (hS) ?_
  case y31_744 =>
    intro w' hSw
    go_simp
    try with_reducible rfl
  refine wpAnyH_take' (i := 32) (v := ?v32_745) (some 59) rfl rfl (by kernel_rfl) (by kernel_rfl) (by kernel_rfl) (fun _ _ _ h => h) (Or.inl ⟨by kernel_rfl, ?y32_745⟩) (hS) ?_
  case y32_745 =>
    intro w' hSw
    go_simp
    try with_reducible rfl
  refine wpAnyH_take' (i := 33) (v := ?v33_746) (some 60) rfl rfl (by kernel_rfl) (by kernel_rfl) (by kernel_rfl) (fun _ _ _ h => h) (Or.inl ⟨by kernel_rfl, ?y33_746⟩) (hS) ?_
  case y33_746 =>
    intro w' hSw
    go_simp
    try with_reducible rfl
  refine wpAnyH_ready (rs := [34]) (by kernel_rfl) (by simp) ?_
  refine AllReadyH.cons rfl (fun K hK => ?_) AllReadyH.nil
  rw [if_pos (by kernel_rfl)]
  go_simp
  go_at_call 24
  refine (t_calls _ _ _).mono ?_
  rintro e u34 ⟨rfl, hx34⟩
  refine hK.out _ _ (hS.trans (Chg.ofExt hx34)) (fun hS => ?_)
  clear hK
  have HA34 := Lib.hid ((HA29.out).ext hx34)
  have HZ34 := Lib.hid hS.size
  clear hx34
  refine wpAnyH_ready (rs := [35]) (by kernel_rfl) (by simp) ?_
  refine AllReadyH.cons rfl (fun K hK => ?_) AllReadyH.nil
  rw [if_pos (by kernel_rfl)]
  go_simp
  go_at_call 35
  refine (pops_calls ⟨5, 1⟩ true hb mb rg6 [⟨5, 1⟩] 9 _ HA34.out (by decide)).mono ?_
  rintro e u35 ⟨rfl, rg7, ha35, hc35, hr35⟩
  refine hK.out _ _ (chg_in hS hc35 (fun q hq h => h.imp id (Or.imp id (g29 q hq)))) (fun hS => ?_)
  clear hK
  have HA35 := Lib.hid ha35
  have HZ35 := Lib.hid hS.size
  have g35 : ∀ q, q < W4.heap.size → rg7 = some q → rg4 = some q := fun q hq e => by
    rcases hr35 with h | ⟨g, h, hg⟩
    · exact g29 q hq (by rw [← h]; exact e)
    · rw [h] at e; injection e with e; have := HZ34.out; omega
  refine wpAnyH_take' (i := 36) (v := ?v36_747) (some 63) rfl rfl (by kernel_rfl) (by kernel_rfl) (by kernel_rfl) (fun _ _ _ h => h) (Or.inl ⟨by kernel_rfl, ?y36_747⟩) (hS) ?_
  case y36_747 =>
    intro w' hSw
    go_simp
    try with_reducible rfl
  refine wpAnyH_take' (i := 37) (v := ?v37_748) (some 64) rfl rfl (by kernel_rfl) (by kernel_rfl) (by kernel_rfl) (fun _ _ _ h => h) (Or.inl ⟨by kernel_rfl, ?y37_748⟩) (hS) ?_
  case y37_748 =>
    intro w' hSw
    go_simp
    try with_reducible rfl
  refine wpAnyH_take' (i := 38) (v := ?v38_749) (some 65) rfl rfl (by kernel_rfl) (by kernel_rfl) (by kernel_rfl) (fun _ _ _ h => h) (Or.inl ⟨by kernel_rfl, ?y38_749⟩) (hS) ?_
  case y38_749 =>
    intro w' hSw
    go_simp
    try with_reducible rfl
  refine wpAnyH_take' (i := 39) (v := ?v39_750) (some 66) rfl rfl (by kernel_rfl) (by kernel_rfl) (by kernel_rfl) (fun _ _ _ h => h) (Or.inl ⟨by kernel_rfl, ?y39_750⟩) (hS) ?_
  case y39_750 =>
    intro w' hSw
    go_simp
    try with_reducible rfl
  refine wpAnyH_take' (i := 40) (v := ?v40_751) (some 67) rfl rfl (by kernel_rfl) (by kernel_rfl) (by kernel_rfl) (fun _ _ _ h => h) (Or.inl ⟨by kernel_rfl, ?y40_751⟩) (hS) ?_
  case y40_751 =>
    intro w' hSw
    go_simp
    try with_reducible rfl
  refine wpAnyH_ready (rs := [41]) (by kernel_rfl) (by simp) ?_
  refine AllReadyH.cons rfl (fun K hK => ?_) AllReadyH.nil
  rw [if_pos (by kernel_rfl)]
  go_simp
  go_at_call 35
  refine (pops_calls ⟨0, 0⟩ false hb mb rg7 [] 9 _ HA35.out (by decide)).mono ?_
  rintro e u41 ⟨rfl, rg8, ha41, hc41, hr41⟩
  refine hK.out _ _ (chg_in hS hc41 (fun q hq h => h.imp id (Or.imp id (g35 q hq)))) (fun hS => ?_)
  clear hK
  have HA41 := Lib.hid ha41
  have HZ41 := Lib.hid hS.size
  have g41 : ∀ q, q < W4.heap.size → rg8 = some q → rg4 = some q := fun q hq e => by
    rcases hr41 with h | ⟨g, h, hg⟩
    · exact g35 q hq (by rw [← h]; exact e)
    · rw [h] at e; injection e with e; have := HZ35.out; omega
  refine wpAnyH_take' (i := 42) (v := ?v42_752) (some 69) rfl rfl (by kernel_rfl) (by kernel_rfl) (by kernel_rfl) (fun _ _ _ h => h) (Or.inl ⟨by kernel_rfl, ?y42_752⟩) (hS) ?_
  case y42_752 =>
    intro w' hSw
    go_simp
    try with_reducible rfl
  refine wpAnyH_take' (i := 43) (v := ?v43_753) (some 70) rfl rfl (by kernel_rfl) (by kernel_rfl) (by kernel_rfl) (fun _ _ _ h => h) (Or.inl ⟨by kernel_rfl, ?y43_753⟩) (hS) ?_
  case y43_753 =>
    intro w' hSw
    go_simp
    try with_reducible rfl
  refine wpAnyH_done (by kernel_rfl) ?_ _
  go_simp
  simp only [sz_alloc, more_size] at hz1 hz2
  have hz3 := HZ3.out
  simp only [sz_alloc, more_size] at hz3
  have hzw := HX3.out.size
  have hlow : ∀ q, (q = hb ∨ q = mb ∨ rg = some q) → w.heap.size ≤ q := by
    rintro q (h | h | h)
    · omega
    · omega
    · have := hz3 q h; omega
  have XW4 := ext_trans (ext_chg HX3.out hc4 hlow) x4
  have XU := Lib.hid (ext_chg XW4 hS (fun q h => by
    rcases h with h | h | h
    · exact hlow q (.inl h)
    · exact hlow q (.inr (.inl h))
    · rcases hr4 with h2 | ⟨g, h2, hg⟩
      · exact hlow q (.inr (.inr (by rw [← h2]; exact h)))
      · rw [h2] at h; injection h with h; omega))
  clear HA41 HA35 HA29 HA23 HA22 HA8 HA28 HA34 g41 g35 g29 g23 g0 hS hHeld HZ3 hz3 hlow XW4 x4 by_ bx ha4 hc4 hr4 h44 HA4
  go_upto_region 7 with (first | (go_at_call 24; refine (t_calls _ _ _).mono ?_; rintro e v ⟨rfl, hx⟩; obtain ⟨r, d, rfl⟩ := ext_form hx; clear hx) | (go_at_call 23; refine (fil_eB _ _ (rows_box7 (g := tmrC) (n := 2) (fun _ => rfl) eB (at_newM _ _ _ _ _) rfl (by simp))).mono ?_; rintro e v1 ⟨hb, mb, rg, rfl, hav1, hxv1, hz1, hz2, hz3⟩; have HAv1 := Lib.hid hav1; have HXv1 := Lib.hid hxv1; have HZ3 := Lib.hid hz3; clear hav1 hxv1 hz3))
  simp only [sz_alloc, more_size] at hz1 hz2
  have hz3 := HZ3.out
  simp only [sz_alloc, more_size] at hz3
  have XV := Lib.hid (show Ext w v1 from ext_trans (ext_trans XU.out (by repeat (first | exact ext_refl _ | assumption | refine ext_more' ?_ _ _ | refine ext_drew ?_ | refine ext_drewN ?_ _ | refine ext_alloc ?_ _))) HXv1.out)
  have hzu := XU.out.size
  have HLOW := Lib.hid (show ∀ q, (q = hb ∨ q = mb ∨ rg = some q) → w.heap.size ≤ q from by
    rintro q (h | h | h)
    · omega
    · omega
    · have := hz3 q h; omega)
  clear hz3
  have HH := Lib.hid HAv1.out
  go_wp2_with fail
  go_at_call 17
  refine (due4 hb mb rg _ (HH.out.ext (by repeat (first | exact ext_refl _ | assumption | refine ext_more' ?_ _ _ | refine ext_drew ?_ | refine ext_drewN ?_ _ | refine ext_alloc ?_ _)))).mono ?_
  rintro e v5 ⟨ms5, cap5, rfl, ho5, ha5, hc5⟩
  have HO5 := Lib.hid ho5; have HA5 := Lib.hid ha5; have HC5 := Lib.hid hc5
  clear ho5 ha5 hc5 HH
  go_wp2_with fail
  go_at_call 24
  refine (t_calls _ _ _).mono ?_
  rintro e v6 ⟨rfl, hx6⟩
  have HX6 := Lib.hid hx6
  clear hx6
  go_wp2_with fail
  go_at_call 24
  refine (t_calls _ _ _).mono ?_
  rintro e v7 ⟨rfl, hx7⟩
  have HX7 := Lib.hid hx7
  clear hx7
  have hb7 := at_new (ext_refl (World.alloc v7 (.cells #[.int .i64 2, .int .i64 3, .int .i64 4, .int .i64 2] 29)))
  have hr7 := rows_box7 (g := tmrC) (n := 2) (fun _ => rfl) ([⟨2, 3⟩, ⟨4, 2⟩] : List Tmr) hb7 rfl (by decide)
  have ho7 := rows_on2 (rows_of_own (g := tmrC) (l := ([⟨2, 3⟩, ⟨4, 2⟩] : List Tmr)) (fun _ => rfl) HO5.out) (ext_trans (ext_trans HX6.out HX7.out) (ext_alloc (ext_refl v7) (.cells #[.int .i64 2, .int .i64 3, .int .i64 4, .int .i64 2] 29)))
  have HSD := Lib.hid (same_d ms5 cap5 _ _ ho7 hr7)
  clear hb7 hr7 ho7
  go_wp2_with fail
  go_at_call 19
  refine HSD.out.mono ?_
  rintro e v8 ⟨rfl, hx8⟩
  have X8 := Lib.hid (show Ext v5 v8 from ext_trans (ext_trans HX6.out HX7.out) (ext_trans (ext_alloc (ext_refl v7) _) hx8))
  clear hx8 HSD
  go_wp2_with fail
  go_at_call 20
  refine (all_calls hb mb rg ([⟨9, 1⟩] : List Tmr) 9 _ (HA5.out.ext (by have := X8.out; repeat (first | exact ext_refl _ | assumption | refine ext_more' ?_ _ _ | refine ext_drew ?_ | refine ext_drewN ?_ _ | refine ext_alloc ?_ _)))).mono ?_
  rintro e v9 ⟨ms9, cap9, rfl, ho9, hx9⟩
  have HO9 := Lib.hid ho9; have HX9 := Lib.hid hx9
  clear ho9 hx9
  go_wp2_with fail
  go_at_call 24
  refine (t_calls _ _ _).mono ?_
  rintro e v10 ⟨rfl, hx10⟩
  have HX10 := Lib.hid hx10
  clear hx10
  have hb10 := at_new (ext_refl (World.alloc v10 (.cells #[.int .i64 9, .int .i64 1] 29)))
  have hr10 := rows_box7 (g := tmrC) (n := 2) (fun _ => rfl) ([⟨9, 1⟩] : List Tmr) hb10 rfl (by decide)
  have ho10 := rows_on2 (rows_of_own (g := tmrC) (l := ([⟨9, 1⟩] : List Tmr)) (fun _ => rfl) HO9.out) (ext_trans HX10.out (ext_alloc (ext_refl v10) (.cells #[.int .i64 9, .int .i64 1] 29)))
  have HSR := Lib.hid (same_r ms9 cap9 _ _ ho10 hr10)
  clear hb10 hr10 ho10
  go_wp2_with fail
  go_at_call 19
  refine HSR.out.mono ?_
  rintro e v11 ⟨rfl, hx11⟩
  have X11 := Lib.hid (show Ext v8 v11 from ext_trans HX9.out (ext_trans HX10.out (ext_trans (ext_alloc (ext_refl v10) _) hx11)))
  clear hx11 HSR
  go_wp2
  go_ret
  exact ⟨rfl, ext_trans (ext_chg XV.out HC5.out HLOW.out) (ext_trans X8.out X11.out)⟩
end Go.Proofs.Ytkicofagjebnjaa

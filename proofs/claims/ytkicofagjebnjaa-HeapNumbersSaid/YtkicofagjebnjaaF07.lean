/- One more timer. -/
import Derived.Test.YtkicofagjebnjaaE07
namespace Go.Proofs.Ytkicofagjebnjaa
open Go.RowKit
set_option linter.unusedVariables false
set_option linter.unusedSimpArgs false

theorem chg_in {S T : Nat → Prop} {w w1 w2 : World} (h : Chg S w w1) (g : Chg T w1 w2) (hs : ∀ k, k < w.heap.size → T k → S k) : Chg S w w2 := by
  have g2 : Chg (fun q => S q ∨ T q) w w2 := (h.mono fun _ _ h => .inl h).trans (g.mono fun _ _ h => .inr h)
  exact ⟨g2.os, g2.tape, g2.output, g2.size, fun k hk hn => g2.block k hk (fun e => hn (e.elim id (hs k hk)))⟩
theorem int0z7 (w : World) : (zeroValue 3).run Try.prog w = .ok (.int .i64 0) w := by kernel_rfl
theorem tmr_info : (Try.prog.info? 29).map (fun i => (i.zero, i.size, i.bytes)) = some (some (.agg #[.int .i64 0, .int .i64 0]), 2, 16) := by kernel_rfl
theorem own_slice1 {w : World} {base n sz : Nat} {T : TypeId} {v : Value} {xs : List Value} (h : w.ownsRow base T sz v (n + 1) xs) : ∃ g cap, v = .slice (some ⟨g, 0, none⟩) (n + 1) cap := by
  rcases h.2 with ⟨_, h0⟩ | ⟨g, cap, cur, hv, _⟩
  · omega
  · exact ⟨g, cap, hv⟩
/-- Where a heap's timers lie, none too. -/
structure HpV (w : World) (hb mb : Nat) (ms : Option Addr) (cap : Nat) (most : Int) (l : List Tmr) (M : List (Int × Value)) : Prop where
  box : At w hb #[.slice ms l.length cap, .map (some mb), .int .i64 most]
  row : w.ownsRow 0 29 2 (.slice ms l.length cap) l.length (l.flatMap tmrC)
  map : MpS w mb .i64 M
  fits : Fits l M
  keys : Keys M
theorem HpS.v {w : World} {hb mb g cap : Nat} {most : Int} {l : List Tmr} {M : List (Int × Value)} (h : HpS w hb mb g cap most l M) : HpV w hb mb (some ⟨g, 0, none⟩) cap most l M := ⟨h.box, h.row, h.map, h.fits, h.keys⟩
/-- A heap of the timers S, in order. -/
structure HA (w : World) (hb mb : Nat) (rg : Option Nat) (S : List Tmr) (most : Int) : Prop where
  lay : ∃ ms cap l M, HpV w hb mb ms cap most l M ∧ Hp l ∧ l.Perm S ∧ (Value.slice ms l.length cap).ownBlock = rg
  srt : Srt S
  ids : Ids S
  mh : mb ≠ hb
  rh : rg ≠ some hb
  rm : rg ≠ some mb
  len : (S.length : Int) ≤ most
  m1 : 1 ≤ most
  m2 : most ≤ 65536
/-- What a call makes of a heap. -/
def HPost (w w' : World) (hb mb : Nat) (rg : Option Nat) (S' : List Tmr) (most : Int) : Prop := ∃ rg', HA w' hb mb rg' S' most ∧ Chg (fun q => q = hb ∨ q = mb ∨ rg = some q) w w' ∧ (rg' = rg ∨ ∃ g, rg' = some g ∧ w.heap.size ≤ g)
def putE (S : List Tmr) (most : Int) (t : Tmr) : Int := if (fnd t.id S).isSome = true then 40 else if most ≤ S.length then 5 else 0
def putS (S : List Tmr) (most : Int) (t : Tmr) : List Tmr := if putE S most t = 0 then ins t S else S
theorem HA.ext {w w' : World} {hb mb : Nat} {rg : Option Nat} {S : List Tmr} {most : Int} (h : HA w hb mb rg S most) (x : Ext w w') : HA w' hb mb rg S most := by
  obtain ⟨⟨ms, cap, l, M, q, q2⟩, a1, a2, a3, a4, a5, a6, a7, a8⟩ := h
  exact ⟨⟨ms, cap, l, M, ⟨at_ext q.box (by simp) x, own_ext q.row x, q.map.ext x, q.fits, q.keys⟩, q2⟩, a1, a2, a3, a4, a5, a6, a7, a8⟩
theorem HPost.same {w w' : World} {hb mb : Nat} {rg : Option Nat} {S : List Tmr} {most : Int} (h : HA w hb mb rg S most) (x : Ext w w') : HPost w w' hb mb rg S most := ⟨rg, h.ext x, Chg.ofExt x, .inl rfl⟩
set_option maxRecDepth 100000 in
set_option maxHeartbeats 8000000 in
theorem put_calls (t : Tmr) (hb mb : Nat) (rg : Option Nat) (S : List Tmr) (most : Int) (w : World) (ha : HA w hb mb rg S most) :
    Calls Try.prog 22 #[.pointer (some ⟨hb, 0, none⟩), .agg #[.int .i64 t.due, .int .i64 t.id]] w fun e w' => e = .returned (.int .i64 (putE S most t)) ∧ HPost w w' hb mb rg (putS S most t) most := by
  have HAA := Lib.hid ha
  obtain ⟨⟨ms, cap, l, M, hv, hp, hpm, hrg⟩, hsrt, hids, hd2, hrh, hrm, hlen, hm1, hm2⟩ := ha
  have hll := hpm.length_eq
  have hln : l.length ≤ 65536 := by omega
  have hcap : l.length ≤ cap := (cap_of_own (n := 2) hv.row).1
  have HIL := Lib.hid (hids.perm hpm.symm)
  have HFN := Lib.hid (hv.fits.none (d := t.id))
  have HFD := Lib.hid (fnd_perm (i := t.id) HIL.out hpm)
  have HV := Lib.hid hv; have HP := Lib.hid hp; have HPM := Lib.hid hpm; have HRG := Lib.hid hrg; have HRH := Lib.hid hrh; have HRM := Lib.hid hrm
  have HSR := Lib.hid hsrt; have HIS := Lib.hid hids
  have hb0 : hb < w.heap.size := at_lt hv.box (by simp)
  have hm0 : mb < w.heap.size := hv.map.lt
  have HR0 := Lib.hid (show ∀ q, rg = some q → q < w.heap.size from fun q e => (hv.row.lt q (by rw [hrg]; exact e)).2)
  have HLL := Lib.hid hll
  clear hv hp hpm hrg hrh hrm hids hsrt hll
  go_enter Try.func22, Try.ntmps22
  go_upto_region 1 with fail
  refine wp_at ?_
  intro W0 hW
  have x0 : Ext w W0 := by rw [hW]; repeat (first | exact ext_refl _ | assumption | refine ext_more' ?_ _ _ | refine ext_drew ?_ | refine ext_drewN ?_ _ | refine ext_alloc ?_ _)
  have hbt := at_new (by rw [hW]; repeat (first | exact ext_refl _ | assumption | refine ext_more' ?_ _ _ | refine ext_drew ?_ | refine ext_drewN ?_ _ | refine ext_alloc ?_ _) : Ext (World.alloc w (.cells _ _)) W0)
  clear hW
  have hbh := at_ext HV.out.box (by simp) x0
  have lb := at_lt hbh (by simp)
  have HBH0 := Lib.hid hbh
  go_upto_region 3 with (go_at_call 33; refine (made_calls hb mb _ (at_lt (at_ext HBH0.out (by simp) (by repeat (first | exact ext_refl _ | assumption | refine ext_more' ?_ _ _ | refine ext_drew ?_ | refine ext_drewN ?_ _ | refine ext_alloc ?_ _))) (by simp)) (by rw [(at_ext HBH0.out (by simp) (by repeat (first | exact ext_refl _ | assumption | refine ext_more' ?_ _ _ | refine ext_drew ?_ | refine ext_drewN ?_ _ | refine ext_alloc ?_ _))).1]; rfl)).mono ?_; rintro e w1 ⟨rfl, hx⟩; obtain ⟨r, d, rfl⟩ := ext_form hx; clear hx)
  refine wp_at ?_
  intro W1 hW
  have x1 : Ext W0 W1 := by rw [hW]; repeat (first | exact ext_refl _ | assumption | refine ext_more' ?_ _ _ | refine ext_drew ?_ | refine ext_drewN ?_ _ | refine ext_alloc ?_ _)
  clear hW hbh lb HBH0
  have hbt := at_ext hbt (by simp) x1
  have hx1 := ext_trans x0 x1
  have hbh := at_ext HV.out.box (by simp) hx1
  have HLK := Lib.hid (fun w' (hx : Ext W1 w') => (run_mlook (P := Try.prog) Try.underlying49 Try.underlying3 (HV.out.map.ext (ext_trans hx1 hx)).mp t.id (int0z7 w')).2)
  clear x0 x1
  refine wp_region_held_drew (S := fun w' => Ext W1 w') (by kernel_rfl) (ext_drew (ext_refl _)) (fun hHeld => ?_)
  refine wpAnyH_take' (i := 0) (v := ?v0_654) (some 11) rfl rfl (by kernel_rfl) (by kernel_rfl) (by kernel_rfl) (fun _ _ _ h => h) (Or.inl ⟨by kernel_rfl, ?y0_654⟩) (hHeld) ?_
  case y0_654 =>
    intro w' hSw
    go_simp
    try with_reducible rfl
  refine wpAnyH_take' (i := 1) (v := ?v1_655) (some 12) rfl rfl (by kernel_rfl) (by kernel_rfl) (by kernel_rfl) (fun _ _ _ h => h) (Or.inl ⟨by kernel_rfl, ?y1_655⟩) (hHeld) ?_
  case y1_655 =>
    intro w' hSw
    go_simp
    try with_reducible rfl
  refine wpAnyH_take' (i := 2) (v := ?v2_656) (some 13) rfl rfl (by kernel_rfl) (by kernel_rfl) (by kernel_rfl) (fun _ _ _ h => h) (Or.inl ⟨by kernel_rfl, ?y2_656⟩) (hHeld) ?_
  case y2_656 =>
    intro w' hSw
    go_simp
    try with_reducible rfl
  refine wpAnyH_take' (i := 3) (v := ?v3_657) (some 14) rfl rfl (by kernel_rfl) (by kernel_rfl) (by kernel_rfl) (fun _ _ _ h => h) (Or.inl ⟨by kernel_rfl, ?y3_657⟩) (hHeld) ?_
  case y3_657 =>
    intro w' hSw
    have kh' := (at_ext hbh (by simp) hSw).1; go_simp
    try with_reducible rfl
  refine wpAnyH_take' (i := 4) (v := ?v4_658) (some 15) rfl rfl (by kernel_rfl) (by kernel_rfl) (by kernel_rfl) (fun _ _ _ h => h) (Or.inl ⟨by kernel_rfl, ?y4_658⟩) (hHeld) ?_
  case y4_658 =>
    intro w' hSw
    go_simp
    try with_reducible rfl
  refine wpAnyH_take' (i := 5) (v := ?v5_659) (some 16) rfl rfl (by kernel_rfl) (by kernel_rfl) (by kernel_rfl) (fun _ _ _ h => h) (Or.inl ⟨by kernel_rfl, ?y5_659⟩) (hHeld) ?_
  case y5_659 =>
    intro w' hSw
    have kt' := (at_ext hbt (by simp) hSw).1; go_simp
    try with_reducible rfl
  refine wpAnyH_take' (i := 6) (v := ?v6_660) (some 17) rfl rfl (by kernel_rfl) (by kernel_rfl) (by kernel_rfl) (fun _ _ _ h => h) (Or.inl ⟨by kernel_rfl, ?y6_660⟩) (hHeld) ?_
  case y6_660 =>
    intro w' hSw
    have hlk' := HLK.out w' hSw; go_simp
    try with_reducible rfl
  refine wpAnyH_take' (i := 7) (v := ?v7_661) (some 10) rfl rfl (by kernel_rfl) (by kernel_rfl) (by kernel_rfl) (fun _ _ _ h => h) (Or.inl ⟨by kernel_rfl, ?y7_661⟩) (hHeld) ?_
  case y7_661 =>
    intro w' hSw
    go_simp
    try with_reducible rfl
  refine wpAnyH_take' (i := 8) (v := ?v8_662) (some 18) rfl rfl (by kernel_rfl) (by kernel_rfl) (by kernel_rfl) (fun _ _ _ h => h) (Or.inl ⟨by kernel_rfl, ?y8_662⟩) (hHeld) ?_
  case y8_662 =>
    intro w' hSw
    go_simp
    try with_reducible rfl
  refine wpAnyH_take' (i := 9) (v := ?v9_663) (some 19) rfl rfl (by kernel_rfl) (by kernel_rfl) (by kernel_rfl) (fun _ _ _ h => h) (Or.inl ⟨by kernel_rfl, ?y9_663⟩) (hHeld) ?_
  case y9_663 =>
    intro w' hSw
    go_simp
    try with_reducible rfl
  refine wpAnyH_take' (i := 10) (v := ?v10_664) (some 5) rfl rfl (by kernel_rfl) (by kernel_rfl) (by kernel_rfl) (fun _ _ _ h => h) (Or.inl ⟨by kernel_rfl, ?y10_664⟩) (hHeld) ?_
  case y10_664 =>
    intro w' hSw
    go_simp
    try with_reducible rfl
  refine wpAnyH_take' (i := 11) (v := ?v11_665) (some 6) rfl rfl (by kernel_rfl) (by kernel_rfl) (by kernel_rfl) (fun _ _ _ h => h) (Or.inl ⟨by kernel_rfl, ?y11_665⟩) (hHeld) ?_
  case y11_665 =>
    intro w' hSw
    go_simp
    try with_reducible rfl
  refine wpAnyH_done (by kernel_rfl) ?_ _
  go_simp
  go_upto_region 4 with fail
  refine wp_at ?_
  intro W2 hW
  have x2 : Ext W1 W2 := by rw [hW]; repeat (first | exact ext_refl _ | assumption | refine ext_more' ?_ _ _ | refine ext_drew ?_ | refine ext_drewN ?_ _ | refine ext_alloc ?_ _)
  clear hW hHeld
  have hbt := at_ext hbt (by simp) x2
  have hbh := at_ext hbh (by simp) x2
  have hx2 := ext_trans hx1 x2
  clear hx1 x2 HLK
  cases hmk : mlook t.id M
  rotate_left
  · have he : putE S most t = 40 := by
      unfold putE
      rw [if_pos]
      rw [← HFD.out]
      cases hq : fnd t.id l with
      | none => rw [HFN.out.2 hq] at hmk; cases hmk
      | some z => rfl
    have HE := Lib.hid he
    have HS := Lib.hid (show putS S most t = S by unfold putS; rw [he]; rfl)
    clear he
    go_wp2
    go_ret
    exact ⟨by rw [HE.out]; rfl, by rw [HS.out]; exact HPost.same HAA.out (by have := hx2; repeat (first | exact ext_refl _ | assumption | refine ext_more' ?_ _ _ | refine ext_drew ?_ | refine ext_drewN ?_ _ | refine ext_alloc ?_ _))⟩
  have hf0 : fnd t.id S = none := by rw [← HFD.out]; exact HFN.out.1 hmk
  have HF0 := Lib.hid hf0
  clear hmk hf0
  go_upto_region 6 with fail
  refine wp_at ?_
  intro W3 hW
  have x3 : Ext W2 W3 := by rw [hW]; repeat (first | exact ext_refl _ | assumption | refine ext_more' ?_ _ _ | refine ext_drew ?_ | refine ext_drewN ?_ _ | refine ext_alloc ?_ _)
  clear hW
  have hbt := at_ext hbt (by simp) x3
  have hbh := at_ext hbh (by simp) x3
  have hx3 := ext_trans hx2 x3
  clear hx2 x3
  by_cases hfull : most ≤ (l.length : Int)
  · have he : putE S most t = 5 := by
      unfold putE
      rw [HF0.out, if_neg (by simp), if_pos (by have := HLL.out; omega)]
    have HE := Lib.hid he
    have HS := Lib.hid (show putS S most t = S by unfold putS; rw [he]; rfl)
    clear he
    refine wp_region_held_drew (S := fun w' => Ext W3 w') (by kernel_rfl) (ext_drew (ext_refl _)) (fun hHeld => ?_)
    refine wpAnyH_take' (i := 0) (v := ?v0_678) (some 21) rfl rfl (by kernel_rfl) (by kernel_rfl) (by kernel_rfl) (fun _ _ _ h => h) (Or.inl ⟨by kernel_rfl, ?y0_678⟩) (hHeld) ?_
    case y0_678 =>
      intro w' hSw
      go_simp
      try with_reducible rfl
    refine wpAnyH_take' (i := 1) (v := ?v1_679) (some 22) rfl rfl (by kernel_rfl) (by kernel_rfl) (by kernel_rfl) (fun _ _ _ h => h) (Or.inl ⟨by kernel_rfl, ?y1_679⟩) (hHeld) ?_
    case y1_679 =>
      intro w' hSw
      go_simp
      try with_reducible rfl
    refine wpAnyH_take' (i := 2) (v := ?v2_680) (some 23) rfl rfl (by kernel_rfl) (by kernel_rfl) (by kernel_rfl) (fun _ _ _ h => h) (Or.inl ⟨by kernel_rfl, ?y2_680⟩) (hHeld) ?_
    case y2_680 =>
      intro w' hSw
      go_simp
      try with_reducible rfl
    refine wpAnyH_take' (i := 3) (v := ?v3_681) (some 24) rfl rfl (by kernel_rfl) (by kernel_rfl) (by kernel_rfl) (fun _ _ _ h => h) (Or.inl ⟨by kernel_rfl, ?y3_681⟩) (hHeld) ?_
    case y3_681 =>
      intro w' hSw
      have kh' := (at_ext hbh (by simp) hSw).1; go_simp
      try with_reducible rfl
    refine wpAnyH_take' (i := 4) (v := ?v4_682) (some 25) rfl rfl (by kernel_rfl) (by kernel_rfl) (by kernel_rfl) (fun _ _ _ h => h) (Or.inl ⟨by kernel_rfl, ?y4_682⟩) (hHeld) ?_
    case y4_682 =>
      intro w' hSw
      go_simp
      try with_reducible rfl
    refine wpAnyH_take' (i := 5) (v := ?v5_683) (some 26) rfl rfl (by kernel_rfl) (by kernel_rfl) (by kernel_rfl) (fun _ _ _ h => h) (Or.inl ⟨by kernel_rfl, ?y5_683⟩) (hHeld) ?_
    case y5_683 =>
      intro w' hSw
      go_simp
      try with_reducible rfl
    refine wpAnyH_take' (i := 6) (v := ?v6_684) (some 27) rfl rfl (by kernel_rfl) (by kernel_rfl) (by kernel_rfl) (fun _ _ _ h => h) (Or.inl ⟨by kernel_rfl, ?y6_684⟩) (hHeld) ?_
    case y6_684 =>
      intro w' hSw
      go_simp
      try with_reducible rfl
    refine wpAnyH_take' (i := 7) (v := ?v7_685) (some 28) rfl rfl (by kernel_rfl) (by kernel_rfl) (by kernel_rfl) (fun _ _ _ h => h) (Or.inl ⟨by kernel_rfl, ?y7_685⟩) (hHeld) ?_
    case y7_685 =>
      intro w' hSw
      go_simp
      try with_reducible rfl
    refine wpAnyH_take' (i := 8) (v := ?v8_686) (some 29) rfl rfl (by kernel_rfl) (by kernel_rfl) (by kernel_rfl) (fun _ _ _ h => h) (Or.inl ⟨by kernel_rfl, ?y8_686⟩) (hHeld) ?_
    case y8_686 =>
      intro w' hSw
      have kh' := (at_ext hbh (by simp) hSw).1; go_simp
      try with_reducible rfl
    refine wpAnyH_take' (i := 9) (v := ?v9_687) (some 30) rfl rfl (by kernel_rfl) (by kernel_rfl) (by kernel_rfl) (fun _ _ _ h => h) (Or.inl ⟨by kernel_rfl, ?y9_687⟩) (hHeld) ?_
    case y9_687 =>
      intro w' hSw
      go_simp
      try with_reducible rfl
    refine wpAnyH_done (by kernel_rfl) ?_ _
    go_simp
    go_upto_region 7 with fail
    refine wp_at ?_
    intro W4 hW
    have x4 : Ext W3 W4 := by rw [hW]; repeat (first | exact ext_refl _ | assumption | refine ext_more' ?_ _ _ | refine ext_drew ?_ | refine ext_drewN ?_ _ | refine ext_alloc ?_ _)
    clear hW hHeld
    have hx4 := ext_trans hx3 x4
    go_wp2
    go_ret
    exact ⟨by rw [HE.out]; rfl, by rw [HS.out]; exact HPost.same HAA.out (by have := hx4; repeat (first | exact ext_refl _ | assumption | refine ext_more' ?_ _ _ | refine ext_drew ?_ | refine ext_drewN ?_ _ | refine ext_alloc ?_ _))⟩
  have he : putE S most t = 0 := by
    unfold putE
    rw [HF0.out, if_neg (by simp), if_neg (by have := HLL.out; omega)]
  have HE := Lib.hid he
  have HS := Lib.hid (show putS S most t = ins t S by unfold putS; rw [he]; rfl)
  clear he
  refine wp_region_held_drew (S := fun w' => Ext W3 w') (by kernel_rfl) (ext_drew (ext_refl _)) (fun hHeld => ?_)
  refine wpAnyH_take' (i := 0) (v := ?v0_688) (some 21) rfl rfl (by kernel_rfl) (by kernel_rfl) (by kernel_rfl) (fun _ _ _ h => h) (Or.inl ⟨by kernel_rfl, ?y0_688⟩) (hHeld) ?_
  case y0_688 =>
    intro w' hSw
    go_simp
    try with_reducible rfl
  refine wpAnyH_take' (i := 1) (v := ?v1_689) (some 22) rfl rfl (by kernel_rfl) (by kernel_rfl) (by kernel_rfl) (fun _ _ _ h => h) (Or.inl ⟨by kernel_rfl, ?y1_689⟩) (hHeld) ?_
  case y1_689 =>
    intro w' hSw
    go_simp
    try with_reducible rfl
  refine wpAnyH_take' (i := 2) (v := ?v2_690) (some 23) rfl rfl (by kernel_rfl) (by kernel_rfl) (by kernel_rfl) (fun _ _ _ h => h) (Or.inl ⟨by kernel_rfl, ?y2_690⟩) (hHeld) ?_
  case y2_690 =>
    intro w' hSw
    go_simp
    try with_reducible rfl
  refine wpAnyH_take' (i := 3) (v := ?v3_691) (some 24) rfl rfl (by kernel_rfl) (by kernel_rfl) (by kernel_rfl) (fun _ _ _ h => h) (Or.inl ⟨by kernel_rfl, ?y3_691⟩) (hHeld) ?_
  case y3_691 =>
    intro w' hSw
    have kh' := (at_ext hbh (by simp) hSw).1; go_simp
    try with_reducible rfl
  refine wpAnyH_take' (i := 4) (v := ?v4_692) (some 25) rfl rfl (by kernel_rfl) (by kernel_rfl) (by kernel_rfl) (fun _ _ _ h => h) (Or.inl ⟨by kernel_rfl, ?y4_692⟩) (hHeld) ?_
  case y4_692 =>
    intro w' hSw
    go_simp
    try with_reducible rfl
  refine wpAnyH_take' (i := 5) (v := ?v5_693) (some 26) rfl rfl (by kernel_rfl) (by kernel_rfl) (by kernel_rfl) (fun _ _ _ h => h) (Or.inl ⟨by kernel_rfl, ?y5_693⟩) (hHeld) ?_
  case y5_693 =>
    intro w' hSw
    go_simp
    try with_reducible rfl
  refine wpAnyH_take' (i := 6) (v := ?v6_694) (some 27) rfl rfl (by kernel_rfl) (by kernel_rfl) (by kernel_rfl) (fun _ _ _ h => h) (Or.inl ⟨by kernel_rfl, ?y6_694⟩) (hHeld) ?_
  case y6_694 =>
    intro w' hSw
    go_simp
    try with_reducible rfl
  refine wpAnyH_take' (i := 7) (v := ?v7_695) (some 28) rfl rfl (by kernel_rfl) (by kernel_rfl) (by kernel_rfl) (fun _ _ _ h => h) (Or.inl ⟨by kernel_rfl, ?y7_695⟩) (hHeld) ?_
  case y7_695 =>
    intro w' hSw
    go_simp
    try with_reducible rfl
  refine wpAnyH_take' (i := 8) (v := ?v8_696) (some 29) rfl rfl (by kernel_rfl) (by kernel_rfl) (by kernel_rfl) (fun _ _ _ h => h) (Or.inl ⟨by kernel_rfl, ?y8_696⟩) (hHeld) ?_
  case y8_696 =>
    intro w' hSw
    have kh' := (at_ext hbh (by simp) hSw).1; go_simp
    try with_reducible rfl
  refine wpAnyH_take' (i := 9) (v := ?v9_697) (some 30) rfl rfl (by kernel_rfl) (by kernel_rfl) (by kernel_rfl) (fun _ _ _ h => h) (Or.inl ⟨by kernel_rfl, ?y9_697⟩) (hHeld) ?_
  case y9_697 =>
    intro w' hSw
    go_simp
    try with_reducible rfl
  refine wpAnyH_done (by kernel_rfl) ?_ _
  go_simp
  go_upto_region 8 with fail
  refine wp_at ?_
  intro W6 hW
  have x6 : Ext W3 W6 := by rw [hW]; repeat (first | exact ext_refl _ | assumption | refine ext_more' ?_ _ _ | refine ext_drew ?_ | refine ext_drewN ?_ _ | refine ext_alloc ?_ _)
  clear hW hHeld
  have hbt := at_ext hbt (by simp) x6
  have hbh := at_ext hbh (by simp) x6
  have hx6 := ext_trans hx3 x6
  clear hx3 x6
  have hor := own_ext HV.out.row hx6
  have hz6 := hx6.size
  have hnt : ¬ (w.heap.size = hb ∨ rg = some w.heap.size) := by
    rintro (h | h)
    · omega
    · have := HR0.out _ h; omega
  have hnm : ¬ (mb = hb ∨ rg = some mb) := by
    rintro (h | h)
    · exact hd2 h
    · exact HRM.out h
  obtain ⟨ik, hik, hka, hkb, hkc⟩ := info_parts tmr_info
  have MK63 := Lib.hid (show l.length + 1 ≤ maxLen by unfold maxLen; omega)
  have MK47 := Lib.hid (show (l.length + 1) * 16 ≤ 140737488355328 by omega)
  refine wp_region_held_drew (S := fun w' => Chg (fun q => q = hb ∨ rg = some q) W6 w') (by kernel_rfl) (Chg.drew (Chg.refl _ _)) (fun hHeld => ?_)
  refine wpAnyH_take' (i := 0) (v := ?ev0) (some 31) rfl rfl (by kernel_rfl) (by kernel_rfl) (by kernel_rfl) (fun _ _ _ h => h) (Or.inl ⟨by rfl, ?ey0⟩) hHeld ?_
  case ey0 =>
    intro w' hSw
    go_simp
    try with_reducible rfl
  refine wpAnyH_take' (i := 1) (v := ?ev1) (some 32) rfl rfl (by kernel_rfl) (by kernel_rfl) (by kernel_rfl) (fun _ _ _ h => h) (Or.inl ⟨by rfl, ?ey1⟩) hHeld ?_
  case ey1 =>
    intro w' hSw
    go_simp
    try with_reducible rfl
  refine wpAnyH_take' (i := 2) (v := ?ev2) (some 33) rfl rfl (by kernel_rfl) (by kernel_rfl) (by kernel_rfl) (fun _ _ _ h => h) (Or.inl ⟨by rfl, ?ey2⟩) hHeld ?_
  case ey2 =>
    intro w' hSw
    go_simp
    try with_reducible rfl
  refine wpAnyH_take' (i := 3) (v := ?ev3) (some 34) rfl rfl (by kernel_rfl) (by kernel_rfl) (by kernel_rfl) (fun _ _ _ h => h) (Or.inl ⟨by rfl, ?ey3⟩) hHeld ?_
  case ey3 =>
    intro w' hSw
    go_simp
    try with_reducible rfl
  refine wpAnyH_take' (i := 5) (v := ?ev5) (some 36) rfl rfl (by kernel_rfl) (by kernel_rfl) (by kernel_rfl) (fun _ _ _ h => h) (Or.inl ⟨by rfl, ?ey5⟩) hHeld ?_
  case ey5 =>
    intro w' hSw
    have kt' := (at_chg hbt (by simp) hSw hnt).1
    have lt' := at_lt (at_chg hbt (by simp) hSw hnt) (by simp)
    go_simp
    try with_reducible rfl
  refine wpAnyH_at 11 (fun a0 W0 L' a' w' => ∃ u35 u37 u38 u39 u40 : Value, a' = frm [(35, u35), (37, u37), (38, u38), (39, u39), (40, u40)] a0 ∧ Chg (fun q => q = hb ∨ rg = some q) W6 w' ∧ At w' hb #[(bif L' 10 then u38 else .slice ms l.length cap), .map (some mb), .int .i64 most] ∧ Bef (L' 7) (w'.ownsRow 0 29 2 (.slice ms l.length cap) l.length (l.flatMap tmrC)) ∧ Aft (L' 4) (u35 = .slice ms l.length cap) ∧ Aft (L' 6) (Bef (L' 7) (∃ bn, u37 = .slice (some ⟨bn, 0, none⟩) 1 1 ∧ Rds w' (some ⟨bn, 0, none⟩) 1 2 (tmrC t))) ∧ Aft (L' 7) (∃ g cap', u38 = .slice (some ⟨g, 0, none⟩) (l.length + 1) cap' ∧ w'.ownsRow 0 29 2 (.slice (some ⟨g, 0, none⟩) (l.length + 1) cap') (l.length + 1) ((l ++ [t]).flatMap tmrC) ∧ (rg = some g ∨ W6.heap.size ≤ g)) ∧ Aft (L' 8) (u39 = .pointer (some ⟨hb, 0, none⟩)) ∧ Aft (L' 9) (u40 = .pointer (some ⟨hb, 0, none⟩))) [4, 6, 7, 8, 9, 10] [0, 1, 2, 3, 4, 5, 6, 7, 8, 9, 10] (by kernel_rfl) (by kernel_rfl) (by kernel_rfl) (fun _ _ _ h => by obtain ⟨_, _, _, _, _, _, hCg, _⟩ := h; exact hCg) ?ei0 ?est ?een
  case ei0 => exact ⟨_, _, _, _, _, (frm_rd [35, 37, 38, 39, 40] _).symm, (Chg.drew (Chg.refl _ _)), (show At _ _ _ from at_drewI hbh), (Bef.new (own_chgS hor (Chg.drew (Chg.refl (fun _ => False) _)) (fun _ _ h => h))), (Aft.no (by kernel_rfl)), (Aft.no (by kernel_rfl)), (Aft.no (by kernel_rfl)), (Aft.no (by kernel_rfl)), (Aft.no (by kernel_rfl))⟩
  case est =>
    refine StepsI.cons [] [7, 8, 9, 10] 11 rfl (by kernel_rfl) (by kernel_rfl) ?es4 ?_
    case es4 =>
      rintro L' a' w' K' hi hp hn ⟨u35, u37, u38, u39, u40, rfl, hCg, hB, hO, h4, h6, h7, h8, h9⟩ hK
      have hB0 := hB
      have n10 := hn 10 (by simp)
      simp only [n10, cond_false] at hB0
      have kb := hB0.1
      have lb := at_lt hB0 (by simp)
      refine Stp.mk ?_
      rw [if_pos (by rfl)]
      go_simp
      exact hK.out _ _ ⟨(.slice ms l.length cap), u37, u38, u39, u40, by kernel_rfl, hCg, hB, hO, (Aft.new rfl), h6, h7, h8, h9⟩
    refine StepsI.cons [] [7, 8, 9, 10] 11 rfl (by kernel_rfl) (by kernel_rfl) ?es6 ?_
    case es6 =>
      rintro L' a' w' K' hi hp hn ⟨u35, u37, u38, u39, u40, rfl, hCg, hB, hO, h4, h6, h7, h8, h9⟩ hK
      have hB0 := hB
      have n10 := hn 10 (by simp)
      simp only [n10, cond_false] at hB0
      refine Stp.mk ?_
      rw [if_pos (by rfl)]
      go_simp
      exact hK.out _ _ ⟨u35, (.slice (some ⟨w'.heap.size, 0, none⟩) 1 1), u38, u39, u40, by kernel_rfl, (hCg.trans (Chg.ofExt (ext_alloc (ext_refl _) _))), (by simp only [show upd L' 6 10 = false from n10, cond_false]; exact at_ext hB0 (by simp) (ext_alloc (ext_refl _) _)), (hO.map fun h => own_ext h (ext_alloc (ext_refl _) _)), h4, (Aft.new (Bef.new ⟨_, rfl, rds_newV (X := w') (ext_refl _) rfl⟩)), (Aft.no (hn 7 (by simp))), h8, h9⟩
    refine StepsI.cons [4, 6] [8, 9, 10] 11 rfl (by kernel_rfl) (by kernel_rfl) ?es7 ?_
    case es7 =>
      rintro L' a' w' K' hi hp hn ⟨u35, u37, u38, u39, u40, rfl, hCg, hB, hO, h4, h6, h7, h8, h9⟩ hK
      have hB0 := hB
      have n10 := hn 10 (by simp)
      simp only [n10, cond_false] at hB0
      have e1 := h4.get (hp 4 (by simp))
      obtain ⟨bn, e2, hr2⟩ := (h6.get (hp 6 (by simp))).get hi
      have ho := hO.get hi
      refine Stp.mk ?_
      refine step_app3 (by rfl) (.tmp 35) (.tmp 37) 22 (by rfl) 0 29 ik _ 2 16 Try.underlying22 hik hka hkb hkc rfl (by decide) (.slice ms l.length cap) l.length (l.flatMap tmrC) u35 (by kernel_rfl) e1 ho (some ⟨bn, 0, none⟩) 1 1 (tmrC t) u37 (by kernel_rfl) e2 hr2 (oneCell_tmr _) MK63.out MK47.out (Nat.zero_le _) ?_
      intro v4 w4 hown4 hg4 hbk4
      obtain ⟨g4, cap4, rfl⟩ := own_slice1 hown4
      have hfl : (l ++ [t]).flatMap tmrC = l.flatMap tmrC ++ tmrC t := by simp
      have hz6 := hCg.size
      have hnr : (Value.slice ms l.length cap).ownBlock ≠ some hb := by rw [HRG.out]; exact HRH.out
      have hgx : Chg (fun q => q = hb ∨ rg = some q) w' w4 := ⟨hg4.os, hg4.tape, hg4.output, hg4.size, fun k hk hs => hg4.block k hk (fun e => hs (.inr (by rw [← HRG.out]; exact e.symm)))⟩
      exact hK.out _ _ ⟨u35, u37, (.slice (some ⟨g4, 0, none⟩) (l.length + 1) cap4), u39, u40, by kernel_rfl, (hCg.trans hgx), (by simp only [show upd L' 7 10 = false from n10, cond_false]; exact grown_at hg4 hB0 (by simp) hnr), (Bef.no rfl), h4, (Aft.new (Bef.no rfl)), (Aft.new ⟨g4, cap4, rfl, by rw [hfl]; exact hown4, by rcases hbk4 with h | h; (left; rw [← HRG.out, ← h]; rfl); (right; simp only [Value.ownBlock, Option.some.injEq] at h; omega)⟩), h8, h9⟩
    refine StepsI.cons [4, 6, 7] [9, 10] 11 rfl (by kernel_rfl) (by kernel_rfl) ?es8 ?_
    case es8 =>
      rintro L' a' w' K' hi hp hn ⟨u35, u37, u38, u39, u40, rfl, hCg, hB, hO, h4, h6, h7, h8, h9⟩ hK
      refine Stp.mk ?_
      rw [if_pos (by rfl)]
      go_simp
      exact hK.out _ _ ⟨u35, u37, u38, (.pointer (some ⟨hb, 0, none⟩)), u40, by kernel_rfl, hCg, hB, hO, h4, h6, h7, (Aft.new rfl), h9⟩
    refine StepsI.cons [4, 6, 7, 8] [10] 11 rfl (by kernel_rfl) (by kernel_rfl) ?es9 ?_
    case es9 =>
      rintro L' a' w' K' hi hp hn ⟨u35, u37, u38, u39, u40, rfl, hCg, hB, hO, h4, h6, h7, h8, h9⟩ hK
      have e8 := h8.get (hp 8 (by simp))
      refine Stp.mk ?_
      rw [if_pos (by rfl)]
      go_simp
      exact hK.out _ _ ⟨u35, u37, u38, (.pointer (some ⟨hb, 0, none⟩)), (.pointer (some ⟨hb, 0, none⟩)), by kernel_rfl, hCg, hB, hO, h4, h6, h7, (Aft.new rfl), (Aft.new rfl)⟩
    refine StepsI.cons [4, 6, 7, 8, 9] [] 11 rfl (by kernel_rfl) (by kernel_rfl) ?es10 ?_
    case es10 =>
      rintro L' a' w' K' hi hp hn ⟨u35, u37, u38, u39, u40, rfl, hCg, hB, hO, h4, h6, h7, h8, h9⟩ hK
      have hB0 := hB
      simp only [hi, cond_false] at hB0
      have e9 := h9.get (hp 9 (by simp))
      obtain ⟨g4, cap4, e7, ho4, hgg⟩ := h7.get (hp 7 (by simp))
      have kb := hB0.1
      have fb := hB0.2
      have lb := at_lt hB0 (by simp)
      have hgb : g4 ≠ hb := by rcases hgg with h | h; (intro e; exact HRH.out (by rw [h, e])); omega
      refine Stp.mk ?_
      rw [if_pos (by rfl)]
      go_simp
      exact hK.out _ _ ⟨u35, u37, (.slice (some ⟨g4, 0, none⟩) (l.length + 1) cap4), u39, (.pointer (some ⟨hb, 0, none⟩)), by kernel_rfl, (hCg.setCell (.inr (.inl rfl)) _), (at_put hB0 (by simp) rfl), (Bef.no (hp 7 (by simp))), h4, (Aft.new (Bef.no (hp 7 (by simp)))), (Aft.new ⟨g4, cap4, rfl, own_chgS ho4 (chg_put (b := hb) (Chg.refl _ _)) (fun q e (hq : q = hb) => by simp only [Value.ownBlock, Option.some.injEq] at e; omega), hgg⟩), h8, (Aft.new rfl)⟩
    exact StepsI.nil
  rintro L' a' W7 hL ⟨u35, u37, u38, u39, u40, rfl, hCg, hB, hO, h4, h6, h7, h8, h9⟩
  have l10 := hL 10 (by decide)
  simp only [l10, cond_true] at hB
  obtain ⟨g, cap', e7, ho7, hgg⟩ := h7.get (hL 7 (by decide))
  subst e7
  have hbt := at_chg hbt (by simp) hCg hnt
  have hmr := (HV.out.map.ext hx6).chg hCg hnm
  have hcA : Chg (fun q => q = hb ∨ q = mb ∨ rg = some q) w W7 := (Chg.ofExt hx6).trans (hCg.mono fun _ _ h => h.elim .inl fun h => .inr (.inr h))
  have hg1 : g ≠ hb := by
    rcases hgg with h | h
    · intro e; exact HRH.out (by rw [h, e])
    · omega
  have hg2 : g ≠ mb := by
    rcases hgg with h | h
    · intro e; exact HRM.out (by rw [h, e])
    · omega
  have hgn : rg = some g ∨ w.heap.size ≤ g := hgg.imp id fun h => by omega
  have HGN := Lib.hid hgn
  have hbh := hB
  have hor := ho7
  clear hB hCg hO h4 h6 h7 h8 h9 l10 hL hHeld ho7 hgg hgn
  simp only [frm_cons, frm_nil]
  have hla : (l ++ [t]).length = l.length + 1 := by simp
  have HLA := Lib.hid hla
  clear hla hx6 hnt hnm
  go_upto_region 9 with fail
  refine wp_at ?_
  intro W8 hW
  obtain rfl : W7 = W8 := hW.symm
  have hwl : IntKind.i64.wrap (l.length : Int) = (l.length : Int) := IntWalk.i64_in _ (by omega)
  refine wp_region_held_drew (S := fun w' => Chg (fun q => q = mb) W7 w') (by kernel_rfl) (Chg.drew (Chg.refl _ _)) (fun hHeld => ?_)
  refine wpAnyH_take' (i := 0) (v := ?v0_666) (some 41) rfl rfl (by kernel_rfl) (by kernel_rfl) (by kernel_rfl) (fun _ _ _ h => h) (Or.inl ⟨by kernel_rfl, ?y0_666⟩) (hHeld) ?_
  case y0_666 =>
    intro w' hSw
    go_simp
    try with_reducible rfl
  refine wpAnyH_take' (i := 1) (v := ?v1_667) (some 42) rfl rfl (by kernel_rfl) (by kernel_rfl) (by kernel_rfl) (fun _ _ _ h => h) (Or.inl ⟨by kernel_rfl, ?y1_667⟩) (hHeld) ?_
  case y1_667 =>
    intro w' hSw
    go_simp
    try with_reducible rfl
  refine wpAnyH_take' (i := 2) (v := ?v2_668) (some 43) rfl rfl (by kernel_rfl) (by kernel_rfl) (by kernel_rfl) (fun _ _ _ h => h) (Or.inl ⟨by kernel_rfl, ?y2_668⟩) (hHeld) ?_
  case y2_668 =>
    intro w' hSw
    go_simp
    try with_reducible rfl
  refine wpAnyH_take' (i := 3) (v := ?v3_669) (some 44) rfl rfl (by kernel_rfl) (by kernel_rfl) (by kernel_rfl) (fun _ _ _ h => h) (Or.inl ⟨by kernel_rfl, ?y3_669⟩) (hHeld) ?_
  case y3_669 =>
    intro w' hSw
    have kh' := (at_chg hbh (by simp) hSw (show ¬ (hb = mb) by omega)).1; go_simp
    try with_reducible rfl
  refine wpAnyH_take' (i := 4) (v := ?v4_670) (some 45) rfl rfl (by kernel_rfl) (by kernel_rfl) (by kernel_rfl) (fun _ _ _ h => h) (Or.inl ⟨by kernel_rfl, ?y4_670⟩) (hHeld) ?_
  case y4_670 =>
    intro w' hSw
    go_simp
    try with_reducible rfl
  refine wpAnyH_take' (i := 5) (v := ?v5_671) (some 46) rfl rfl (by kernel_rfl) (by kernel_rfl) (by kernel_rfl) (fun _ _ _ h => h) (Or.inl ⟨by kernel_rfl, ?y5_671⟩) (hHeld) ?_
  case y5_671 =>
    intro w' hSw
    have kt' := (at_chg hbt (by simp) hSw (show ¬ (w.heap.size = mb) by omega)).1; have lt' := at_lt (at_chg hbt (by simp) hSw (show ¬ (w.heap.size = mb) by omega)) (by simp); go_simp
    try with_reducible rfl
  refine wpAnyH_take' (i := 6) (v := ?v6_672) (some 47) rfl rfl (by kernel_rfl) (by kernel_rfl) (by kernel_rfl) (fun _ _ _ h => h) (Or.inl ⟨by kernel_rfl, ?y6_672⟩) (hHeld) ?_
  case y6_672 =>
    intro w' hSw
    go_simp
    try with_reducible rfl
  refine wpAnyH_take' (i := 7) (v := ?v7_673) (some 48) rfl rfl (by kernel_rfl) (by kernel_rfl) (by kernel_rfl) (fun _ _ _ h => h) (Or.inl ⟨by kernel_rfl, ?y7_673⟩) (hHeld) ?_
  case y7_673 =>
    intro w' hSw
    go_simp
    try with_reducible rfl
  refine wpAnyH_take' (i := 8) (v := ?v8_674) (some 49) rfl rfl (by kernel_rfl) (by kernel_rfl) (by kernel_rfl) (fun _ _ _ h => h) (Or.inl ⟨by kernel_rfl, ?y8_674⟩) (hHeld) ?_
  case y8_674 =>
    intro w' hSw
    go_simp
    try with_reducible rfl
  refine wpAnyH_take' (i := 9) (v := ?v9_675) (some 50) rfl rfl (by kernel_rfl) (by kernel_rfl) (by kernel_rfl) (fun _ _ _ h => h) (Or.inl ⟨by kernel_rfl, ?y9_675⟩) (hHeld) ?_
  case y9_675 =>
    intro w' hSw
    have kh' := (at_chg hbh (by simp) hSw (show ¬ (hb = mb) by omega)).1; go_simp
    try with_reducible rfl
  refine wpAnyH_take' (i := 10) (v := ?v10_676) (some 51) rfl rfl (by kernel_rfl) (by kernel_rfl) (by kernel_rfl) (fun _ _ _ h => h) (Or.inl ⟨by kernel_rfl, ?y10_676⟩) (hHeld) ?_
  case y10_676 =>
    intro w' hSw
    go_simp
    try with_reducible rfl
  refine wpAnyH_take' (i := 11) (v := ?v11_677) (some 52) rfl rfl (by kernel_rfl) (by kernel_rfl) (by kernel_rfl) (fun _ _ _ h => h) (Or.inl ⟨by kernel_rfl, ?y11_677⟩) (hHeld) ?_
  case y11_677 =>
    intro w' hSw
    go_simp
    try with_reducible rfl
  have hm9 := hmr.chg (Chg.drew (Chg.refl (fun _ => False) W7)) (fun h => h)
  obtain ⟨w9, hrun9, hm10, hc9, hz9⟩ := run_sput (P := Try.prog) Try.underlying49 Try.underlying3 hm9 t.id (.int .i64 (l.length : Nat))
  refine wpAnyH_ready (rs := [12]) (by kernel_rfl) (by simp) ?_
  refine AllReadyH.cons rfl (fun K hK => ?_) AllReadyH.nil
  rw [if_pos (by kernel_rfl)]
  go_simp
  refine hK.out _ _ (hHeld.trans hc9) (fun hS => ?_)
  clear hK
  refine wpAnyH_done (by kernel_rfl) ?_ _
  go_simp
  have hcB : Chg (fun q => q = hb ∨ q = mb ∨ rg = some q) w w9 := hcA.trans (hS.mono fun _ _ h => .inr (.inl h))
  have hbh := at_chg hbh (by simp) hS (show ¬ (hb = mb) by omega)
  have hor := own_chgS hor hS (fun q e (h : q = mb) => by simp [Value.ownBlock] at e; omega)
  clear hbt hcA hmr hS hHeld hm9 hc9 hz9 hrun9
  have HBH := Lib.hid (show At w9 hb #[.slice (some ⟨g, 0, none⟩) (l ++ [t]).length cap', .map (some mb), .int .i64 most] by rw [HLA.out]; exact hbh)
  have HOR := Lib.hid (show w9.ownsRow 0 29 2 (.slice (some ⟨g, 0, none⟩) (l ++ [t]).length cap') (l ++ [t]).length ((l ++ [t]).flatMap tmrC) by rw [HLA.out]; exact hor)
  have HNE := Lib.hid (show ∀ x ∈ S, x.id ≠ t.id from fnd_none.1 HF0.out)
  have HNL := Lib.hid (show ∀ x ∈ l, x.id ≠ t.id from fun x hx => HNE.out x (HPM.out.subset hx))
  have HFP := Lib.hid (fits_push HV.out.fits (t := t) (fun i hi => HNL.out _ (at_mem hi)))
  have kh := hbh.1
  have lh := at_lt hbh (by simp)
  clear hor
  go_wp2_with (go_at_call 39; refine (right_calls (l ++ [t]) _ l.length hb mb g cap' most _ (at_ext HBH.out (by simp) (by repeat (first | exact ext_refl _ | assumption | refine ext_more' ?_ _ _ | refine ext_drew ?_ | refine ext_drewN ?_ _ | refine ext_alloc ?_ _))) (own_ext HOR.out (by repeat (first | exact ext_refl _ | assumption | refine ext_more' ?_ _ _ | refine ext_drew ?_ | refine ext_drewN ?_ _ | refine ext_alloc ?_ _))) (hm10.ext (by repeat (first | exact ext_refl _ | assumption | refine ext_more' ?_ _ _ | refine ext_drew ?_ | refine ext_drewN ?_ _ | refine ext_alloc ?_ _))) HFP.out (keys_put HV.out.keys) (ids_push HIL.out HNL.out) (by rw [HLA.out]; omega) (hp_push HP.out t) (by rw [HLA.out]; omega) hg1 hd2 hg2).mono ?_; rintro e w10 ⟨rfl, hc10, hr10⟩)
  go_ret
  refine ⟨by rw [HE.out]; rfl, ?_⟩
  rw [HS.out]
  obtain ⟨l', M', q1, q2, q3⟩ := hr10
  refine ⟨some g, ⟨⟨_, _, l', M', q3.v, q2, q1.trans (List.perm_append_comm.trans ((List.Perm.cons t HPM.out).trans (ins_perm t S).symm)), rfl⟩, ins_srt HSR.out HNE.out, ids_ins HIS.out HNE.out, hd2, fun e => hg1 (by injection e), fun e => hg2 (by injection e), by rw [ins_length]; have := HLL.out; omega, hm1, hm2⟩, ?_, ?_⟩
  · refine chg_in hcB hc10 fun k hk h => ?_
    rcases h with h | h
    · rcases HGN.out with h2 | h2
      · exact .inr (.inr (by rw [h2, h]))
      · omega
    · exact .inr (.inl h)
  · rcases HGN.out with h2 | h2
    · exact .inl h2.symm
    · exact .inr ⟨g, rfl, h2⟩
end Go.Proofs.Ytkicofagjebnjaa

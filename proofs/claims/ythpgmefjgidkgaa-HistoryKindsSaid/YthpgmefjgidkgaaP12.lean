/- What may come next: the closures. -/
import Derived.Test.YthpgmefjgidkgaaO12
import Derived.Test.YthpgmefjgidkgaaN12
import Derived.Test.YthpgmefjgidkgaaJ12
import Derived.Test.YthpgmefjgidkgaaS12b
namespace Go.Proofs.Ythpgmefjgidkgaa
open Go.RowKit
set_option linter.unusedVariables false
set_option linter.unusedSimpArgs false

theorem leftB_none {h : Hs} {n : Int} (ho : knO h.known n = none) : leftB h n = decide (n ≤ h.cmds.length) := by simp [leftB, ho]
theorem leftB_some {h : Hs} {n : Int} {o : Out} (ho : knO h.known n = some o) : leftB h n = false := by simp [leftB, ho]
set_option maxRecDepth 100000 in
set_option maxHeartbeats 4000000 in
theorem left_calls (prog : ByteArray) (arg ost ov len last : Int) (cs ts ks ss : Option Addr) (cc tc kc sc : Nat) (cmds : List Cmd) (tries sigs : List Int) (known : List Kno) (st cl : Bool) (k at' n p a b : Int) (s : ByteArray) (bh be : Nat) (w : World) (hh : At w bh #[.string prog, .int .i64 arg, .slice cs cmds.length cc, .slice ts tries.length tc, .slice ks known.length kc, .slice ss sigs.length sc, .bool st, .bool cl, .int .i64 ost, .int .i64 ov, .int .i64 len, .int .i64 last]) (he : At w be #[.int .u8 k, .int .i64 at', .int .i64 n, .int .i64 p, .int .i64 a, .int .i64 b, .string s]) (hi : HsIn w ⟨prog, arg, cmds, tries, known, sigs, st, cl, ⟨ost, ov⟩, len, last⟩ ⟨cs, cc, ts, tc, ks, kc, ss, sc⟩) (hs : HsSm ⟨prog, arg, cmds, tries, known, sigs, st, cl, ⟨ost, ov⟩, len, last⟩) :
    Calls Try.prog 48 #[.pointer (some ⟨bh, 0, none⟩), .pointer (some ⟨be, 0, none⟩)] w fun e w' => e = .returned (.bool (leftB ⟨prog, arg, cmds, tries, known, sigs, st, cl, ⟨ost, ov⟩, len, last⟩ n)) ∧ Ext w w' := by
  have HIN := Lib.hid hi; have HSM := Lib.hid hs
  have hcl : cmds.length ≤ 1000000 := hs.1
  clear hi hs
  have kh := hh.1
  have ke := he.1
  have lh := at_lt hh (by simp)
  have le := at_lt he (by simp)
  rcases ho : knO known n with _ | o
  · have HO := Lib.hid ho; clear ho
    by_cases hn : n ≤ (cmds.length : Int)
    all_goals
      go_enter Try.func48, Try.ntmps48
      go_wp2_with (go_at_call 14; refine (over_calls ⟨prog, arg, cmds, tries, known, sigs, st, cl, ⟨ost, ov⟩, len, last⟩ ⟨cs, cc, ts, tc, ks, kc, ss, sc⟩ n _ (HIN.out.ext (by repeat (first | exact ext_refl _ | assumption | refine ext_more' ?_ _ _ | refine ext_drew ?_ | refine ext_drewN ?_ _ | refine ext_alloc ?_ _))) HSM.out).mono ?_; rw [HO.out]; rintro e w1 ⟨rfl, hb⟩; obtain ⟨r, d, rfl⟩ := ext_form hb; simp only [ovV, Option.isSome_none, Option.getD_none]; clear hb)
      go_ret
      exact ⟨by rw [leftB_none HO.out]; simp [hn], by repeat (first | exact ext_refl _ | assumption | refine ext_more' ?_ _ _ | refine ext_drew ?_ | refine ext_drewN ?_ _ | refine ext_alloc ?_ _)⟩
  · have HO := Lib.hid ho; clear ho
    by_cases hn : n ≤ (cmds.length : Int)
    all_goals
      go_enter Try.func48, Try.ntmps48
      go_wp2_with (go_at_call 14; refine (over_calls ⟨prog, arg, cmds, tries, known, sigs, st, cl, ⟨ost, ov⟩, len, last⟩ ⟨cs, cc, ts, tc, ks, kc, ss, sc⟩ n _ (HIN.out.ext (by repeat (first | exact ext_refl _ | assumption | refine ext_more' ?_ _ _ | refine ext_drew ?_ | refine ext_drewN ?_ _ | refine ext_alloc ?_ _))) HSM.out).mono ?_; rw [HO.out]; rintro e w1 ⟨rfl, hb⟩; obtain ⟨r, d, rfl⟩ := ext_form hb; simp only [ovV, Option.isSome_some, Option.getD_some]; clear hb)
      go_ret
      exact ⟨by rw [leftB_some (h := ⟨prog, arg, cmds, tries, known, sigs, st, cl, ⟨ost, ov⟩, len, last⟩) HO.out]; rfl, by repeat (first | exact ext_refl _ | assumption | refine ext_more' ?_ _ _ | refine ext_drew ?_ | refine ext_drewN ?_ _ | refine ext_alloc ?_ _)⟩
set_option maxRecDepth 100000 in
set_option maxHeartbeats 4000000 in
theorem mbegin_calls (prog : ByteArray) (arg ost ov len last : Int) (cs ts ks ss : Option Addr) (cc tc kc sc : Nat) (cmds : List Cmd) (tries sigs : List Int) (known : List Kno) (st cl : Bool) (k at' n p a b : Int) (s : ByteArray) (bh be : Nat) (w : World) (hh : At w bh #[.string prog, .int .i64 arg, .slice cs cmds.length cc, .slice ts tries.length tc, .slice ks known.length kc, .slice ss sigs.length sc, .bool st, .bool cl, .int .i64 ost, .int .i64 ov, .int .i64 len, .int .i64 last]) (he : At w be #[.int .u8 k, .int .i64 at', .int .i64 n, .int .i64 p, .int .i64 a, .int .i64 b, .string s]) (hcl : cmds.length ≤ 1000000) :
    Calls Try.prog 49 #[.pointer (some ⟨be, 0, none⟩), .pointer (some ⟨bh, 0, none⟩)] w fun e w' => e = .returned (.bool (decide (n = cmds.length + 1))) ∧ Ext w w' := by
  have kh := hh.1
  have ke := he.1
  go_enter Try.func49, Try.ntmps49
  go_wp2
  go_ret
  exact ⟨by rfl, by repeat (first | exact ext_refl _ | assumption | refine ext_more' ?_ _ _ | refine ext_drew ?_ | refine ext_drewN ?_ _ | refine ext_alloc ?_ _)⟩
set_option maxRecDepth 100000 in
set_option maxHeartbeats 4000000 in
theorem mstop_calls (prog : ByteArray) (arg ost ov len last : Int) (cs ts ks ss : Option Addr) (cc tc kc sc : Nat) (cmds : List Cmd) (tries sigs : List Int) (known : List Kno) (st cl : Bool) (bh : Nat) (w : World) (hh : At w bh #[.string prog, .int .i64 arg, .slice cs cmds.length cc, .slice ts tries.length tc, .slice ks known.length kc, .slice ss sigs.length sc, .bool st, .bool cl, .int .i64 ost, .int .i64 ov, .int .i64 len, .int .i64 last]) :
    Calls Try.prog 51 #[.pointer (some ⟨bh, 0, none⟩)] w fun e w' => e = .returned (.bool (!st)) ∧ Ext w w' := by
  have kh := hh.1
  go_enter Try.func51, Try.ntmps51
  go_wp2
  go_ret
  exact ⟨rfl, by repeat (first | exact ext_refl _ | assumption | refine ext_more' ?_ _ _ | refine ext_drew ?_ | refine ext_drewN ?_ _ | refine ext_alloc ?_ _)⟩

set_option maxRecDepth 100000 in
set_option maxHeartbeats 4000000 in
theorem mtry_calls (prog : ByteArray) (arg ost ov len last : Int) (cs ts ks ss : Option Addr) (cc tc kc sc : Nat) (cmds : List Cmd) (tries sigs : List Int) (known : List Kno) (st cl : Bool) (k at' n p a b : Int) (s : ByteArray) (bl bh be : Nat) (w : World) (hh : At w bh #[.string prog, .int .i64 arg, .slice cs cmds.length cc, .slice ts tries.length tc, .slice ks known.length kc, .slice ss sigs.length sc, .bool st, .bool cl, .int .i64 ost, .int .i64 ov, .int .i64 len, .int .i64 last]) (he : At w be #[.int .u8 k, .int .i64 at', .int .i64 n, .int .i64 p, .int .i64 a, .int .i64 b, .string s]) (hf : At w bl #[.func (.func 48) #[] #[.pointer (some ⟨bh, 0, none⟩), .pointer (some ⟨be, 0, none⟩)]]) (hi : HsIn w ⟨prog, arg, cmds, tries, known, sigs, st, cl, ⟨ost, ov⟩, len, last⟩ ⟨cs, cc, ts, tc, ks, kc, ss, sc⟩) (hs : HsSm ⟨prog, arg, cmds, tries, known, sigs, st, cl, ⟨ost, ov⟩, len, last⟩) (hn1 : 1 ≤ n) (htl : tries.length = cmds.length) (htb : ∀ i, i < cmds.length → 0 ≤ tries.getD i default ∧ tries.getD i default ≤ 100) :
    Calls Try.prog 50 #[.pointer (some ⟨bl, 0, none⟩), .pointer (some ⟨bh, 0, none⟩), .pointer (some ⟨be, 0, none⟩)] w fun e w' => e = .returned (.bool (tryB ⟨prog, arg, cmds, tries, known, sigs, st, cl, ⟨ost, ov⟩, len, last⟩ n p)) ∧ Ext w w' := by
  have HIN := Lib.hid hi; have HSM := Lib.hid hs
  have hcl : cmds.length ≤ 1000000 := hs.1
  have hcc : cmds.length ≤ cc := hi.2.2.2.2.1
  clear hs
  have kh := hh.1
  have ke := he.1
  have kf := hf.1
  have lh := at_lt hh (by simp)
  have le := at_lt he (by simp)
  have ll := at_lt hf (by simp)
  cases hL : leftB ⟨prog, arg, cmds, tries, known, sigs, st, cl, ⟨ost, ov⟩, len, last⟩ n
  · have HL := Lib.hid hL; clear hL hi htb
    go_enter Try.func50, Try.ntmps50
    go_upto_region 1 with fail
    refine wp_region_held_drew (S := fun w' => Ext w w') (by kernel_rfl) (ext_drew (ext_refl _)) (fun hHeld => ?_)
    refine wpAnyH_take' (i := 0) (v := ?v0_1) (some 4) rfl rfl (by kernel_rfl) (by kernel_rfl) (by kernel_rfl) (fun _ _ _ h => h) (Or.inl ⟨by kernel_rfl, ?y0_1⟩) (hHeld) ?_
    case y0_1 =>
      intro w' hSw
      have kf' := fun i => (hSw.cell (p := ⟨bl, i, none⟩) ll).trans (kf i); go_simp
      try with_reducible rfl
    refine wpAnyH_ready (rs := [1]) (by kernel_rfl) (by simp) ?_
    refine AllReadyH.cons rfl (fun K hK => ?_) AllReadyH.nil
    rw [if_pos (by rfl)]
    go_simp
    go_at_call 48
    refine (left_calls prog arg ost ov len last _ _ ks ss cc tc kc sc cmds tries sigs known st cl k at' _ p a b s bh be _ (at_ext hh (by simp) hHeld) (at_ext he (by simp) hHeld) (HIN.out.ext hHeld) HSM.out).mono ?_
    rw [HL.out]
    rintro e w1 ⟨rfl, hb⟩
    refine hK.out _ _ (ext_trans hHeld hb) (fun hS => ?_)
    refine wpAnyH_take' (i := 2) (v := ?v2_2) (some 6) rfl rfl (by kernel_rfl) (by kernel_rfl) (by kernel_rfl) (fun _ _ _ h => h) (Or.inl ⟨by kernel_rfl, ?y2_2⟩) (hS) ?_
    case y2_2 =>
      intro w' hSw
      have kh' := fun i => (hSw.cell (p := ⟨bh, i, none⟩) lh).trans (kh i); have ke' := fun i => (hSw.cell (p := ⟨be, i, none⟩) le).trans (ke i); go_simp
      try with_reducible rfl
    refine wpAnyH_take' (i := 3) (v := undef) (some 7) rfl rfl (by kernel_rfl) (by kernel_rfl) (by kernel_rfl) (fun _ _ _ h => h) (Or.inr ⟨by kernel_rfl, rfl⟩) (hS) ?_
    refine wpAnyH_take' (i := 4) (v := undef) (some 8) rfl rfl (by kernel_rfl) (by kernel_rfl) (by kernel_rfl) (fun _ _ _ h => h) (Or.inr ⟨by kernel_rfl, rfl⟩) (hS) ?_
    refine wpAnyH_take' (i := 5) (v := undef) (some 9) rfl rfl (by kernel_rfl) (by kernel_rfl) (by kernel_rfl) (fun _ _ _ h => h) (Or.inr ⟨by kernel_rfl, rfl⟩) (hS) ?_
    refine wpAnyH_take' (i := 6) (v := undef) (some 10) rfl rfl (by kernel_rfl) (by kernel_rfl) (by kernel_rfl) (fun _ _ _ h => h) (Or.inr ⟨by kernel_rfl, rfl⟩) (hS) ?_
    refine wpAnyH_take' (i := 7) (v := undef) (some 11) rfl rfl (by kernel_rfl) (by kernel_rfl) (by kernel_rfl) (fun _ _ _ h => h) (Or.inr ⟨by kernel_rfl, rfl⟩) (hS) ?_
    refine wpAnyH_take' (i := 8) (v := undef) (some 12) rfl rfl (by kernel_rfl) (by kernel_rfl) (by kernel_rfl) (fun _ _ _ h => h) (Or.inr ⟨by kernel_rfl, rfl⟩) (hS) ?_
    refine wpAnyH_take' (i := 9) (v := undef) (some 13) rfl rfl (by kernel_rfl) (by kernel_rfl) (by kernel_rfl) (fun _ _ _ h => h) (Or.inr ⟨by kernel_rfl, rfl⟩) (hS) ?_
    refine wpAnyH_take' (i := 10) (v := undef) (some 14) rfl rfl (by kernel_rfl) (by kernel_rfl) (by kernel_rfl) (fun _ _ _ h => h) (Or.inr ⟨by kernel_rfl, rfl⟩) (hS) ?_
    refine wpAnyH_take' (i := 11) (v := undef) (some 15) rfl rfl (by kernel_rfl) (by kernel_rfl) (by kernel_rfl) (fun _ _ _ h => h) (Or.inr ⟨by kernel_rfl, rfl⟩) (hS) ?_
    refine wpAnyH_take' (i := 12) (v := ?v12_12) (some 16) rfl rfl (by kernel_rfl) (by kernel_rfl) (by kernel_rfl) (fun _ _ _ h => h) (Or.inl ⟨by kernel_rfl, ?y12_12⟩) (hS) ?_
    case y12_12 =>
      intro w' hSw
      have kh' := fun i => (hSw.cell (p := ⟨bh, i, none⟩) lh).trans (kh i); have ke' := fun i => (hSw.cell (p := ⟨be, i, none⟩) le).trans (ke i); go_simp
      try with_reducible rfl
    refine wpAnyH_take' (i := 13) (v := ?v13_13) (some 17) rfl rfl (by kernel_rfl) (by kernel_rfl) (by kernel_rfl) (fun _ _ _ h => h) (Or.inl ⟨by kernel_rfl, ?y13_13⟩) (hS) ?_
    case y13_13 =>
      intro w' hSw
      have kh' := fun i => (hSw.cell (p := ⟨bh, i, none⟩) lh).trans (kh i); have ke' := fun i => (hSw.cell (p := ⟨be, i, none⟩) le).trans (ke i); go_simp
      try with_reducible rfl
    refine wpAnyH_take' (i := 14) (v := undef) (some 18) rfl rfl (by kernel_rfl) (by kernel_rfl) (by kernel_rfl) (fun _ _ _ h => h) (Or.inr ⟨by kernel_rfl, rfl⟩) (hS) ?_
    refine wpAnyH_take' (i := 15) (v := undef) (some 19) rfl rfl (by kernel_rfl) (by kernel_rfl) (by kernel_rfl) (fun _ _ _ h => h) (Or.inr ⟨by kernel_rfl, rfl⟩) (hS) ?_
    refine wpAnyH_take' (i := 16) (v := undef) (some 20) rfl rfl (by kernel_rfl) (by kernel_rfl) (by kernel_rfl) (fun _ _ _ h => h) (Or.inr ⟨by kernel_rfl, rfl⟩) (hS) ?_
    refine wpAnyH_take' (i := 17) (v := undef) (some 21) rfl rfl (by kernel_rfl) (by kernel_rfl) (by kernel_rfl) (fun _ _ _ h => h) (Or.inr ⟨by kernel_rfl, rfl⟩) (hS) ?_
    refine wpAnyH_take' (i := 18) (v := undef) (some 22) rfl rfl (by kernel_rfl) (by kernel_rfl) (by kernel_rfl) (fun _ _ _ h => h) (Or.inr ⟨by kernel_rfl, rfl⟩) (hS) ?_
    refine wpAnyH_take' (i := 19) (v := undef) (some 23) rfl rfl (by kernel_rfl) (by kernel_rfl) (by kernel_rfl) (fun _ _ _ h => h) (Or.inr ⟨by kernel_rfl, rfl⟩) (hS) ?_
    refine wpAnyH_take' (i := 20) (v := undef) (some 24) rfl rfl (by kernel_rfl) (by kernel_rfl) (by kernel_rfl) (fun _ _ _ h => h) (Or.inr ⟨by kernel_rfl, rfl⟩) (hS) ?_
    refine wpAnyH_take' (i := 21) (v := undef) (some 25) rfl rfl (by kernel_rfl) (by kernel_rfl) (by kernel_rfl) (fun _ _ _ h => h) (Or.inr ⟨by kernel_rfl, rfl⟩) (hS) ?_
    refine wpAnyH_take' (i := 22) (v := undef) (some 26) rfl rfl (by kernel_rfl) (by kernel_rfl) (by kernel_rfl) (fun _ _ _ h => h) (Or.inr ⟨by kernel_rfl, rfl⟩) (hS) ?_
    refine wpAnyH_take' (i := 23) (v := undef) (some 27) rfl rfl (by kernel_rfl) (by kernel_rfl) (by kernel_rfl) (fun _ _ _ h => h) (Or.inr ⟨by kernel_rfl, rfl⟩) (hS) ?_
    refine wpAnyH_take' (i := 24) (v := undef) (some 28) rfl rfl (by kernel_rfl) (by kernel_rfl) (by kernel_rfl) (fun _ _ _ h => h) (Or.inr ⟨by kernel_rfl, rfl⟩) (hS) ?_
    refine wpAnyH_take' (i := 25) (v := ?v25_25) (some 29) rfl rfl (by kernel_rfl) (by kernel_rfl) (by kernel_rfl) (fun _ _ _ h => h) (Or.inl ⟨by kernel_rfl, ?y25_25⟩) (hS) ?_
    case y25_25 =>
      intro w' hSw
      have kh' := fun i => (hSw.cell (p := ⟨bh, i, none⟩) lh).trans (kh i); have ke' := fun i => (hSw.cell (p := ⟨be, i, none⟩) le).trans (ke i); go_simp
      try with_reducible rfl
    refine wpAnyH_take' (i := 26) (v := ?v26_26) (some 3) rfl rfl (by kernel_rfl) (by kernel_rfl) (by kernel_rfl) (fun _ _ _ h => h) (Or.inl ⟨by kernel_rfl, ?y26_26⟩) (hS) ?_
    case y26_26 =>
      intro w' hSw
      have kh' := fun i => (hSw.cell (p := ⟨bh, i, none⟩) lh).trans (kh i); have ke' := fun i => (hSw.cell (p := ⟨be, i, none⟩) le).trans (ke i); go_simp
      try with_reducible rfl
    refine wpAnyH_done (by kernel_rfl) ?_ _
    clear hHeld hK
    go_simp
    go_wp2
    go_ret
    exact ⟨by unfold tryB; rw [HL.out]; rfl, hS⟩
  · have hnl : n ≤ (cmds.length : Int) := by
      unfold leftB at hL
      simp only [Bool.and_eq_true, decide_eq_true_eq] at hL
      exact hL.1
    have HL := Lib.hid hL; clear hL
    obtain ⟨m, rfl⟩ : ∃ m : Nat, n = (m : Int) + 1 := ⟨(n - 1).toNat, by omega⟩
    have hm : m < cmds.length := by omega
    have hm2 : m < tries.length := by omega
    obtain ⟨bc, oc, rfl, lc, _, kc1, _, _, _⟩ := cmd_cells hi.1 (ext_refl _) hm
    obtain ⟨bt, ot, rfl, lt, kt1⟩ := num_cell hi.2.1 (ext_refl _) hm2
    have htm := htb m hm
    obtain ⟨ci, hci⟩ : ∃ ci, ci = cmds.getD m default := ⟨_, rfl⟩
    obtain ⟨ti, hti⟩ : ∃ ti, ti = tries.getD m default := ⟨_, rfl⟩
    rw [← hci] at kc1
    rw [← hti] at kt1 htm
    have HCI := Lib.hid hci; have HTI := Lib.hid hti
    clear hi htb hci hti
    have i1 : (0 : Int) ≤ (m : Int) := by omega
    have hwm : IntKind.i64.wrap (m : Int) = m := IntWalk.i64_in _ (by omega)
    have hwt : IntKind.i64.wrap (ti + 1) = ti + 1 := IntWalk.i64_in _ (by omega)
    have i2 : (m : Int) < cmds.length := by omega
    have i3 : (m : Int) < tries.length := by omega
    have hfin : tryB ⟨prog, arg, cmds, tries, known, sigs, st, cl, ⟨ost, ov⟩, len, last⟩ ((m : Int) + 1) p = (decide (ci.kind = 1) && decide (p = ti + 1)) := by
      have e1 : ((m : Int) + 1 - 1).toNat = m := by omega
      unfold tryB
      rw [HL.out, e1, HCI.out, HTI.out]; rfl
    have HF := Lib.hid hfin
    clear hfin HCI HTI hnl
    by_cases hk : ci.kind = 1
    · have gk : (ci.kind == 1) = true := by simpa using hk
      go_enter Try.func50, Try.ntmps50
      go_upto_region 1 with fail
      refine wp_region_held_drew (S := fun w' => Ext w w') (by kernel_rfl) (ext_drew (ext_refl _)) (fun hHeld => ?_)
      refine wpAnyH_take' (i := 0) (v := ?v0_27) (some 4) rfl rfl (by kernel_rfl) (by kernel_rfl) (by kernel_rfl) (fun _ _ _ h => h) (Or.inl ⟨by kernel_rfl, ?y0_27⟩) (hHeld) ?_
      case y0_27 =>
        intro w' hSw
        have kf' := fun i => (hSw.cell (p := ⟨bl, i, none⟩) ll).trans (kf i); go_simp
        try with_reducible rfl
      refine wpAnyH_ready (rs := [1]) (by kernel_rfl) (by simp) ?_
      refine AllReadyH.cons rfl (fun K hK => ?_) AllReadyH.nil
      rw [if_pos (by rfl)]
      go_simp
      go_at_call 48
      refine (left_calls prog arg ost ov len last _ _ ks ss cc tc kc sc cmds tries sigs known st cl k at' _ p a b s bh be _ (at_ext hh (by simp) hHeld) (at_ext he (by simp) hHeld) (HIN.out.ext hHeld) HSM.out).mono ?_
      rw [HL.out]
      rintro e w1 ⟨rfl, hb⟩
      refine hK.out _ _ (ext_trans hHeld hb) (fun hS => ?_)
      refine wpAnyH_take' (i := 2) (v := ?v2_28) (some 6) rfl rfl (by kernel_rfl) (by kernel_rfl) (by kernel_rfl) (fun _ _ _ h => h) (Or.inl ⟨by kernel_rfl, ?y2_28⟩) (hS) ?_
      case y2_28 =>
        intro w' hSw
        have kh' := fun i => (hSw.cell (p := ⟨bh, i, none⟩) lh).trans (kh i); have ke' := fun i => (hSw.cell (p := ⟨be, i, none⟩) le).trans (ke i); go_simp
        try with_reducible rfl
      refine wpAnyH_take' (i := 3) (v := ?v3_29) (some 7) rfl rfl (by kernel_rfl) (by kernel_rfl) (by kernel_rfl) (fun _ _ _ h => h) (Or.inl ⟨by kernel_rfl, ?y3_29⟩) (hS) ?_
      case y3_29 =>
        intro w' hSw
        have kh' := fun i => (hSw.cell (p := ⟨bh, i, none⟩) lh).trans (kh i); have ke' := fun i => (hSw.cell (p := ⟨be, i, none⟩) le).trans (ke i); go_simp
        try with_reducible rfl
      refine wpAnyH_take' (i := 4) (v := ?v4_30) (some 8) rfl rfl (by kernel_rfl) (by kernel_rfl) (by kernel_rfl) (fun _ _ _ h => h) (Or.inl ⟨by kernel_rfl, ?y4_30⟩) (hS) ?_
      case y4_30 =>
        intro w' hSw
        have kh' := fun i => (hSw.cell (p := ⟨bh, i, none⟩) lh).trans (kh i); have ke' := fun i => (hSw.cell (p := ⟨be, i, none⟩) le).trans (ke i); go_simp
        try with_reducible rfl
      refine wpAnyH_take' (i := 5) (v := ?v5_31) (some 9) rfl rfl (by kernel_rfl) (by kernel_rfl) (by kernel_rfl) (fun _ _ _ h => h) (Or.inl ⟨by kernel_rfl, ?y5_31⟩) (hS) ?_
      case y5_31 =>
        intro w' hSw
        have kh' := fun i => (hSw.cell (p := ⟨bh, i, none⟩) lh).trans (kh i); have ke' := fun i => (hSw.cell (p := ⟨be, i, none⟩) le).trans (ke i); go_simp
        try with_reducible rfl
      refine wpAnyH_take' (i := 6) (v := ?v6_32) (some 10) rfl rfl (by kernel_rfl) (by kernel_rfl) (by kernel_rfl) (fun _ _ _ h => h) (Or.inl ⟨by kernel_rfl, ?y6_32⟩) (hS) ?_
      case y6_32 =>
        intro w' hSw
        have kh' := fun i => (hSw.cell (p := ⟨bh, i, none⟩) lh).trans (kh i); have ke' := fun i => (hSw.cell (p := ⟨be, i, none⟩) le).trans (ke i); go_simp
        try with_reducible rfl
      refine wpAnyH_take' (i := 7) (v := ?v7_33) (some 11) rfl rfl (by kernel_rfl) (by kernel_rfl) (by kernel_rfl) (fun _ _ _ h => h) (Or.inl ⟨by kernel_rfl, ?y7_33⟩) (hS) ?_
      case y7_33 =>
        intro w' hSw
        have kh' := fun i => (hSw.cell (p := ⟨bh, i, none⟩) lh).trans (kh i); have ke' := fun i => (hSw.cell (p := ⟨be, i, none⟩) le).trans (ke i); go_simp
        try with_reducible rfl
      refine wpAnyH_take' (i := 8) (v := ?v8_34) (some 12) rfl rfl (by kernel_rfl) (by kernel_rfl) (by kernel_rfl) (fun _ _ _ h => h) (Or.inl ⟨by kernel_rfl, ?y8_34⟩) (hS) ?_
      case y8_34 =>
        intro w' hSw
        have kh' := fun i => (hSw.cell (p := ⟨bh, i, none⟩) lh).trans (kh i); have ke' := fun i => (hSw.cell (p := ⟨be, i, none⟩) le).trans (ke i); go_simp
        try with_reducible rfl
      refine wpAnyH_take' (i := 9) (v := ?v9_35) (some 13) rfl rfl (by kernel_rfl) (by kernel_rfl) (by kernel_rfl) (fun _ _ _ h => h) (Or.inl ⟨by kernel_rfl, ?y9_35⟩) (hS) ?_
      case y9_35 =>
        intro w' hSw
        have kh' := fun i => (hSw.cell (p := ⟨bh, i, none⟩) lh).trans (kh i); have ke' := fun i => (hSw.cell (p := ⟨be, i, none⟩) le).trans (ke i); go_simp
        try with_reducible rfl
      refine wpAnyH_take' (i := 10) (v := ?v10_36) (some 14) rfl rfl (by kernel_rfl) (by kernel_rfl) (by kernel_rfl) (fun _ _ _ h => h) (Or.inl ⟨by kernel_rfl, ?y10_36⟩) (hS) ?_
      case y10_36 =>
        intro w' hSw
        have kh' := fun i => (hSw.cell (p := ⟨bh, i, none⟩) lh).trans (kh i); have ke' := fun i => (hSw.cell (p := ⟨be, i, none⟩) le).trans (ke i); have kc' := (hSw.cell (p := ⟨bc, oc + m * 5 + 1, none⟩) lc).trans kc1; go_simp
        try with_reducible rfl
      refine wpAnyH_take' (i := 11) (v := ?v11_37) (some 15) rfl rfl (by kernel_rfl) (by kernel_rfl) (by kernel_rfl) (fun _ _ _ h => h) (Or.inl ⟨by kernel_rfl, ?y11_37⟩) (hS) ?_
      case y11_37 =>
        intro w' hSw
        have kh' := fun i => (hSw.cell (p := ⟨bh, i, none⟩) lh).trans (kh i); have ke' := fun i => (hSw.cell (p := ⟨be, i, none⟩) le).trans (ke i); go_simp
        try with_reducible rfl
      refine wpAnyH_take' (i := 12) (v := ?v12_38) (some 16) rfl rfl (by kernel_rfl) (by kernel_rfl) (by kernel_rfl) (fun _ _ _ h => h) (Or.inl ⟨by kernel_rfl, ?y12_38⟩) (hS) ?_
      case y12_38 =>
        intro w' hSw
        have kh' := fun i => (hSw.cell (p := ⟨bh, i, none⟩) lh).trans (kh i); have ke' := fun i => (hSw.cell (p := ⟨be, i, none⟩) le).trans (ke i); go_simp
        try with_reducible rfl
      refine wpAnyH_take' (i := 13) (v := ?v13_39) (some 17) rfl rfl (by kernel_rfl) (by kernel_rfl) (by kernel_rfl) (fun _ _ _ h => h) (Or.inl ⟨by kernel_rfl, ?y13_39⟩) (hS) ?_
      case y13_39 =>
        intro w' hSw
        have kh' := fun i => (hSw.cell (p := ⟨bh, i, none⟩) lh).trans (kh i); have ke' := fun i => (hSw.cell (p := ⟨be, i, none⟩) le).trans (ke i); go_simp
        try with_reducible rfl
      refine wpAnyH_take' (i := 14) (v := ?v14_40) (some 18) rfl rfl (by kernel_rfl) (by kernel_rfl) (by kernel_rfl) (fun _ _ _ h => h) (Or.inl ⟨by kernel_rfl, ?y14_40⟩) (hS) ?_
      case y14_40 =>
        intro w' hSw
        have kh' := fun i => (hSw.cell (p := ⟨bh, i, none⟩) lh).trans (kh i); have ke' := fun i => (hSw.cell (p := ⟨be, i, none⟩) le).trans (ke i); go_simp
        try with_reducible rfl
      refine wpAnyH_take' (i := 15) (v := ?v15_41) (some 19) rfl rfl (by kernel_rfl) (by kernel_rfl) (by kernel_rfl) (fun _ _ _ h => h) (Or.inl ⟨by kernel_rfl, ?y15_41⟩) (hS) ?_
      case y15_41 =>
        intro w' hSw
        have kh' := fun i => (hSw.cell (p := ⟨bh, i, none⟩) lh).trans (kh i); have ke' := fun i => (hSw.cell (p := ⟨be, i, none⟩) le).trans (ke i); go_simp
        try with_reducible rfl
      refine wpAnyH_take' (i := 16) (v := ?v16_42) (some 20) rfl rfl (by kernel_rfl) (by kernel_rfl) (by kernel_rfl) (fun _ _ _ h => h) (Or.inl ⟨by kernel_rfl, ?y16_42⟩) (hS) ?_
      case y16_42 =>
        intro w' hSw
        have kh' := fun i => (hSw.cell (p := ⟨bh, i, none⟩) lh).trans (kh i); have ke' := fun i => (hSw.cell (p := ⟨be, i, none⟩) le).trans (ke i); go_simp
        try with_reducible rfl
      refine wpAnyH_take' (i := 17) (v := ?v17_43) (some 21) rfl rfl (by kernel_rfl) (by kernel_rfl) (by kernel_rfl) (fun _ _ _ h => h) (Or.inl ⟨by kernel_rfl, ?y17_43⟩) (hS) ?_
      case y17_43 =>
        intro w' hSw
        have kh' := fun i => (hSw.cell (p := ⟨bh, i, none⟩) lh).trans (kh i); have ke' := fun i => (hSw.cell (p := ⟨be, i, none⟩) le).trans (ke i); go_simp
        try with_reducible rfl
      refine wpAnyH_take' (i := 18) (v := ?v18_44) (some 22) rfl rfl (by kernel_rfl) (by kernel_rfl) (by kernel_rfl) (fun _ _ _ h => h) (Or.inl ⟨by kernel_rfl, ?y18_44⟩) (hS) ?_
      case y18_44 =>
        intro w' hSw
        have kh' := fun i => (hSw.cell (p := ⟨bh, i, none⟩) lh).trans (kh i); have ke' := fun i => (hSw.cell (p := ⟨be, i, none⟩) le).trans (ke i); go_simp
        try with_reducible rfl
      refine wpAnyH_take' (i := 19) (v := ?v19_45) (some 23) rfl rfl (by kernel_rfl) (by kernel_rfl) (by kernel_rfl) (fun _ _ _ h => h) (Or.inl ⟨by kernel_rfl, ?y19_45⟩) (hS) ?_
      case y19_45 =>
        intro w' hSw
        have kh' := fun i => (hSw.cell (p := ⟨bh, i, none⟩) lh).trans (kh i); have ke' := fun i => (hSw.cell (p := ⟨be, i, none⟩) le).trans (ke i); go_simp
        try with_reducible rfl
      refine wpAnyH_take' (i := 20) (v := ?v20_46) (some 24) rfl rfl (by kernel_rfl) (by kernel_rfl) (by kernel_rfl) (fun _ _ _ h => h) (Or.inl ⟨by kernel_rfl, ?y20_46⟩) (hS) ?_
      case y20_46 =>
        intro w' hSw
        have kh' := fun i => (hSw.cell (p := ⟨bh, i, none⟩) lh).trans (kh i); have ke' := fun i => (hSw.cell (p := ⟨be, i, none⟩) le).trans (ke i); go_simp
        try with_reducible rfl
      refine wpAnyH_take' (i := 21) (v := ?v21_47) (some 25) rfl rfl (by kernel_rfl) (by kernel_rfl) (by kernel_rfl) (fun _ _ _ h => h) (Or.inl ⟨by kernel_rfl, ?y21_47⟩) (hS) ?_
      case y21_47 =>
        intro w' hSw
        have kh' := fun i => (hSw.cell (p := ⟨bh, i, none⟩) lh).trans (kh i); have ke' := fun i => (hSw.cell (p := ⟨be, i, none⟩) le).trans (ke i); go_simp
        try with_reducible rfl
      refine wpAnyH_take' (i := 22) (v := ?v22_48) (some 26) rfl rfl (by kernel_rfl) (by kernel_rfl) (by kernel_rfl) (fun _ _ _ h => h) (Or.inl ⟨by kernel_rfl, ?y22_48⟩) (hS) ?_
      case y22_48 =>
        intro w' hSw
        have kh' := fun i => (hSw.cell (p := ⟨bh, i, none⟩) lh).trans (kh i); have ke' := fun i => (hSw.cell (p := ⟨be, i, none⟩) le).trans (ke i); have kt' := (hSw.cell (p := ⟨bt, ot + m, none⟩) lt).trans kt1; go_simp
        try with_reducible rfl
      refine wpAnyH_take' (i := 23) (v := ?v23_49) (some 27) rfl rfl (by kernel_rfl) (by kernel_rfl) (by kernel_rfl) (fun _ _ _ h => h) (Or.inl ⟨by kernel_rfl, ?y23_49⟩) (hS) ?_
      case y23_49 =>
        intro w' hSw
        have kh' := fun i => (hSw.cell (p := ⟨bh, i, none⟩) lh).trans (kh i); have ke' := fun i => (hSw.cell (p := ⟨be, i, none⟩) le).trans (ke i); go_simp
        try with_reducible rfl
      refine wpAnyH_take' (i := 24) (v := ?v24_50) (some 28) rfl rfl (by kernel_rfl) (by kernel_rfl) (by kernel_rfl) (fun _ _ _ h => h) (Or.inl ⟨by kernel_rfl, ?y24_50⟩) (hS) ?_
      case y24_50 =>
        intro w' hSw
        have kh' := fun i => (hSw.cell (p := ⟨bh, i, none⟩) lh).trans (kh i); have ke' := fun i => (hSw.cell (p := ⟨be, i, none⟩) le).trans (ke i); go_simp
        try with_reducible rfl
      refine wpAnyH_take' (i := 25) (v := ?v25_51) (some 29) rfl rfl (by kernel_rfl) (by kernel_rfl) (by kernel_rfl) (fun _ _ _ h => h) (Or.inl ⟨by kernel_rfl, ?y25_51⟩) (hS) ?_
      case y25_51 =>
        intro w' hSw
        have kh' := fun i => (hSw.cell (p := ⟨bh, i, none⟩) lh).trans (kh i); have ke' := fun i => (hSw.cell (p := ⟨be, i, none⟩) le).trans (ke i); go_simp
        try with_reducible rfl
      refine wpAnyH_take' (i := 26) (v := ?v26_52) (some 3) rfl rfl (by kernel_rfl) (by kernel_rfl) (by kernel_rfl) (fun _ _ _ h => h) (Or.inl ⟨by kernel_rfl, ?y26_52⟩) (hS) ?_
      case y26_52 =>
        intro w' hSw
        have kh' := fun i => (hSw.cell (p := ⟨bh, i, none⟩) lh).trans (kh i); have ke' := fun i => (hSw.cell (p := ⟨be, i, none⟩) le).trans (ke i); go_simp
        try with_reducible rfl
      refine wpAnyH_done (by kernel_rfl) ?_ _
      clear hHeld hK
      go_simp
      go_wp2
      go_ret
      exact ⟨by rw [HF.out]; simp only [hk]; first | rfl | (congr 2; simp), hS⟩
    · have gk : (ci.kind == 1) = false := by simpa using hk
      go_enter Try.func50, Try.ntmps50
      go_upto_region 1 with fail
      refine wp_region_held_drew (S := fun w' => Ext w w') (by kernel_rfl) (ext_drew (ext_refl _)) (fun hHeld => ?_)
      refine wpAnyH_take' (i := 0) (v := ?v0_53) (some 4) rfl rfl (by kernel_rfl) (by kernel_rfl) (by kernel_rfl) (fun _ _ _ h => h) (Or.inl ⟨by kernel_rfl, ?y0_53⟩) (hHeld) ?_
      case y0_53 =>
        intro w' hSw
        have kf' := fun i => (hSw.cell (p := ⟨bl, i, none⟩) ll).trans (kf i); go_simp
        try with_reducible rfl
      refine wpAnyH_ready (rs := [1]) (by kernel_rfl) (by simp) ?_
      refine AllReadyH.cons rfl (fun K hK => ?_) AllReadyH.nil
      rw [if_pos (by rfl)]
      go_simp
      go_at_call 48
      refine (left_calls prog arg ost ov len last _ _ ks ss cc tc kc sc cmds tries sigs known st cl k at' _ p a b s bh be _ (at_ext hh (by simp) hHeld) (at_ext he (by simp) hHeld) (HIN.out.ext hHeld) HSM.out).mono ?_
      rw [HL.out]
      rintro e w1 ⟨rfl, hb⟩
      refine hK.out _ _ (ext_trans hHeld hb) (fun hS => ?_)
      refine wpAnyH_take' (i := 2) (v := ?v2_54) (some 6) rfl rfl (by kernel_rfl) (by kernel_rfl) (by kernel_rfl) (fun _ _ _ h => h) (Or.inl ⟨by kernel_rfl, ?y2_54⟩) (hS) ?_
      case y2_54 =>
        intro w' hSw
        have kh' := fun i => (hSw.cell (p := ⟨bh, i, none⟩) lh).trans (kh i); have ke' := fun i => (hSw.cell (p := ⟨be, i, none⟩) le).trans (ke i); go_simp
        try with_reducible rfl
      refine wpAnyH_take' (i := 3) (v := ?v3_55) (some 7) rfl rfl (by kernel_rfl) (by kernel_rfl) (by kernel_rfl) (fun _ _ _ h => h) (Or.inl ⟨by kernel_rfl, ?y3_55⟩) (hS) ?_
      case y3_55 =>
        intro w' hSw
        have kh' := fun i => (hSw.cell (p := ⟨bh, i, none⟩) lh).trans (kh i); have ke' := fun i => (hSw.cell (p := ⟨be, i, none⟩) le).trans (ke i); go_simp
        try with_reducible rfl
      refine wpAnyH_take' (i := 4) (v := ?v4_56) (some 8) rfl rfl (by kernel_rfl) (by kernel_rfl) (by kernel_rfl) (fun _ _ _ h => h) (Or.inl ⟨by kernel_rfl, ?y4_56⟩) (hS) ?_
      case y4_56 =>
        intro w' hSw
        have kh' := fun i => (hSw.cell (p := ⟨bh, i, none⟩) lh).trans (kh i); have ke' := fun i => (hSw.cell (p := ⟨be, i, none⟩) le).trans (ke i); go_simp
        try with_reducible rfl
      refine wpAnyH_take' (i := 5) (v := ?v5_57) (some 9) rfl rfl (by kernel_rfl) (by kernel_rfl) (by kernel_rfl) (fun _ _ _ h => h) (Or.inl ⟨by kernel_rfl, ?y5_57⟩) (hS) ?_
      case y5_57 =>
        intro w' hSw
        have kh' := fun i => (hSw.cell (p := ⟨bh, i, none⟩) lh).trans (kh i); have ke' := fun i => (hSw.cell (p := ⟨be, i, none⟩) le).trans (ke i); go_simp
        try with_reducible rfl
      refine wpAnyH_take' (i := 6) (v := ?v6_58) (some 10) rfl rfl (by kernel_rfl) (by kernel_rfl) (by kernel_rfl) (fun _ _ _ h => h) (Or.inl ⟨by kernel_rfl, ?y6_58⟩) (hS) ?_
      case y6_58 =>
        intro w' hSw
        have kh' := fun i => (hSw.cell (p := ⟨bh, i, none⟩) lh).trans (kh i); have ke' := fun i => (hSw.cell (p := ⟨be, i, none⟩) le).trans (ke i); go_simp
        try with_reducible rfl
      refine wpAnyH_take' (i := 7) (v := ?v7_59) (some 11) rfl rfl (by kernel_rfl) (by kernel_rfl) (by kernel_rfl) (fun _ _ _ h => h) (Or.inl ⟨by kernel_rfl, ?y7_59⟩) (hS) ?_
      case y7_59 =>
        intro w' hSw
        have kh' := fun i => (hSw.cell (p := ⟨bh, i, none⟩) lh).trans (kh i); have ke' := fun i => (hSw.cell (p := ⟨be, i, none⟩) le).trans (ke i); go_simp
        try with_reducible rfl
      refine wpAnyH_take' (i := 8) (v := ?v8_60) (some 12) rfl rfl (by kernel_rfl) (by kernel_rfl) (by kernel_rfl) (fun _ _ _ h => h) (Or.inl ⟨by kernel_rfl, ?y8_60⟩) (hS) ?_
      case y8_60 =>
        intro w' hSw
        have kh' := fun i => (hSw.cell (p := ⟨bh, i, none⟩) lh).trans (kh i); have ke' := fun i => (hSw.cell (p := ⟨be, i, none⟩) le).trans (ke i); go_simp
        try with_reducible rfl
      refine wpAnyH_take' (i := 9) (v := ?v9_61) (some 13) rfl rfl (by kernel_rfl) (by kernel_rfl) (by kernel_rfl) (fun _ _ _ h => h) (Or.inl ⟨by kernel_rfl, ?y9_61⟩) (hS) ?_
      case y9_61 =>
        intro w' hSw
        have kh' := fun i => (hSw.cell (p := ⟨bh, i, none⟩) lh).trans (kh i); have ke' := fun i => (hSw.cell (p := ⟨be, i, none⟩) le).trans (ke i); go_simp
        try with_reducible rfl
      refine wpAnyH_take' (i := 10) (v := ?v10_62) (some 14) rfl rfl (by kernel_rfl) (by kernel_rfl) (by kernel_rfl) (fun _ _ _ h => h) (Or.inl ⟨by kernel_rfl, ?y10_62⟩) (hS) ?_
      case y10_62 =>
        intro w' hSw
        have kh' := fun i => (hSw.cell (p := ⟨bh, i, none⟩) lh).trans (kh i); have ke' := fun i => (hSw.cell (p := ⟨be, i, none⟩) le).trans (ke i); have kc' := (hSw.cell (p := ⟨bc, oc + m * 5 + 1, none⟩) lc).trans kc1; go_simp
        try with_reducible rfl
      refine wpAnyH_take' (i := 11) (v := ?v11_63) (some 15) rfl rfl (by kernel_rfl) (by kernel_rfl) (by kernel_rfl) (fun _ _ _ h => h) (Or.inl ⟨by kernel_rfl, ?y11_63⟩) (hS) ?_
      case y11_63 =>
        intro w' hSw
        have kh' := fun i => (hSw.cell (p := ⟨bh, i, none⟩) lh).trans (kh i); have ke' := fun i => (hSw.cell (p := ⟨be, i, none⟩) le).trans (ke i); go_simp
        try with_reducible rfl
      refine wpAnyH_take' (i := 12) (v := ?v12_64) (some 16) rfl rfl (by kernel_rfl) (by kernel_rfl) (by kernel_rfl) (fun _ _ _ h => h) (Or.inl ⟨by kernel_rfl, ?y12_64⟩) (hS) ?_
      case y12_64 =>
        intro w' hSw
        have kh' := fun i => (hSw.cell (p := ⟨bh, i, none⟩) lh).trans (kh i); have ke' := fun i => (hSw.cell (p := ⟨be, i, none⟩) le).trans (ke i); go_simp
        try with_reducible rfl
      refine wpAnyH_take' (i := 13) (v := ?v13_65) (some 17) rfl rfl (by kernel_rfl) (by kernel_rfl) (by kernel_rfl) (fun _ _ _ h => h) (Or.inl ⟨by kernel_rfl, ?y13_65⟩) (hS) ?_
      case y13_65 =>
        intro w' hSw
        have kh' := fun i => (hSw.cell (p := ⟨bh, i, none⟩) lh).trans (kh i); have ke' := fun i => (hSw.cell (p := ⟨be, i, none⟩) le).trans (ke i); go_simp
        try with_reducible rfl
      refine wpAnyH_take' (i := 14) (v := undef) (some 18) rfl rfl (by kernel_rfl) (by kernel_rfl) (by kernel_rfl) (fun _ _ _ h => h) (Or.inr ⟨by kernel_rfl, rfl⟩) (hS) ?_
      refine wpAnyH_take' (i := 15) (v := undef) (some 19) rfl rfl (by kernel_rfl) (by kernel_rfl) (by kernel_rfl) (fun _ _ _ h => h) (Or.inr ⟨by kernel_rfl, rfl⟩) (hS) ?_
      refine wpAnyH_take' (i := 16) (v := undef) (some 20) rfl rfl (by kernel_rfl) (by kernel_rfl) (by kernel_rfl) (fun _ _ _ h => h) (Or.inr ⟨by kernel_rfl, rfl⟩) (hS) ?_
      refine wpAnyH_take' (i := 17) (v := undef) (some 21) rfl rfl (by kernel_rfl) (by kernel_rfl) (by kernel_rfl) (fun _ _ _ h => h) (Or.inr ⟨by kernel_rfl, rfl⟩) (hS) ?_
      refine wpAnyH_take' (i := 18) (v := undef) (some 22) rfl rfl (by kernel_rfl) (by kernel_rfl) (by kernel_rfl) (fun _ _ _ h => h) (Or.inr ⟨by kernel_rfl, rfl⟩) (hS) ?_
      refine wpAnyH_take' (i := 19) (v := undef) (some 23) rfl rfl (by kernel_rfl) (by kernel_rfl) (by kernel_rfl) (fun _ _ _ h => h) (Or.inr ⟨by kernel_rfl, rfl⟩) (hS) ?_
      refine wpAnyH_take' (i := 20) (v := undef) (some 24) rfl rfl (by kernel_rfl) (by kernel_rfl) (by kernel_rfl) (fun _ _ _ h => h) (Or.inr ⟨by kernel_rfl, rfl⟩) (hS) ?_
      refine wpAnyH_take' (i := 21) (v := undef) (some 25) rfl rfl (by kernel_rfl) (by kernel_rfl) (by kernel_rfl) (fun _ _ _ h => h) (Or.inr ⟨by kernel_rfl, rfl⟩) (hS) ?_
      refine wpAnyH_take' (i := 22) (v := undef) (some 26) rfl rfl (by kernel_rfl) (by kernel_rfl) (by kernel_rfl) (fun _ _ _ h => h) (Or.inr ⟨by kernel_rfl, rfl⟩) (hS) ?_
      refine wpAnyH_take' (i := 23) (v := undef) (some 27) rfl rfl (by kernel_rfl) (by kernel_rfl) (by kernel_rfl) (fun _ _ _ h => h) (Or.inr ⟨by kernel_rfl, rfl⟩) (hS) ?_
      refine wpAnyH_take' (i := 24) (v := undef) (some 28) rfl rfl (by kernel_rfl) (by kernel_rfl) (by kernel_rfl) (fun _ _ _ h => h) (Or.inr ⟨by kernel_rfl, rfl⟩) (hS) ?_
      refine wpAnyH_take' (i := 25) (v := ?v25_77) (some 29) rfl rfl (by kernel_rfl) (by kernel_rfl) (by kernel_rfl) (fun _ _ _ h => h) (Or.inl ⟨by kernel_rfl, ?y25_77⟩) (hS) ?_
      case y25_77 =>
        intro w' hSw
        have kh' := fun i => (hSw.cell (p := ⟨bh, i, none⟩) lh).trans (kh i); have ke' := fun i => (hSw.cell (p := ⟨be, i, none⟩) le).trans (ke i); go_simp
        try with_reducible rfl
      refine wpAnyH_take' (i := 26) (v := ?v26_78) (some 3) rfl rfl (by kernel_rfl) (by kernel_rfl) (by kernel_rfl) (fun _ _ _ h => h) (Or.inl ⟨by kernel_rfl, ?y26_78⟩) (hS) ?_
      case y26_78 =>
        intro w' hSw
        have kh' := fun i => (hSw.cell (p := ⟨bh, i, none⟩) lh).trans (kh i); have ke' := fun i => (hSw.cell (p := ⟨be, i, none⟩) le).trans (ke i); go_simp
        try with_reducible rfl
      refine wpAnyH_done (by kernel_rfl) ?_ _
      clear hHeld hK
      go_simp
      go_wp2
      go_ret
      exact ⟨by rw [HF.out]; simp [hk], hS⟩
end Go.Proofs.Ythpgmefjgidkgaa

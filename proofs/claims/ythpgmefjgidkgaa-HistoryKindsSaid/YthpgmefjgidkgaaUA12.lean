/- Are the commands right? -/
import Derived.Test.YthpgmefjgidkgaaH12
import Derived.Test.YthpgmefjgidkgaaS12b
namespace Go.Proofs.Ythpgmefjgidkgaa
open Go.RowKit
set_option linter.unusedVariables false
set_option linter.unusedSimpArgs false

theorem cmds_no {h : Hs} {i : Nat} (hi : i < h.cmds.length) (ho : cmdOk h i = false) : cmdsB h = false := by
  unfold cmdsB
  cases hk : cmdsK h h.cmds.length
  · simp
  · have := (cmdsK_iff h _).1 hk i hi
    rw [ho] at this; cases this
theorem cmdsB_len {h : Hs} (hn : h.tries.length ≠ h.cmds.length) : cmdsB h = false := by unfold cmdsB; simp [hn]
set_option maxRecDepth 100000 in
set_option maxHeartbeats 4000000 in
theorem commands_calls (prog : ByteArray) (arg ost ov len last : Int) (cs ts ks ss : Option Addr) (cc tc kc sc : Nat) (cmds : List Cmd) (tries sigs : List Int) (known : List Kno) (st cl : Bool) (w : World) (hi : HsIn w ⟨prog, arg, cmds, tries, known, sigs, st, cl, ⟨ost, ov⟩, len, last⟩ ⟨cs, cc, ts, tc, ks, kc, ss, sc⟩) (hs : HsSm ⟨prog, arg, cmds, tries, known, sigs, st, cl, ⟨ost, ov⟩, len, last⟩) (hkd : ∀ i, i < cmds.length → 0 ≤ (cmds.getD i default).kind ∧ (cmds.getD i default).kind ≤ 255) :
    Calls Try.prog 39 #[.agg #[.string prog, .int .i64 arg, .slice cs cmds.length cc, .slice ts tries.length tc, .slice ks known.length kc, .slice ss sigs.length sc, .bool st, .bool cl, .int .i64 ost, .int .i64 ov, .int .i64 len, .int .i64 last]] w fun e w' => e = .returned (.bool (cmdsB ⟨prog, arg, cmds, tries, known, sigs, st, cl, ⟨ost, ov⟩, len, last⟩)) ∧ Ext w w' := by
  have HIN := Lib.hid hi; have HKD := Lib.hid hkd
  have hcl : cmds.length ≤ 1000000 := hs.1
  have htl : tries.length ≤ 1000000 := hs.2.1
  have hcc : cmds.length ≤ cc := hi.2.2.2.2.1
  have htc : tries.length ≤ tc := hi.2.2.2.2.2.1
  clear hi hs hkd
  by_cases hl : tries.length = cmds.length
  rotate_left
  · have HF := Lib.hid (cmdsB_len (h := ⟨prog, arg, cmds, tries, known, sigs, st, cl, ⟨ost, ov⟩, len, last⟩) hl)
    have gl : ((tries.length : Int) != cmds.length) = true := by rw [bne_iff_ne]; omega
    clear hl
    go_enter Try.func39, Try.ntmps39
    go_wp2
    go_ret
    exact ⟨by rw [HF.out]; rfl, by repeat (first | exact ext_refl _ | assumption | refine ext_more' ?_ _ _ | refine ext_drew ?_ | refine ext_drewN ?_ _ | refine ext_alloc ?_ _)⟩
  have gl : ((tries.length : Int) != cmds.length) = false := by rw [bne_eq_false_iff_eq]; omega
  have HL := Lib.hid hl
  clear hl
  go_enter Try.func39, Try.ntmps39
  go_upto_region 1 with fail
  refine wp_at ?_
  intro W1 hW
  have X1 := Lib.hid (show Ext w W1 by rw [hW]; repeat (first | exact ext_refl _ | assumption | refine ext_more' ?_ _ _ | refine ext_drew ?_ | refine ext_drewN ?_ _ | refine ext_alloc ?_ _))
  have hbh := at_new (by rw [hW]; repeat (first | exact ext_refl _ | assumption | refine ext_more' ?_ _ _ | refine ext_drew ?_ | refine ext_drewN ?_ _ | refine ext_alloc ?_ _) : Ext (World.alloc w (.cells _ _)) W1)
  clear hW
  have kh := hbh.1
  have lh := at_lt hbh (by simp)
  go_wp2
  go_loopg [16] cmds.length (fun g kk wr => ∃ (i : Nat) (r : Array Obj) (d : Nat), wr = more W1 r d ∧ kk = .int .i64 i ∧ g + i = cmds.length ∧ cmdsK ⟨prog, arg, cmds, tries, known, sigs, st, cl, ⟨ost, ov⟩, len, last⟩ i = true)
  case atStart => exact ⟨0, ext_ex (ext_refl _) ⟨rfl, by omega, rfl⟩⟩
  case round =>
    obtain ⟨i, r, d, rfl, rfl, hgi, hall⟩ := hrel
    have HALL := Lib.hid hall; clear hall
    by_cases hi : i < cmds.length
    · have hit : i < tries.length := by rw [HL.out]; exact hi
      obtain ⟨bc, oc, rfl, lc, c0, c1, c2, c3, c4⟩ := cmd_cells HIN.out.1 (ext_refl w) hi
      obtain ⟨bt, ot, rfl, lt, t0⟩ := num_cell HIN.out.2.1 (ext_refl w) hit
      have hkd := HKD.out i hi
      obtain ⟨ci, hci⟩ : ∃ ci, ci = cmds.getD i default := ⟨_, rfl⟩
      obtain ⟨ti, hti⟩ : ∃ ti, ti = tries.getD i default := ⟨_, rfl⟩
      have hok : cmdOk ⟨prog, arg, cmds, tries, known, sigs, st, cl, ⟨ost, ov⟩, len, last⟩ i = (decide (ci.n = i + 1) && (evR ⟨2, 0, ci.n, ci.kind, ci.arg, ci.policy, ci.s⟩ && (decide (0 ≤ ti) && (decide (ti ≤ 100) && (decide (ti ≤ 0) || decide (ci.kind = 1)))))) := by rw [hci, hti]; rfl
      rw [← hci] at c0 c1 c2 c3 c4 hkd
      rw [← hti] at t0
      have hx1 := X1.out
      have c0' := (hx1.cell (p := ⟨bc, oc + i * 5, none⟩) lc).trans c0
      have c1' := (hx1.cell (p := ⟨bc, oc + i * 5 + 1, none⟩) lc).trans c1
      have c2' := (hx1.cell (p := ⟨bc, oc + i * 5 + 2, none⟩) lc).trans c2
      have c3' := (hx1.cell (p := ⟨bc, oc + i * 5 + 3, none⟩) lc).trans c3
      have c4' := (hx1.cell (p := ⟨bc, oc + i * 5 + 4, none⟩) lc).trans c4
      have t0' := (hx1.cell (p := ⟨bt, ot + i, none⟩) lt).trans t0
      have lc' : bc < W1.heap.size := Nat.lt_of_lt_of_le lc hx1.size
      have lt' : bt < W1.heap.size := Nat.lt_of_lt_of_le lt hx1.size
      clear hci hti c0 c1 c2 c3 c4 t0 hx1 lc lt
      have hi3 : (i : Int) < cmds.length := by omega
      have hi4 : (i : Int) < tries.length := by omega
      have hwk : IntKind.i64.wrap ci.kind = ci.kind := IntWalk.i64_in _ (by omega)
      have HOK := Lib.hid hok; clear hok
      have HNO := Lib.hid (fun h => cmds_no (h := ⟨prog, arg, cmds, tries, known, sigs, st, cl, ⟨ost, ov⟩, len, last⟩) hi h)
      by_cases e1 : ci.n = i + 1
      rotate_left
      · have g1 : (ci.n != (i : Int) + 1) = true := by rw [bne_iff_ne]; exact e1
        have HF := Lib.hid (HNO.out (by rw [HOK.out]; simp [e1]))
        clear e1
        go_wp2
        go_ret
        exact ⟨by rw [HF.out]; rfl, ext_trans X1.out (by repeat (first | exact ext_refl _ | assumption | refine ext_more' ?_ _ _ | refine ext_drew ?_ | refine ext_drewN ?_ _ | refine ext_alloc ?_ _))⟩
      have g1 : (ci.n != (i : Int) + 1) = false := by rw [bne_eq_false_iff_eq]; exact e1
      have E1 := Lib.hid e1; clear e1
      cases e2 : evR ⟨2, 0, ci.n, ci.kind, ci.arg, ci.policy, ci.s⟩
      · have E2 := Lib.hid e2
        have HF := Lib.hid (HNO.out (by rw [HOK.out, e2]; simp))
        clear e2
        go_wp2_with (go_at_call 11; refine (right_calls _ _ _ _ _ _ _ _ (by decide) (by decide)).mono ?_; rw [E2.out]; rintro e w1 ⟨rfl, hb⟩; obtain ⟨r, d, rfl⟩ := ext_form hb; clear hb)
        go_ret
        exact ⟨by rw [HF.out]; rfl, ext_trans X1.out (by repeat (first | exact ext_refl _ | assumption | refine ext_more' ?_ _ _ | refine ext_drew ?_ | refine ext_drewN ?_ _ | refine ext_alloc ?_ _))⟩
      have E2 := Lib.hid e2; clear e2
      by_cases e3 : ti < 0
      · have HF := Lib.hid (HNO.out (by rw [HOK.out, E2.out]; have : ¬ 0 ≤ ti := by omega
                                        simp [this]))
        go_wp2_with (go_at_call 11; refine (right_calls _ _ _ _ _ _ _ _ (by decide) (by decide)).mono ?_; rw [E2.out]; rintro e w1 ⟨rfl, hb⟩; obtain ⟨r, d, rfl⟩ := ext_form hb; clear hb)
        go_ret
        exact ⟨by rw [HF.out]; rfl, ext_trans X1.out (by repeat (first | exact ext_refl _ | assumption | refine ext_more' ?_ _ _ | refine ext_drew ?_ | refine ext_drewN ?_ _ | refine ext_alloc ?_ _))⟩
      have e3' : 0 ≤ ti := by omega
      clear e3
      by_cases e4 : 100 < ti
      · have HF := Lib.hid (HNO.out (by rw [HOK.out, E2.out]; have : ¬ ti ≤ 100 := by omega
                                        simp [this]))
        go_wp2_with (go_at_call 11; refine (right_calls _ _ _ _ _ _ _ _ (by decide) (by decide)).mono ?_; rw [E2.out]; rintro e w1 ⟨rfl, hb⟩; obtain ⟨r, d, rfl⟩ := ext_form hb; clear hb)
        go_ret
        exact ⟨by rw [HF.out]; rfl, ext_trans X1.out (by repeat (first | exact ext_refl _ | assumption | refine ext_more' ?_ _ _ | refine ext_drew ?_ | refine ext_drewN ?_ _ | refine ext_alloc ?_ _))⟩
      have e4' : ti ≤ 100 := by omega
      clear e4
      by_cases e5 : 0 < ti
      · by_cases e6 : ci.kind = 1
        rotate_left
        · have g6 : (ci.kind != 1) = true := by rw [bne_iff_ne]; exact e6
          have HF := Lib.hid (HNO.out (by rw [HOK.out, E2.out]; have : ¬ ti ≤ 0 := by omega
                                          simp [this, e6]))
          clear e6
          go_wp2_with (go_at_call 11; refine (right_calls _ _ _ _ _ _ _ _ (by decide) (by decide)).mono ?_; rw [E2.out]; rintro e w1 ⟨rfl, hb⟩; obtain ⟨r, d, rfl⟩ := ext_form hb; clear hb)
          go_ret
          exact ⟨by rw [HF.out]; rfl, ext_trans X1.out (by repeat (first | exact ext_refl _ | assumption | refine ext_more' ?_ _ _ | refine ext_drew ?_ | refine ext_drewN ?_ _ | refine ext_alloc ?_ _))⟩
        · have g6 : (ci.kind != 1) = false := by rw [bne_eq_false_iff_eq]; exact e6
          have HG := Lib.hid (show cmdsK ⟨prog, arg, cmds, tries, known, sigs, st, cl, ⟨ost, ov⟩, len, last⟩ (i + 1) = true by rw [cmdsK, HALL.out, HOK.out, E2.out, E1.out]; simp [e3', e4', e6])
          clear e6
          go_wp2_with (go_at_call 11; refine (right_calls _ _ _ _ _ _ _ _ (by decide) (by decide)).mono ?_; rw [E2.out]; rintro e w1 ⟨rfl, hb⟩; obtain ⟨r, d, rfl⟩ := ext_form hb; clear hb)
          go_roundg (gk - 1)
          case measure => omega
          case rel => exact ⟨i + 1, ext_ex (by repeat (first | exact ext_refl _ | assumption | refine ext_more' ?_ _ _ | refine ext_drew ?_ | refine ext_drewN ?_ _ | refine ext_alloc ?_ _)) ⟨by go_num, by omega, HG.out⟩⟩
      · have htz : ti ≤ 0 := by omega
        have HG := Lib.hid (show cmdsK ⟨prog, arg, cmds, tries, known, sigs, st, cl, ⟨ost, ov⟩, len, last⟩ (i + 1) = true by rw [cmdsK, HALL.out, HOK.out, E2.out, E1.out]; simp [e3', e4', htz])
        clear htz
        go_wp2_with (go_at_call 11; refine (right_calls _ _ _ _ _ _ _ _ (by decide) (by decide)).mono ?_; rw [E2.out]; rintro e w1 ⟨rfl, hb⟩; obtain ⟨r, d, rfl⟩ := ext_form hb; clear hb)
        go_roundg (gk - 1)
        case measure => omega
        case rel => exact ⟨i + 1, ext_ex (by repeat (first | exact ext_refl _ | assumption | refine ext_more' ?_ _ _ | refine ext_drew ?_ | refine ext_drewN ?_ _ | refine ext_alloc ?_ _)) ⟨by go_num, by omega, HG.out⟩⟩
    · have hi3 : ¬ ((i : Int) < cmds.length) := by omega
      have hie : i = cmds.length := by omega
      have HG := Lib.hid (show cmdsB ⟨prog, arg, cmds, tries, known, sigs, st, cl, ⟨ost, ov⟩, len, last⟩ = true by unfold cmdsB; rw [← hie, HALL.out]; simp [HL.out, hie])
      clear hie
      go_wp2
      go_ret
      exact ⟨by rw [HG.out]; rfl, ext_trans X1.out (by repeat (first | exact ext_refl _ | assumption | refine ext_more' ?_ _ _ | refine ext_drew ?_ | refine ext_drewN ?_ _ | refine ext_alloc ?_ _))⟩
end Go.Proofs.Ythpgmefjgidkgaa

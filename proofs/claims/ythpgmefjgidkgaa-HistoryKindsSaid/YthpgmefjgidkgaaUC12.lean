/- How many events. -/
import Derived.Test.YthpgmefjgidkgaaH12
import Derived.Test.YthpgmefjgidkgaaS12b
namespace Go.Proofs.Ythpgmefjgidkgaa
open Go.RowKit
set_option linter.unusedVariables false
set_option linter.unusedSimpArgs false

theorem sumI_take {l : List Int} {i : Nat} (hi : i < l.length) : sumI (l.take (i + 1)) = sumI (l.take i) + l.getD i default := by
  rw [List.take_add_one, sumI_append, List.getElem?_eq_getElem hi]
  simp [sumI, List.getD_eq_getElem?_getD, hi]
theorem sumI_bd2 (l : List Int) (h : ∀ i, i < l.length → 0 ≤ l.getD i default ∧ l.getD i default ≤ 100) (i : Nat) (hi : i ≤ l.length) : 0 ≤ sumI (l.take i) ∧ sumI (l.take i) ≤ i * 100 := by
  have := sumI_bd (l.take i) 100 (by omega) (fun j hj => by
    have hj' : j < i := by rw [List.length_take] at hj; omega
    have e : (l.take i).getD j default = l.getD j default := by simp only [List.getD_eq_getElem?_getD, List.getElem?_take_of_lt hj']
    rw [e]; exact h j (by omega))
  rw [List.length_take, Nat.min_eq_left hi] at this
  exact this
set_option maxRecDepth 100000 in
set_option maxHeartbeats 4000000 in
theorem many_calls (prog : ByteArray) (arg ost ov len last : Int) (cs ts ks ss : Option Addr) (cc tc kc sc : Nat) (cmds : List Cmd) (tries sigs : List Int) (known : List Kno) (st cl : Bool) (w : World) (hi : HsIn w ⟨prog, arg, cmds, tries, known, sigs, st, cl, ⟨ost, ov⟩, len, last⟩ ⟨cs, cc, ts, tc, ks, kc, ss, sc⟩) (hs : HsSm ⟨prog, arg, cmds, tries, known, sigs, st, cl, ⟨ost, ov⟩, len, last⟩) (htb : ∀ i, i < tries.length → 0 ≤ tries.getD i default ∧ tries.getD i default ≤ 100) :
    Calls Try.prog 41 #[.agg #[.string prog, .int .i64 arg, .slice cs cmds.length cc, .slice ts tries.length tc, .slice ks known.length kc, .slice ss sigs.length sc, .bool st, .bool cl, .int .i64 ost, .int .i64 ov, .int .i64 len, .int .i64 last]] w fun e w' => e = .returned (.int .i64 (manyI ⟨prog, arg, cmds, tries, known, sigs, st, cl, ⟨ost, ov⟩, len, last⟩)) ∧ Ext w w' := by
  have HIN := Lib.hid hi
  have hcl : cmds.length ≤ 1000000 := hs.1
  have htl : tries.length ≤ 1000000 := hs.2.1
  have hkl : known.length ≤ 1000000 := hs.2.2.1
  have hsl : sigs.length ≤ 1000000 := hs.2.2.2
  have htc : tries.length ≤ tc := hi.2.2.2.2.2.1
  have HTB := Lib.hid htb
  clear hi hs htb
  go_enter Try.func41, Try.ntmps41
  go_upto_region 1 with fail
  refine wp_at ?_
  intro W1 hW
  have X1 := Lib.hid (show Ext w W1 by rw [hW]; repeat (first | exact ext_refl _ | assumption | refine ext_more' ?_ _ _ | refine ext_drew ?_ | refine ext_drewN ?_ _ | refine ext_alloc ?_ _))
  have hbh := at_new (by rw [hW]; repeat (first | exact ext_refl _ | assumption | refine ext_more' ?_ _ _ | refine ext_drew ?_ | refine ext_drewN ?_ _ | refine ext_alloc ?_ _) : Ext (World.alloc w (.cells _ _)) W1)
  clear hW
  have kh := hbh.1
  have lh := at_lt hbh (by simp)
  go_wp2
  go_loopg [23, 3] tries.length (fun g kk n wr => ∃ (i : Nat) (r : Array Obj) (d : Nat), wr = more W1 r d ∧ kk = .int .i64 i ∧ n = .int .i64 (1 + cmds.length + known.length + sigs.length + sumI (tries.take i)) ∧ g + i = tries.length)
  case atStart => exact ⟨0, ext_ex (ext_refl _) ⟨rfl, by simp [sumI], by omega⟩⟩
  case round =>
    obtain ⟨i, r, d, rfl, rfl, rfl, hgi⟩ := hrel
    by_cases hi : i < tries.length
    · obtain ⟨bt, ot, rfl, lt, t0⟩ := num_cell HIN.out.2.1 (ext_refl w) hi
      have hst := sumI_take hi
      have hbd := sumI_bd2 tries HTB.out i (by omega)
      have htb := HTB.out i hi
      obtain ⟨S, hS⟩ : ∃ S, S = sumI (tries.take i) := ⟨_, rfl⟩
      obtain ⟨ti, hti⟩ : ∃ ti, ti = tries.getD i default := ⟨_, rfl⟩
      rw [← hS] at hbd hst
      rw [← hti] at hst t0 htb
      have HST := Lib.hid hst
      rw [← hS]
      have t0' := (X1.out.cell (p := ⟨bt, ot + i, none⟩) lt).trans t0
      have lt' : bt < W1.heap.size := Nat.lt_of_lt_of_le lt X1.out.size
      clear hst hS hti t0 lt
      have hi4 : (i : Int) < tries.length := by omega
      go_wp2
      go_roundg (gk - 1)
      case measure => omega
      case rel => exact ⟨i + 1, ext_ex (by repeat (first | exact ext_refl _ | assumption | refine ext_more' ?_ _ _ | refine ext_drew ?_ | refine ext_drewN ?_ _ | refine ext_alloc ?_ _)) ⟨by go_num, by rw [HST.out]; exact congrArg (Value.int .i64) (by omega), by omega⟩⟩
    · have hi3 : ¬ ((i : Int) < tries.length) := by omega
      have hbd := sumI_bd2 tries HTB.out i (by omega)
      have hie : i = tries.length := by omega
      have HG := Lib.hid (show manyI ⟨prog, arg, cmds, tries, known, sigs, st, cl, ⟨ost, ov⟩, len, last⟩ = 1 + cmds.length + known.length + sigs.length + sumI (tries.take i) + b2i st + b2i cl by unfold manyI; rw [hie, List.take_length])
      obtain ⟨S, hS⟩ : ∃ S, S = sumI (tries.take i) := ⟨_, rfl⟩
      rw [← hS] at hbd HG
      rw [← hS]
      clear hie hS
      cases st <;> cases cl
      · have j0 : ∀ w, (Instr.index 79 (.agg #[.bool false, .bool false]) (.int .i64 0)).run Try.prog w = .ok (.bool false) w := fun _ => by kernel_rfl
        have j1 : ∀ w, (Instr.index 79 (.agg #[.bool false, .bool false]) (.int .i64 1)).run Try.prog w = .ok (.bool false) w := fun _ => by kernel_rfl
        go_wp2
        refine wp_loop_rounds 3 ?_
        rw [rounds_succ]
        go_wp2
        rw [rounds_succ]
        go_wp2
        rw [rounds_succ]
        go_wp2
        go_ret
        exact ⟨by rw [HG.out]; simp only [b2i]; refine ret_int ?_; simp <;> omega, ext_trans X1.out (by repeat (first | exact ext_refl _ | assumption | refine ext_more' ?_ _ _ | refine ext_drew ?_ | refine ext_drewN ?_ _ | refine ext_alloc ?_ _))⟩
      · have j0 : ∀ w, (Instr.index 79 (.agg #[.bool false, .bool true]) (.int .i64 0)).run Try.prog w = .ok (.bool false) w := fun _ => by kernel_rfl
        have j1 : ∀ w, (Instr.index 79 (.agg #[.bool false, .bool true]) (.int .i64 1)).run Try.prog w = .ok (.bool true) w := fun _ => by kernel_rfl
        go_wp2
        refine wp_loop_rounds 3 ?_
        rw [rounds_succ]
        go_wp2
        rw [rounds_succ]
        go_wp2
        rw [rounds_succ]
        go_wp2
        go_ret
        exact ⟨by rw [HG.out]; simp only [b2i]; refine ret_int ?_; simp <;> omega, ext_trans X1.out (by repeat (first | exact ext_refl _ | assumption | refine ext_more' ?_ _ _ | refine ext_drew ?_ | refine ext_drewN ?_ _ | refine ext_alloc ?_ _))⟩
      · have j0 : ∀ w, (Instr.index 79 (.agg #[.bool true, .bool false]) (.int .i64 0)).run Try.prog w = .ok (.bool true) w := fun _ => by kernel_rfl
        have j1 : ∀ w, (Instr.index 79 (.agg #[.bool true, .bool false]) (.int .i64 1)).run Try.prog w = .ok (.bool false) w := fun _ => by kernel_rfl
        go_wp2
        refine wp_loop_rounds 3 ?_
        rw [rounds_succ]
        go_wp2
        rw [rounds_succ]
        go_wp2
        rw [rounds_succ]
        go_wp2
        go_ret
        exact ⟨by rw [HG.out]; simp only [b2i]; refine ret_int ?_; simp <;> omega, ext_trans X1.out (by repeat (first | exact ext_refl _ | assumption | refine ext_more' ?_ _ _ | refine ext_drew ?_ | refine ext_drewN ?_ _ | refine ext_alloc ?_ _))⟩
      · have j0 : ∀ w, (Instr.index 79 (.agg #[.bool true, .bool true]) (.int .i64 0)).run Try.prog w = .ok (.bool true) w := fun _ => by kernel_rfl
        have j1 : ∀ w, (Instr.index 79 (.agg #[.bool true, .bool true]) (.int .i64 1)).run Try.prog w = .ok (.bool true) w := fun _ => by kernel_rfl
        go_wp2
        refine wp_loop_rounds 3 ?_
        rw [rounds_succ]
        go_wp2
        rw [rounds_succ]
        go_wp2
        rw [rounds_succ]
        go_wp2
        go_ret
        exact ⟨by rw [HG.out]; simp only [b2i]; refine ret_int ?_; simp <;> omega, ext_trans X1.out (by repeat (first | exact ext_refl _ | assumption | refine ext_more' ?_ _ _ | refine ext_drew ?_ | refine ext_drewN ?_ _ | refine ext_alloc ?_ _))⟩
end Go.Proofs.Ythpgmefjgidkgaa

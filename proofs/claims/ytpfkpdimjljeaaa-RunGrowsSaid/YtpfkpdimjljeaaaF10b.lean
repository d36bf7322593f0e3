/- RunGrows. -/
import Derived.Test.YtpfkpdimjljeaaaP10c
import Derived.Test.YtpfkpdimjljeaaaP10b
import Derived.Test.YtpfkpdimjljeaaaK10x
import Derived.Test.YtpfkpdimjljeaaaH10e
namespace Go.Proofs.Ytpfkpdimjljeaaa
open Go.RowKit
set_option linter.unusedVariables false
set_option linter.unusedSimpArgs false

/-- What the two runs of RunGrows are to each other. -/
theorem grows_plain (I : Nat → Ins) (K : Nat → Kno) (S : Nat → Int) (arg : Int) {j1 n1 j2 n2 : Nat} (h1 : j1 ≤ n1) (h2 : j2 ≤ n2) {y1 y2 : Rs} (hy1 : y1 = runP I (lookK K j1) (sgF S j2) 10000 (x0 arg)) (hy2 : y2 = runP I (lookK K n1) (sgF S n2) 10000 (x0 arg)) :
    (y1.cmds <+: y2.cmds ∧ y1.steps ≤ y2.steps ∧ y1.sig ≤ y2.sig ∧ y2.cmds.length ≤ 200) ∧ ((y1.st = 1 ∨ y1.st = 4 ∨ y1.st = 5) ∧ y2 = y1 ∨ y1.st = 2 ∧ (∀ i, i < j1 → (K i).n ≠ y1.on) ∨ y1.st = 3 ∧ y1.sig = j2) := by
  have hg := runP_grows I (lookK_le (K := K) h1) (sgF_le (S := S) h2) 10000 (x0 arg)
  have hw := runP_waits I (lookK K j1) (sgF S j2) 10000 (x0 arg) rfl
  have hs := runP_st I (lookK K j1) (sgF S j2) 10000 (x0 arg)
  have hn := runP_sig I (lookK K j1) S j2 10000 (x0 arg) (Nat.zero_le _)
  have hl := runP_len I (lookK K n1) (sgF S n2) 10000 (x0 arg) (Nat.zero_le _)
  rw [← hy1] at hg hw hs hn
  rw [← hy2] at hg hl
  have ha : y1.cmds <+: y2.cmds ∧ y1.steps ≤ y2.steps ∧ y1.sig ≤ y2.sig := by
    rcases hg with h | h
    · rw [h]; exact ⟨List.prefix_rfl, Nat.le_refl _, Nat.le_refl _⟩
    · exact h.1
  refine ⟨⟨ha.1, ha.2.1, ha.2.2, hl⟩, ?_⟩
  rcases hs with hs | hs | hs | hs | hs
  · exact .inl ⟨.inl hs, by rcases hg with h | ⟨_, h | h⟩; exact h; omega; omega⟩
  · exact .inr (.inl ⟨hs, fun i hi => lookK_none (hw.1 hs).1 hi⟩)
  · refine .inr (.inr ⟨hs, ?_⟩)
    have := hw.2 hs
    unfold sgF at this
    by_cases hlt : y1.sig < j2
    · rw [if_pos hlt] at this; cases this
    · omega
  · exact .inl ⟨.inr (.inl hs), by rcases hg with h | ⟨_, h | h⟩; exact h; omega; omega⟩
  · exact .inl ⟨.inr (.inr hs), by rcases hg with h | ⟨_, h | h⟩; exact h; omega; omega⟩
set_option maxRecDepth 100000 in
set_option maxHeartbeats 8000000 in
theorem grows_walk (p0 : ByteArray) (regs arg fuel : Int) (cs ks ss : Option Addr) (clen ccap klen kcap slen scap : Nat) (I : Nat → Ins) (K : Nat → Kno) (S : Nat → Int) (x0' x1' : Int) (w : World) (hrows : Rows_ w cs clen 6 (fun i => insC (I i))) (hK : Rows_ w ks klen 3 (fun i => knoC (K i))) (hS : Rows_ w ss slen 1 (fun i => [.int .i64 (S i)])) (hk1 : klen ≤ kcap) (hs1 : slen ≤ scap) :
    Calls Try.prog 4 #[.agg #[.string p0, .int .i64 regs, .slice cs clen ccap], .agg #[.int .i64 arg, .slice ks klen kcap, .slice ss slen scap, .int .i64 fuel], .agg #[.int .i64 x0', .int .i64 x1']] w fun e w' => e = .returned (.bool true) ∧ Ext w w' := by
  have HROWS := Lib.hid hrows; have HK := Lib.hid hK; have HS := Lib.hid hS
  clear hrows hK hS
  have q2 : mn (slen : Int) 300 = ((min slen 300 : Nat) : Int) := mn_cast slen 300
  have b2 : min slen 300 ≤ slen ∧ min slen 300 ≤ 300 := by omega
  generalize min slen 300 = m2 at *
  obtain ⟨b2, b2'⟩ := b2
  have u2 : m2 ≤ scap := by omega
  have v2 : (m2 : Int) ≤ scap := by omega
  obtain ⟨j2, hj2⟩ : ∃ j : Nat, x1' % ((m2 : Int) + 1) = j := ⟨(x1' % ((m2 : Int) + 1)).toNat, (Int.toNat_of_nonneg (Int.emod_nonneg _ (by omega))).symm⟩
  have pb : j2 ≤ m2 := by have := Int.emod_lt_of_pos x1' (show (0 : Int) < (m2 : Int) + 1 by omega); omega
  have pb' : (j2 : Int) ≤ scap := by omega
  have hw2 : IntKind.i64.wrap ((m2 : Int) + 1) = (m2 : Int) + 1 := IntWalk.i64_in _ (by omega)
  have HW2 := Lib.hid hw2; have HJ2 := Lib.hid hj2
  clear hw2 hj2
  go_enter Try.func4, Try.ntmps4
  go_upto_region 1 with fail
  refine wp_at ?_
  intro W1 hW
  have hx : Ext w W1 := by rw [hW]; repeat (first | exact ext_refl _ | assumption | refine ext_more' ?_ _ _ | refine ext_drew ?_ | refine ext_drewN ?_ _ | refine ext_alloc ?_ _)
  have t0 := at_new (by rw [hW]; repeat (first | exact ext_refl _ | assumption | refine ext_more' ?_ _ _ | refine ext_drew ?_ | refine ext_drewN ?_ _ | refine ext_alloc ?_ _) : Ext (World.alloc w (.cells _ _)) W1)
  have t1 := at_new (by rw [hW]; repeat (first | exact ext_refl _ | assumption | refine ext_more' ?_ _ _ | refine ext_drew ?_ | refine ext_drewN ?_ _ | refine ext_alloc ?_ _) : Ext ((World.alloc w (.cells _ _)).alloc (.cells _ _)) W1)
  have t2 := at_new (by rw [hW]; repeat (first | exact ext_refl _ | assumption | refine ext_more' ?_ _ _ | refine ext_drew ?_ | refine ext_drewN ?_ _ | refine ext_alloc ?_ _) : Ext (((World.alloc w (.cells _ _)).alloc (.cells _ _)).alloc (.cells _ _)) W1)
  simp only [sz_alloc] at t1 t2
  clear hW
  have HX := Lib.hid hx; clear hx
  have k0 := t0.1
  have l0 := at_lt t0 (by simp)
  go_wp2_with fail
  refine (great_calls p0 regs cs clen ccap I _ (rows_on2 HROWS.out HX.out)).mono ?_
  rintro e w2 ⟨⟨g, rfl⟩, hb⟩
  have t0' := at_ext t0 (by simp) hb; clear t0; have t0 := t0'; clear t0'
  have t1' := at_ext t1 (by simp) hb; clear t1; have t1 := t1'; clear t1'
  have t2' := at_ext t2 (by simp) hb; clear t2; have t2 := t2'; clear t2'
  have X2 := Lib.hid (ext_trans HX.out hb)
  clear hb k0 l0 HX
  cases g
  case true =>
    go_wp2_with (go_at_call 11; refine (awake10_calls _).mono ?_; rintro e w1 ⟨rfl, hb⟩; obtain ⟨r, d, rfl⟩ := ext_form hb; clear hb)
    go_ret
    exact ⟨rfl, by have hx := X2.out; repeat (first | exact ext_refl _ | assumption | refine ext_more' ?_ _ _ | refine ext_drew ?_ | refine ext_drewN ?_ _ | refine ext_alloc ?_ _)⟩
  case false =>
    have k1 := t1.1
    have l1 := at_lt t1 (by simp)
    go_upto_region 3 with fail
    go_wp2_with fail
    refine (told_calls ks klen kcap K _ (rows_on2 HK.out X2.out)).mono ?_
    rintro e w3 ⟨msT, capT, rfl, hb, hrT, hcT, hcT2⟩
    have hL3 := toldF_len K (min klen 300)
    replace hL3 : (toldF K (min klen 300)).length ≤ 300 := by omega
    generalize toldF K (min klen 300) = L at *
    have RT := Lib.hid hrT
    have X3 := Lib.hid (ext_trans X2.out hb)
    have t0' := at_ext t0 (by simp) hb; clear t0; have t0 := t0'; clear t0'
    have t1' := at_ext t1 (by simp) hb; clear t1; have t1 := t1'; clear t1'
    have t2' := at_ext t2 (by simp) hb; clear t2; have t2 := t2'; clear t2'
    clear hrT hb k1 l1 X2
    have k1 := t1.1
    have l1 := at_lt t1 (by simp)
    go_upto_region 5 with fail
    have k2 := t2.1
    have l2 := at_lt t2 (by simp)
    have hj2 := HJ2.out
    have hw2 := HW2.out
    obtain ⟨j1, hj1⟩ : ∃ j : Nat, x0' % ((L.length : Int) + 1) = j := ⟨(x0' % ((L.length : Int) + 1)).toNat, (Int.toNat_of_nonneg (Int.emod_nonneg _ (by omega))).symm⟩
    have pa : j1 ≤ L.length := by have := Int.emod_lt_of_pos x0' (show (0 : Int) < (L.length : Int) + 1 by omega); omega
    have pa' : (j1 : Int) ≤ capT := by omega
    have pa2 : j1 ≤ capT := by omega
    have pb2 : j2 ≤ scap := by omega
    have hw1 : IntKind.i64.wrap ((L.length : Int) + 1) = (L.length : Int) + 1 := IntWalk.i64_in _ (by omega)
    go_quiet ((go_at_call 16; exact Calls.quiet_of_same ((pick_calls _ _ _ (by omega) (by omega)).mono (fun e w2 hh => ⟨hh.1, hh.2.symm⟩))))
    clear k1 k2 l1 l2 hj1 hj2 hw1 hw2 HW2 HJ2 q2
    go_upto_region 6 with fail
    refine wp_at ?_
    intro W3 hW
    have e3 : Ext w3 W3 := by rw [hW]; repeat (first | exact ext_refl _ | assumption | refine ext_more' ?_ _ _ | refine ext_drew ?_ | refine ext_drewN ?_ _ | refine ext_alloc ?_ _)
    have t0' := at_ext t0 (by simp) e3; clear t0; have t0 := t0'; clear t0'
    have t1' := at_ext t1 (by simp) e3; clear t1; have t1 := t1'; clear t1'
    have RT' := Lib.hid (rows_on2 RT.out e3); clear RT; have RT := RT'; clear RT'
    have X3' := Lib.hid (ext_trans X3.out e3); clear X3; have X3 := X3'; clear X3'
    clear hW e3 t2
    have k0 := t0.1
    have k1 := t1.1
    have l0 := at_lt t0 (by simp)
    have l1 := at_lt t1 (by simp)
    go_wp2_with fail
    refine (run_callsC p0 regs arg 10000 cs msT ss clen ccap j1 capT j2 scap I (fun i => L.getD i default) S _ (rows_on2 HROWS.out X3.out) (ins_slice RT.out pa) (ins_slice (rows_on2 HS.out X3.out) (by omega)) (by omega)).mono ?_
    rintro e w4 ⟨ms4, cap4, rfl, hb, hr, hcap⟩
    generalize hq4 : runS p0 regs clen I (lookK (fun i => L.getD i default) j1) (sgF S j2) arg 10000 = y1 at *
    have HQ4 := Lib.hid hq4; clear hq4
    have CAP4 := Lib.hid hcap
    clear hcap k0 k1 l0 l1
    go_upto_region 7 with fail
    refine wp_at ?_
    intro W4 hW
    have e4' : Ext w4 W4 := by rw [hW]; repeat (first | exact ext_refl _ | assumption | refine ext_more' ?_ _ _ | refine ext_drew ?_ | refine ext_drewN ?_ _ | refine ext_alloc ?_ _)
    have e4 : Ext W3 W4 := ext_trans hb e4'
    have b4 := at_new (by rw [hW]; repeat (first | exact ext_refl _ | assumption | refine ext_more' ?_ _ _ | refine ext_drew ?_ | refine ext_drewN ?_ _ | refine ext_alloc ?_ _) : Ext (World.alloc w4 (.cells _ _)) W4)
    have R4 := Lib.hid (rows_on2 hr e4')
    clear hW hb hr e4'
    generalize w4.heap.size = p4 at *
    have t0' := at_ext t0 (by simp) e4; clear t0; have t0 := t0'; clear t0'
    have t1' := at_ext t1 (by simp) e4; clear t1; have t1 := t1'; clear t1'
    have RT' := Lib.hid (rows_on2 RT.out e4); clear RT; have RT := RT'; clear RT'
    have X4 := Lib.hid (ext_trans X3.out e4)
    have k0 := t0.1
    have k1 := t1.1
    have l0 := at_lt t0 (by simp)
    have l1 := at_lt t1 (by simp)
    go_wp2_with fail
    refine (run_callsC p0 regs arg 10000 cs msT ss clen ccap L.length capT m2 scap I (fun i => L.getD i default) S _ (rows_on2 HROWS.out X4.out) (ins_slice RT.out (Nat.le_refl _)) (ins_slice (rows_on2 HS.out X4.out) (by omega)) (by omega)).mono ?_
    rintro e w6 ⟨ms6, cap6, rfl, hb, hr, hcap⟩
    generalize hq6 : runS p0 regs clen I (lookK (fun i => L.getD i default) L.length) (sgF S m2) arg 10000 = y2 at *
    have HQ6 := Lib.hid hq6; clear hq6
    have CAP6 := Lib.hid hcap
    clear hcap k0 k1 l0 l1
    go_upto_region 8 with fail
    refine wp_at ?_
    intro W6 hW
    have e6' : Ext w6 W6 := by rw [hW]; repeat (first | exact ext_refl _ | assumption | refine ext_more' ?_ _ _ | refine ext_drew ?_ | refine ext_drewN ?_ _ | refine ext_alloc ?_ _)
    have e6 : Ext W4 W6 := ext_trans hb e6'
    have b6 := at_new (by rw [hW]; repeat (first | exact ext_refl _ | assumption | refine ext_more' ?_ _ _ | refine ext_drew ?_ | refine ext_drewN ?_ _ | refine ext_alloc ?_ _) : Ext (World.alloc w6 (.cells _ _)) W6)
    have R6 := Lib.hid (rows_on2 hr e6')
    clear hW hb hr e6'
    generalize w6.heap.size = p6 at *
    have t0' := at_ext t0 (by simp) e6; clear t0; have t0 := t0'; clear t0'
    have t1' := at_ext t1 (by simp) e6; clear t1; have t1 := t1'; clear t1'
    have RT' := Lib.hid (rows_on2 RT.out e6); clear RT; have RT := RT'; clear RT'
    have X6 := Lib.hid (ext_trans X4.out e6)
    have b4' := at_ext b4 (by simp) e6; clear b4; have b4 := b4'; clear b4'
    have R4' := Lib.hid (rows_on2 R4.out e6); clear R4; have R4 := R4'; clear R4'
    clear e4 e6 X3 X4 t0 t1
    have k4 := b4.1
    have k6 := b6.1
    have l4 := at_lt b4 (by simp)
    have l6 := at_lt b6 (by simp)
    by_cases hc : checkN p0 regs clen I 20 = true
    · have he1 : runE p0 regs clen I 10000 = 0 := by unfold runE; rw [if_pos hc, if_pos ⟨by omega, by omega⟩]
      have E1 : y1 = runP I (lookK (fun i => L.getD i default) j1) (sgF S j2) 10000 (x0 arg) := by rw [← HQ4.out]; unfold runS; rw [if_pos hc, if_pos ⟨by omega, by omega⟩]; rfl
      have E2 : y2 = runP I (lookK (fun i => L.getD i default) L.length) (sgF S m2) 10000 (x0 arg) := by rw [← HQ6.out]; unfold runS; rw [if_pos hc, if_pos ⟨by omega, by omega⟩]; rfl
      obtain ⟨⟨G1, G2, G3, G4⟩, G5⟩ := grows_plain I (fun i => L.getD i default) S arg pa pb E1 E2
      have hle := G1.length_le
      have a1 : ¬ (y2.cmds.length < y1.cmds.length) := by omega
      have a1' : ((y1.cmds.length : Nat) : Int) ≤ y2.cmds.length := by omega
      have a2 : ¬ (y2.steps < y1.steps) := by omega
      have a2' : ((y1.steps : Nat) : Int) ≤ y2.steps := by omega
      have a3 : ¬ (y2.sig < y1.sig) := by omega
      have a3' : ((y1.sig : Nat) : Int) ≤ y2.sig := by omega
      have hcap : y1.cmds.length ≤ cap6 := by have := CAP6.out; omega
      have hcap2 : ((y1.cmds.length : Nat) : Int) ≤ cap6 := by omega
      have R7 := Lib.hid (rows_same (ins_slice R6.out hle) (fun i hi => by rw [getD_prefix G1 hi]))
      have K4 := box_all l4 k4
      have K6 := box_all l6 k6
      clear hc E1 E2 HQ4 HQ6 G1 G2 G3 hle k4 k6
      go_upto_region 10 with fail
      go_region_held3 (fun w' => Ext W6 w') (repeat (first | exact ext_refl _ | assumption | refine ext_more' ?_ _ _ | refine ext_drew ?_ | refine ext_drewN ?_ _ | refine ext_alloc ?_ _)) ((go_at_call 18; refine (samecmds_true ms4 ms6 _ cap4 cap6 (fun i => y1.cmds.getD i default) _ (by omega) (rows_on2 R4.out (by repeat (first | exact ext_refl _ | assumption | refine ext_more' ?_ _ _ | refine ext_drew ?_ | refine ext_drewN ?_ _ | refine ext_alloc ?_ _))) (rows_on2 R7.out (by repeat (first | exact ext_refl _ | assumption | refine ext_more' ?_ _ _ | refine ext_drew ?_ | refine ext_drewN ?_ _ | refine ext_alloc ?_ _)))).mono ?_; rintro e w1 ⟨rfl, hb⟩; obtain ⟨r, d, rfl⟩ := ext_form hb; clear hb))
      all_goals
        refine then_at ?_
        intro W7 hW
        have e7 : Ext W6 W7 := by rw [hW]; repeat (first | exact ext_refl _ | assumption | refine ext_more' ?_ _ _ | refine ext_drew ?_ | refine ext_drewN ?_ _ | refine ext_alloc ?_ _)
        have k4 := K4 _ e7
        have k6 := K6 _ e7
        have X7 := Lib.hid (ext_trans X6.out e7)
        have R4' := Lib.hid (rows_on2 R4.out e7)
        have R6' := Lib.hid (rows_on2 R6.out e7)
        have RT' := Lib.hid (rows_on2 RT.out e7)
        have l4' := Nat.lt_of_lt_of_le l4 e7.size
        have l6' := Nat.lt_of_lt_of_le l6 e7.size
        clear hW e7 K4 K6 R4 R6 R7 RT l4 l6 b4 b6 X6 a1 a2 a3
        rcases G5 with ⟨hst, hyy⟩ | ⟨hst, hno⟩ | ⟨hst, hsig⟩
        · subst hyy
          clear a1' a2' a3' hcap hcap2
          rcases hst with hst | hst | hst
          · have s1 : (y2.st == 1) = true := by rw [hst]; rfl
            have s4 : (y2.st == 4) = false := by rw [hst]; rfl
            have s5 : (y2.st == 5) = false := by rw [hst]; rfl
            have s2 : (y2.st == 2) = false := by rw [hst]; rfl
            have s3 : (y2.st != 3) = true := by rw [hst]; rfl
            clear hst
            go_wp2_with (first | (go_at_call 14; refine (same_true _ _ _ _ _ _ ms4 ms6 _ cap4 cap6 (fun i => y2.cmds.getD i default) _ (by omega) (rows_on2 R4'.out (by repeat (first | exact ext_refl _ | assumption | refine ext_more' ?_ _ _ | refine ext_drew ?_ | refine ext_drewN ?_ _ | refine ext_alloc ?_ _))) (rows_on2 R6'.out (by repeat (first | exact ext_refl _ | assumption | refine ext_more' ?_ _ _ | refine ext_drew ?_ | refine ext_drewN ?_ _ | refine ext_alloc ?_ _)))).mono ?_; rintro e w1 ⟨rfl, hb⟩; obtain ⟨r, d, rfl⟩ := ext_form hb; clear hb) | (go_at_call 11; refine (awake10_calls _).mono ?_; rintro e w1 ⟨rfl, hb⟩; obtain ⟨r, d, rfl⟩ := ext_form hb; clear hb))
            go_ret
            exact ⟨rfl, by have hx := X7.out; repeat (first | exact ext_refl _ | assumption | refine ext_more' ?_ _ _ | refine ext_drew ?_ | refine ext_drewN ?_ _ | refine ext_alloc ?_ _)⟩
          · have s1 : (y2.st == 1) = false := by rw [hst]; rfl
            have s4 : (y2.st == 4) = true := by rw [hst]; rfl
            have s5 : (y2.st == 5) = false := by rw [hst]; rfl
            have s2 : (y2.st == 2) = false := by rw [hst]; rfl
            have s3 : (y2.st != 3) = true := by rw [hst]; rfl
            clear hst
            go_wp2_with (first | (go_at_call 14; refine (same_true _ _ _ _ _ _ ms4 ms6 _ cap4 cap6 (fun i => y2.cmds.getD i default) _ (by omega) (rows_on2 R4'.out (by repeat (first | exact ext_refl _ | assumption | refine ext_more' ?_ _ _ | refine ext_drew ?_ | refine ext_drewN ?_ _ | refine ext_alloc ?_ _))) (rows_on2 R6'.out (by repeat (first | exact ext_refl _ | assumption | refine ext_more' ?_ _ _ | refine ext_drew ?_ | refine ext_drewN ?_ _ | refine ext_alloc ?_ _)))).mono ?_; rintro e w1 ⟨rfl, hb⟩; obtain ⟨r, d, rfl⟩ := ext_form hb; clear hb) | (go_at_call 11; refine (awake10_calls _).mono ?_; rintro e w1 ⟨rfl, hb⟩; obtain ⟨r, d, rfl⟩ := ext_form hb; clear hb))
            go_ret
            exact ⟨rfl, by have hx := X7.out; repeat (first | exact ext_refl _ | assumption | refine ext_more' ?_ _ _ | refine ext_drew ?_ | refine ext_drewN ?_ _ | refine ext_alloc ?_ _)⟩
          · have s1 : (y2.st == 1) = false := by rw [hst]; rfl
            have s4 : (y2.st == 4) = false := by rw [hst]; rfl
            have s5 : (y2.st == 5) = true := by rw [hst]; rfl
            have s2 : (y2.st == 2) = false := by rw [hst]; rfl
            have s3 : (y2.st != 3) = true := by rw [hst]; rfl
            clear hst
            go_wp2_with (first | (go_at_call 14; refine (same_true _ _ _ _ _ _ ms4 ms6 _ cap4 cap6 (fun i => y2.cmds.getD i default) _ (by omega) (rows_on2 R4'.out (by repeat (first | exact ext_refl _ | assumption | refine ext_more' ?_ _ _ | refine ext_drew ?_ | refine ext_drewN ?_ _ | refine ext_alloc ?_ _))) (rows_on2 R6'.out (by repeat (first | exact ext_refl _ | assumption | refine ext_more' ?_ _ _ | refine ext_drew ?_ | refine ext_drewN ?_ _ | refine ext_alloc ?_ _)))).mono ?_; rintro e w1 ⟨rfl, hb⟩; obtain ⟨r, d, rfl⟩ := ext_form hb; clear hb) | (go_at_call 11; refine (awake10_calls _).mono ?_; rintro e w1 ⟨rfl, hb⟩; obtain ⟨r, d, rfl⟩ := ext_form hb; clear hb))
            go_ret
            exact ⟨rfl, by have hx := X7.out; repeat (first | exact ext_refl _ | assumption | refine ext_more' ?_ _ _ | refine ext_drew ?_ | refine ext_drewN ?_ _ | refine ext_alloc ?_ _)⟩
        · have s1 : (y1.st == 1) = false := by rw [hst]; rfl
          have s4 : (y1.st == 4) = false := by rw [hst]; rfl
          have s5 : (y1.st == 5) = false := by rw [hst]; rfl
          have s2 : (y1.st == 2) = true := by rw [hst]; rfl
          have s3 : (y1.st != 3) = true := by rw [hst]; rfl
          have HNO := Lib.hid hno
          have K4 := Lib.hid (box_all l4' k4)
          have HX0 := Lib.hid (ext_refl W7)
          clear hst hno a1' a2' a3' hcap hcap2 G4
          go_wp2_with fail
          go_loopg [137] j1 (fun g k wr => ∃ (i : Nat), k = .int .i64 i ∧ g + i = j1 ∧ Ext W7 wr)
          case atStart => exact ⟨0, rfl, by omega, HX0.out⟩
          case round =>
            clear k4 HX0
            obtain ⟨i, rfl, hgi, hx⟩ := hrel
            have k4 := K4.out _ hx
            have l4r := Nat.lt_of_lt_of_le l4' hx.size
            have HX := Lib.hid hx; clear hx
            by_cases hi : i < j1
            · obtain ⟨b, o, rfl, hb, c0, c1, c2⟩ := kno_cells RT'.out HX.out (show i < L.length by omega)
              have hne : ((L.getD i default).n == y1.on) = false := by have := HNO.out i hi; simpa using this
              generalize L.getD i default = kk at *
              have hi3 : (i : Int) < j1 := by omega
              go_wp2_with fail
              go_roundg (gk - 1)
              case measure => omega
              case rel => exact ⟨i + 1, by go_num, by omega, by have hx := HX.out; repeat (first | exact ext_refl _ | assumption | refine ext_more' ?_ _ _ | refine ext_drew ?_ | refine ext_drewN ?_ _ | refine ext_alloc ?_ _)⟩
            · have hi3 : ¬ ((i : Int) < j1) := by omega
              go_wp2_with (go_at_call 11; refine (awake10_calls _).mono ?_; rintro e w1 ⟨rfl, hb⟩; obtain ⟨r, d, rfl⟩ := ext_form hb; clear hb)
              go_ret
              exact ⟨rfl, by have hx := ext_trans X7.out HX.out; repeat (first | exact ext_refl _ | assumption | refine ext_more' ?_ _ _ | refine ext_drew ?_ | refine ext_drewN ?_ _ | refine ext_alloc ?_ _)⟩
        · have s1 : (y1.st == 1) = false := by rw [hst]; rfl
          have s4 : (y1.st == 4) = false := by rw [hst]; rfl
          have s5 : (y1.st == 5) = false := by rw [hst]; rfl
          have s2 : (y1.st == 2) = false := by rw [hst]; rfl
          have s3 : (y1.st != 3) = false := by rw [hst]; rfl
          subst hsig
          clear hst a1' a2' a3' hcap hcap2 G4
          go_wp2_with (go_at_call 11; refine (awake10_calls _).mono ?_; rintro e w1 ⟨rfl, hb⟩; obtain ⟨r, d, rfl⟩ := ext_form hb; clear hb)
          go_ret
          exact ⟨rfl, by have hx := X7.out; repeat (first | exact ext_refl _ | assumption | refine ext_more' ?_ _ _ | refine ext_drew ?_ | refine ext_drewN ?_ _ | refine ext_alloc ?_ _)⟩
    · have he1 : runE p0 regs clen I 10000 = 100 := by unfold runE; rw [if_neg hc]
      clear hc
      go_wp2_with (go_at_call 11; refine (awake10_calls _).mono ?_; rintro e w1 ⟨rfl, hb⟩; obtain ⟨r, d, rfl⟩ := ext_form hb; clear hb)
      go_ret
      exact ⟨rfl, by have hx := X6.out; repeat (first | exact ext_refl _ | assumption | refine ext_more' ?_ _ _ | refine ext_drew ?_ | refine ext_drewN ?_ _ | refine ext_alloc ?_ _)⟩
end Go.Proofs.Ytpfkpdimjljeaaa

/- RunFuel. -/
import Derived.Test.YtpfkpdimjljeaaaH10d
import Derived.Test.YtpfkpdimjljeaaaP10a
import Derived.Test.YtpfkpdimjljeaaaK10x
namespace Go.Proofs.Ytpfkpdimjljeaaa
open Go.RowKit
set_option linter.unusedVariables false
set_option linter.unusedSimpArgs false

theorem rows_ne_giv {w : World} {s : Option Addr} {len q : Nat} {C : Nat → Cmd} {arg f : Int} {k1 k2 : Option Addr} {n1 c1 n2 c2 : Nat} (h : Rows_ w s len 5 (fun i => cmdC (C i))) (hq : ∀ i, w.cell? ⟨q, i, none⟩ = (#[.int .i64 arg, .slice k1 n1 c1, .slice k2 n2 c2, .int .i64 f] : Array Value)[i]?) (hl : 0 < len) {b o : Nat} (hs : s = some ⟨b, o, none⟩) : b ≠ q := by
  intro hbe
  obtain ⟨b', o', hs', _, hr⟩ := h hl
  rw [hs] at hs'; injection hs' with e1; injection e1 with e1 e2
  have h1 := (hr 0 hl).2 1 (by decide)
  rw [← e1, hbe, hq] at h1
  generalize o' + (0 * 5 + 1) = j at h1
  rcases j with _ | _ | _ | _ | j
  all_goals simp [cmdC] at h1

theorem rows_same {w : World} {s : Option Addr} {len n : Nat} {f g : Nat → List Value} (h : Rows_ w s len n f) (hf : ∀ i, i < len → f i = g i) : Rows_ w s len n g := fun hl => by
  obtain ⟨b, o, hs, hb, hr⟩ := h hl
  exact ⟨b, o, hs, hb, fun i hi => by rw [← hf i hi]; exact hr i hi⟩
theorem pick_bd (x n : Int) (h : 0 < n) : 0 ≤ x % n ∧ x % n < n := ⟨Int.emod_nonneg x (by omega), Int.emod_lt_of_pos x h⟩
theorem mn_mx_bd (a b : Int) (ha : 0 ≤ a) (hb : 0 ≤ b) (ha' : a ≤ 10000) (hb' : b ≤ 10000) : 0 ≤ mn a b ∧ mn a b ≤ mx a b ∧ mx a b ≤ 10000 := by unfold mn mx; (repeat' split) <;> omega
set_option maxRecDepth 100000 in
set_option maxHeartbeats 8000000 in
theorem fuel_walk (p0 : ByteArray) (regs arg fuel : Int) (cs ks ss : Option Addr) (clen ccap klen kcap slen scap : Nat) (I : Nat → Ins) (K : Nat → Kno) (S : Nat → Int) (x0' x1' : Int) (w : World) (hrows : Rows_ w cs clen 6 (fun i => insC (I i))) (hK : Rows_ w ks klen 3 (fun i => knoC (K i))) (hS : Rows_ w ss slen 1 (fun i => [.int .i64 (S i)])) (hk1 : klen ≤ kcap) (hs1 : slen ≤ scap) :
    Calls Try.prog 5 #[.agg #[.string p0, .int .i64 regs, .slice cs clen ccap], .agg #[.int .i64 arg, .slice ks klen kcap, .slice ss slen scap, .int .i64 fuel], .agg #[.int .i64 x0', .int .i64 x1']] w fun e w' => e = .returned (.bool true) ∧ Ext w w' := by
  have HROWS := Lib.hid hrows; have HK := Lib.hid hK; have HS := Lib.hid hS
  clear hrows hK hS
  have pa := pick_bd x0' 10001 (by decide)
  have pb := pick_bd x1' 10001 (by decide)
  go_enter Try.func5, Try.ntmps5
  go_upto_region 1 with fail
  refine wp_at ?_
  intro W1 hW
  have hx : Ext w W1 := by rw [hW]; repeat (first | exact ext_refl _ | assumption | refine ext_more' ?_ _ _ | refine ext_drew ?_ | refine ext_drewN ?_ _ | refine ext_alloc ?_ _)
  have t0 := at_new (by rw [hW]; repeat (first | exact ext_refl _ | assumption | refine ext_more' ?_ _ _ | refine ext_drew ?_ | refine ext_drewN ?_ _ | refine ext_alloc ?_ _) : Ext (World.alloc w (.cells _ _)) W1)
  have t1 := at_new (by rw [hW]; repeat (first | exact ext_refl _ | assumption | refine ext_more' ?_ _ _ | refine ext_drew ?_ | refine ext_drewN ?_ _ | refine ext_alloc ?_ _) : Ext ((World.alloc w (.cells _ _)).alloc (.cells _ _)) W1)
  have t2 := at_new (by rw [hW]; repeat (first | exact ext_refl _ | assumption | refine ext_more' ?_ _ _ | refine ext_drew ?_ | refine ext_drewN ?_ _ | refine ext_alloc ?_ _) : Ext (((World.alloc w (.cells _ _)).alloc (.cells _ _)).alloc (.cells _ _)) W1)
  simp only [sz_alloc] at t1 t2
  clear hW
  have HX := Lib.hid hx; clear hx
  have k0 := t0.1
  have l0 := at_lt t0 (by simp)
  go_wp2_with fail
  refine (great_calls p0 regs cs clen ccap I _ (rows_on2 HROWS.out HX.out)).mono ?_
  rintro e w2 ⟨⟨g, rfl⟩, hb⟩
  have t0' := at_ext t0 (by simp) hb; clear t0; have t0 := t0'; clear t0'
  have t1' := at_ext t1 (by simp) hb; clear t1; have t1 := t1'; clear t1'
  have t2' := at_ext t2 (by simp) hb; clear t2; have t2 := t2'; clear t2'
  have X2 := Lib.hid (ext_trans HX.out hb)
  clear hb k0 l0 HX
  cases g
  case true =>
    go_wp2_with (go_at_call 11; refine (awake10_calls _).mono ?_; rintro e w1 ⟨rfl, hb⟩; obtain ⟨r, d, rfl⟩ := ext_form hb; clear hb)
    go_ret
    exact ⟨rfl, by have hx := X2.out; repeat (first | exact ext_refl _ | assumption | refine ext_more' ?_ _ _ | refine ext_drew ?_ | refine ext_drewN ?_ _ | refine ext_alloc ?_ _)⟩
  case false =>
    have k2 := t2.1
    have l2 := at_lt t2 (by simp)
    go_upto_region 3 with fail
    go_quiet ((go_at_call 16; exact Calls.quiet_of_same ((pick_calls _ _ _ (by decide) (by decide)).mono (fun e w2 hh => ⟨hh.1, hh.2.symm⟩))))
    clear k2 l2
    generalize x0' % 10001 = a at *
    generalize x1' % 10001 = b at *
    obtain ⟨m0, m1, m2⟩ := mn_mx_bd a b pa.1 pb.1 (by omega) (by omega)
    have k1 := t1.1
    have f1 := t1.2
    have l1 := at_lt t1 (by simp)
    go_upto_region 5 with fail
    refine wp_at ?_
    intro W2 hW
    have g2 : Chg (fun k => k = w.heap.size + 1) w2 W2 := by rw [hW]; exact chg_put (Chg.drewN (Chg.refl _ _) nq)
    have s1 : At W2 (w.heap.size + 1) #[.int .i64 arg, .slice ks klen kcap, .slice ss slen scap, .int .i64 (mn a b)] := by rw [hW]; exact at_put (show At (w2.drewN nq) _ _ from t1) (by simp) rfl
    have s0 := at_chg t0 (by simp) g2 (by omega)
    have X3 := Lib.hid (ext_chg X2.out g2 (fun i h => by omega))
    clear hW g2 k1 f1 l1 t0 t1 t2 X2
    have k0 := s0.1
    have k1 := s1.1
    have l0 := at_lt s0 (by simp)
    have l1 := at_lt s1 (by simp)
    go_wp2_with fail
    refine (of_calls p0 regs arg (mn a b) cs ks ss clen ccap klen kcap slen scap I K S _ (rows_on2 HROWS.out X3.out) (rows_on2 HK.out X3.out) (rows_on2 HS.out X3.out) hk1 hs1).mono ?_
    rintro e w3 ⟨ms3, cap3, rfl, hb, hr, hcap⟩
    generalize hq1 : runS p0 regs clen I (lookK K (min klen 300)) (sgF S (min slen 300)) arg (mn a b) = y1 at *
    have HQ1 := Lib.hid hq1; clear hq1
    have CAP1 := Lib.hid hcap
    clear hcap k0 k1 l0 l1
    go_upto_region 6 with fail
    refine wp_at ?_
    intro W3 hW
    have e3' : Ext w3 W3 := by rw [hW]; repeat (first | exact ext_refl _ | assumption | refine ext_more' ?_ _ _ | refine ext_drew ?_ | refine ext_drewN ?_ _ | refine ext_alloc ?_ _)
    have e3 : Ext W2 W3 := ext_trans hb e3'
    have b1 := at_new (by rw [hW]; repeat (first | exact ext_refl _ | assumption | refine ext_more' ?_ _ _ | refine ext_drew ?_ | refine ext_drewN ?_ _ | refine ext_alloc ?_ _) : Ext (World.alloc w3 (.cells _ _)) W3)
    have np1 : w.heap.size + 1 < w3.heap.size := by have := at_lt s1 (by simp); have := hb.size; omega
    have R1 := Lib.hid (rows_on2 hr e3')
    clear hW hb hr e3'
    generalize w3.heap.size = p1 at *
    have s0' := at_ext s0 (by simp) e3
    have s1' := at_ext s1 (by simp) e3
    have X4 := Lib.hid (ext_trans X3.out e3)
    clear s0 s1 X3 e3
    have k1 := s1'.1
    have f1 := s1'.2
    have l1 := at_lt s1' (by simp)
    go_upto_region 7 with fail
    refine wp_at ?_
    intro W4 hW
    have g4 : Chg (fun k => k = w.heap.size + 1) W3 W4 := by rw [hW]; exact chg_put (Chg.refl _ _)
    have s1 : At W4 (w.heap.size + 1) #[.int .i64 arg, .slice ks klen kcap, .slice ss slen scap, .int .i64 (mx a b)] := by rw [hW]; exact at_put s1' (by simp) rfl
    have s0 := at_chg s0' (by simp) g4 (by omega)
    have X5 := Lib.hid (ext_chg X4.out g4 (fun i h => by omega))
    have b1' := at_chg b1 (by simp) g4 (by omega)
    have R1' := Lib.hid (rows_chgS R1.out g4 (fun hl b o hs => rows_ne_giv R1.out (s1'.1) hl hs))
    clear hW g4 k1 f1 l1 s0' s1' X4 b1 R1
    have k0 := s0.1
    have k1 := s1.1
    have l0 := at_lt s0 (by simp)
    have l1 := at_lt s1 (by simp)
    go_wp2_with fail
    refine (of_calls p0 regs arg (mx a b) cs ks ss clen ccap klen kcap slen scap I K S _ (rows_on2 HROWS.out X5.out) (rows_on2 HK.out X5.out) (rows_on2 HS.out X5.out) hk1 hs1).mono ?_
    rintro e w5 ⟨ms5, cap5, rfl, hb, hr, hcap⟩
    generalize hq2 : runS p0 regs clen I (lookK K (min klen 300)) (sgF S (min slen 300)) arg (mx a b) = y2 at *
    have HQ2 := Lib.hid hq2; clear hq2
    have CAP2 := Lib.hid hcap
    clear hcap k0 k1 l0 l1
    go_upto_region 8 with fail
    refine wp_at ?_
    intro W5 hW
    have e5' : Ext w5 W5 := by rw [hW]; repeat (first | exact ext_refl _ | assumption | refine ext_more' ?_ _ _ | refine ext_drew ?_ | refine ext_drewN ?_ _ | refine ext_alloc ?_ _)
    have e5 : Ext W4 W5 := ext_trans hb e5'
    have b2 := at_new (by rw [hW]; repeat (first | exact ext_refl _ | assumption | refine ext_more' ?_ _ _ | refine ext_drew ?_ | refine ext_drewN ?_ _ | refine ext_alloc ?_ _) : Ext (World.alloc w5 (.cells _ _)) W5)
    have np2 : w.heap.size + 1 < w5.heap.size := by have := at_lt s1 (by simp); have := hb.size; omega
    have R2 := Lib.hid (rows_on2 hr e5')
    clear hW hb hr e5'
    generalize w5.heap.size = p2 at *
    have b1 := at_ext b1' (by simp) e5
    have R1 := Lib.hid (rows_on2 R1'.out e5)
    have X6 := Lib.hid (ext_trans X5.out e5)
    clear b1' R1' X5 e5 s0 s1
    have k1 := b1.1
    have k2 := b2.1
    have l1 := at_lt b1 (by simp)
    have l2 := at_lt b2 (by simp)
    by_cases hc : checkN p0 regs clen I 20 = true
    · have he1 : runE p0 regs clen I (mn a b) = 0 := by unfold runE; rw [if_pos hc, if_pos ⟨m0, by omega⟩]
      have he2 : runE p0 regs clen I (mx a b) = 0 := by unfold runE; rw [if_pos hc, if_pos ⟨by omega, m2⟩]
      obtain ⟨_, _, c1, c2, hfit, hlast⟩ := check_facts hc
      have E1 : y1 = runP I (lookK K (min klen 300)) (sgF S (min slen 300)) (mn a b).toNat (x0 arg) := by rw [← HQ1.out]; unfold runS; rw [if_pos hc, if_pos ⟨m0, by omega⟩]
      have E2 : y2 = runP I (lookK K (min klen 300)) (sgF S (min slen 300)) (mx a b).toNat (x0 arg) := by rw [← HQ2.out]; unfold runS; rw [if_pos hc, if_pos ⟨by omega, m2⟩]
      have FU := runP_fuel I (lookK K (min klen 300)) (sgF S (min slen 300)) regs clen hfit hlast (mn a b).toNat (mx a b).toNat (x0 arg) (by omega) (Int.le_refl 0) (by show (0 : Int) < clen; omega) (Nat.zero_le _)
      rw [← E1, ← E2] at FU
      obtain ⟨F1, F2, F3, F4⟩ := FU
      have F3' : y1.steps ≤ (mn a b).toNat := by have : (x0 arg).steps = 0 := rfl; omega
      clear hc hfit hlast E1 E2 HQ1 HQ2 F3
      by_cases h4 : y1.st = 4
      · obtain ⟨G1, G2, G3⟩ := F2 h4
        have G1' : y1.steps = (mn a b).toNat := by have : (x0 arg).steps = 0 := rfl; omega
        have h4b : (y1.st != 4) = false := by simp [h4]
        have heq : (((y1.steps : Nat) : Int) == mn a b) = true := by simp; omega
        have hge : ((y1.steps : Nat) : Int) ≤ y2.steps := by omega
        have hle := G3.length_le
        have hle2 : ((y1.cmds.length : Nat) : Int) ≤ y2.cmds.length := by omega
        have hcap : y1.cmds.length ≤ cap5 := by have := CAP2.out; omega
        have hcap2 : ((y1.cmds.length : Nat) : Int) ≤ cap5 := by omega
        have R3 := Lib.hid (rows_same (ins_slice R2.out hle) (fun i hi => by rw [getD_prefix G3 hi]))
        clear F1 F2 h4 G1 G1' G3
        go_upto_region 12 with fail
        have K1 := box_all l1 k1
        have K2 := box_all l2 k2
        go_region_held3 (fun w' => Ext W5 w') (repeat (first | exact ext_refl _ | assumption | refine ext_more' ?_ _ _ | refine ext_drew ?_ | refine ext_drewN ?_ _ | refine ext_alloc ?_ _)) (first | (go_at_call 18; refine (samecmds_true ms3 ms5 _ cap3 cap5 (fun i => y1.cmds.getD i default) _ (by omega) (rows_on2 R1.out (by repeat (first | exact ext_refl _ | assumption | refine ext_more' ?_ _ _ | refine ext_drew ?_ | refine ext_drewN ?_ _ | refine ext_alloc ?_ _))) (rows_on2 R3.out (by repeat (first | exact ext_refl _ | assumption | refine ext_more' ?_ _ _ | refine ext_drew ?_ | refine ext_drewN ?_ _ | refine ext_alloc ?_ _)))).mono ?_; rintro e w1 ⟨rfl, hb⟩; obtain ⟨r, d, rfl⟩ := ext_form hb; clear hb) | (go_at_call 11; refine (awake10_calls _).mono ?_; rintro e w1 ⟨rfl, hb⟩; obtain ⟨r, d, rfl⟩ := ext_form hb; clear hb))
        all_goals
          go_wp2
          go_ret
          exact ⟨rfl, by have hx := X6.out; repeat (first | exact ext_refl _ | assumption | refine ext_more' ?_ _ _ | refine ext_drew ?_ | refine ext_drewN ?_ _ | refine ext_alloc ?_ _)⟩
      · obtain rfl : y2 = y1 := F1 h4
        have h4b : (y2.st != 4) = true := by simp [h4]
        have hst : ((y2.steps : Nat) : Int) ≤ mn a b := by omega
        clear F1 F2 h4
        go_wp2_with (first | (go_at_call 14; refine (same_true _ _ _ _ _ _ ms3 ms5 _ cap3 cap5 (fun i => y2.cmds.getD i default) _ (by omega) (rows_on2 R1.out (by repeat (first | exact ext_refl _ | assumption | refine ext_more' ?_ _ _ | refine ext_drew ?_ | refine ext_drewN ?_ _ | refine ext_alloc ?_ _))) (rows_on2 R2.out (by repeat (first | exact ext_refl _ | assumption | refine ext_more' ?_ _ _ | refine ext_drew ?_ | refine ext_drewN ?_ _ | refine ext_alloc ?_ _)))).mono ?_; rintro e w1 ⟨rfl, hb⟩; obtain ⟨r, d, rfl⟩ := ext_form hb; clear hb) | (go_at_call 11; refine (awake10_calls _).mono ?_; rintro e w1 ⟨rfl, hb⟩; obtain ⟨r, d, rfl⟩ := ext_form hb; clear hb))
        all_goals
          go_ret
          exact ⟨rfl, by have hx := X6.out; repeat (first | exact ext_refl _ | assumption | refine ext_more' ?_ _ _ | refine ext_drew ?_ | refine ext_drewN ?_ _ | refine ext_alloc ?_ _)⟩
    · have he1 : runE p0 regs clen I (mn a b) = 100 := by unfold runE; rw [if_neg hc]
      have he2 : runE p0 regs clen I (mx a b) = 100 := by unfold runE; rw [if_neg hc]
      clear hc
      go_wp2_with (go_at_call 11; refine (awake10_calls _).mono ?_; rintro e w1 ⟨rfl, hb⟩; obtain ⟨r, d, rfl⟩ := ext_form hb; clear hb)
      go_ret
      exact ⟨rfl, by have hx := X6.out; repeat (first | exact ext_refl _ | assumption | refine ext_more' ?_ _ _ | refine ext_drew ?_ | refine ext_drewN ?_ _ | refine ext_alloc ?_ _)⟩
end Go.Proofs.Ytpfkpdimjljeaaa

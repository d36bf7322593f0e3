/- run.Run, and what the commands' slice may hold. -/
import Derived.Test.YtpfkpdimjljeaaaU10q
namespace Go.Proofs.Ytpfkpdimjljeaaa
open Go.RowKit
set_option linter.unusedVariables false
set_option linter.unusedSimpArgs false

def RunPostC (w : World) (y : Rs) (er : Int) (e : Ending) (w' : World) : Prop :=
  ∃ ms cap, e = .returned (.tuple #[.agg #[.int .i64 y.st, .int .i64 y.os, .int .i64 y.ov, .int .i64 y.on, .slice ms y.cmds.length cap, .int .i64 y.sig, .int .i64 y.steps], .int .i64 er]) ∧ Ext w w' ∧ Rows_ w' ms y.cmds.length 5 (fun i => cmdC (y.cmds.getD i default)) ∧ y.cmds.length ≤ cap ∧ cap ≤ maxLen
theorem RunPostC.weak {w w' : World} {y : Rs} {er : Int} {e : Ending} (h : RunPostC w y er e w') : RunPost w y er e w' := by
  obtain ⟨ms, cap, h1, h2, h3, _⟩ := h
  exact ⟨ms, cap, h1, h2, h3⟩
theorem owns_cap {w : World} {base cap : Nat} {ms : Option Addr} {l : List Cmd} (h : w.ownsRow base 55 5 (.slice ms l.length cap) l.length (cmdCs l)) : l.length ≤ cap ∧ cap ≤ maxLen := by
  rcases h.2 with ⟨h1, h0⟩ | ⟨g, cap', cur, hv, hb, hg, h1, h2, h3, h4⟩
  · injection h1 with e1 e2 e3
    rw [h0, e3]; exact ⟨Nat.le_refl _, Nat.zero_le _⟩
  · injection hv with e1 e2 e3
    rw [e3]; exact ⟨h1, h2⟩
set_option maxRecDepth 100000 in
set_option maxHeartbeats 8000000 in
theorem run_badC (p0 : ByteArray) (regs arg fuel : Int) (cs ks ss : Option Addr) (clen ccap klen kcap slen scap : Nat) (I : Nat → Ins) (K : Nat → Kno) (S : Nat → Int) (w : World) (hrows : Rows_ w cs clen 6 (fun i => insC (I i))) (hK : Rows_ w ks klen 3 (fun i => knoC (K i))) (hS : Rows_ w ss slen 1 (fun i => [.int .i64 (S i)])) (hkl : klen ≤ 1000000) (hc : checkN p0 regs clen I 20 = false) :
    Calls Try.prog 17 #[.agg #[.string p0, .int .i64 regs, .slice cs clen ccap], .int .i64 arg, .slice ks klen kcap, .slice ss slen scap, .int .i64 fuel] w (RunPostC w z0 100) := by
  have HC := Lib.hid (show checkE p0 regs clen I 20 = 100 by unfold checkE; rw [hc]; rfl)
  have HROWS := Lib.hid (show ∀ w', Ext w w' → Rows_ w' cs clen 6 (fun i => insC (I i)) from fun w' h => rows_on2 hrows h)
  clear hc hrows hK hS hkl
  go_enter Try.func17, Try.ntmps17
  go_wp2_with (go_at_call 22; refine (check_calls _ _ _ _ _ I _ _ (HROWS.out _ (by repeat (first | exact ext_refl _ | assumption | refine ext_more' ?_ _ _ | refine ext_drew ?_ | refine ext_drewN ?_ _ | refine ext_alloc ?_ _)))).mono ?_; rw [HC.out]; rintro e w1 ⟨rfl, hb⟩; obtain ⟨r, d, rfl⟩ := ext_form hb; clear hb)
  refine bodyPost_ret (by simp [results, Try.results17, go_sem]; rfl) rfl ?_
  exact ⟨none, 0, rfl, by repeat (first | exact ext_refl _ | assumption | refine ext_more' ?_ _ _ | refine ext_drew ?_ | refine ext_drewN ?_ _ | refine ext_alloc ?_ _), fun h => absurd h (by decide), Nat.le_refl _, Nat.zero_le _⟩
set_option maxRecDepth 100000 in
set_option maxHeartbeats 8000000 in
theorem run_walkC (p0 : ByteArray) (regs arg fuel : Int) (cs ks ss : Option Addr) (clen ccap klen kcap slen scap : Nat) (I : Nat → Ins) (K : Nat → Kno) (S : Nat → Int) (w : World) (hrows : Rows_ w cs clen 6 (fun i => insC (I i))) (hK : Rows_ w ks klen 3 (fun i => knoC (K i))) (hS : Rows_ w ss slen 1 (fun i => [.int .i64 (S i)])) (hkl : klen ≤ 1000000) (hc : checkN p0 regs clen I 20 = true) (f0 : 0 ≤ fuel) (f1 : fuel ≤ 10000) :
    Calls Try.prog 17 #[.agg #[.string p0, .int .i64 regs, .slice cs clen ccap], .int .i64 arg, .slice ks klen kcap, .slice ss slen scap, .int .i64 fuel] w (RunPostC w (runP I (lookK K klen) (sgF S slen) fuel.toNat (x0 arg)) 0) := by
  have HC := Lib.hid (show checkE p0 regs clen I 20 = 0 by unfold checkE; rw [hc]; rfl)
  obtain ⟨r1, r16, l1, l500, hfit, hlast⟩ := check_facts hc
  have HFIT := Lib.hid hfit; have HLAST := Lib.hid hlast
  have HROWS := Lib.hid (show ∀ w', Ext w w' → Rows_ w' cs clen 6 (fun i => insC (I i)) from fun w' h => rows_on2 hrows h)
  have HK := Lib.hid hK; have HS := Lib.hid hS
  obtain ⟨cb, co, rfl, hcb, _⟩ := hrows (by omega)
  clear hc hrows hK hS hfit hlast
  go_enter Try.func17, Try.ntmps17
  go_upto_region 6 with (go_at_call 22; refine (check_calls _ _ _ _ _ I _ _ (HROWS.out _ (by repeat (first | exact ext_refl _ | assumption | refine ext_more' ?_ _ _ | refine ext_drew ?_ | refine ext_drewN ?_ _ | refine ext_alloc ?_ _)))).mono ?_; rw [HC.out]; rintro e w1 ⟨rfl, hb⟩; obtain ⟨r, d, rfl⟩ := ext_form hb; clear hb)
  refine wp_at ?_
  intro W1 hW
  have hx : Ext w W1 := by rw [hW]; repeat (first | exact ext_refl _ | assumption | refine ext_more' ?_ _ _ | refine ext_drew ?_ | refine ext_drewN ?_ _ | refine ext_alloc ?_ _)
  have hp1 := at_new (by rw [hW]; repeat (first | exact ext_refl _ | assumption | refine ext_more' ?_ _ _ | refine ext_drew ?_ | refine ext_drewN ?_ _ | refine ext_alloc ?_ _) : Ext (World.alloc w (.cells _ _)) W1)
  have hr1 := at_new (by rw [hW]; repeat (first | exact ext_refl _ | assumption | refine ext_more' ?_ _ _ | refine ext_drew ?_ | refine ext_drewN ?_ _ | refine ext_alloc ?_ _) : Ext ((World.alloc w (.cells _ _)).alloc (.cells _ _)) W1)
  simp only [sz_alloc] at hr1
  have lr := at_lt hr1 (by decide)
  have cp := hp1.1
  clear hW
  go_upto_region 7 with fail
  refine wp_at ?_
  intro W2 hW
  have hb2 : At W2 W1.heap.size _ := at_new (by rw [hW]; repeat (first | exact ext_refl _ | assumption | refine ext_more' ?_ _ _ | refine ext_drew ?_ | refine ext_drewN ?_ _ | refine ext_alloc ?_ _) : Ext (W1.alloc (.cells _ _)) W2)
  have e2 : Ext W1 W2 := by rw [hW]; repeat (first | exact ext_refl _ | assumption | refine ext_more' ?_ _ _ | refine ext_drew ?_ | refine ext_drewN ?_ _ | refine ext_alloc ?_ _)
  have l2 := at_lt hb2 (by simp)
  have hp2 := at_ext hp1 (by simp) e2
  have hr2 := at_ext hr1 (by simp) e2
  have e02 := ext_trans hx e2
  have nb : w.heap.size + 1 < W1.heap.size := lr
  clear hW hp1 hr1 lr e2 hx cp
  generalize W1.heap.size = bx at *
  have c3 : W2.cell? ⟨bx, 3, none⟩ = _ := hb2.1 3
  have f3 := hb2.2 3
  go_wp2_with fail
  refine wp_at ?_
  intro W3 hW
  have h3 : At W3 bx (rnC (rnOf (⟨p0, regs, some ⟨cb, co, none⟩, clen, ccap, ks, klen, kcap, ss, slen, scap⟩ : Fr) (x0 arg) none 0)) := by rw [hW]; exact at_put hb2 (by simp) rfl
  have e03 : Ext w W3 := by rw [hW]; exact ext_set e02 (by show w.heap.size ≤ bx; omega) _
  have hp3 : At W3 w.heap.size #[.string p0, .int .i64 regs, .slice (some ⟨cb, co, none⟩) clen ccap] := by rw [hW]; exact at_other hp2 (by omega)
  have hr3 : At W3 (w.heap.size + 1) #[.int .i64 0, .int .i64 0, .int .i64 0, .int .i64 0, .slice none 0 0, .int .i64 0, .int .i64 0] := by rw [hW]; exact at_other hr2 (by omega)
  clear hW hb2 c3 f3 hp2 hr2 e02 l2
  have l3 := at_lt h3 (by rw [rn_size]; decide)
  have HH3 := Lib.hid h3; have HP3 := Lib.hid hp3; have HR3 := Lib.hid hr3
  have E03 := Lib.hid e03
  clear h3 hp3 hr3 e03
  have HINV := Lib.hid (show RunInv (⟨p0, regs, some ⟨cb, co, none⟩, clen, ccap, ks, klen, kcap, ss, slen, scap⟩ : Fr) bx W3.heap.size W3 I (lookK K klen) (sgF S slen) arg fuel.toNat fuel.toNat W3 from
    ⟨x0 arg, none, 0, Chg.refl _ _, HH3.out, ⟨rfl, .inl ⟨rfl, rfl⟩⟩, Int.le_refl 0, by show (0 : Int) < clen; omega, Nat.le_refl _, Nat.zero_le _, Nat.zero_add _, rfl⟩)
  generalize hbase : W3.heap.size = base at *
  have HBASE := Lib.hid hbase; clear hbase
  go_loopg [] fuel.toNat (fun g wr => RunInv (⟨p0, regs, some ⟨cb, co, none⟩, clen, ccap, ks, klen, kcap, ss, slen, scap⟩ : Fr) bx base W3 I (lookK K klen) (sgF S slen) arg fuel.toNat g wr)
  case atStart => exact HINV.out
  case round =>
    obtain ⟨x, ms, cap, hch, hat, hown, pc0, pc1, hsg, hcm, hst, heq⟩ := hrel
    replace pc1 : x.pc < (clen : Int) := pc1
    have HCH := Lib.hid hch; have HAT := Lib.hid hat; have HOWN := Lib.hid hown; have HEQ := Lib.hid heq
    have hst2 : ((x.steps : Nat) : Int) + gk = fuel := by omega
    have c28 : wr.cell? ⟨bx, 28, none⟩ = some (.int .i64 x.steps) := hat.1 28
    have c19 : wr.cell? ⟨bx, 19, none⟩ = some (.int .i64 x.pc) := hat.1 19
    have lw : bx < wr.heap.size := at_lt hat (by rw [rn_size]; decide)
    have hpr : At wr w.heap.size #[.string p0, .int .i64 regs, .slice (some ⟨cb, co, none⟩) clen ccap] := at_chg HP3.out (by simp) hch (by omega)
    have hrr : At wr (w.heap.size + 1) #[.int .i64 0, .int .i64 0, .int .i64 0, .int .i64 0, .slice none 0 0, .int .i64 0, .int .i64 0] := at_chg HR3.out (by simp) hch (by omega)
    have HRR := Lib.hid hrr
    have cp2 : wr.cell? ⟨w.heap.size, 2, none⟩ = some (.slice (some ⟨cb, co, none⟩) clen ccap) := hpr.1 2
    have hbw : base ≤ wr.heap.size := by rw [← HBASE.out]; exact hch.size
    clear hch hat hown heq hst hpr hrr
    by_cases hg : gk = 0
    · have hlt : ¬ ((x.steps : Nat) : Int) < fuel := by omega
      clear hst2 c19
      go_wp2_with fail
      refine (stop_calls _ 4 bx _ HAT.out).mono ?_
      rintro e w4 ⟨rfl, g4, h4⟩
      have HST := Lib.hid (show runP I (lookK K klen) (sgF S slen) fuel.toNat (x0 arg) = { x with st := 4 } by rw [HEQ.out, hg]; rfl)
      clear c28 hlt hg
      have k22 : w4.cell? ⟨bx, 22, none⟩ = some (.int .i64 4) := h4.1 22
      have k23 : w4.cell? ⟨bx, 23, none⟩ = some (.int .i64 x.os) := h4.1 23
      have k24 : w4.cell? ⟨bx, 24, none⟩ = some (.int .i64 x.ov) := h4.1 24
      have k25 : w4.cell? ⟨bx, 25, none⟩ = some (.int .i64 x.on) := h4.1 25
      have k26 : w4.cell? ⟨bx, 26, none⟩ = some (.slice ms x.cmds.length cap) := h4.1 26
      have k27 : w4.cell? ⟨bx, 27, none⟩ = some (.int .i64 x.sig) := h4.1 27
      have k28 : w4.cell? ⟨bx, 28, none⟩ = some (.int .i64 x.steps) := h4.1 28
      have hres := at_chg HRR.out (by simp) g4 (by omega)
      have fr := hres.2
      have cr := hres.1
      go_wp2
      refine post_at ?_
      intro W5 hW
      have h5 : At W5 (w.heap.size + 1) #[.int .i64 4, .int .i64 x.os, .int .i64 x.ov, .int .i64 x.on, .slice ms x.cmds.length cap, .int .i64 x.sig, .int .i64 x.steps] := by rw [hW]; exact at_put (at_put (at_put (at_put (at_put (at_put (at_put hres (by simp) rfl) (by simp) rfl) (by simp) rfl) (by simp) rfl) (by simp) rfl) (by simp) rfl) (by simp) rfl
      obtain ⟨x5, r5⟩ := run_end E03.out HBASE.out (HCH.out.trans (chg_b g4)) nb l3 (own_chg HOWN.out g4 (fun e => by have := (HOWN.out.lt _ e).1; omega)) hW
      have q0 : W5.cell? ⟨w.heap.size + 1, 0, none⟩ = some (.int .i64 4) := h5.1 0
      have q1 : W5.cell? ⟨w.heap.size + 1, 1, none⟩ = some (.int .i64 x.os) := h5.1 1
      have q2 : W5.cell? ⟨w.heap.size + 1, 2, none⟩ = some (.int .i64 x.ov) := h5.1 2
      have q3 : W5.cell? ⟨w.heap.size + 1, 3, none⟩ = some (.int .i64 x.on) := h5.1 3
      have q4 : W5.cell? ⟨w.heap.size + 1, 4, none⟩ = some (.slice ms x.cmds.length cap) := h5.1 4
      have q5 : W5.cell? ⟨w.heap.size + 1, 5, none⟩ = some (.int .i64 x.sig) := h5.1 5
      have q6 : W5.cell? ⟨w.heap.size + 1, 6, none⟩ = some (.int .i64 x.steps) := h5.1 6
      refine bodyPost_ret (by simp [results, Try.results17, go_sem, q0, q1, q2, q3, q4, q5, q6]; rfl) rfl ?_
      rw [HST.out]
      exact ⟨ms, cap, rfl, x5, r5, owns_cap HOWN.out⟩
    · have hlt : ((x.steps : Nat) : Int) < fuel := by omega
      obtain ⟨k, rfl⟩ : ∃ k, gk = k + 1 := ⟨gk - 1, by omega⟩
      have hj : x.pc.toNat < clen := by omega
      obtain ⟨b', o', hs', hb', d0, d1, d2, d3, d4, d5⟩ := ins_cells (rows_chgS (HROWS.out W3 E03.out) HCH.out (fun hl b o hs => by injection hs with e; injection e with e1; omega)) (ext_refl wr) hj
      injection hs' with e; injection e with e1 e2; subst e1 e2
      rcases hs : stepP (I x.pc.toNat) (lookK K klen) (sgF S slen) x with ⟨sb, y⟩
      have SA := step_any (⟨p0, regs, some ⟨cb, co, none⟩, clen, ccap, ks, klen, kcap, ss, slen, scap⟩ : Fr) x ms cap bx base (I x.pc.toNat) K S wr.drew (at_drew HAT.out) l3 hbw (own_chg HOWN.out (chg_drew (Chg.refl (fun k => k = bx) _)) (fun e => by have := (HOWN.out.lt _ e).1; omega)) (HFIT.out _ hj) r16 pc0 (by omega) (by omega) (by omega) hcm hkl
        (rows_chgS (rows_on2 HK.out E03.out) (Chg.drew HCH.out) (fun hl b o hs => by have := rows_lt HK.out hl hs; omega)) (fun hl b o hs => by have := rows_lt HK.out hl hs; omega)
        (rows_chgS (rows_on2 HS.out E03.out) (Chg.drew HCH.out) (fun hl b o hs => by have := rows_lt HS.out hl hs; omega)) (fun hl b o hs => by have := rows_lt HS.out hl hs; omega)
      rw [hs] at SA
      have KP := step_keeps (lookK K klen) (sgF S slen) (HFIT.out _ hj) (by
        by_cases hl : x.pc.toNat = clen - 1
        · rw [hl]; exact .inr HLAST.out
        · left; omega) pc0 hcm hs
      have HS2 := Lib.hid hs
      have SA2 := Lib.hid SA
      have KP2 := Lib.hid KP
      clear SA hs KP hg
      cases sb
      · go_wp2_with fail
        go_still_tail 9, (by kernel_rfl)
        change wpList _ _ _ _ _ wr.drew
        go_wp2_with fail
        refine SA2.out.mono ?_
        rintro e w4 ⟨rfl, g4', ms', cap', h4, o4⟩
        have g4 := (Chg.drew (Chg.refl (fun k => k = bx ∨ base ≤ k) wr)).trans g4'
        have HST := Lib.hid (show runP I (lookK K klen) (sgF S slen) fuel.toNat (x0 arg) = y by rw [HEQ.out]; exact runP_stop HS2.out)
        clear c28 c19 d0 d1 d2 d3 d4 d5 hlt hst2 g4'
        have k22 : w4.cell? ⟨bx, 22, none⟩ = some (.int .i64 y.st) := h4.1 22
        have k23 : w4.cell? ⟨bx, 23, none⟩ = some (.int .i64 y.os) := h4.1 23
        have k24 : w4.cell? ⟨bx, 24, none⟩ = some (.int .i64 y.ov) := h4.1 24
        have k25 : w4.cell? ⟨bx, 25, none⟩ = some (.int .i64 y.on) := h4.1 25
        have k26 : w4.cell? ⟨bx, 26, none⟩ = some (.slice ms' y.cmds.length cap') := h4.1 26
        have k27 : w4.cell? ⟨bx, 27, none⟩ = some (.int .i64 y.sig) := h4.1 27
        have k28 : w4.cell? ⟨bx, 28, none⟩ = some (.int .i64 y.steps) := h4.1 28
        have hres := at_chg HRR.out (by simp) g4 (by omega)
        have fr := hres.2
        have cr := hres.1
        go_wp2
        refine post_at ?_
        intro W5 hW
        have h5 : At W5 (w.heap.size + 1) #[.int .i64 y.st, .int .i64 y.os, .int .i64 y.ov, .int .i64 y.on, .slice ms' y.cmds.length cap', .int .i64 y.sig, .int .i64 y.steps] := by rw [hW]; exact at_put (at_put (at_put (at_put (at_put (at_put (at_put hres (by simp) rfl) (by simp) rfl) (by simp) rfl) (by simp) rfl) (by simp) rfl) (by simp) rfl) (by simp) rfl
        obtain ⟨x5, r5⟩ := run_end E03.out HBASE.out (HCH.out.trans g4) nb l3 o4 hW
        have q0 : W5.cell? ⟨w.heap.size + 1, 0, none⟩ = some (.int .i64 y.st) := h5.1 0
        have q1 : W5.cell? ⟨w.heap.size + 1, 1, none⟩ = some (.int .i64 y.os) := h5.1 1
        have q2 : W5.cell? ⟨w.heap.size + 1, 2, none⟩ = some (.int .i64 y.ov) := h5.1 2
        have q3 : W5.cell? ⟨w.heap.size + 1, 3, none⟩ = some (.int .i64 y.on) := h5.1 3
        have q4 : W5.cell? ⟨w.heap.size + 1, 4, none⟩ = some (.slice ms' y.cmds.length cap') := h5.1 4
        have q5 : W5.cell? ⟨w.heap.size + 1, 5, none⟩ = some (.int .i64 y.sig) := h5.1 5
        have q6 : W5.cell? ⟨w.heap.size + 1, 6, none⟩ = some (.int .i64 y.steps) := h5.1 6
        refine bodyPost_ret (by simp [results, Try.results17, go_sem, q0, q1, q2, q3, q4, q5, q6]; rfl) rfl ?_
        rw [HST.out]
        exact ⟨ms', cap', rfl, x5, r5, owns_cap o4⟩
      · obtain ⟨⟨kp1, kp2, kp3⟩, kp4⟩ : (0 ≤ y.pc ∧ y.pc < clen ∧ y.steps = x.steps) ∧ _ := ⟨KP2.out.1 rfl, KP2.out.2⟩
        have ys : ((y.steps : Nat) : Int) ≤ 9999 := by omega
        have KP3 := Lib.hid kp3; clear kp3
        go_wp2_with fail
        go_still_tail 9, (by kernel_rfl)
        change wpList _ _ _ _ _ wr.drew
        go_wp2_with fail
        refine SA2.out.mono ?_
        rintro e w4 ⟨rfl, g4', ms', cap', h4, o4⟩
        have g4 := (Chg.drew (Chg.refl (fun k => k = bx ∨ base ≤ k) wr)).trans g4'
        clear c28 c19 d0 d1 d2 d3 d4 d5 hlt g4'
        have c28 : w4.cell? ⟨bx, 28, none⟩ = some (.int .i64 y.steps) := h4.1 28
        have f28 := h4.2 28
        have lw4 : bx < w4.heap.size := at_lt h4 (by rw [rn_size]; decide)
        go_wp2
        go_roundg k
        case measure => omega
        case rel => exact ⟨{ y with steps := y.steps + 1 }, ms', cap', Chg.setCell (HCH.out.trans g4) (.inr (.inl rfl)) _, at_put h4 (by simp [rn_size]) rfl, own_chg o4 chg_set (fun e => by have := (o4.lt _ e).1; omega), kp1, kp2, by have := KP3.out; show y.sig ≤ y.steps + 1; omega, by show y.cmds.length ≤ 200; omega, by have := KP3.out; show y.steps + 1 + k = fuel.toNat; omega, HEQ.out.trans (runP_go HS2.out)⟩
end Go.Proofs.Ytpfkpdimjljeaaa

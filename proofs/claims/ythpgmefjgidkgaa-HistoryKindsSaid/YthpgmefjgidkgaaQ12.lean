/- What may come next. -/
import Derived.Test.YthpgmefjgidkgaaP12
import Derived.Laws.EntriesVeiled
namespace Go.Proofs.Ythpgmefjgidkgaa
open Go.RowKit
set_option linter.unusedVariables false
set_option linter.unusedSimpArgs false

theorem may_no {h : Hs} {e : Ev} (hn : e.at' < h.last ∨ h.closed = true ∨ (decide (e.k = 1) != decide (h.len = 0)) = true) : mayB h e = false := by unfold mayB; rw [if_pos hn]
theorem may_yes {h : Hs} {e : Ev} (h1 : h.last ≤ e.at') (h2 : h.closed = false) (h3 : (decide (e.k = 1) != decide (h.len = 0)) = false) : mayB h e = (if e.k = 2 then decide (e.n = h.cmds.length + 1) else if e.k = 3 then tryB h e.n e.p else if e.k = 4 then leftB h e.n else if e.k = 6 then !h.stopped else true) := by
  unfold mayB
  rw [if_neg]
  rintro (h' | h' | h')
  · omega
  · rw [h2] at h'; cases h'
  · rw [h3] at h'; cases h'
def mayM (w : World) : List (Int × Value) := [(2, .func (.func 49) #[] #[.pointer (some ⟨w.heap.size + 1, 0, none⟩), .pointer (some ⟨w.heap.size, 0, none⟩)]), (3, .func (.func 50) #[] #[.pointer (some ⟨w.heap.size + 1 + 1, 0, none⟩), .pointer (some ⟨w.heap.size, 0, none⟩), .pointer (some ⟨w.heap.size + 1, 0, none⟩)]), (4, .func (.func 48) #[] #[.pointer (some ⟨w.heap.size, 0, none⟩), .pointer (some ⟨w.heap.size + 1, 0, none⟩)]), (6, .func (.func 51) #[] #[.pointer (some ⟨w.heap.size, 0, none⟩)])]
set_option maxRecDepth 100000 in
set_option maxHeartbeats 4000000 in
theorem may_calls (prog : ByteArray) (arg ost ov len last : Int) (cs ts ks ss : Option Addr) (cc tc kc sc : Nat) (cmds : List Cmd) (tries sigs : List Int) (known : List Kno) (st cl : Bool) (k at' n p a b : Int) (s : ByteArray) (w : World) (hi : HsIn w ⟨prog, arg, cmds, tries, known, sigs, st, cl, ⟨ost, ov⟩, len, last⟩ ⟨cs, cc, ts, tc, ks, kc, ss, sc⟩) (hs : HsSm ⟨prog, arg, cmds, tries, known, sigs, st, cl, ⟨ost, ov⟩, len, last⟩) (k0 : 0 ≤ k) (k1 : k ≤ 255) (hn1 : k = 3 → 1 ≤ n) (htl : tries.length = cmds.length) (htb : ∀ i, i < cmds.length → 0 ≤ tries.getD i default ∧ tries.getD i default ≤ 100) :
    Calls Try.prog 22 #[.agg #[.string prog, .int .i64 arg, .slice cs cmds.length cc, .slice ts tries.length tc, .slice ks known.length kc, .slice ss sigs.length sc, .bool st, .bool cl, .int .i64 ost, .int .i64 ov, .int .i64 len, .int .i64 last], .agg #[.int .u8 k, .int .i64 at', .int .i64 n, .int .i64 p, .int .i64 a, .int .i64 b, .string s]] w fun e w' => e = .returned (.bool (mayB ⟨prog, arg, cmds, tries, known, sigs, st, cl, ⟨ost, ov⟩, len, last⟩ ⟨k, at', n, p, a, b, s⟩)) ∧ Ext w w' := by
  have HIN := Lib.hid hi; have HSM := Lib.hid hs; have HTB := Lib.hid htb; have HTL := Lib.hid htl
  have hcl : cmds.length ≤ 1000000 := hs.1
  clear hi hs htb htl
  have pm : ∀ w : World, (Instr.makeMap 69 none).run Try.prog w = .ok (.map (some w.heap.size)) (w.alloc (.map #[] 0)) := fun _ => rfl
  go_enter Try.func22, Try.ntmps22
  go_upto_region 2 with fail
  refine wp_at ?_
  intro W1 hW
  have X1 := Lib.hid (show Ext w W1 by rw [hW]; repeat (first | exact ext_refl _ | assumption | refine ext_more' ?_ _ _ | refine ext_drew ?_ | refine ext_drewN ?_ _ | refine ext_alloc ?_ _))
  have hbh := at_new (by rw [hW]; repeat (first | exact ext_refl _ | assumption | refine ext_more' ?_ _ _ | refine ext_drew ?_ | refine ext_drewN ?_ _ | refine ext_alloc ?_ _) : Ext (World.alloc w (.cells _ _)) W1)
  have hbe := at_new (by rw [hW]; repeat (first | exact ext_refl _ | assumption | refine ext_more' ?_ _ _ | refine ext_drew ?_ | refine ext_drewN ?_ _ | refine ext_alloc ?_ _) : Ext ((World.alloc w (.cells _ _)).alloc (.cells _ _)) W1)
  have hbl := at_new (by rw [hW]; repeat (first | exact ext_refl _ | assumption | refine ext_more' ?_ _ _ | refine ext_drew ?_ | refine ext_drewN ?_ _ | refine ext_alloc ?_ _) : Ext (((World.alloc w (.cells _ _)).alloc (.cells _ _)).alloc (.cells _ _)) W1)
  simp only [sz_alloc] at hbe hbl
  clear hW
  have lbl := at_lt hbl (by simp)
  have kl0 := hbl.1
  go_upto_region 3 with (first
      | (refine list_mins rfl (.tmp 10) (.const (.int .u8 2)) (.tmp 11) 69 rfl 36 24 .u8 Try.underlying69 Try.underlying36 W1.heap.size _ rfl (mp_new (X := W1) (by repeat (first | exact ext_refl _ | assumption | refine ext_more' ?_ _ _ | refine ext_drew ?_ | refine ext_drewN ?_ _ | refine ext_alloc ?_ _))) 2 _ rfl rfl ?_; intro w1 hm1 hc1; have HM1 := Lib.hid hm1; have HC1 := Lib.hid hc1; have kl1 := (at_chg hbl (by simp) ((Chg.refl _ _).alloc _ |>.trans HC1.out) (by omega)).1; clear hm1 hc1)
      | (refine list_mins rfl (.tmp 10) (.const (.int .u8 3)) (.tmp 12) 69 rfl 36 24 .u8 Try.underlying69 Try.underlying36 W1.heap.size _ rfl HM1.out 3 _ rfl rfl ?_; intro w2 hm2 hc2; have HM2 := Lib.hid hm2; have HC2 := Lib.hid (HC1.out.trans hc2); have kl2 := (at_chg hbl (by simp) ((Chg.refl _ _).alloc _ |>.trans HC2.out) (by omega)).1; clear hm2 hc2)
      | (refine list_mins rfl (.tmp 10) (.const (.int .u8 4)) (.tmp 13) 69 rfl 36 24 .u8 Try.underlying69 Try.underlying36 W1.heap.size _ rfl HM2.out 4 _ rfl rfl ?_; intro w3 hm3 hc3; have HM3 := Lib.hid hm3; have HC3 := Lib.hid (HC2.out.trans hc3); have kl3 := (at_chg hbl (by simp) ((Chg.refl _ _).alloc _ |>.trans HC3.out) (by omega)).1; clear hm3 hc3)
      | (refine list_mins rfl (.tmp 10) (.const (.int .u8 6)) (.tmp 14) 69 rfl 36 24 .u8 Try.underlying69 Try.underlying36 W1.heap.size _ rfl HM3.out 6 _ rfl rfl ?_; intro w4 hm4 hc4; have HM4 := Lib.hid hm4; have HC4 := Lib.hid (HC3.out.trans hc4); have kl4 := (at_chg hbl (by simp) ((Chg.refl _ _).alloc _ |>.trans HC4.out) (by omega)).1; clear hm4 hc4))
  have hV : Chg (fun q => q = W1.heap.size) W1 w4 := ((Chg.refl _ _).alloc _).trans HC4.out
  have X4 := Lib.hid (ext_chg X1.out hV (fun i h => by have := X1.out.size; omega))
  have hbh4 := at_chg hbh (by simp) hV (by have := at_lt hbh (by simp); omega)
  have hbe4 := at_chg hbe (by simp) hV (by have := at_lt hbe (by simp); omega)
  have hbl4 := at_chg hbl (by simp) hV (by omega)
  have HM := Lib.hid (show Mp w4 W1.heap.size .u8 (mayM w) from HM4.out)
  have HBL := Lib.hid hbl4
  have HBH := Lib.hid hbh4
  have HBE := Lib.hid hbe4
  clear hV HM4 HM3 HM2 HM1 HC4 HC3 HC2 HC1 kl0 kl1 kl2 kl3 kl4 lbl hbl hbh hbe hbl4
  have kh := hbh4.1
  have ke := hbe4.1
  have lh := at_lt hbh4 (by simp)
  have le := at_lt hbe4 (by simp)
  clear hbh4 hbe4
  by_cases hat : at' < last
  · have HSP := Lib.hid (may_no (h := ⟨prog, arg, cmds, tries, known, sigs, st, cl, ⟨ost, ov⟩, len, last⟩) (e := ⟨k, at', n, p, a, b, s⟩) (.inl hat))
    go_wp2
    go_ret
    exact ⟨by rw [HSP.out]; rfl, X4.out⟩
  have hat' : last ≤ at' := by omega
  clear hat
  cases cl
  rotate_left
  · have HSP := Lib.hid (may_no (h := ⟨prog, arg, cmds, tries, known, sigs, st, true, ⟨ost, ov⟩, len, last⟩) (e := ⟨k, at', n, p, a, b, s⟩) (.inr (.inl rfl)))
    go_wp2
    go_ret
    exact ⟨by rw [HSP.out]; rfl, X4.out⟩
  have hg : ∀ x : Int, ∀ y : Int, decide (x = y) = (x == y) := fun x y => by rw [Bool.eq_iff_iff]; simp
  have hgk := hg k 1
  have hgl := hg len 0
  clear hg
  cases hb1 : (k == 1) <;> cases hb2 : (len == 0) <;> rw [hb1] at hgk <;> rw [hb2] at hgl
  rotate_left
  · have HSP := Lib.hid (may_no (h := ⟨prog, arg, cmds, tries, known, sigs, st, false, ⟨ost, ov⟩, len, last⟩) (e := ⟨k, at', n, p, a, b, s⟩) (.inr (.inr (by simp only [hgk, hgl]; rfl))))
    clear hgk hgl
    go_wp2
    go_ret
    exact ⟨by rw [HSP.out]; rfl, X4.out⟩
  · have HSP := Lib.hid (may_no (h := ⟨prog, arg, cmds, tries, known, sigs, st, false, ⟨ost, ov⟩, len, last⟩) (e := ⟨k, at', n, p, a, b, s⟩) (.inr (.inr (by simp only [hgk, hgl]; rfl))))
    clear hgk hgl
    go_wp2
    go_ret
    exact ⟨by rw [HSP.out]; rfl, X4.out⟩
  · have HSP := Lib.hid (may_yes (h := ⟨prog, arg, cmds, tries, known, sigs, st, false, ⟨ost, ov⟩, len, last⟩) (e := ⟨k, at', n, p, a, b, s⟩) hat' rfl (by simp only [hgk, hgl]; rfl))
    have hk1 : k = 1 := by simpa using hb1
    have HL := Lib.hid (show mlook k (mayM w) = none from by rw [hk1]; rfl)
    have n2 : k ≠ 2 := by omega
    have n3 : k ≠ 3 := by omega
    have n4 : k ≠ 4 := by omega
    have n6 : k ≠ 6 := by omega
    clear hgk hgl hk1
    go_wp2_with (refine list_mlook rfl (.tmp 35) (.tmp 37) 69 true rfl 36 24 .u8 Try.underlying69 Try.underlying36 (fz _) W1.heap.size (mayM w) rfl HM.out k rfl ?_; rw [HL.out])
    go_ret
    exact ⟨by rw [HSP.out, if_neg n2, if_neg n3, if_neg n4, if_neg n6]; rfl, X4.out⟩
  · have HSP := Lib.hid (may_yes (h := ⟨prog, arg, cmds, tries, known, sigs, st, false, ⟨ost, ov⟩, len, last⟩) (e := ⟨k, at', n, p, a, b, s⟩) hat' rfl (by simp only [hgk, hgl]; rfl))
    clear hgk hgl
    have hk : k = 2 ∨ k = 3 ∨ k = 4 ∨ k = 6 ∨ (k ≠ 2 ∧ k ≠ 3 ∧ k ≠ 4 ∧ k ≠ 6) := by omega
    rcases hk with e2 | e3 | e4 | e6 | ⟨n2, n3, n4, n6⟩
    · subst e2
      have HL := Lib.hid (show mlook 2 (mayM w) = some (.func (.func 49) #[] #[.pointer (some ⟨w.heap.size + 1, 0, none⟩), .pointer (some ⟨w.heap.size, 0, none⟩)]) from rfl)
      clear hb1
      go_wp2_with (first | (refine list_mlook rfl (.tmp 35) (.tmp 37) 69 true rfl 36 24 .u8 Try.underlying69 Try.underlying36 (fz _) W1.heap.size (mayM w) rfl HM.out 2 rfl ?_; rw [HL.out]) | (go_at_call 49; refine (mbegin_calls prog arg ost ov len last cs ts ks ss cc tc kc sc cmds tries sigs known st false _ at' n p a b s _ _ _ HBH.out HBE.out hcl).mono ?_; rintro e w' ⟨rfl, hb⟩))
      go_ret
      exact ⟨by rw [HSP.out]; rfl, ext_trans X4.out hb⟩
    · subst e3
      have HL := Lib.hid (show mlook 3 (mayM w) = some (.func (.func 50) #[] #[.pointer (some ⟨w.heap.size + 1 + 1, 0, none⟩), .pointer (some ⟨w.heap.size, 0, none⟩), .pointer (some ⟨w.heap.size + 1, 0, none⟩)]) from rfl)
      clear hb1
      go_wp2_with (first | (refine list_mlook rfl (.tmp 35) (.tmp 37) 69 true rfl 36 24 .u8 Try.underlying69 Try.underlying36 (fz _) W1.heap.size (mayM w) rfl HM.out 3 rfl ?_; rw [HL.out]) | (go_at_call 50; refine (mtry_calls prog arg ost ov len last cs ts ks ss cc tc kc sc cmds tries sigs known st false _ at' n p a b s _ _ _ _ HBH.out HBE.out HBL.out (HIN.out.ext X4.out) HSM.out (hn1 rfl) HTL.out HTB.out).mono ?_; rintro e w' ⟨rfl, hb⟩))
      go_ret
      exact ⟨by rw [HSP.out]; rfl, ext_trans X4.out hb⟩
    · subst e4
      have HL := Lib.hid (show mlook 4 (mayM w) = some (.func (.func 48) #[] #[.pointer (some ⟨w.heap.size, 0, none⟩), .pointer (some ⟨w.heap.size + 1, 0, none⟩)]) from rfl)
      clear hb1
      go_wp2_with (first | (refine list_mlook rfl (.tmp 35) (.tmp 37) 69 true rfl 36 24 .u8 Try.underlying69 Try.underlying36 (fz _) W1.heap.size (mayM w) rfl HM.out 4 rfl ?_; rw [HL.out]) | (go_at_call 48; refine (left_calls prog arg ost ov len last cs ts ks ss cc tc kc sc cmds tries sigs known st false _ at' n p a b s _ _ _ HBH.out HBE.out (HIN.out.ext X4.out) HSM.out).mono ?_; rintro e w' ⟨rfl, hb⟩))
      go_ret
      exact ⟨by rw [HSP.out]; rfl, ext_trans X4.out hb⟩
    · subst e6
      have HL := Lib.hid (show mlook 6 (mayM w) = some (.func (.func 51) #[] #[.pointer (some ⟨w.heap.size, 0, none⟩)]) from rfl)
      clear hb1
      go_wp2_with (first | (refine list_mlook rfl (.tmp 35) (.tmp 37) 69 true rfl 36 24 .u8 Try.underlying69 Try.underlying36 (fz _) W1.heap.size (mayM w) rfl HM.out 6 rfl ?_; rw [HL.out]) | (go_at_call 51; refine (mstop_calls prog arg ost ov len last cs ts ks ss cc tc kc sc cmds tries sigs known st false _ _ HBH.out).mono ?_; rintro e w' ⟨rfl, hb⟩))
      go_ret
      exact ⟨by rw [HSP.out]; rfl, ext_trans X4.out hb⟩
    · have HL := Lib.hid (show mlook k (mayM w) = none from by unfold mayM; simp only [mlook]; rw [if_neg (Ne.symm n2), if_neg (Ne.symm n3), if_neg (Ne.symm n4), if_neg (Ne.symm n6)])
      go_wp2_with (refine list_mlook rfl (.tmp 35) (.tmp 37) 69 true rfl 36 24 .u8 Try.underlying69 Try.underlying36 (fz _) W1.heap.size (mayM w) rfl HM.out k rfl ?_; rw [HL.out])
      go_ret
      exact ⟨by rw [HSP.out, if_neg n2, if_neg n3, if_neg n4, if_neg n6]; rfl, X4.out⟩
end Go.Proofs.Ythpgmefjgidkgaa

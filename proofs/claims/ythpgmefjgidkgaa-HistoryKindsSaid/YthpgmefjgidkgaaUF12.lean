/- What an event comes to. -/
import Derived.Test.YthpgmefjgidkgaaUE12
import Derived.Test.YthpgmefjgidkgaaUD12
import Derived.Test.YthpgmefjgidkgaaQ12
import Derived.Test.YthpgmefjgidkgaaS12e
namespace Go.Proofs.Ythpgmefjgidkgaa
open Go.RowKit
set_option linter.unusedVariables false
set_option linter.unusedSimpArgs false

theorem hsin_of {w : World} {base bx : Nat} {h : Hs} {m : Hm} (ho : OwnHX w base bx h m) : HsIn w h m :=
  ⟨rows_of_own (g := cmdC) (fun _ => rfl) ho.1.1, rows_of_own (g := numC) (fun _ => rfl) ho.2.1.1, rows_of_own (g := knoC) (fun _ => rfl) ho.2.2.1.1, rows_of_own (g := numC) (fun _ => rfl) ho.2.2.2.1, (cap_of_own (n := 5) ho.1.1).1, (cap_of_own (n := 1) ho.2.1.1).1, (cap_of_own (n := 3) ho.2.2.1.1).1, (cap_of_own (n := 1) ho.2.2.2.1).1⟩
theorem ownsh_of {w : World} {base bx b : Nat} {h : Hs} {m : Hm} (ho : OwnHX w base bx h m) (hb : b ≤ base) : OwnsH w b h m := ⟨own_low ho.1.1 hb, own_low ho.2.1.1 hb, own_low ho.2.2.1.1 hb, own_low ho.2.2.2.1 hb⟩
theorem OwnsH.hsin {w : World} {b : Nat} {h : Hs} {m : Hm} (ho : OwnsH w b h m) : HsIn w h m :=
  ⟨rows_of_own (g := cmdC) (fun _ => rfl) ho.1, rows_of_own (g := numC) (fun _ => rfl) ho.2.1, rows_of_own (g := knoC) (fun _ => rfl) ho.2.2.1, rows_of_own (g := numC) (fun _ => rfl) ho.2.2.2, (cap_of_own (n := 5) ho.1).1, (cap_of_own (n := 1) ho.2.1).1, (cap_of_own (n := 3) ho.2.2.1).1, (cap_of_own (n := 1) ho.2.2.2).1⟩
theorem OwnHX.ext {w w' : World} {base bx : Nat} {h : Hs} {m : Hm} (ho : OwnHX w base bx h m) (hx : Ext w w') : OwnHX w' base bx h m := ⟨ho.1.ext hx, ho.2.1.ext hx, ho.2.2.1.ext hx, ho.2.2.2.ext hx⟩
theorem OwnX.chgS {S : Nat → Prop} {w w' : World} {base bx : Nat} {T : TypeId} {sz n : Nat} {v : Value} {xs : List Value} (h : OwnX w base bx T sz v n xs) (g : Chg S w w') (hs : ∀ k, base ≤ k → k ≠ bx → ¬ S k) : OwnX w' base bx T sz v n xs := ⟨own_chgS h.1 g (fun q e hq => hs q (h.1.lt q e).1 (fun e2 => h.2 (by rw [e, e2])) hq), h.2⟩
theorem OwnHX.chgS {S : Nat → Prop} {w w' : World} {base bx : Nat} {h : Hs} {m : Hm} (ho : OwnHX w base bx h m) (g : Chg S w w') (hs : ∀ k, base ≤ k → k ≠ bx → ¬ S k) : OwnHX w' base bx h m := ⟨ho.1.chgS g hs, ho.2.1.chgS g hs, ho.2.2.1.chgS g hs, ho.2.2.2.chgS g hs⟩
theorem tl_of {h : Hs} (hr : hrB h = true) : h.tries.length = h.cmds.length := by
  by_cases h0 : h.len = 0
  · rw [hs0_of hr h0]; rfl
  · exact (hrP_of hr h0).tl
theorem tb_of {h : Hs} (hr : hrB h = true) : ∀ i, i < h.cmds.length → 0 ≤ h.tries.getD i default ∧ h.tries.getD i default ≤ 100 := by
  by_cases h0 : h.len = 0
  · rw [hs0_of hr h0]; intro i hi; simp at hi
  · exact fun i hi => (cmdOk_p ((hrP_of hr h0).cm i hi)).2.1
def NextPost (w : World) (h : Hs) (e : Ev) (en : Ending) (w' : World) : Prop := ∃ m', en = .returned (.tuple #[.agg (hC (nextH h e).1 m'), .int .i64 (nextH h e).2]) ∧ OwnsH w' w.heap.size (nextH h e).1 m' ∧ Ext w w'
set_option maxRecDepth 100000 in
set_option maxHeartbeats 4000000 in
theorem next_calls (prog : ByteArray) (arg ost ov len last : Int) (cs ts ks ss : Option Addr) (cc tc kc sc : Nat) (cmds : List Cmd) (tries sigs : List Int) (known : List Kno) (st cl : Bool) (k at' n p a b : Int) (s : ByteArray) (w : World) (hi : HsIn w ⟨prog, arg, cmds, tries, known, sigs, st, cl, ⟨ost, ov⟩, len, last⟩ ⟨cs, cc, ts, tc, ks, kc, ss, sc⟩) (hs : HsSm ⟨prog, arg, cmds, tries, known, sigs, st, cl, ⟨ost, ov⟩, len, last⟩) (hkd : ∀ i, i < cmds.length → 0 ≤ (cmds.getD i default).kind ∧ (cmds.getD i default).kind ≤ 255) (k0 : 0 ≤ k) (k1 : k ≤ 255) (hr : hrB ⟨prog, arg, cmds, tries, known, sigs, st, cl, ⟨ost, ov⟩, len, last⟩ = true) (hl : 0 ≤ len) (hl2 : len ≤ 1000000) :
    Calls Try.prog 10 #[.agg #[.string prog, .int .i64 arg, .slice cs cmds.length cc, .slice ts tries.length tc, .slice ks known.length kc, .slice ss sigs.length sc, .bool st, .bool cl, .int .i64 ost, .int .i64 ov, .int .i64 len, .int .i64 last], .agg #[.int .u8 k, .int .i64 at', .int .i64 n, .int .i64 p, .int .i64 a, .int .i64 b, .string s]] w (NextPost w ⟨prog, arg, cmds, tries, known, sigs, st, cl, ⟨ost, ov⟩, len, last⟩ ⟨k, at', n, p, a, b, s⟩) := by
  have HIN := Lib.hid hi; have HKD := Lib.hid hkd; have HSM := Lib.hid hs; have HR := Lib.hid hr
  clear hi hs hkd hr
  go_enter Try.func10, Try.ntmps10
  go_upto_region 1 with fail
  refine wp_at ?_
  intro W1 hW
  have X1 := Lib.hid (show Ext w W1 by rw [hW]; repeat (first | exact ext_refl _ | assumption | refine ext_more' ?_ _ _ | refine ext_drew ?_ | refine ext_drewN ?_ _ | refine ext_alloc ?_ _))
  have bh := at_new (by rw [hW]; repeat (first | exact ext_refl _ | assumption | refine ext_more' ?_ _ _ | refine ext_drew ?_ | refine ext_drewN ?_ _ | refine ext_alloc ?_ _) : Ext (World.alloc w (.cells _ _)) W1)
  have be := at_new (by rw [hW]; repeat (first | exact ext_refl _ | assumption | refine ext_more' ?_ _ _ | refine ext_drew ?_ | refine ext_drewN ?_ _ | refine ext_alloc ?_ _) : Ext ((World.alloc w (.cells _ _)).alloc (.cells _ _)) W1)
  have br := at_new (by rw [hW]; repeat (first | exact ext_refl _ | assumption | refine ext_more' ?_ _ _ | refine ext_drew ?_ | refine ext_drewN ?_ _ | refine ext_alloc ?_ _) : Ext (((World.alloc w (.cells _ _)).alloc (.cells _ _)).alloc (.cells _ _)) W1)
  simp only [sz_alloc] at be br
  clear hW
  have kh := bh.1
  have lh := at_lt bh (by simp)
  go_upto_region 2 with (go_at_call 21; refine (own_calls prog arg ost ov len last cs ts ks ss cc tc kc sc cmds tries sigs known st cl _ (HIN.out.ext X1.out) HSM.out.1 HSM.out.2.1 HSM.out.2.2.1 HSM.out.2.2.2).mono ?_; rintro e w1 ⟨⟨cs', cc', ts', tc', ks', kc', ss', sc'⟩, rfl, ho, hb⟩; have HO := Lib.hid ho; have HX1 := Lib.hid hb; have z1 := hb.size; clear ho hb)
  refine wp_at ?_
  intro W2 hW
  have x2 : Ext w1 W2 := by rw [hW]; repeat (first | exact ext_refl _ | assumption | refine ext_more' ?_ _ _ | refine ext_drew ?_ | refine ext_drewN ?_ _ | refine ext_alloc ?_ _)
  have bo := at_new (by rw [hW]; repeat (first | exact ext_refl _ | assumption | refine ext_more' ?_ _ _ | refine ext_drew ?_ | refine ext_drewN ?_ _ | refine ext_alloc ?_ _) : Ext (World.alloc w1 (.cells _ _)) W2)
  clear hW kh lh
  have x12 := ext_trans HX1.out x2
  have X2 := Lib.hid (ext_trans X1.out x12)
  have bh2 := at_ext bh (by simp) x12
  have be2 := at_ext be (by simp) x12
  have br2 := at_ext br (by simp) x12
  have zr : w.heap.size + 1 + 1 < W1.heap.size := at_lt br (by simp)
  clear bh be br
  have hox : OwnHX W2 W1.heap.size w1.heap.size ⟨prog, arg, cmds, tries, known, sigs, st, cl, ⟨ost, ov⟩, len, last⟩ ⟨cs', cc', ts', tc', ks', kc', ss', sc'⟩ := by
    obtain ⟨o1, o2, o3, o4⟩ := HO.out
    exact ⟨⟨own_ext o1 x2, fun e => by have := (o1.lt _ e).2; omega⟩, ⟨own_ext o2 x2, fun e => by have := (o2.lt _ e).2; omega⟩, ⟨own_ext o3 x2, fun e => by have := (o3.lt _ e).2; omega⟩, ⟨own_ext o4 x2, fun e => by have := (o4.lt _ e).2; omega⟩⟩
  have HOX := Lib.hid hox
  clear hox HO x12 x2 HX1
  have zo : w1.heap.size < W2.heap.size := at_lt bo (by simp)
  have kh := bh2.1
  have ke := be2.1
  have ko := bo.1
  have kr := br2.1
  have fr := br2.2
  have lh := at_lt bh2 (by simp)
  have le := at_lt be2 (by simp)
  have lr := at_lt br2 (by simp)
  cases he : evR ⟨k, at', n, p, a, b, s⟩
  · have HE := Lib.hid he
    have HNX := Lib.hid (show nextH ⟨prog, arg, cmds, tries, known, sigs, st, cl, ⟨ost, ov⟩, len, last⟩ ⟨k, at', n, p, a, b, s⟩ = (⟨prog, arg, cmds, tries, known, sigs, st, cl, ⟨ost, ov⟩, len, last⟩, 102) by unfold nextH; rw [he]; rfl)
    clear he
    go_upto_region 5 with (first | (go_at_call 13; refine (hright_calls prog arg ost ov len last cs ts ks ss cc tc kc sc cmds tries sigs known st cl _ (HIN.out.ext (ext_trans X2.out (by repeat (first | exact ext_refl _ | assumption | refine ext_more' ?_ _ _ | refine ext_drew ?_ | refine ext_drewN ?_ _ | refine ext_alloc ?_ _)))) HSM.out HKD.out).mono ?_; rw [HR.out]; rintro e w3 ⟨rfl, hb⟩; obtain ⟨r, d, rfl⟩ := ext_form hb; clear hb) | (go_at_call 11; refine (right_calls _ _ _ _ _ _ _ _ k0 k1).mono ?_; rw [HE.out]; rintro e w3 ⟨rfl, hb⟩; obtain ⟨r, d, rfl⟩ := ext_form hb; clear hb))
    refine wp_at ?_
    intro W8 hW
    have hx8 : Ext W2 W8 := by rw [hW]; repeat (first | exact ext_refl _ | assumption | refine ext_more' ?_ _ _ | refine ext_drew ?_ | refine ext_drewN ?_ _ | refine ext_alloc ?_ _)
    clear hW kh ke ko kr fr lh le lr
    have br8 := at_ext br2 (by simp) hx8
    have bo8 := at_ext bo (by simp) hx8
    clear br2 bo bh2 be2
    have ko := bo8.1
    have kr := br8.1
    have fr := br8.2
    have lr := at_lt br8 (by simp)
    have lo := at_lt bo8 (by simp)
    go_wp2
    refine post_at ?_
    intro w9 hW
    have hcs : w9 = W8.setCells (w.heap.size + 1 + 1) 0 (hC ⟨prog, arg, cmds, tries, known, sigs, st, cl, ⟨ost, ov⟩, len, last⟩ ⟨cs', cc', ts', tc', ks', kc', ss', sc'⟩).toList := hW
    have hat9 := at_setCells (cells := (hC ⟨prog, arg, cmds, tries, known, sigs, st, cl, ⟨ost, ov⟩, len, last⟩ ⟨cs', cc', ts', tc', ks', kc', ss', sc'⟩)) br8 rfl
    rw [← hcs] at hat9
    have C9 := chg_setCells (w.heap.size + 1 + 1) (hC ⟨prog, arg, cmds, tries, known, sigs, st, cl, ⟨ost, ov⟩, len, last⟩ ⟨cs', cc', ts', tc', ks', kc', ss', sc'⟩).toList 0 W8
    rw [← hcs] at C9
    clear hcs hW ko kr fr lr lo br8 bo8
    unfold hC at hat9
    have k9 := hat9.1
    have hx9 := ext_chg (ext_trans X2.out hx8) C9 (fun i h => by omega)
    refine bodyPost_ret (by simp [results, Try.results10, go_sem, k9]; rfl) rfl ?_
    refine ⟨⟨cs', cc', ts', tc', ks', kc', ss', sc'⟩, by rw [HNX.out]; rfl, ?_, hx9⟩
    rw [HNX.out]
    exact ownsh_of ((HOX.out.ext hx8).chgS C9 (fun k hk _ e => by omega)) X1.out.size
  have HE := Lib.hid he
  have hek := evR_parts he
  have hk1 : 1 ≤ k := hek.1
  have hk7 : k ≤ 7 := hek.2.1
  have hkd5 := hek.2.2.2.2
  clear hek
  have hn1 : k = 3 → 1 ≤ n := by
    intro h3
    unfold kindB at hkd5
    simp only [h3] at hkd5
    simp only [Int.reduceEq, if_false, if_true, Bool.and_eq_true, numB, decide_eq_true_eq] at hkd5
    exact hkd5.1.1
  have hp2 : k = 2 → 0 ≤ p ∧ p ≤ 3 := by
    intro h3
    unfold kindB at hkd5
    simp only [h3] at hkd5
    simp only [Int.reduceEq, if_false, if_true, Bool.and_eq_true, decide_eq_true_eq] at hkd5
    exact ⟨hkd5.2.1, hkd5.2.2.1⟩
  clear hkd5
  have htl : tries.length = cmds.length := tl_of HR.out
  have htb : ∀ i, i < cmds.length → 0 ≤ tries.getD i default ∧ tries.getD i default ≤ 100 := tb_of HR.out
  have HTL := Lib.hid htl; have HTB := Lib.hid htb
  have HN1 := Lib.hid hn1; have HP2 := Lib.hid hp2
  clear htl htb hn1 hp2
  cases hm : mayB ⟨prog, arg, cmds, tries, known, sigs, st, cl, ⟨ost, ov⟩, len, last⟩ ⟨k, at', n, p, a, b, s⟩
  · have HM := Lib.hid hm
    have HNX := Lib.hid (show nextH ⟨prog, arg, cmds, tries, known, sigs, st, cl, ⟨ost, ov⟩, len, last⟩ ⟨k, at', n, p, a, b, s⟩ = (⟨prog, arg, cmds, tries, known, sigs, st, cl, ⟨ost, ov⟩, len, last⟩, 103) by unfold nextH; rw [he, hm]; rfl)
    clear he hm
    go_upto_region 7 with (first | (go_at_call 13; refine (hright_calls prog arg ost ov len last cs ts ks ss cc tc kc sc cmds tries sigs known st cl _ (HIN.out.ext (ext_trans X2.out (by repeat (first | exact ext_refl _ | assumption | refine ext_more' ?_ _ _ | refine ext_drew ?_ | refine ext_drewN ?_ _ | refine ext_alloc ?_ _)))) HSM.out HKD.out).mono ?_; rw [HR.out]; rintro e w3 ⟨rfl, hb⟩; obtain ⟨r, d, rfl⟩ := ext_form hb; clear hb) | (go_at_call 11; refine (right_calls _ _ _ _ _ _ _ _ k0 k1).mono ?_; rw [HE.out]; rintro e w3 ⟨rfl, hb⟩; obtain ⟨r, d, rfl⟩ := ext_form hb; clear hb) | (go_at_call 22; refine (may_calls prog arg ost ov len last cs ts ks ss cc tc kc sc cmds tries sigs known st cl k at' n p a b s _ (HIN.out.ext (ext_trans X2.out (by repeat (first | exact ext_refl _ | assumption | refine ext_more' ?_ _ _ | refine ext_drew ?_ | refine ext_drewN ?_ _ | refine ext_alloc ?_ _)))) HSM.out k0 k1 HN1.out HTL.out HTB.out).mono ?_; rw [HM.out]; rintro e w3 ⟨rfl, hb⟩; obtain ⟨r, d, rfl⟩ := ext_form hb; clear hb))
    refine wp_at ?_
    intro W8 hW
    have hx8 : Ext W2 W8 := by rw [hW]; repeat (first | exact ext_refl _ | assumption | refine ext_more' ?_ _ _ | refine ext_drew ?_ | refine ext_drewN ?_ _ | refine ext_alloc ?_ _)
    clear hW kh ke ko kr fr lh le lr
    have br8 := at_ext br2 (by simp) hx8
    have bo8 := at_ext bo (by simp) hx8
    clear br2 bo bh2 be2
    have ko := bo8.1
    have kr := br8.1
    have fr := br8.2
    have lr := at_lt br8 (by simp)
    have lo := at_lt bo8 (by simp)
    go_wp2
    refine post_at ?_
    intro w9 hW
    have hcs : w9 = W8.setCells (w.heap.size + 1 + 1) 0 (hC ⟨prog, arg, cmds, tries, known, sigs, st, cl, ⟨ost, ov⟩, len, last⟩ ⟨cs', cc', ts', tc', ks', kc', ss', sc'⟩).toList := hW
    have hat9 := at_setCells (cells := (hC ⟨prog, arg, cmds, tries, known, sigs, st, cl, ⟨ost, ov⟩, len, last⟩ ⟨cs', cc', ts', tc', ks', kc', ss', sc'⟩)) br8 rfl
    rw [← hcs] at hat9
    have C9 := chg_setCells (w.heap.size + 1 + 1) (hC ⟨prog, arg, cmds, tries, known, sigs, st, cl, ⟨ost, ov⟩, len, last⟩ ⟨cs', cc', ts', tc', ks', kc', ss', sc'⟩).toList 0 W8
    rw [← hcs] at C9
    clear hcs hW ko kr fr lr lo br8 bo8
    unfold hC at hat9
    have k9 := hat9.1
    have hx9 := ext_chg (ext_trans X2.out hx8) C9 (fun i h => by omega)
    refine bodyPost_ret (by simp [results, Try.results10, go_sem, k9]; rfl) rfl ?_
    refine ⟨⟨cs', cc', ts', tc', ks', kc', ss', sc'⟩, by rw [HNX.out]; rfl, ?_, hx9⟩
    rw [HNX.out]
    exact ownsh_of ((HOX.out.ext hx8).chgS C9 (fun k hk _ e => by omega)) X1.out.size
  · have HM := Lib.hid hm
    have HNX := Lib.hid (show nextH ⟨prog, arg, cmds, tries, known, sigs, st, cl, ⟨ost, ov⟩, len, last⟩ ⟨k, at', n, p, a, b, s⟩ = (putH ⟨prog, arg, cmds, tries, known, sigs, st, cl, ⟨ost, ov⟩, len, last⟩ ⟨k, at', n, p, a, b, s⟩, 0) by unfold nextH; rw [he, hm]; rfl)
    have hn3 : k = 3 → 1 ≤ n ∧ n ≤ tries.length := fun h3 => by
      have h4 := (may_parts hm).2.2.2.2.1 h3
      unfold tryB leftB at h4
      simp only [Bool.and_eq_true, decide_eq_true_eq] at h4
      have h5 : n ≤ (cmds.length : Int) := h4.1.1
      rw [HTL.out]
      exact ⟨HN1.out h3, h5⟩
    have HN3 := Lib.hid hn3
    clear he hm hn3
    go_upto_region 8 with (first | (go_at_call 13; refine (hright_calls prog arg ost ov len last cs ts ks ss cc tc kc sc cmds tries sigs known st cl _ (HIN.out.ext (ext_trans X2.out (by repeat (first | exact ext_refl _ | assumption | refine ext_more' ?_ _ _ | refine ext_drew ?_ | refine ext_drewN ?_ _ | refine ext_alloc ?_ _)))) HSM.out HKD.out).mono ?_; rw [HR.out]; rintro e w3 ⟨rfl, hb⟩; obtain ⟨r, d, rfl⟩ := ext_form hb; clear hb) | (go_at_call 11; refine (right_calls _ _ _ _ _ _ _ _ k0 k1).mono ?_; rw [HE.out]; rintro e w3 ⟨rfl, hb⟩; obtain ⟨r, d, rfl⟩ := ext_form hb; clear hb) | (go_at_call 22; refine (may_calls prog arg ost ov len last cs ts ks ss cc tc kc sc cmds tries sigs known st cl k at' n p a b s _ (HIN.out.ext (ext_trans X2.out (by repeat (first | exact ext_refl _ | assumption | refine ext_more' ?_ _ _ | refine ext_drew ?_ | refine ext_drewN ?_ _ | refine ext_alloc ?_ _)))) HSM.out k0 k1 HN1.out HTL.out HTB.out).mono ?_; rw [HM.out]; rintro e w3 ⟨rfl, hb⟩; obtain ⟨r, d, rfl⟩ := ext_form hb; clear hb))
    refine wp_at ?_
    intro W4 hW
    have x4 : Ext W2 W4 := by rw [hW]; repeat (first | exact ext_refl _ | assumption | refine ext_more' ?_ _ _ | refine ext_drew ?_ | refine ext_drewN ?_ _ | refine ext_alloc ?_ _)
    clear hW
    have bh4 := at_ext bh2 (by simp) x4
    have be4 := at_ext be2 (by simp) x4
    have br4 := at_ext br2 (by simp) x4
    have bo4 := at_ext bo (by simp) x4
    have hox4 : OwnHX W4 W1.heap.size w1.heap.size ⟨prog, arg, cmds, tries, known, sigs, st, cl, ⟨ost, ov⟩, len, last⟩ ⟨cs', cc', ts', tc', ks', kc', ss', sc'⟩ := ⟨HOX.out.1.ext x4, HOX.out.2.1.ext x4, HOX.out.2.2.1.ext x4, HOX.out.2.2.2.ext x4⟩
    have X4 := Lib.hid (ext_trans X2.out x4)
    have z4 := x4.size
    clear bh2 be2 br2 bo kh ke ko kr fr lh le lr x4
    have ke := be4.1
    have le := at_lt be4 (by simp)
    have BR4 := Lib.hid br4
    have BO4 := Lib.hid bo4
    have HOX4 := Lib.hid hox4
    clear bh4 be4 br4 bo4 hox4
    go_upto_region 9 with (go_at_call 23; refine (put_calls prog arg ost ov len last cs' ts' ks' ss' cc' tc' kc' sc' cmds tries sigs known st cl k at' n p a b s w1.heap.size W1.heap.size _ BO4.out HOX4.out hl hl2 (by omega) HSM.out hk1 hk7 HP2.out HN3.out).mono ?_; rintro e w5 ⟨rfl, hc, m5, hb5, ho5⟩; have HC5 := Lib.hid hc; have HB5 := Lib.hid hb5; have HO5 := Lib.hid ho5; clear hc hb5 ho5)
    obtain ⟨h5, hh5⟩ : ∃ h5, h5 = putH ⟨prog, arg, cmds, tries, known, sigs, st, cl, ⟨ost, ov⟩, len, last⟩ ⟨k, at', n, p, a, b, s⟩ := ⟨_, rfl⟩
    have hb5 := HB5.out
    have ho5 := HO5.out
    rw [← hh5] at hb5 ho5
    have HNX5 := Lib.hid (show nextH ⟨prog, arg, cmds, tries, known, sigs, st, cl, ⟨ost, ov⟩, len, last⟩ ⟨k, at', n, p, a, b, s⟩ = (h5, 0) by rw [hh5]; exact HNX.out)
    have HO5' := Lib.hid ho5
    have br5 := at_chg BR4.out (by simp) HC5.out (by omega)
    have X5 := Lib.hid (ext_chg X4.out HC5.out (fun i h => by have := X1.out.size; omega))
    clear hh5 HNX HB5 HO5 ho5 BR4 BO4 HOX4 HC5 ke le
    unfold hC at hb5
    have kb := hb5.1
    have lb := at_lt hb5 (by simp)
    have kr := br5.1
    have fr := br5.2
    have lr := at_lt br5 (by simp)
    go_wp2
    refine post_at ?_
    intro w9 hW
    have hcs : w9 = w5.setCells (w.heap.size + 1 + 1) 0 (hC h5 m5).toList := hW
    have hat9 := at_setCells (cells := hC h5 m5) br5 rfl
    rw [← hcs] at hat9
    have C9 := chg_setCells (w.heap.size + 1 + 1) (hC h5 m5).toList 0 w5
    rw [← hcs] at C9
    clear hcs hW kr fr lr kb lb hb5
    unfold hC at hat9
    have k9 := hat9.1
    have hx9 := ext_chg X5.out C9 (fun i h => by omega)
    refine bodyPost_ret (by simp [results, Try.results10, go_sem, k9]; rfl) rfl ?_
    refine ⟨m5, by rw [HNX5.out]; rfl, ?_, hx9⟩
    rw [HNX5.out]
    exact ownsh_of (HO5'.out.chgS C9 (fun k hk _ e => by omega)) X1.out.size
end Go.Proofs.Ythpgmefjgidkgaa

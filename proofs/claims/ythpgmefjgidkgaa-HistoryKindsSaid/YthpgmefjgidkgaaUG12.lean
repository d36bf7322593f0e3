/- What events come to. -/
import Derived.Test.YthpgmefjgidkgaaUF12
import Derived.Test.YthpgmefjgidkgaaS12c
namespace Go.Proofs.Ythpgmefjgidkgaa
open Go.RowKit
set_option linter.unusedVariables false
set_option linter.unusedSimpArgs false

def evC (e : Ev) : List Value := [.int .u8 e.k, .int .i64 e.at', .int .i64 e.n, .int .i64 e.p, .int .i64 e.a, .int .i64 e.b, .string e.s]
theorem ev_cells {w W1 : World} {s : Option Addr} {len : Nat} {V : Nat → Ev} (h : Rows_ w s len 7 (fun i => evC (V i))) (hx : Ext w W1) {i : Nat} (hi : i < len) :
    ∃ b o, s = some ⟨b, o, none⟩ ∧ b < W1.heap.size ∧ W1.cell? ⟨b, o + i * 7, none⟩ = some (.int .u8 (V i).k) ∧ W1.cell? ⟨b, o + i * 7 + 1, none⟩ = some (.int .i64 (V i).at') ∧ W1.cell? ⟨b, o + i * 7 + 2, none⟩ = some (.int .i64 (V i).n) ∧
      W1.cell? ⟨b, o + i * 7 + 3, none⟩ = some (.int .i64 (V i).p) ∧ W1.cell? ⟨b, o + i * 7 + 4, none⟩ = some (.int .i64 (V i).a) ∧ W1.cell? ⟨b, o + i * 7 + 5, none⟩ = some (.int .i64 (V i).b) ∧ W1.cell? ⟨b, o + i * 7 + 6, none⟩ = some (.string (V i).s) := by
  obtain ⟨b, o, rfl, hb, hr⟩ := h (by omega)
  have hk : ∀ k, k < 7 → W1.cell? ⟨b, o + i * 7 + k, none⟩ = (evC (V i))[k]? := fun k hk => by
    rw [hx.cell (p := ⟨b, o + i * 7 + k, none⟩) hb, ← (hr i hi).2 k hk, Nat.add_assoc]
  exact ⟨b, o, rfl, Nat.lt_of_lt_of_le hb hx.size, hk 0 (by decide), hk 1 (by decide), hk 2 (by decide), hk 3 (by decide), hk 4 (by decide), hk 5 (by decide), hk 6 (by decide)⟩
def FoldPost (w : World) (l : List Ev) (en : Ending) (w' : World) : Prop := ∃ m', en = .returned (.tuple #[.agg (hC (foldH l) m'), .int .i64 (foldN l)]) ∧ HsIn w' (foldH l) m' ∧ Ext w w'
set_option maxRecDepth 100000 in
set_option maxHeartbeats 4000000 in
theorem fold_calls (s : Option Addr) (cap : Nat) (l : List Ev) (w : World) (hrows : Rows_ w s l.length 7 (fun i => evC (l.getD i default))) (hl : l.length ≤ 100000) (hcap : l.length ≤ cap) (hu : ∀ i, i < l.length → 0 ≤ (l.getD i default).k ∧ (l.getD i default).k ≤ 255) :
    Calls Try.prog 16 #[.slice s l.length cap] w (FoldPost w l) := by
  have HROWS := Lib.hid hrows; have HU := Lib.hid hu
  clear hrows hu
  go_enter Try.func16, Try.ntmps16
  go_upto_region 2 with fail
  refine wp_at ?_
  intro W1 hW
  have X1 := Lib.hid (show Ext w W1 by rw [hW]; repeat (first | exact ext_refl _ | assumption | refine ext_more' ?_ _ _ | refine ext_drew ?_ | refine ext_drewN ?_ _ | refine ext_alloc ?_ _))
  have br := at_new (by rw [hW]; repeat (first | exact ext_refl _ | assumption | refine ext_more' ?_ _ _ | refine ext_drew ?_ | refine ext_drewN ?_ _ | refine ext_alloc ?_ _) : Ext (World.alloc w (.cells _ _)) W1)
  have bx := at_new (by rw [hW]; repeat (first | exact ext_refl _ | assumption | refine ext_more' ?_ _ _ | refine ext_drew ?_ | refine ext_drewN ?_ _ | refine ext_alloc ?_ _) : Ext ((World.alloc w (.cells _ _)).alloc (.cells _ _)) W1)
  simp only [sz_alloc] at bx
  clear hW
  have hox0 : OwnHX W1 W1.heap.size (w.heap.size + 1) (fh l 0) ⟨none, 0, none, 0, none, 0, none, 0⟩ := ⟨⟨World.ownsRow_nil _ _ _ _, by simp [Value.ownBlock]⟩, ⟨World.ownsRow_nil _ _ _ _, by simp [Value.ownBlock]⟩, ⟨World.ownsRow_nil _ _ _ _, by simp [Value.ownBlock]⟩, ⟨World.ownsRow_nil _ _ _ _, by simp [Value.ownBlock]⟩⟩
  have HOX0 := Lib.hid hox0; have BR := Lib.hid br; have BX := Lib.hid bx
  have zx : w.heap.size + 1 < W1.heap.size := at_lt bx (by simp)
  clear hox0 br bx
  go_wp2
  go_loopg [9] l.length (fun g kk wr => ∃ (i : Nat) (m : Hm), Ext w wr ∧ W1.heap.size ≤ wr.heap.size ∧ At wr w.heap.size #[.string ⟨#[]⟩, .int .i64 0, .slice none 0 0, .slice none 0 0, .slice none 0 0, .slice none 0 0, .bool false, .bool false, .int .i64 0, .int .i64 0, .int .i64 0, .int .i64 0] ∧ At wr (w.heap.size + 1) (hC (fh l i) m) ∧ OwnHX wr W1.heap.size (w.heap.size + 1) (fh l i) m ∧ kk = .int .i64 i ∧ g + i = l.length ∧ ∀ j, j < i → okAt l j = true)
  case atStart => exact ⟨0, ⟨none, 0, none, 0, none, 0, none, 0⟩, X1.out, Nat.le_refl _, BR.out, BX.out, HOX0.out, rfl, by omega, fun j hj => by omega⟩
  case round =>
    obtain ⟨i, m, hxr, hzr, hbr, hbx, hox, rfl, hgi, hall⟩ := hrel
    have HF := Lib.hid (fh_P hall)
    have HALL := Lib.hid hall
    clear hall HOX0 BR BX
    obtain ⟨h, hh⟩ : ∃ h, h = fh l i := ⟨_, rfl⟩
    rw [← hh] at hbx hox HF
    have HH := Lib.hid hh; clear hh
    obtain ⟨prog, arg, cmds, tries, known, sigs, st, cl, ⟨ost, ov⟩, len, last⟩ := h
    obtain ⟨cs, cc, ts, tc, ks, kc, ss, sc⟩ := m
    have HX := Lib.hid hxr; have HBR := Lib.hid hbr; have HBX := Lib.hid hbx; have HOX := Lib.hid hox
    unfold hC at hbx
    have kb := hbx.1
    have lb := at_lt hbx (by simp)
    have lb' : w.heap.size < wr.heap.size := by omega
    clear hxr hbr hbx hox
    by_cases hi : i < l.length
    · obtain ⟨b, o, rfl, lr, c0, c1, c2, c3, c4, c5, c6⟩ := ev_cells HROWS.out HX.out hi
      have hu := HU.out i hi
      obtain ⟨⟨k, at', n, p, a, b_, s_⟩, hee⟩ : ∃ e, e = l.getD i default := ⟨_, rfl⟩
      rw [← hee] at c0 c1 c2 c3 c4 c5 c6 hu
      simp only at c0 c1 c2 c3 c4 c5 c6 hu
      have HEE := Lib.hid hee; clear hee
      have hi3 : (i : Int) < l.length := by omega
      have hq1 : cmds.length ≤ 1000000 := by have := HF.out.cl; simp only at this; omega
      have hq2 : tries.length ≤ 1000000 := by have := HF.out.tl; simp only at this; omega
      have hq3 : known.length ≤ 1000000 := by have := HF.out.kl; simp only at this; omega
      have hq4 : sigs.length ≤ 1000000 := by have := HF.out.sl; simp only at this; omega
      have hsm : HsSm ⟨prog, arg, cmds, tries, known, sigs, st, cl, ⟨ost, ov⟩, len, last⟩ := ⟨hq1, hq2, hq3, hq4⟩
      have HSM := Lib.hid hsm
      have hlen0 : 0 ≤ len := by have := HF.out.len; simp only at this; omega
      have hlen1 : len ≤ 1000000 := by have := HF.out.len; simp only at this; omega
      clear hsm
      have hok : okAt l i = (evR ⟨k, at', n, p, a, b_, s_⟩ && mayB ⟨prog, arg, cmds, tries, known, sigs, st, cl, ⟨ost, ov⟩, len, last⟩ ⟨k, at', n, p, a, b_, s_⟩) := by unfold okAt; rw [← HEE.out, ← HH.out]
      have HOK := Lib.hid hok; clear hok
      cases he : evR ⟨k, at', n, p, a, b_, s_⟩
      · have HE := Lib.hid he
        have HFN := Lib.hid (foldN_eq (l := l) (i := i) (by omega) HALL.out (.inr (by rw [HOK.out, he]; rfl)))
        clear he
        go_upto_region 6 with (go_at_call 11; refine (right_calls _ _ _ _ _ _ _ _ hu.1 hu.2).mono ?_; rw [HE.out]; rintro e w3 ⟨rfl, hb⟩; obtain ⟨r, d, rfl⟩ := ext_form hb; clear hb)
        refine wp_at ?_
        intro W8 hW
        have x8 : Ext wr W8 := by rw [hW]; repeat (first | exact ext_refl _ | assumption | refine ext_more' ?_ _ _ | refine ext_drew ?_ | refine ext_drewN ?_ _ | refine ext_alloc ?_ _)
        clear hW kb lb
        have br8 := at_ext HBR.out (by simp) x8
        have bx8 := at_ext HBX.out (by simp [hC]) x8
        have X8 := Lib.hid (ext_trans HX.out x8)
        have HO8 := Lib.hid (HOX.out.ext x8)
        clear x8
        unfold hC at bx8
        have kb8 := bx8.1
        have lb8 := at_lt bx8 (by simp)
        have kr8 := br8.1
        have fr8 := br8.2
        have lr8 := at_lt br8 (by simp)
        go_wp2
        refine post_at ?_
        intro w9 hW
        have hcs : w9 = W8.setCells w.heap.size 0 (hC ⟨prog, arg, cmds, tries, known, sigs, st, cl, ⟨ost, ov⟩, len, last⟩ ⟨cs, cc, ts, tc, ks, kc, ss, sc⟩).toList := hW
        have hat9 := at_setCells (cells := (hC ⟨prog, arg, cmds, tries, known, sigs, st, cl, ⟨ost, ov⟩, len, last⟩ ⟨cs, cc, ts, tc, ks, kc, ss, sc⟩)) br8 rfl
        rw [← hcs] at hat9
        have C9 := chg_setCells w.heap.size (hC ⟨prog, arg, cmds, tries, known, sigs, st, cl, ⟨ost, ov⟩, len, last⟩ ⟨cs, cc, ts, tc, ks, kc, ss, sc⟩).toList 0 W8
        rw [← hcs] at C9
        clear hcs hW kb8 lb8 kr8 fr8 lr8 br8 bx8
        unfold hC at hat9
        have k9 := hat9.1
        have hx9 := ext_chg X8.out C9 (fun i h => by omega)
        refine bodyPost_ret (by simp [results, Try.results16, go_sem, k9]; rfl) rfl ?_
        refine ⟨⟨cs, cc, ts, tc, ks, kc, ss, sc⟩, ?_, ?_, hx9⟩
        · rw [HFN.out]; unfold foldH; rw [HFN.out, ← HH.out]; rfl
        · unfold foldH; rw [HFN.out, ← HH.out]; exact hsin_of (HO8.out.chgS C9 (fun k hk _ e => by omega))
      have HE := Lib.hid he
      have hek := evR_parts he
      have hk1 : 1 ≤ k := hek.1
      have hk7 : k ≤ 7 := hek.2.1
      have hkd5 := hek.2.2.2.2
      clear hek
      have hn1 : k = 3 → 1 ≤ n := by
        intro h3
        unfold kindB at hkd5
        simp only [h3] at hkd5
        simp only [Int.reduceEq, if_false, if_true, Bool.and_eq_true, numB, decide_eq_true_eq] at hkd5
        exact hkd5.1.1
      have hp2 : k = 2 → 0 ≤ p ∧ p ≤ 3 := by
        intro h3
        unfold kindB at hkd5
        simp only [h3] at hkd5
        simp only [Int.reduceEq, if_false, if_true, Bool.and_eq_true, decide_eq_true_eq] at hkd5
        exact ⟨hkd5.2.1, hkd5.2.2.1⟩
      clear hkd5
      have htl : tries.length = cmds.length := tl_of HF.out.right
      have htb : ∀ i, i < cmds.length → 0 ≤ tries.getD i default ∧ tries.getD i default ≤ 100 := tb_of HF.out.right
      have HTL := Lib.hid htl; have HTB := Lib.hid htb
      have HN1 := Lib.hid hn1; have HP2 := Lib.hid hp2
      clear htl htb hn1 hp2
      cases hm : mayB ⟨prog, arg, cmds, tries, known, sigs, st, cl, ⟨ost, ov⟩, len, last⟩ ⟨k, at', n, p, a, b_, s_⟩
      · have HM := Lib.hid hm
        have HFN := Lib.hid (foldN_eq (l := l) (i := i) (by omega) HALL.out (.inr (by rw [HOK.out, he, hm]; rfl)))
        clear he hm
        go_upto_region 6 with (first | (go_at_call 11; refine (right_calls _ _ _ _ _ _ _ _ hu.1 hu.2).mono ?_; rw [HE.out]; rintro e w3 ⟨rfl, hb⟩; obtain ⟨r, d, rfl⟩ := ext_form hb; clear hb) | (go_at_call 22; refine (may_calls prog arg ost ov len last cs ts ks ss cc tc kc sc cmds tries sigs known st cl k at' n p a b_ s_ _ ((hsin_of HOX.out).ext (by repeat (first | exact ext_refl _ | assumption | refine ext_more' ?_ _ _ | refine ext_drew ?_ | refine ext_drewN ?_ _ | refine ext_alloc ?_ _))) HSM.out hu.1 hu.2 HN1.out HTL.out HTB.out).mono ?_; rw [HM.out]; rintro e w3 ⟨rfl, hb⟩; obtain ⟨r, d, rfl⟩ := ext_form hb; clear hb))
        refine wp_at ?_
        intro W8 hW
        have x8 : Ext wr W8 := by rw [hW]; repeat (first | exact ext_refl _ | assumption | refine ext_more' ?_ _ _ | refine ext_drew ?_ | refine ext_drewN ?_ _ | refine ext_alloc ?_ _)
        clear hW kb lb
        have br8 := at_ext HBR.out (by simp) x8
        have bx8 := at_ext HBX.out (by simp [hC]) x8
        have X8 := Lib.hid (ext_trans HX.out x8)
        have HO8 := Lib.hid (HOX.out.ext x8)
        clear x8
        unfold hC at bx8
        have kb8 := bx8.1
        have lb8 := at_lt bx8 (by simp)
        have kr8 := br8.1
        have fr8 := br8.2
        have lr8 := at_lt br8 (by simp)
        go_wp2
        refine post_at ?_
        intro w9 hW
        have hcs : w9 = W8.setCells w.heap.size 0 (hC ⟨prog, arg, cmds, tries, known, sigs, st, cl, ⟨ost, ov⟩, len, last⟩ ⟨cs, cc, ts, tc, ks, kc, ss, sc⟩).toList := hW
        have hat9 := at_setCells (cells := (hC ⟨prog, arg, cmds, tries, known, sigs, st, cl, ⟨ost, ov⟩, len, last⟩ ⟨cs, cc, ts, tc, ks, kc, ss, sc⟩)) br8 rfl
        rw [← hcs] at hat9
        have C9 := chg_setCells w.heap.size (hC ⟨prog, arg, cmds, tries, known, sigs, st, cl, ⟨ost, ov⟩, len, last⟩ ⟨cs, cc, ts, tc, ks, kc, ss, sc⟩).toList 0 W8
        rw [← hcs] at C9
        clear hcs hW kb8 lb8 kr8 fr8 lr8 br8 bx8
        unfold hC at hat9
        have k9 := hat9.1
        have hx9 := ext_chg X8.out C9 (fun i h => by omega)
        refine bodyPost_ret (by simp [results, Try.results16, go_sem, k9]; rfl) rfl ?_
        refine ⟨⟨cs, cc, ts, tc, ks, kc, ss, sc⟩, ?_, ?_, hx9⟩
        · rw [HFN.out]; unfold foldH; rw [HFN.out, ← HH.out]; rfl
        · unfold foldH; rw [HFN.out, ← HH.out]; exact hsin_of (HO8.out.chgS C9 (fun k hk _ e => by omega))
      · have HM := Lib.hid hm
        have hn3 : k = 3 → 1 ≤ n ∧ n ≤ tries.length := fun h3 => by
          have h4 := (may_parts hm).2.2.2.2.1 h3
          unfold tryB leftB at h4
          simp only [Bool.and_eq_true, decide_eq_true_eq] at h4
          have h5 : n ≤ (cmds.length : Int) := h4.1.1
          rw [HTL.out]
          exact ⟨HN1.out h3, h5⟩
        have HN3 := Lib.hid hn3
        have HALL2 := Lib.hid (show ∀ j, j < i + 1 → okAt l j = true from fun j hj => by
          by_cases e : j = i
          · rw [e, HOK.out, he, hm]; rfl
          · exact HALL.out j (by omega))
        have HHS := Lib.hid (show fh l (i + 1) = putH ⟨prog, arg, cmds, tries, known, sigs, st, cl, ⟨ost, ov⟩, len, last⟩ ⟨k, at', n, p, a, b_, s_⟩ by rw [fh, ← HH.out, ← HEE.out])
        clear he hm hn3
        go_upto_region 7 with (first | (go_at_call 11; refine (right_calls _ _ _ _ _ _ _ _ hu.1 hu.2).mono ?_; rw [HE.out]; rintro e w3 ⟨rfl, hb⟩; obtain ⟨r, d, rfl⟩ := ext_form hb; clear hb) | (go_at_call 22; refine (may_calls prog arg ost ov len last cs ts ks ss cc tc kc sc cmds tries sigs known st cl k at' n p a b_ s_ _ ((hsin_of HOX.out).ext (by repeat (first | exact ext_refl _ | assumption | refine ext_more' ?_ _ _ | refine ext_drew ?_ | refine ext_drewN ?_ _ | refine ext_alloc ?_ _))) HSM.out hu.1 hu.2 HN1.out HTL.out HTB.out).mono ?_; rw [HM.out]; rintro e w3 ⟨rfl, hb⟩; obtain ⟨r, d, rfl⟩ := ext_form hb; clear hb))
        refine wp_at ?_
        intro W4 hW
        have x4 : Ext wr W4 := by rw [hW]; repeat (first | exact ext_refl _ | assumption | refine ext_more' ?_ _ _ | refine ext_drew ?_ | refine ext_drewN ?_ _ | refine ext_alloc ?_ _)
        have be4 := at_new (by rw [hW]; repeat (first | exact ext_refl _ | assumption | refine ext_more' ?_ _ _ | refine ext_drew ?_ | refine ext_drewN ?_ _ | refine ext_alloc ?_ _) : Ext (World.alloc wr (.cells _ _)) W4)
        clear hW kb lb c0 c1 c2 c3 c4 c5 c6 lr
        have BR4 := Lib.hid (at_ext HBR.out (by simp) x4)
        have BX4 := Lib.hid (at_ext HBX.out (by simp [hC]) x4)
        have HOX4 := Lib.hid (HOX.out.ext x4)
        have X4 := Lib.hid (ext_trans HX.out x4)
        have z4 := x4.size
        have ke := be4.1
        have le := at_lt be4 (by simp)
        clear x4 be4
        go_wp2_with (go_at_call 23; refine (put_calls prog arg ost ov len last cs ts ks ss cc tc kc sc cmds tries sigs known st cl k at' n p a b_ s_ (w.heap.size + 1) W1.heap.size _ BX4.out HOX4.out hlen0 hlen1 (by omega) HSM.out hk1 hk7 HP2.out HN3.out).mono ?_; rintro e w5 ⟨rfl, hc, m5, hb5, ho5⟩; have HC5 := Lib.hid hc; have HB5 := Lib.hid hb5; have HO5 := Lib.hid ho5; clear hc hb5 ho5)
        go_roundg (gk - 1)
        case measure => omega
        case rel => exact ⟨i + 1, m5, ext_chg X4.out HC5.out (fun i h => by have := X1.out.size; omega), by have := HC5.out.size; omega, at_chg BR4.out (by simp) HC5.out (by omega), by rw [HHS.out]; exact HB5.out, by rw [HHS.out]; exact HO5.out, by go_num, by omega, HALL2.out⟩
    · have hi3 : ¬ ((i : Int) < l.length) := by omega
      have hie : i = l.length := by omega
      have HFN := Lib.hid (foldN_eq (l := l) (i := i) (by omega) HALL.out (.inl hie))
      have HIE := Lib.hid hie; clear hie
      go_upto_region 9 with fail
      refine wp_at ?_
      intro W8 hW
      have x8 : Ext wr W8 := by rw [hW]; repeat (first | exact ext_refl _ | assumption | refine ext_more' ?_ _ _ | refine ext_drew ?_ | refine ext_drewN ?_ _ | refine ext_alloc ?_ _)
      clear hW kb lb
      have br8 := at_ext HBR.out (by simp) x8
      have bx8 := at_ext HBX.out (by simp [hC]) x8
      have X8 := Lib.hid (ext_trans HX.out x8)
      have HO8 := Lib.hid (HOX.out.ext x8)
      clear x8
      unfold hC at bx8
      have kb8 := bx8.1
      have lb8 := at_lt bx8 (by simp)
      have kr8 := br8.1
      have fr8 := br8.2
      have lr8 := at_lt br8 (by simp)
      go_wp2
      refine post_at ?_
      intro w9 hW
      have hcs : w9 = W8.setCells w.heap.size 0 (hC ⟨prog, arg, cmds, tries, known, sigs, st, cl, ⟨ost, ov⟩, len, last⟩ ⟨cs, cc, ts, tc, ks, kc, ss, sc⟩).toList := hW
      have hat9 := at_setCells (cells := (hC ⟨prog, arg, cmds, tries, known, sigs, st, cl, ⟨ost, ov⟩, len, last⟩ ⟨cs, cc, ts, tc, ks, kc, ss, sc⟩)) br8 rfl
      rw [← hcs] at hat9
      have C9 := chg_setCells w.heap.size (hC ⟨prog, arg, cmds, tries, known, sigs, st, cl, ⟨ost, ov⟩, len, last⟩ ⟨cs, cc, ts, tc, ks, kc, ss, sc⟩).toList 0 W8
      rw [← hcs] at C9
      clear hcs hW kb8 lb8 kr8 fr8 lr8 br8 bx8
      unfold hC at hat9
      have k9 := hat9.1
      have hx9 := ext_chg X8.out C9 (fun i h => by omega)
      refine bodyPost_ret (by simp [results, Try.results16, go_sem, k9]; rfl) rfl ?_
      refine ⟨⟨cs, cc, ts, tc, ks, kc, ss, sc⟩, ?_, ?_, hx9⟩
      · rw [HFN.out]; unfold foldH; rw [HFN.out, ← HH.out, HIE.out]; rfl
      · unfold foldH; rw [HFN.out, ← HH.out]; exact hsin_of (HO8.out.chgS C9 (fun k hk _ e => by omega))
end Go.Proofs.Ythpgmefjgidkgaa

/- Is what is over right? -/
import Derived.Test.YthpgmefjgidkgaaH12
import Derived.Test.YthpgmefjgidkgaaS12b
namespace Go.Proofs.Ythpgmefjgidkgaa
open Go.RowKit
set_option linter.unusedVariables false
set_option linter.unusedSimpArgs false

theorem knos_no {h : Hs} {i : Nat} (hi : i < h.known.length) (ho : knoOk h i = false) : knosB h = false := by
  unfold knosB
  cases hk : knosK h h.known.length
  · rfl
  · have := (knosK_iff h _).1 hk i hi
    rw [ho] at this; cases this
theorem int0z (w : World) : (zeroValue 3).run Try.prog w = .ok (.int .i64 0) w := by kernel_rfl
def SeenM (L : List Kno) (i : Nat) (M : List (Int × Value)) : Prop := ∀ n, mlook n M = if seenB L i n = true then some (.int .i64 1) else none
theorem seen0 (L : List Kno) : SeenM L 0 [] := fun n => by simp [mlook, seenB]
theorem seen_succ {L : List Kno} {i : Nat} {M : List (Int × Value)} (hi : i < L.length) (h : SeenM L i M) : SeenM L (i + 1) (mput (L.getD i default).n (.int .i64 1) M) := fun n => by
  have e : seenB L (i + 1) n = (seenB L i n || decide ((L.getD i default).n = n)) := by
    unfold seenB
    rw [List.take_add_one, List.any_append, List.getElem?_eq_getElem hi]
    simp [List.getD_eq_getElem?_getD, hi]
  rw [mlook_put, h n, e]
  by_cases hn : n = (L.getD i default).n
  · rw [if_pos hn, hn]; simp
  · rw [if_neg hn]
    have : decide ((L.getD i default).n = n) = false := by simpa using Ne.symm hn
    rw [this, Bool.or_false]
set_option maxRecDepth 100000 in
set_option maxHeartbeats 4000000 in
theorem known_calls (prog : ByteArray) (arg ost ov len last : Int) (cs ts ks ss : Option Addr) (cc tc kc sc : Nat) (cmds : List Cmd) (tries sigs : List Int) (known : List Kno) (st cl : Bool) (w : World) (hi : HsIn w ⟨prog, arg, cmds, tries, known, sigs, st, cl, ⟨ost, ov⟩, len, last⟩ ⟨cs, cc, ts, tc, ks, kc, ss, sc⟩) (hs : HsSm ⟨prog, arg, cmds, tries, known, sigs, st, cl, ⟨ost, ov⟩, len, last⟩) :
    Calls Try.prog 40 #[.agg #[.string prog, .int .i64 arg, .slice cs cmds.length cc, .slice ts tries.length tc, .slice ks known.length kc, .slice ss sigs.length sc, .bool st, .bool cl, .int .i64 ost, .int .i64 ov, .int .i64 len, .int .i64 last]] w fun e w' => e = .returned (.bool (knosB ⟨prog, arg, cmds, tries, known, sigs, st, cl, ⟨ost, ov⟩, len, last⟩)) ∧ Ext w w' := by
  have HIN := Lib.hid hi
  have hcl : cmds.length ≤ 1000000 := hs.1
  have hkl : known.length ≤ 1000000 := hs.2.2.1
  have hkc : known.length ≤ kc := hi.2.2.2.2.2.2.1
  clear hi hs
  have pm : ∀ w : World, (Instr.makeMap 42 none).run Try.prog w = .ok (.map (some w.heap.size)) (w.alloc (.map #[] 0)) := fun _ => rfl
  go_enter Try.func40, Try.ntmps40
  go_upto_region 2 with fail
  refine wp_at ?_
  intro W1 hW
  have X1 := Lib.hid (show Ext w W1 by rw [hW]; repeat (first | exact ext_refl _ | assumption | refine ext_more' ?_ _ _ | refine ext_drew ?_ | refine ext_drewN ?_ _ | refine ext_alloc ?_ _))
  have hbh := at_new (by rw [hW]; repeat (first | exact ext_refl _ | assumption | refine ext_more' ?_ _ _ | refine ext_drew ?_ | refine ext_drewN ?_ _ | refine ext_alloc ?_ _) : Ext (World.alloc w (.cells _ _)) W1)
  have hm0 := mp_new (k := .i64) (by rw [hW]; repeat (first | exact ext_refl _ | assumption | refine ext_more' ?_ _ _ | refine ext_drew ?_ | refine ext_drewN ?_ _ | refine ext_alloc ?_ _) : Ext ((World.alloc w (.cells _ _)).alloc (.map _ _)) W1)
  simp only [sz_alloc] at hm0
  clear hW
  have HM0 := Lib.hid hm0; clear hm0
  have HBH := Lib.hid hbh
  have kh := hbh.1
  have lh := at_lt hbh (by simp)
  clear hbh
  go_wp2
  go_loopg [10] known.length (fun g kk wr => ∃ (i : Nat) (M : List (Int × Value)), Ext w wr ∧ At wr w.heap.size #[.string prog, .int .i64 arg, .slice cs cmds.length cc, .slice ts tries.length tc, .slice ks known.length kc, .slice ss sigs.length sc, .bool st, .bool cl, .int .i64 ost, .int .i64 ov, .int .i64 len, .int .i64 last] ∧ Mp wr (w.heap.size + 1) .i64 M ∧ SeenM known i M ∧ kk = .int .i64 i ∧ g + i = known.length ∧ knosK ⟨prog, arg, cmds, tries, known, sigs, st, cl, ⟨ost, ov⟩, len, last⟩ i = true)
  case atStart => exact ⟨0, [], X1.out, HBH.out, HM0.out, seen0 _, rfl, by omega, rfl⟩
  case round =>
    obtain ⟨i, M, hxr, hbr, hmr, hse, rfl, hgi, hall⟩ := hrel
    have HALL := Lib.hid hall; clear hall
    have HSE := Lib.hid hse; clear hse
    have HMR := Lib.hid hmr; clear hmr
    clear kh lh HM0 HBH X1
    by_cases hi : i < known.length
    · obtain ⟨b, o, rfl, lb, c0, c1, c2⟩ := kno_cells HIN.out.2.2.1 (ext_refl w) hi
      obtain ⟨⟨kn, kst, kv⟩, hki⟩ : ∃ ki, ki = known.getD i default := ⟨_, rfl⟩
      rw [← hki] at c0 c1 c2
      simp only at c0 c1 c2
      have hok : knoOk ⟨prog, arg, cmds, tries, known, sigs, st, cl, ⟨ost, ov⟩, len, last⟩ i = (decide (1 ≤ kn) && (decide (kn ≤ (cmds.length : Int)) && (!seenB known i kn && evR ⟨4, 0, kn, kst, kv, 0, emp⟩))) := by unfold knoOk; simp only [← hki]
      have hss := seen_succ hi HSE.out
      rw [← hki] at hss
      simp only at hss
      have HSS := Lib.hid hss
      have c0' := (hxr.cell (p := ⟨b, o + i * 3, none⟩) lb).trans c0
      have c1' := (hxr.cell (p := ⟨b, o + i * 3 + 1, none⟩) lb).trans c1
      have c2' := (hxr.cell (p := ⟨b, o + i * 3 + 2, none⟩) lb).trans c2
      have lb' : b < wr.heap.size := Nat.lt_of_lt_of_le lb hxr.size
      clear hki c0 c1 c2 lb hss
      have hi3 : (i : Int) < known.length := by omega
      have HOK := Lib.hid hok; clear hok
      have HNO := Lib.hid (fun h => knos_no (h := ⟨prog, arg, cmds, tries, known, sigs, st, cl, ⟨ost, ov⟩, len, last⟩) hi h)
      have HX := Lib.hid hxr
      have kh := hbr.1
      have lh := at_lt hbr (by simp)
      have HB := Lib.hid hbr
      clear hxr hbr
      obtain ⟨wq, hwq⟩ : ∃ wq, wq = wr := ⟨_, rfl⟩
      go_upto_region 5 with fail
      refine wp_at ?_
      intro W5 hW
      have x5 : Ext wr W5 := by rw [hW]; repeat (first | exact ext_refl _ | assumption | refine ext_more' ?_ _ _ | refine ext_drew ?_ | refine ext_drewN ?_ _ | refine ext_alloc ?_ _)
      have b5 := at_new (by rw [hW]; repeat (first | exact ext_refl _ | assumption | refine ext_more' ?_ _ _ | refine ext_drew ?_ | refine ext_drewN ?_ _ | refine ext_alloc ?_ _) : Ext (World.alloc wr (.cells _ _)) W5)
      clear hW hwq
      have X5 := Lib.hid (ext_trans HX.out x5)
      have HB5 := Lib.hid (at_ext HB.out (by simp) x5)
      have HM5 := Lib.hid (HMR.out.ext x5)
      have kh5 := HB5.out.1
      have lh5 := at_lt HB5.out (by simp)
      have k5 := b5.1
      have l5 := at_lt b5 (by simp)
      have hlk := (run_mlook (P := Try.prog) Try.underlying42 Try.underlying3 HM5.out kn (int0z W5)).1
      rw [HSE.out kn] at hlk
      clear kh lh HX HB HMR b5 x5 c0' c1' c2' lb'
      by_cases e1 : kn < 1
      · have HF := Lib.hid (HNO.out (by rw [HOK.out]; have : ¬ 1 ≤ kn := by omega
                                        simp [this]))
        clear hlk
        go_wp2
        go_ret
        exact ⟨by rw [HF.out]; rfl, X5.out⟩
      have e1' : 1 ≤ kn := by omega
      clear e1
      by_cases e2 : (cmds.length : Int) < kn
      · have HF := Lib.hid (HNO.out (by rw [HOK.out]; have : ¬ kn ≤ (cmds.length : Int) := by omega
                                        simp [this]))
        clear hlk
        go_wp2
        go_ret
        exact ⟨by rw [HF.out]; rfl, X5.out⟩
      have e2' : kn ≤ (cmds.length : Int) := by omega
      clear e2
      cases e3 : seenB known i kn
      rotate_left
      · have HF := Lib.hid (HNO.out (by rw [HOK.out, e3]; simp))
        rw [e3] at hlk
        simp only [if_true, Option.getD_some] at hlk
        clear e3
        go_wp2
        go_ret
        exact ⟨by rw [HF.out]; rfl, X5.out⟩
      · rw [e3] at hlk
        simp only [Bool.false_eq_true, if_false, Option.getD_none] at hlk
        have E3 := Lib.hid e3; clear e3
        cases e4 : evR ⟨4, 0, kn, kst, kv, 0, emp⟩
        · have E4 := Lib.hid (show evR ⟨4, 0, kn, kst, kv, 0, ⟨#[]⟩⟩ = false from e4)
          have HF := Lib.hid (HNO.out (by rw [HOK.out, e4]; simp))
          clear e4
          go_wp2_with (go_at_call 11; refine (right_calls _ _ _ _ _ _ _ _ (by decide) (by decide)).mono ?_; rw [E4.out]; rintro e w1 ⟨rfl, hb⟩; obtain ⟨r, d, rfl⟩ := ext_form hb; clear hb)
          go_ret
          exact ⟨by rw [HF.out]; rfl, ext_trans X5.out (by repeat (first | exact ext_refl _ | assumption | refine ext_more' ?_ _ _ | refine ext_drew ?_ | refine ext_drewN ?_ _ | refine ext_alloc ?_ _))⟩
        · have E4 := Lib.hid (show evR ⟨4, 0, kn, kst, kv, 0, ⟨#[]⟩⟩ = true from e4)
          have HG := Lib.hid (show knosK ⟨prog, arg, cmds, tries, known, sigs, st, cl, ⟨ost, ov⟩, len, last⟩ (i + 1) = true by rw [knosK, HALL.out, HOK.out, e4, E3.out]; simp [e1', e2'])
          clear e4
          go_wp2_with (first | (go_at_call 11; refine (right_calls _ _ _ _ _ _ _ _ (by decide) (by decide)).mono ?_; rw [E4.out]; rintro e w1 ⟨rfl, hb⟩; obtain ⟨r, d, rfl⟩ := ext_form hb; clear hb) | (refine list_mupd rfl (.tmp 45) (.tmp 47) (.const (.int .i64 1)) 42 rfl 3 3 .i64 Try.underlying42 Try.underlying3 (w.heap.size + 1) M rfl (HM5.out.ext (by repeat (first | exact ext_refl _ | assumption | refine ext_more' ?_ _ _ | refine ext_drew ?_ | refine ext_drewN ?_ _ | refine ext_alloc ?_ _))) kn _ rfl rfl ?_; intro w7 hm7 hc7; have HM7 := Lib.hid hm7; have HC7 := Lib.hid hc7; have HB7 := Lib.hid (at_chg (at_ext HB5.out (by simp) (by repeat (first | exact ext_refl _ | assumption | refine ext_more' ?_ _ _ | refine ext_drew ?_ | refine ext_drewN ?_ _ | refine ext_alloc ?_ _))) (by simp) hc7 (by omega)); have X7 := Lib.hid (ext_chg (ext_trans X5.out (by repeat (first | exact ext_refl _ | assumption | refine ext_more' ?_ _ _ | refine ext_drew ?_ | refine ext_drewN ?_ _ | refine ext_alloc ?_ _))) hc7 (fun i h => by omega)); clear hm7 hc7))
          go_roundg (gk - 1)
          case measure => omega
          case rel => exact ⟨i + 1, _, X7.out, HB7.out, HM7.out, HSS.out, by go_num, by omega, HG.out⟩
    · have hi3 : ¬ ((i : Int) < known.length) := by omega
      have hie : i = known.length := by omega
      have HG := Lib.hid (show knosB ⟨prog, arg, cmds, tries, known, sigs, st, cl, ⟨ost, ov⟩, len, last⟩ = true by unfold knosB; rw [← hie]; exact HALL.out)
      have HX := Lib.hid hxr
      have kh := hbr.1
      clear hie hxr hbr
      go_wp2
      go_ret
      exact ⟨by rw [HG.out]; rfl, HX.out⟩
end Go.Proofs.Ythpgmefjgidkgaa

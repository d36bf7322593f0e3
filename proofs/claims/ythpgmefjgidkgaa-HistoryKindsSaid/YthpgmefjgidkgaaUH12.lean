/- The commands that are not over. -/
import Derived.Test.YthpgmefjgidkgaaH12
import Derived.Test.YthpgmefjgidkgaaS12f
import Derived.Test.YthpgmefjgidkgaaI12
import Derived.Test.YthpgmefjgidkgaaWj
namespace Go.Proofs.Ythpgmefjgidkgaa
open Go.RowKit
set_option linter.unusedVariables false
set_option linter.unusedSimpArgs false

theorem openK_len (h : Hs) : ∀ k, (openK h k).length ≤ k
  | 0 => by simp [openK]
  | k + 1 => by
    have := openK_len h k
    rw [openK]; split
    · simp; omega
    · omega
set_option maxRecDepth 100000 in
set_option maxHeartbeats 4000000 in
theorem open_calls (prog : ByteArray) (arg ost ov len last : Int) (cs ts ks ss : Option Addr) (cc tc kc sc : Nat) (cmds : List Cmd) (tries sigs : List Int) (known : List Kno) (st cl : Bool) (w : World) (hi : HsIn w ⟨prog, arg, cmds, tries, known, sigs, st, cl, ⟨ost, ov⟩, len, last⟩ ⟨cs, cc, ts, tc, ks, kc, ss, sc⟩) (hs : HsSm ⟨prog, arg, cmds, tries, known, sigs, st, cl, ⟨ost, ov⟩, len, last⟩) :
    Calls Try.prog 15 #[.agg #[.string prog, .int .i64 arg, .slice cs cmds.length cc, .slice ts tries.length tc, .slice ks known.length kc, .slice ss sigs.length sc, .bool st, .bool cl, .int .i64 ost, .int .i64 ov, .int .i64 len, .int .i64 last]] w fun e w' => (∃ ms cap, e = .returned (.slice ms (openL ⟨prog, arg, cmds, tries, known, sigs, st, cl, ⟨ost, ov⟩, len, last⟩).length cap)) ∧ Ext w w' := by
  have HIN := Lib.hid hi; have HSM := Lib.hid hs
  have hcl : cmds.length ≤ 1000000 := hs.1
  clear hi hs
  obtain ⟨i0, hi0, hz0, hz1, hz2⟩ := info_parts int_info
  go_enter Try.func15, Try.ntmps15
  go_upto_region 1 with fail
  refine wp_at ?_
  intro W1 hW
  have X1 := Lib.hid (show Ext w W1 by rw [hW]; repeat (first | exact ext_refl _ | assumption | refine ext_more' ?_ _ _ | refine ext_drew ?_ | refine ext_drewN ?_ _ | refine ext_alloc ?_ _))
  have hbh := at_new (by rw [hW]; repeat (first | exact ext_refl _ | assumption | refine ext_more' ?_ _ _ | refine ext_drew ?_ | refine ext_drewN ?_ _ | refine ext_alloc ?_ _) : Ext (World.alloc w (.cells _ _)) W1)
  clear hW
  have kh := hbh.1
  have lh := at_lt hbh (by simp)
  have HB := Lib.hid hbh
  have zl : w.heap.size < W1.heap.size := lh
  clear hbh
  go_wp2
  go_loopg [4, 3] cmds.length (fun g kk v wr => ∃ (i : Nat) (ms : Option Addr) (cap : Nat), Ext w wr ∧ At wr w.heap.size #[.string prog, .int .i64 arg, .slice cs cmds.length cc, .slice ts tries.length tc, .slice ks known.length kc, .slice ss sigs.length sc, .bool st, .bool cl, .int .i64 ost, .int .i64 ov, .int .i64 len, .int .i64 last] ∧ wr.ownsRow W1.heap.size 3 1 (.slice ms (openK ⟨prog, arg, cmds, tries, known, sigs, st, cl, ⟨ost, ov⟩, len, last⟩ i).length cap) (openK ⟨prog, arg, cmds, tries, known, sigs, st, cl, ⟨ost, ov⟩, len, last⟩ i).length ((openK ⟨prog, arg, cmds, tries, known, sigs, st, cl, ⟨ost, ov⟩, len, last⟩ i).flatMap numC) ∧ v = .slice ms (openK ⟨prog, arg, cmds, tries, known, sigs, st, cl, ⟨ost, ov⟩, len, last⟩ i).length cap ∧ kk = .int .i64 ((i : Int) + 1) ∧ g + i = cmds.length ∧ W1.heap.size ≤ wr.heap.size)
  case atStart => exact ⟨0, none, 0, X1.out, HB.out, World.ownsRow_nil _ _ _ _, rfl, rfl, by omega, Nat.le_refl _⟩
  case round =>
    obtain ⟨i, ms, cap, hxr, hbr, hor, rfl, rfl, hgi, hzr⟩ := hrel
    have HX := Lib.hid hxr; have HOR := Lib.hid hor; have HBR := Lib.hid hbr
    clear kh lh HB
    have kh := hbr.1
    have lh := at_lt hbr (by simp)
    have z1 := X1.out.size
    have hlk := openK_len ⟨prog, arg, cmds, tries, known, sigs, st, cl, ⟨ost, ov⟩, len, last⟩ i
    clear hxr hor hbr
    by_cases hi : i < cmds.length
    · have hi3 : (i : Int) + 1 ≤ cmds.length := by omega
      cases ho : knO known ((i : Int) + 1)
      · have HO := Lib.hid ho
        have hk1 : openK ⟨prog, arg, cmds, tries, known, sigs, st, cl, ⟨ost, ov⟩, len, last⟩ (i + 1) = openK ⟨prog, arg, cmds, tries, known, sigs, st, cl, ⟨ost, ov⟩, len, last⟩ i ++ [(i : Int) + 1] := by rw [openK]; simp only [ho, Option.isNone_none, if_true]
        have HK1 := Lib.hid hk1
        clear ho hk1
        obtain ⟨L, hL⟩ : ∃ L, L = openK ⟨prog, arg, cmds, tries, known, sigs, st, cl, ⟨ost, ov⟩, len, last⟩ i := ⟨_, rfl⟩
        rw [← hL] at HOR HK1 hlk
        rw [← hL]
        clear hL
        have M63 := Lib.hid (show L.length + 1 ≤ maxLen by unfold maxLen; omega)
        have M47 := Lib.hid (show (L.length + 1) * 8 ≤ 140737488355328 by omega)
        go_upto_region 7 with (go_at_call 14; refine (over_calls ⟨prog, arg, cmds, tries, known, sigs, st, cl, ⟨ost, ov⟩, len, last⟩ ⟨cs, cc, ts, tc, ks, kc, ss, sc⟩ _ _ (HIN.out.ext (ext_trans HX.out (by repeat (first | exact ext_refl _ | assumption | refine ext_more' ?_ _ _ | refine ext_drew ?_ | refine ext_drewN ?_ _ | refine ext_alloc ?_ _)))) HSM.out).mono ?_; rw [HO.out]; rintro e w3 ⟨rfl, hb⟩; obtain ⟨r, d, rfl⟩ := ext_form hb; simp only [ovV, Option.isSome_none, Option.getD_none, Option.isSome_some, Option.getD_some]; clear hb)
        refine wp_at ?_
        intro W7 hW
        have x7 : Ext wr W7 := by rw [hW]; repeat (first | exact ext_refl _ | assumption | refine ext_more' ?_ _ _ | refine ext_drew ?_ | refine ext_drewN ?_ _ | refine ext_alloc ?_ _)
        clear hW kh lh
        have X7 := Lib.hid (ext_trans HX.out x7)
        have HB7 := Lib.hid (at_ext HBR.out (by simp) x7)
        have HOR7 := Lib.hid (own_ext HOR.out x7)
        have z7 := x7.size
        have HN := Lib.hid (show ∀ w', Ext (W7.alloc (.cells #[.int .i64 ((i : Int) + 1)] 3)) w' → Rds w' (some ⟨W7.heap.size, 0, none⟩) 1 1 (numC ((i : Int) + 1)) from fun w' h' => rds_newV (X := W7) h' rfl)
        clear x7
        go_wp2_with (at_builtin; refine list_app rfl (.tmp 22) (.tmp 24) 26 rfl W1.heap.size 3 i0 _ 1 8 Try.underlying26 hi0 hz0 hz1 hz2 rfl (by decide) (.slice ms L.length cap) L.length (L.flatMap numC) rfl (own_ext HOR7.out (by repeat (first | exact ext_refl _ | assumption | refine ext_more' ?_ _ _ | refine ext_drew ?_ | refine ext_drewN ?_ _ | refine ext_alloc ?_ _))) _ 1 _ (numC ((i : Int) + 1)) rfl (HN.out _ (by repeat (first | exact ext_refl _ | assumption | refine ext_more' ?_ _ _ | refine ext_drew ?_ | refine ext_drewN ?_ _ | refine ext_alloc ?_ _))) (oneCell_num _) M63.out M47.out (by simp; omega) ?_; intro v8 w8 hown8 hg8; obtain ⟨ms8, cap8, rfl⟩ := own_slice hown8; have HOWN8 := Lib.hid hown8; have HG8 := Lib.hid hg8; clear hown8 hg8)
        have hx8 : Ext w w8 := ext_grown (ext_trans X7.out (by repeat (first | exact ext_refl _ | assumption | refine ext_more' ?_ _ _ | refine ext_drew ?_ | refine ext_drewN ?_ _ | refine ext_alloc ?_ _))) HG8.out (fun k e => by have := (HOR7.out.lt k e).1; omega)
        have hb8 := grown_at HG8.out (at_ext HB7.out (by simp) (ext_alloc (ext_refl _) _)) (by simp) (fun e => by have := (HOR7.out.lt _ e).1; omega)
        have hs8 := HG8.out.size
        simp only [sz_alloc] at hs8
        have ho8 : w8.ownsRow W1.heap.size 3 1 (.slice ms8 (openK ⟨prog, arg, cmds, tries, known, sigs, st, cl, ⟨ost, ov⟩, len, last⟩ (i + 1)).length cap8) (openK ⟨prog, arg, cmds, tries, known, sigs, st, cl, ⟨ost, ov⟩, len, last⟩ (i + 1)).length ((openK ⟨prog, arg, cmds, tries, known, sigs, st, cl, ⟨ost, ov⟩, len, last⟩ (i + 1)).flatMap numC) := by
          have hf : (L ++ [(i : Int) + 1]).flatMap numC = L.flatMap numC ++ numC ((i : Int) + 1) := by simp
          have hl : (L ++ [(i : Int) + 1]).length = L.length + 1 := by simp
          rw [HK1.out, hf, hl]; exact HOWN8.out
        have HX8 := Lib.hid hx8; have HB8 := Lib.hid hb8; have HO8 := Lib.hid ho8
        have HL8 := Lib.hid (show L.length + 1 = (openK ⟨prog, arg, cmds, tries, known, sigs, st, cl, ⟨ost, ov⟩, len, last⟩ (i + 1)).length by rw [HK1.out]; simp)
        clear hx8 hb8 ho8 HOWN8 HG8
        go_roundg (gk - 1)
        case measure => omega
        case rel => exact ⟨i + 1, ms8, cap8, HX8.out, HB8.out, HO8.out, by rw [← HL8.out], by go_num, by omega, by omega⟩
      · rename_i oo
        have HO := Lib.hid ho
        have hk1 : openK ⟨prog, arg, cmds, tries, known, sigs, st, cl, ⟨ost, ov⟩, len, last⟩ (i + 1) = openK ⟨prog, arg, cmds, tries, known, sigs, st, cl, ⟨ost, ov⟩, len, last⟩ i := by rw [openK]; simp only [ho, Option.isNone_some, Bool.false_eq_true, if_false]
        have HK1 := Lib.hid hk1
        clear ho hk1
        obtain ⟨L, hL⟩ : ∃ L, L = openK ⟨prog, arg, cmds, tries, known, sigs, st, cl, ⟨ost, ov⟩, len, last⟩ i := ⟨_, rfl⟩
        rw [← hL] at HOR HK1 hlk
        rw [← hL]
        clear hL
        go_wp2_with (go_at_call 14; refine (over_calls ⟨prog, arg, cmds, tries, known, sigs, st, cl, ⟨ost, ov⟩, len, last⟩ ⟨cs, cc, ts, tc, ks, kc, ss, sc⟩ _ _ (HIN.out.ext (ext_trans HX.out (by repeat (first | exact ext_refl _ | assumption | refine ext_more' ?_ _ _ | refine ext_drew ?_ | refine ext_drewN ?_ _ | refine ext_alloc ?_ _)))) HSM.out).mono ?_; rw [HO.out]; rintro e w3 ⟨rfl, hb⟩; obtain ⟨r, d, rfl⟩ := ext_form hb; simp only [ovV, Option.isSome_none, Option.getD_none, Option.isSome_some, Option.getD_some]; clear hb)
        go_roundg (gk - 1)
        case measure => omega
        case rel => exact ⟨i + 1, ms, cap, ext_trans HX.out (by repeat (first | exact ext_refl _ | assumption | refine ext_more' ?_ _ _ | refine ext_drew ?_ | refine ext_drewN ?_ _ | refine ext_alloc ?_ _)), at_ext HBR.out (by simp) (by repeat (first | exact ext_refl _ | assumption | refine ext_more' ?_ _ _ | refine ext_drew ?_ | refine ext_drewN ?_ _ | refine ext_alloc ?_ _)), by rw [HK1.out]; exact own_ext HOR.out (by repeat (first | exact ext_refl _ | assumption | refine ext_more' ?_ _ _ | refine ext_drew ?_ | refine ext_drewN ?_ _ | refine ext_alloc ?_ _)), by rw [HK1.out], by go_num, by omega, by simp; omega⟩
    · have hi3 : ¬ ((i : Int) + 1 ≤ cmds.length) := by omega
      have hie : i = cmds.length := by omega
      have HG := Lib.hid (show openK ⟨prog, arg, cmds, tries, known, sigs, st, cl, ⟨ost, ov⟩, len, last⟩ i = openL ⟨prog, arg, cmds, tries, known, sigs, st, cl, ⟨ost, ov⟩, len, last⟩ by unfold openL; rw [hie])
      clear hie
      obtain ⟨L, hL⟩ : ∃ L, L = openK ⟨prog, arg, cmds, tries, known, sigs, st, cl, ⟨ost, ov⟩, len, last⟩ i := ⟨_, rfl⟩
      rw [← hL] at HG
      rw [← hL]
      clear hL hlk HOR
      go_wp2
      go_ret
      exact ⟨⟨ms, cap, by rw [← HG.out]; rfl⟩, HX.out⟩
end Go.Proofs.Ythpgmefjgidkgaa

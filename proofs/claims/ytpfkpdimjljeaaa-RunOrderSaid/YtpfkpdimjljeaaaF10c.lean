/- RunOrder. -/
import Derived.Test.YtpfkpdimjljeaaaP10c
import Derived.Test.YtpfkpdimjljeaaaP10b
import Derived.Test.YtpfkpdimjljeaaaK10x
import Derived.Test.YtpfkpdimjljeaaaH10e
namespace Go.Proofs.Ytpfkpdimjljeaaa
open Go.RowKit
set_option linter.unusedVariables false
set_option linter.unusedSimpArgs false

theorem rows_ne_giv3 {w : World} {s : Option Addr} {len q : Nat} {C : Nat → Kno} {arg f : Int} {k1 k2 : Option Addr} {n1 c1 n2 c2 : Nat} (h : Rows_ w s len 3 (fun i => knoC (C i))) (hq : ∀ i, w.cell? ⟨q, i, none⟩ = (#[.int .i64 arg, .slice k1 n1 c1, .slice k2 n2 c2, .int .i64 f] : Array Value)[i]?) (hl : 0 < len) {b o : Nat} (hs : s = some ⟨b, o, none⟩) : b ≠ q := by
  intro hbe
  obtain ⟨b', o', hs', _, hr⟩ := h hl
  rw [hs] at hs'; injection hs' with e1; injection e1 with e1 e2
  have h0 := (hr 0 hl).2 0 (by decide)
  have h1 := (hr 0 hl).2 1 (by decide)
  rw [← e1, hbe, hq] at h0 h1
  have hj : o' + (0 * 3 + 1) = o' + (0 * 3 + 0) + 1 := by omega
  rw [hj] at h1
  generalize o' + (0 * 3 + 0) = j at h0 h1
  rcases j with _ | _ | _ | _ | j
  all_goals simp [knoC] at h0 h1
def ex3 : List Kno := [⟨201, 0, 5⟩, ⟨0, 0, 0⟩, ⟨-1, 0, 0⟩]
/-- What the two runs of RunOrder are to each other. -/
theorem order_plain (p0 : ByteArray) (regs arg : Int) (clen : Nat) (I : Nat → Ins) (S : Nat → Int) (m2 : Nat) (L : List Kno) (hL : Once L) (hlen : L.length ≤ 300) (k : Nat) (h3 : (ex3 ++ L.drop k ++ L.take k).length ≤ 300) :
    runS p0 regs clen I (lookK (fun i => (ex3 ++ L.drop k ++ L.take k).getD i default) (min (ex3 ++ L.drop k ++ L.take k).length 300)) (sgF S m2) arg 2000 = runS p0 regs clen I (lookK (fun i => L.getD i default) (min L.length 300)) (sgF S m2) arg 2000 := by
  rw [Nat.min_eq_left h3, Nat.min_eq_left hlen, lookK_all, lookK_all]
  unfold runS
  split
  · split
    · refine runP_look I _ (fun m h1 h2 => ?_) _ _ (Nat.zero_le _)
      rw [List.append_assoc, lookL_append]
      have he : lookL ex3 m = none := lookL_none.2 fun x hx => by
        simp only [ex3, List.mem_cons, List.not_mem_nil, or_false] at hx
        rcases hx with rfl | rfl | rfl <;> simp <;> omega
      rw [he, Option.none_or, lookL_turn hL]
    · rfl
  · rfl
set_option maxRecDepth 100000 in
set_option maxHeartbeats 8000000 in
theorem order_walk (p0 : ByteArray) (regs arg fuel : Int) (cs ks ss : Option Addr) (clen ccap klen kcap slen scap : Nat) (I : Nat → Ins) (K : Nat → Kno) (S : Nat → Int) (turn : Int) (w : World) (hrows : Rows_ w cs clen 6 (fun i => insC (I i))) (hK : Rows_ w ks klen 3 (fun i => knoC (K i))) (hS : Rows_ w ss slen 1 (fun i => [.int .i64 (S i)])) (hk1 : klen ≤ kcap) (hs1 : slen ≤ scap) :
    Calls Try.prog 6 #[.agg #[.string p0, .int .i64 regs, .slice cs clen ccap], .agg #[.int .i64 arg, .slice ks klen kcap, .slice ss slen scap, .int .i64 fuel], .int .i64 turn] w fun e w' => e = .returned (.bool true) ∧ Ext w w' := by
  have HROWS := Lib.hid hrows; have HK := Lib.hid hK; have HS := Lib.hid hS
  clear hrows hK hS
  go_enter Try.func6, Try.ntmps6
  go_upto_region 1 with fail
  refine wp_at ?_
  intro W1 hW
  have hx : Ext w W1 := by rw [hW]; repeat (first | exact ext_refl _ | assumption | refine ext_more' ?_ _ _ | refine ext_drew ?_ | refine ext_drewN ?_ _ | refine ext_alloc ?_ _)
  have t0 := at_new (by rw [hW]; repeat (first | exact ext_refl _ | assumption | refine ext_more' ?_ _ _ | refine ext_drew ?_ | refine ext_drewN ?_ _ | refine ext_alloc ?_ _) : Ext (World.alloc w (.cells _ _)) W1)
  have t1 := at_new (by rw [hW]; repeat (first | exact ext_refl _ | assumption | refine ext_more' ?_ _ _ | refine ext_drew ?_ | refine ext_drewN ?_ _ | refine ext_alloc ?_ _) : Ext ((World.alloc w (.cells _ _)).alloc (.cells _ _)) W1)
  simp only [sz_alloc] at t1
  clear hW
  have HX := Lib.hid hx; clear hx
  have k0 := t0.1
  have l0 := at_lt t0 (by simp)
  go_wp2_with fail
  refine (great_calls p0 regs cs clen ccap I _ (rows_on2 HROWS.out HX.out)).mono ?_
  rintro e w2 ⟨⟨g, rfl⟩, hb⟩
  have t0' := at_ext t0 (by simp) hb; clear t0; have t0 := t0'; clear t0'
  have t1' := at_ext t1 (by simp) hb; clear t1; have t1 := t1'; clear t1'
  have X2 := Lib.hid (ext_trans HX.out hb)
  clear hb k0 l0 HX
  cases g
  case true =>
    go_wp2_with (go_at_call 11; refine (awake10_calls _).mono ?_; rintro e w1 ⟨rfl, hb⟩; obtain ⟨r, d, rfl⟩ := ext_form hb; clear hb)
    go_ret
    exact ⟨rfl, by have hx := X2.out; repeat (first | exact ext_refl _ | assumption | refine ext_more' ?_ _ _ | refine ext_drew ?_ | refine ext_drewN ?_ _ | refine ext_alloc ?_ _)⟩
  case false =>
    have k1 := t1.1
    have l1 := at_lt t1 (by simp)
    go_upto_region 3 with fail
    go_wp2_with fail
    refine (told_calls ks klen kcap K _ (rows_on2 HK.out X2.out)).mono ?_
    rintro e w3 ⟨msT, capT, rfl, hb, hrT, hcT, hcT2⟩
    have hL3 := toldF_len K (min klen 300)
    have hLo := Lib.hid (toldF_once K (min klen 300))
    replace hL3 : (toldF K (min klen 300)).length ≤ 300 := by omega
    generalize toldF K (min klen 300) = L at *
    have RT := Lib.hid hrT
    have X3 := Lib.hid (ext_trans X2.out hb)
    have t0' := at_ext t0 (by simp) hb; clear t0; have t0 := t0'; clear t0'
    have t1' := at_ext t1 (by simp) hb; clear t1; have t1 := t1'; clear t1'
    clear hrT hb k1 l1 X2
    have k1 := t1.1
    have f1 := t1.2
    have l1 := at_lt t1 (by simp)
    go_upto_region 5 with fail
    refine wp_at ?_
    intro W3 hW
    have g3 : Chg (fun k => k = w.heap.size + 1) w3 W3 := by rw [hW]; exact chg_put (chg_put (Chg.refl _ _))
    have t1' : At W3 (w.heap.size + 1) #[.int .i64 arg, .slice msT L.length capT, .slice ss slen scap, .int .i64 2000] := by rw [hW]; exact at_put (at_put t1 (by simp) rfl) (by simp) rfl
    have t0' := at_chg t0 (by simp) g3 (by omega)
    have RT' := Lib.hid (rows_chgS RT.out g3 (fun hl b o hs => rows_ne_giv3 RT.out (t1.1) hl hs))
    clear t0 t1 RT; have t0 := t0'; have t1 := t1'; have RT := RT'; clear t0' t1' RT'
    have X3' := Lib.hid (ext_chg X3.out g3 (fun i h => by omega)); clear X3; have X3 := X3'; clear X3'
    clear hW g3 k1 f1 l1
    have k0 := t0.1
    have k1 := t1.1
    have l0 := at_lt t0 (by simp)
    have l1 := at_lt t1 (by simp)
    go_wp2_with fail
    refine (of_calls p0 regs arg 2000 cs msT ss clen ccap L.length capT slen scap I (fun i => L.getD i default) S _ (rows_on2 HROWS.out X3.out) RT.out (rows_on2 HS.out X3.out) (by omega) hs1).mono ?_
    rintro e w4 ⟨ms4, cap4, rfl, hb, hr, hcap⟩
    generalize hq4 : runS p0 regs clen I (lookK (fun i => L.getD i default) (min L.length 300)) (sgF S (min slen 300)) arg 2000 = y1 at *
    have HQ4 := Lib.hid hq4; clear hq4
    have CAP4 := Lib.hid hcap
    clear hcap k0 k1 l0 l1
    go_upto_region 6 with fail
    refine wp_at ?_
    intro W4 hW
    have e4' : Ext w4 W4 := by rw [hW]; repeat (first | exact ext_refl _ | assumption | refine ext_more' ?_ _ _ | refine ext_drew ?_ | refine ext_drewN ?_ _ | refine ext_alloc ?_ _)
    have e4 : Ext W3 W4 := ext_trans hb e4'
    have b4 := at_new (by rw [hW]; repeat (first | exact ext_refl _ | assumption | refine ext_more' ?_ _ _ | refine ext_drew ?_ | refine ext_drewN ?_ _ | refine ext_alloc ?_ _) : Ext (World.alloc w4 (.cells _ _)) W4)
    have np4 : w.heap.size + 1 < w4.heap.size := by have := at_lt t1 (by simp); have := hb.size; omega
    have R4 := Lib.hid (rows_on2 hr e4')
    clear hW hb hr e4'
    generalize w4.heap.size = p4 at *
    have t0' := at_ext t0 (by simp) e4; clear t0; have t0 := t0'; clear t0'
    have t1' := at_ext t1 (by simp) e4; clear t1; have t1 := t1'; clear t1'
    have X4 := Lib.hid (ext_trans X3.out e4)
    have RT' := Lib.hid (rows_on2 RT.out e4); clear RT; have RT := RT'; clear RT' X3 e4
    have k1 := t1.1
    have l1 := at_lt t1 (by simp)
    obtain ⟨k, hk⟩ : ∃ j : Nat, turn % ((L.length : Int) + 1) = j := ⟨(turn % ((L.length : Int) + 1)).toNat, (Int.toNat_of_nonneg (Int.emod_nonneg _ (by omega))).symm⟩
    have hkL : k ≤ L.length := by have := Int.emod_lt_of_pos turn (show (0 : Int) < (L.length : Int) + 1 by omega); omega
    have hw1 : IntKind.i64.wrap ((L.length : Int) + 1) = (L.length : Int) + 1 := IntWalk.i64_in _ (by omega)
    go_wp2_with (go_at_call 16; refine (pick_calls _ _ _ (by omega) (by omega)).mono ?_; rintro e w1 ⟨rfl, rfl⟩)
    clear hw1 k1 l1
    obtain ⟨i0, hi0, hz0, hz1, hz2⟩ := info_parts kno_info
    have KA := Lib.hid (show ∀ w', Ext W4 w' → At w' (w.heap.size + 1) #[.int .i64 arg, .slice msT L.length capT, .slice ss slen scap, .int .i64 2000] from fun w' h' => at_ext t1 (by simp) h')
    have HN := Lib.hid (show ∀ w', Ext (W4.alloc (.cells (knoCs ex3).toArray 47)) w' → w'.ownsRow W4.heap.size 47 3 (.slice (some ⟨W4.heap.size, 0, none⟩) 3 3) 3 (knoCs ex3) from fun w' h' => own_new (X := W4) h' rfl (Nat.le_refl _) (by unfold maxLen; omega))
    have HD := Lib.hid (show ∀ w', Ext W4 w' → Rds w' msT L.length 3 (knoCs L) from fun w' h' => (rds_of_rows (g := knoC) (fun _ => rfl) (by decide) RT.out).ext h')
    have one1 : ∀ u ∈ (knoCs L).drop (k * 3), u.oneCell' = true := fun u hu => flat_one oneCell_kno L u (List.mem_of_mem_drop hu)
    have one2 : ∀ u ∈ (knoCs L).take (k * 3), u.oneCell' = true := fun u hu => flat_one oneCell_kno L u (List.mem_of_mem_take hu)
    have ONE1 := Lib.hid one1; have ONE2 := Lib.hid one2
    have m1 : 3 + (L.length - k) ≤ maxLen := by unfold maxLen; omega
    have m2 : (3 + (L.length - k)) * 24 ≤ 140737488355328 := by omega
    have m3 : 3 + (L.length - k) + k ≤ maxLen := by unfold maxLen; omega
    have m4 : (3 + (L.length - k) + k) * 24 ≤ 140737488355328 := by omega
    have M1 := Lib.hid m1; have M2 := Lib.hid m2; have M3 := Lib.hid m3; have M4 := Lib.hid m4
    have kc1 : (k : Int) ≤ capT := by omega
    have kc2 : (k : Int) ≤ L.length := by omega
    have kc3 : k ≤ capT := by omega
    have k1 := KA.out _ (ext_refl _) |>.1
    have f1 := KA.out _ (ext_refl _) |>.2
    have l1 := at_lt t1 (by simp)
    clear one1 one2 m1 m2 m3 m4
    go_region_law (first
      | (refine step_app rfl (.tmp 36) (.tmp 40) 25 rfl W4.heap.size 47 i0 _ 3 24 Try.underlying25 hi0 hz0 hz1 hz2 rfl (by decide) (.slice (some ⟨W4.heap.size, 0, none⟩) 3 3) 3 (knoCs ex3) rfl (HN.out _ (by repeat (first | exact ext_refl _ | assumption | refine ext_more' ?_ _ _ | refine ext_drew ?_ | refine ext_drewN ?_ _ | refine ext_alloc ?_ _))) _ _ _ _ rfl ((HD.out _ (by repeat (first | exact ext_refl _ | assumption | refine ext_more' ?_ _ _ | refine ext_drew ?_ | refine ext_drewN ?_ _ | refine ext_alloc ?_ _))).cut hkL hcT) ONE1.out M1.out M2.out (by simp) ?_; intro v1 w1 hown1 hg1; obtain ⟨ms1, cp1, rfl⟩ := own_slice hown1; have hx1 : Ext W4 w1 := ext_grown (by repeat (first | exact ext_refl _ | assumption | refine ext_more' ?_ _ _ | refine ext_drew ?_ | refine ext_drewN ?_ _ | refine ext_alloc ?_ _)) hg1 (fun q e => by simp [Value.ownBlock] at e; omega); have k1b := (KA.out _ hx1).1; have f1b := (KA.out _ hx1).2; have HOWN1 := Lib.hid hown1; clear hown1 hg1)
      | (refine step_app rfl (.tmp 41) (.tmp 45) 25 rfl W4.heap.size 47 i0 _ 3 24 Try.underlying25 hi0 hz0 hz1 hz2 rfl (by decide) _ _ _ rfl (own_ext HOWN1.out (by repeat (first | exact ext_refl _ | assumption | refine ext_more' ?_ _ _ | refine ext_drew ?_ | refine ext_drewN ?_ _ | refine ext_alloc ?_ _))) _ _ _ _ rfl ((HD.out _ (by repeat (first | exact ext_refl _ | assumption | refine ext_more' ?_ _ _ | refine ext_drew ?_ | refine ext_drewN ?_ _ | refine ext_alloc ?_ _))).first hkL) ONE2.out M3.out M4.out (by have := hx1.size; first | omega | (simp; omega)) ?_; intro v2 w2 hown2 hg2; obtain ⟨ms2, cp2, rfl⟩ := own_slice hown2; have hx2 : Ext W4 w2 := ext_grown (by repeat (first | exact ext_refl _ | assumption | refine ext_more' ?_ _ _ | refine ext_drew ?_ | refine ext_drewN ?_ _ | refine ext_alloc ?_ _)) hg2 (fun q e => (HOWN1.out.lt q e).1); have k1c := (KA.out _ hx2).1; have f1c := (KA.out _ hx2).2; have HOWN2 := Lib.hid hown2; clear hown2 hg2))
    all_goals
      refine then_at ?_
      intro W5 hW
      have hM : (ex3 ++ L.drop k ++ L.take k).length = 3 + (L.length - k) + k := by simp [ex3]; omega
      have hMo : knoCs ex3 ++ (knoCs L).drop (k * 3) ++ (knoCs L).take (k * 3) = knoCs (ex3 ++ L.drop k ++ L.take k) := by
        simp only [knoCs, List.flatMap_append]
        rw [flat_drop (g := knoC) (fun _ => rfl) L hkL, flat_take (g := knoC) (fun _ => rfl) L hkL]
      have hown := HOWN2.out
      rw [hMo] at hown
      simp only [← hM] at hown hW ⊢
      generalize (if capT = k then msT else Option.map (fun x => x.add (k * 3)) msT) = ax at *
      have HORD := Lib.hid (fun h3 => order_plain p0 regs arg clen I S (min slen 300) L hLo.out hL3 k h3)
      generalize ex3 ++ L.drop k ++ L.take k = M at *
      have hml : M.length ≤ 603 := by omega
      have g5 : Chg (fun k => k = w.heap.size + 1) w2 W5 := by rw [hW]; exact chg_put (Chg.refl _ _)
      have t1' : At W5 (w.heap.size + 1) #[.int .i64 arg, .slice ms2 M.length cp2, .slice ss slen scap, .int .i64 2000] := by rw [hW]; exact at_put (KA.out _ hx2) (by simp) rfl
      have t0' := at_chg (at_ext t0 (by simp) hx2) (by simp) g5 (by omega)
      have b4' := at_chg (at_ext b4 (by simp) hx2) (by simp) g5 (by omega)
      have RM := Lib.hid (rows_chgS (rows_of_own (g := knoC) (fun _ => rfl) hown) g5 (fun hl b o hs => rows_ne_giv3 (rows_of_own (g := knoC) (fun _ => rfl) hown) (KA.out _ hx2).1 hl hs))
      have hcM := (cap_of_own hown).1
      have R4' := Lib.hid (rows_chgS (rows_on2 R4.out hx2) g5 (fun hl b o hs => rows_ne_giv' (rows_on2 R4.out hx2) (KA.out _ hx2).1 hl hs))
      have X5 := Lib.hid (ext_chg (ext_trans X4.out hx2) g5 (fun i h => by omega))
      clear hW g5 hown hMo hM HOWN1 HOWN2 KA HN HD ONE1 ONE2 M1 M2 M3 M4 k1 f1 l1 k1b f1b k1c f1c hx1 hx2 X4 RT t0 t1 b4 R4
      have t0 := t0'; have t1 := t1'; have b4 := b4'; clear t0' t1' b4'
      clear kc1 kc2 kc3 hi0 hz0 hz1 hz2 hk hkL
      by_cases hgt : (300 : Int) < M.length
      · have k1 := t1.1
        have l1 := at_lt t1 (by simp)
        go_wp2_with (go_at_call 11; refine (awake10_calls _).mono ?_; rintro e w1 ⟨rfl, hb⟩; obtain ⟨r, d, rfl⟩ := ext_form hb; clear hb)
        go_ret
        exact ⟨rfl, by have hx := X5.out; repeat (first | exact ext_refl _ | assumption | refine ext_more' ?_ _ _ | refine ext_drew ?_ | refine ext_drewN ?_ _ | refine ext_alloc ?_ _)⟩
      · have k1 := t1.1
        have l1 := at_lt t1 (by simp)
        go_upto_region 10 with fail
        clear k1 l1
        have k0 := t0.1
        have k1 := t1.1
        have l0 := at_lt t0 (by simp)
        have l1 := at_lt t1 (by simp)
        go_wp2_with fail
        refine (of_calls p0 regs arg 2000 cs ms2 ss clen ccap M.length cp2 slen scap I (fun i => M.getD i default) S _ (rows_on2 HROWS.out X5.out) RM.out (rows_on2 HS.out X5.out) (by omega) hs1).mono ?_
        rintro e w6 ⟨ms6, cap6, rfl, hb, hr, hcap⟩
        generalize hq6 : runS p0 regs clen I (lookK (fun i => M.getD i default) (min M.length 300)) (sgF S (min slen 300)) arg 2000 = y2 at *
        have HQ6 := Lib.hid hq6; clear hq6
        have CAP6 := Lib.hid hcap
        clear hcap k0 k1 l0 l1
        go_upto_region 11 with fail
        refine wp_at ?_
        intro W6 hW
        have e6' : Ext w6 W6 := by rw [hW]; repeat (first | exact ext_refl _ | assumption | refine ext_more' ?_ _ _ | refine ext_drew ?_ | refine ext_drewN ?_ _ | refine ext_alloc ?_ _)
        have e6 : Ext W5 W6 := ext_trans hb e6'
        have b6 := at_new (by rw [hW]; repeat (first | exact ext_refl _ | assumption | refine ext_more' ?_ _ _ | refine ext_drew ?_ | refine ext_drewN ?_ _ | refine ext_alloc ?_ _) : Ext (World.alloc w6 (.cells _ _)) W6)
        have np6 : w.heap.size + 1 < w6.heap.size := by have := at_lt t1 (by simp); have := hb.size; omega
        have R6 := Lib.hid (rows_on2 hr e6')
        clear hW hb hr e6'
        generalize w6.heap.size = p6 at *
        have t0' := at_ext t0 (by simp) e6; clear t0; have t0 := t0'; clear t0'
        have t1' := at_ext t1 (by simp) e6; clear t1; have t1 := t1'; clear t1'
        have X6 := Lib.hid (ext_trans X5.out e6)
        have b4' := at_ext b4 (by simp) e6
        have R4 := Lib.hid (rows_on2 R4'.out e6)
        have hy : y2 = y1 := by rw [← HQ4.out]; exact HORD.out (by omega)
        subst hy
        have hyl : y2.cmds.length ≤ 200 := by
          rw [← HQ6.out]; unfold runS
          split
          · split
            · exact runP_len _ _ _ _ _ (Nat.zero_le _)
            · exact Nat.zero_le _
          · exact Nat.zero_le _
        have k4 := b4'.1
        have l4 := at_lt b4' (by simp)
        have k6 := b6.1
        have l6 := at_lt b6 (by simp)
        clear HQ4 HQ6 HORD
        go_wp2_with (first | (go_at_call 14; refine (same_true _ _ _ _ _ _ ms4 ms6 _ cap4 cap6 (fun i => y2.cmds.getD i default) _ (by omega) (rows_on2 R4.out (by repeat (first | exact ext_refl _ | assumption | refine ext_more' ?_ _ _ | refine ext_drew ?_ | refine ext_drewN ?_ _ | refine ext_alloc ?_ _))) (rows_on2 R6.out (by repeat (first | exact ext_refl _ | assumption | refine ext_more' ?_ _ _ | refine ext_drew ?_ | refine ext_drewN ?_ _ | refine ext_alloc ?_ _)))).mono ?_; rintro e w1 ⟨rfl, hb⟩; obtain ⟨r, d, rfl⟩ := ext_form hb; clear hb) | (go_at_call 11; refine (awake10_calls _).mono ?_; rintro e w1 ⟨rfl, hb⟩; obtain ⟨r, d, rfl⟩ := ext_form hb; clear hb))
        go_ret
        exact ⟨rfl, by have hx := X6.out; repeat (first | exact ext_refl _ | assumption | refine ext_more' ?_ _ _ | refine ext_drew ?_ | refine ext_drewN ?_ _ | refine ext_alloc ?_ _)⟩
end Go.Proofs.Ytpfkpdimjljeaaa

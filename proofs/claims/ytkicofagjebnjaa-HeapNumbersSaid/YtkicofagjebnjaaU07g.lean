/- HeapNumbers. -/
import Derived.Test.YtkicofagjebnjaaR07
import Derived.Test.YtkicofagjebnjaaSp7c
namespace Go.Proofs.Ytkicofagjebnjaa
open Go.RowKit
set_option linter.unusedVariables false
set_option linter.unusedSimpArgs false

def nA : Tmr := ⟨9223372036854775807, -1⟩
def nB : Tmr := ⟨-9223372036854775808, 4611686018427387904⟩
def nC : Tmr := ⟨0, 0⟩
def nD : Tmr := ⟨-9223372036854775808, -4611686018427387904⟩
def nF : Tmr := ⟨5, 4611686018427387904⟩
def nL : List Tmr := [nA, nB, nC, nD]
def nO : List Tmr := [nD, nB, nC, nA]
def nE : List Tmr := [nD, nB]
def nR : List Tmr := [nC, nA]
def nS : List Tmr := [nC, nF, nA]
theorem nL_S : mkS nL nL.length = nO := by decide +kernel
theorem nL_ds : ∀ i, i < nL.length → fnd (at_ nL i).id (mkS nL i) = none := by decide +kernel
/-- The great heap's timers. -/
def gT (i : Nat) : Tmr := ⟨-((i : Int) % 1000), i⟩
def mkG : Nat → List Tmr
  | 0 => []
  | i + 1 => ins (gT i) (mkG i)
theorem mkG_len : ∀ i, (mkG i).length = i
  | 0 => rfl
  | i + 1 => by rw [mkG, ins_length, mkG_len i]
theorem mkG_ids : ∀ i, ∀ y ∈ mkG i, 0 ≤ y.id ∧ y.id < i
  | 0, y, h => by cases h
  | i + 1, y, h => by
    rcases List.mem_cons.1 ((ins_perm _ _).subset h) with rfl | h
    · constructor
      · show (0 : Int) ≤ (i : Int); omega
      · show (i : Int) < ((i + 1 : Nat) : Int); omega
    · have := mkG_ids i y h
      omega
theorem mkG_none (i : Nat) : fnd (i : Int) (mkG i) = none := fnd_none.2 fun y hy e => by have := (mkG_ids i y hy).2; omega
theorem mkG_neg (i : Nat) : fnd (-1) (mkG i) = none := fnd_none.2 fun y hy e => by have := (mkG_ids i y hy).1; omega
def cG (i : Nat) : Nat := 500 * (i / 1000) + (i % 1000 - 500)
theorem mkG_cnt : ∀ i, ((mkG i).filter (dueB (-500))).length = cG i
  | 0 => rfl
  | i + 1 => by
    rw [mkG, ((ins_perm _ _).filter _).length_eq, List.filter_cons]
    have hd : dueB (-500) (gT i) = decide (500 ≤ i % 1000) := by
      unfold dueB gT; congr 1; apply propext; show -((i : Int) % 1000) ≤ -500 ↔ _; omega
    rw [hd]
    have ih := mkG_cnt i
    unfold cG at ih ⊢
    by_cases h : 500 ≤ i % 1000
    · rw [if_pos (by simpa using h), List.length_cons, ih]; omega
    · rw [if_neg (by simpa using h), ih]; omega
theorem take_filter {a : Int} : ∀ {S : List Tmr}, Srt S → S.takeWhile (dueB a) = S.filter (dueB a)
  | [], _ => rfl
  | x :: S, h => by
    by_cases hx : dueB a x = true
    · rw [List.takeWhile_cons, List.filter_cons, if_pos hx, if_pos hx, take_filter h.tail]
    · rw [List.takeWhile_cons, List.filter_cons, if_neg hx, if_neg hx]
      symm
      rw [List.filter_eq_nil_iff]
      intro y hy hd
      have h1 := h.head y hy
      unfold dueB at hx hd
      simp at hx hd
      unfold Ahd at h1
      omega
theorem mkG_take {i : Nat} (hs : Srt (mkG i)) : ((mkG i).takeWhile (dueB (-500))).length = cG i := by rw [take_filter hs, mkG_cnt]
theorem mkG_drop {i : Nat} (hs : Srt (mkG i)) : ((mkG i).dropWhile (dueB (-500))).length = i - cG i := by
  have := take_drop_len (dueB (-500)) (mkG i)
  rw [mkG_take hs, mkG_len] at this; omega

theorem new_no (n : Int) (w : World) (h : ¬ (1 ≤ n ∧ n ≤ 65536)) : Calls Try.prog 21 #[.int .i64 n] w fun e w' => e = .returned (.tuple #[.pointer none, .int .i64 2]) ∧ Ext w w' :=
  (new_calls n w).mono fun e w' p => by
    unfold NewPost at p
    rw [if_neg h] at p
    exact p
set_option maxRecDepth 100000 in
set_option maxHeartbeats 16000000 in
theorem numbers_walk (w : World) : Calls Try.prog 7 #[] w fun e w' => e = .returned (.bool true) ∧ Ext w w' := by
  go_enter Try.func7, Try.ntmps7
  go_upto_region 2 with fail
  refine wp_at ?_
  intro W2 hW
  have x_W2 : Ext w W2 := by rw [hW]; repeat (first | exact ext_refl _ | assumption | refine ext_more' ?_ _ _ | refine ext_drew ?_ | refine ext_drewN ?_ _ | refine ext_alloc ?_ _)
  have hab := at_new (by rw [hW]; repeat (first | exact ext_refl _ | assumption | refine ext_more' ?_ _ _ | refine ext_drew ?_ | refine ext_drewN ?_ _ | refine ext_alloc ?_ _) : Ext (World.alloc w (.cells _ _)) W2)
  clear hW
  have HAB := Lib.hid hab; have HX2 := Lib.hid x_W2
  clear hab x_W2
  go_loopg [23] 3 (fun gk k23 wr => ∃ (i : Nat), k23 = .int .i64 i ∧ gk + i = 3 ∧ Ext W2 wr)
  case atStart => exact ⟨0, rfl, rfl, by repeat (first | exact ext_refl _ | assumption | refine ext_more' ?_ _ _ | refine ext_drew ?_ | refine ext_drewN ?_ _ | refine ext_alloc ?_ _)⟩
  case round =>
    obtain ⟨i, rfl, hgi, hx⟩ := hrel
    have HX := Lib.hid hx
    clear hx
    by_cases hi : i < 3
    · have n1 : (i : Int) < 3 := by omega
      have n0 : (0 : Int) ≤ (i : Int) := by omega
      obtain ⟨p, hpc, hpn⟩ : ∃ p : Int, wr.cell? ⟨w.heap.size, i, none⟩ = some (.int .i64 p) ∧ ¬ (1 ≤ p ∧ p ≤ 65536) := by
        have ha := (at_ext HAB.out (by simp) HX.out).1 i
        rcases (show i = 0 ∨ i = 1 ∨ i = 2 by omega) with rfl | rfl | rfl
        · exact ⟨_, ha, by omega⟩
        · exact ⟨_, ha, by omega⟩
        · exact ⟨_, ha, by omega⟩
      have hla := at_lt (at_ext HAB.out (by simp) HX.out) (by simp)
      have HPN := Lib.hid hpn
      clear hpn
      go_upto_region 7 with (go_at_call 21; refine (new_no p _ HPN.out).mono ?_; rintro e w4 ⟨rfl, hx⟩; have HX4 := Lib.hid (ext_trans (show Ext wr _ from by repeat (first | exact ext_refl _ | assumption | refine ext_more' ?_ _ _ | refine ext_drew ?_ | refine ext_drewN ?_ _ | refine ext_alloc ?_ _)) hx); clear hx)
      go_wp2
      go_roundg (gk - 1)
      case measure => omega
      case rel => exact ⟨i + 1, by go_num, by omega, ext_trans HX.out (ext_trans HX4.out (by repeat (first | exact ext_refl _ | assumption | refine ext_more' ?_ _ _ | refine ext_drew ?_ | refine ext_drewN ?_ _ | refine ext_alloc ?_ _)))⟩
    have n1 : ¬ ((i : Int) < 3) := by omega
    have HX0 := Lib.hid (ext_trans HX2.out HX.out)
    go_wp2_with fail
    go_at_call 24
    refine (t_calls _ _ _).mono ?_
    rintro e v1 ⟨rfl, hx⟩
    have HV1 := Lib.hid (hx)
    clear hx
    go_wp2_with fail
    go_at_call 24
    refine (t_calls _ _ _).mono ?_
    rintro e v2 ⟨rfl, hx⟩
    have HV2 := Lib.hid (ext_trans HV1.out hx)
    clear hx
    go_wp2_with fail
    go_at_call 24
    refine (t_calls _ _ _).mono ?_
    rintro e v3 ⟨rfl, hx⟩
    have HV3 := Lib.hid (ext_trans HV2.out hx)
    clear hx
    go_wp2_with fail
    go_at_call 24
    refine (t_calls _ _ _).mono ?_
    rintro e v4 ⟨rfl, hx⟩
    have HV4 := Lib.hid (ext_trans HV3.out hx)
    clear hx
    have hb4 := at_new (ext_refl (World.alloc v4 (.cells #[.int .i64 9223372036854775807, .int .i64 (-1), .int .i64 (-9223372036854775808), .int .i64 4611686018427387904, .int .i64 0, .int .i64 0, .int .i64 (-9223372036854775808), .int .i64 (-4611686018427387904)] 29)))
    have HFL := Lib.hid (filled_calls 4 (some ⟨v4.heap.size, 0, none⟩) 4 nL _ (rows_box7 (g := tmrC) (n := 2) (fun _ => rfl) nL hb4 rfl (by decide)) (by decide) (by decide) (by decide) (by decide) nL_ds)
    clear hb4
    go_wp2_with fail
    go_at_call 23
    refine HFL.out.mono ?_
    intro e v5 hp
    obtain ⟨hb, mb, rh, rfl, ha5, hx5, hz1, hz2, hz3⟩ := hp
    rw [nL_S] at ha5
    have hh : Has v5 [oldR w, heapR hb mb rh nO 4] := ((has_old w).ext (ext_trans HX0.out (ext_trans HV4.out (ext_alloc (ext_refl v4) _)))).new hx5 (heapR hb mb rh nO 4) ha5 (fun k e => by
      rcases e with e | e | e
      · omega
      · omega
      · exact hz3 k e)
    have H5 := Lib.hid hh
    clear hh ha5 hx5 hz1 hz2 hz3 HFL HV4 HX0
    go_wp2_with fail
    go_at_call 24
    refine (t_calls _ _ _).mono ?_
    rintro e v6 ⟨rfl, hx⟩
    have H6 := Lib.hid (H5.out.ext (ext_trans (by repeat (first | exact ext_refl _ | assumption | refine ext_more' ?_ _ _ | refine ext_drew ?_ | refine ext_drewN ?_ _ | refine ext_alloc ?_ _)) hx))
    clear hx
    go_wp2_with fail
    go_at_call 22
    refine (put_calls ⟨1, 9⟩ hb mb _ nO 4 _ (H6.out.heapAt 1 rfl)).mono ?_
    rw [show putE nO 4 ⟨1, 9⟩ = 5 from by decide +kernel, show putS nO 4 ⟨1, 9⟩ = nO from by decide +kernel]
    rintro e v7 ⟨rfl, hp⟩
    obtain ⟨rh1, hh⟩ := H6.out.heap 1 rfl hp
    have hh2 : Has v7 [oldR w, heapR hb mb rh1 nO 4] := hh
    have H7 := Lib.hid hh2
    clear hp hh hh2
    go_wp2_with fail
    go_at_call 24
    refine (t_calls _ _ _).mono ?_
    rintro e v8 ⟨rfl, hx⟩
    have H8 := Lib.hid (H7.out.ext (ext_trans (by repeat (first | exact ext_refl _ | assumption | refine ext_more' ?_ _ _ | refine ext_drew ?_ | refine ext_drewN ?_ _ | refine ext_alloc ?_ _)) hx))
    clear hx
    go_wp2_with fail
    go_at_call 22
    refine (put_calls ⟨1, 0⟩ hb mb _ nO 4 _ (H8.out.heapAt 1 rfl)).mono ?_
    rw [show putE nO 4 ⟨1, 0⟩ = 40 from by decide +kernel, show putS nO 4 ⟨1, 0⟩ = nO from by decide +kernel]
    rintro e v9 ⟨rfl, hp⟩
    obtain ⟨rh2, hh⟩ := H8.out.heap 1 rfl hp
    have hh2 : Has v9 [oldR w, heapR hb mb rh2 nO 4] := hh
    have H9 := Lib.hid hh2
    clear hp hh hh2
    go_wp2_with fail
    go_at_call 15
    refine (len_calls hb mb _ nO 4 _ (H9.out.heapAt 1 rfl)).mono ?_
    rw [show ((nO.length : Nat) : Int) = 4 from rfl]
    rintro e v10 ⟨rfl, hx⟩
    have H10 := Lib.hid (H9.out.ext hx)
    clear hx
    go_wp2_with fail
    go_at_call 12
    refine (drop_calls 7 hb mb _ nO 4 _ ((H10.out.ext (by repeat (first | exact ext_refl _ | assumption | refine ext_more' ?_ _ _ | refine ext_drew ?_ | refine ext_drewN ?_ _ | refine ext_alloc ?_ _))).heapAt 1 rfl)).mono ?_
    rw [show drV (fnd 7 nO) = .tuple #[.agg #[.int .i64 0, .int .i64 0], .int .i64 40] from rfl, show wo 7 nO = nO from by decide +kernel]
    rintro e v11 ⟨rfl, hp⟩
    obtain ⟨rh3, hh⟩ := (H10.out.ext (by repeat (first | exact ext_refl _ | assumption | refine ext_more' ?_ _ _ | refine ext_drew ?_ | refine ext_drewN ?_ _ | refine ext_alloc ?_ _))).heap 1 rfl hp
    have hh2 : Has v11 [oldR w, heapR hb mb rh3 nO 4] := hh
    have H11 := Lib.hid hh2
    clear hp hh hh2
    go_wp2_with fail
    go_at_call 25
    refine (get_calls 4611686018427387904 hb mb _ nO 4 _ ((H11.out.ext (by repeat (first | exact ext_refl _ | assumption | refine ext_more' ?_ _ _ | refine ext_drew ?_ | refine ext_drewN ?_ _ | refine ext_alloc ?_ _))).heapAt 1 rfl)).mono ?_
    rw [show otV (fnd 4611686018427387904 nO) = .tuple #[.agg #[.int .i64 (-9223372036854775808), .int .i64 4611686018427387904], .bool true] from rfl]
    rintro e v12 ⟨rfl, hx⟩
    have H12 := Lib.hid (H11.out.ext (ext_trans (by repeat (first | exact ext_refl _ | assumption | refine ext_more' ?_ _ _ | refine ext_drew ?_ | refine ext_drewN ?_ _ | refine ext_alloc ?_ _)) hx))
    clear hx
    have hbx := H12.out.box (ext_refl _) (show 0 < (#[.int .i64 (-9223372036854775808), .int .i64 4611686018427387904] : Array Value).size from sz2 _ _) (ext_refl (World.alloc v12 (.cells #[.int .i64 (-9223372036854775808), .int .i64 4611686018427387904] 29)))
    obtain ⟨xb, hxb⟩ : ∃ xb, xb = v12.heap.size := ⟨_, rfl⟩
    rw [← hxb] at hbx
    have hh : Has _ [oldR w, heapR hb mb rh3 nO 4, boxR xb #[.int .i64 (-9223372036854775808), .int .i64 4611686018427387904] (sz2 _ _)] := hbx
    have H12b := Lib.hid hh
    have HXB := Lib.hid hxb
    clear hbx hh hxb
    go_wp2_with fail
    go_at_call 25
    refine (get_calls 9 hb mb _ nO 4 _ ((H12b.out.ext (by repeat (first | exact ext_refl _ | assumption | refine ext_more' ?_ _ _ | refine ext_drew ?_ | refine ext_drewN ?_ _ | refine ext_alloc ?_ _))).heapAt 1 rfl)).mono ?_
    rw [show otV (fnd 9 nO) = .tuple #[.agg #[.int .i64 0, .int .i64 0], .bool false] from rfl]
    rintro e v13 ⟨rfl, hx⟩
    have H13 := Lib.hid (H12b.out.ext (ext_trans (by repeat (first | exact ext_refl _ | assumption | refine ext_more' ?_ _ _ | refine ext_drew ?_ | refine ext_drewN ?_ _ | refine ext_alloc ?_ _)) hx))
    clear hx
    rw [← HXB.out]
    go_wp2_with fail
    go_at_call 17
    refine (due_calls (-9223372036854775808) hb mb _ nO 4 _ ((H13.out.ext (by repeat (first | exact ext_refl _ | assumption | refine ext_more' ?_ _ _ | refine ext_drew ?_ | refine ext_drewN ?_ _ | refine ext_alloc ?_ _))).heapAt 1 rfl)).mono ?_
    intro e v14 hp
    obtain ⟨ms8, cap8, rfl, hh⟩ := (H13.out.ext (by repeat (first | exact ext_refl _ | assumption | refine ext_more' ?_ _ _ | refine ext_drew ?_ | refine ext_drewN ?_ _ | refine ext_alloc ?_ _))).due 1 rfl hp
    rw [show nO.takeWhile (dueB (-9223372036854775808)) = nE from by decide +kernel, show nO.dropWhile (dueB (-9223372036854775808)) = nR from by decide +kernel] at hh
    rw [show nO.takeWhile (dueB (-9223372036854775808)) = nE from by decide +kernel]
    have hh2 : Has v14 [oldR w, heapR hb mb rh3 nR 4, boxR xb #[.int .i64 (-9223372036854775808), .int .i64 4611686018427387904] (sz2 _ _), tRow ms8 cap8 nE] := hh
    have H14 := Lib.hid hh2
    clear hp hh hh2
    go_wp2_with fail
    go_at_call 24
    refine (t_calls _ _ _).mono ?_
    rintro e v15 ⟨rfl, hx⟩
    have H15 := Lib.hid (H14.out.ext (ext_trans (by repeat (first | exact ext_refl _ | assumption | refine ext_more' ?_ _ _ | refine ext_drew ?_ | refine ext_drewN ?_ _ | refine ext_alloc ?_ _)) hx))
    clear hx
    go_wp2_with fail
    go_at_call 22
    refine (put_calls ⟨5, 4611686018427387904⟩ hb mb _ nR 4 _ (H15.out.heapAt 1 rfl)).mono ?_
    rw [show putE nR 4 ⟨5, 4611686018427387904⟩ = 0 from by decide +kernel, show putS nR 4 ⟨5, 4611686018427387904⟩ = nS from by decide +kernel]
    rintro e v16 ⟨rfl, hp⟩
    obtain ⟨rh5, hh⟩ := H15.out.heap 1 rfl hp
    have hh2 : Has v16 [oldR w, heapR hb mb rh5 nS 4, boxR xb #[.int .i64 (-9223372036854775808), .int .i64 4611686018427387904] (sz2 _ _), tRow ms8 cap8 nE] := hh
    have H16 := Lib.hid hh2
    clear hp hh hh2
    go_wp2_with fail
    go_at_call 20
    refine (all_calls hb mb _ _ _ _ ((H16.out.ext (by repeat (first | exact ext_refl _ | assumption | refine ext_more' ?_ _ _ | refine ext_drew ?_ | refine ext_drewN ?_ _ | refine ext_alloc ?_ _))).heapAt 1 rfl)).mono ?_
    intro e v17 hp
    obtain ⟨ms9, cap9, rfl, hh⟩ := (H16.out.ext (by repeat (first | exact ext_refl _ | assumption | refine ext_more' ?_ _ _ | refine ext_drew ?_ | refine ext_drewN ?_ _ | refine ext_alloc ?_ _))).all hp
    have hh2 : Has v17 [oldR w, heapR hb mb rh5 nS 4, boxR xb #[.int .i64 (-9223372036854775808), .int .i64 4611686018427387904] (sz2 _ _), tRow ms8 cap8 nE, tRow ms9 cap9 nS] := hh
    have H17 := Lib.hid hh2
    clear hp hh hh2
    go_upto_region 21 with (go_at_call 21; refine (new_ok 65536 _ (by decide) (by decide)).mono ?_; rintro e v18 ⟨gb, nb, rfl, ha1, hz1, hz2, hx1⟩; have H18 := Lib.hid ((H17.out.ext (by repeat (first | exact ext_refl _ | assumption | refine ext_more' ?_ _ _ | refine ext_drew ?_ | refine ext_drewN ?_ _ | refine ext_alloc ?_ _))).heapNew hx1 ha1 hz1 hz2); clear ha1 hz1 hz2 hx1)
    refine wp_at ?_
    intro W21 hW
    have x_W21 : Ext v18 W21 := by rw [hW]; repeat (first | exact ext_refl _ | assumption | refine ext_more' ?_ _ _ | refine ext_drew ?_ | refine ext_drewN ?_ _ | refine ext_alloc ?_ _)
    have hh : Has W21 [oldR w, heapR hb mb rh5 nS 4, boxR xb #[.int .i64 (-9223372036854775808), .int .i64 4611686018427387904] (sz2 _ _), tRow ms8 cap8 nE, tRow ms9 cap9 nS, heapR gb nb none [] 65536] := H18.out.ext x_W21
    have H21 := Lib.hid hh
    clear hh H18 x_W21
    clear hW
    go_loopg [18] 65536 (fun gk k18 wr => ∃ (i : Nat) (rg : Option Nat), k18 = .int .i64 i ∧ gk + i = 65536 ∧ Has wr [oldR w, heapR hb mb rh5 nS 4, boxR xb #[.int .i64 (-9223372036854775808), .int .i64 4611686018427387904] (sz2 _ _), tRow ms8 cap8 nE, tRow ms9 cap9 nS, heapR gb nb rg (mkG i) 65536])
    case atStart => exact ⟨0, none, rfl, rfl, H21.out⟩
    case round =>
      obtain ⟨i, rg, rfl, hgi2, hh⟩ := hrel
      have HH := Lib.hid hh
      clear hh
      by_cases hi2 : i < 65536
      · have n1 : (i : Int) < 65536 := by omega
        have n0 : (0 : Int) ≤ (i : Int) := by omega
        have hpe : putE (mkG i) 65536 (gT i) = 0 := by
          unfold putE
          rw [show (gT i).id = (i : Int) from rfl, mkG_none, if_neg (by simp), mkG_len, if_neg (by omega)]
        have HPE := Lib.hid hpe
        have HPS := Lib.hid (show putS (mkG i) 65536 (gT i) = mkG (i + 1) by unfold putS; rw [hpe]; rfl)
        clear hpe
        go_wp2_with fail
        go_at_call 24
        refine (t_calls _ _ _).mono ?_
        rintro e v23 ⟨rfl, hx⟩
        have H23 := Lib.hid (HH.out.ext hx)
        clear hx
        go_wp2_with fail
        go_at_call 22
        refine (put_calls (gT i) gb nb _ (mkG i) 65536 _ (H23.out.heapAt 5 rfl)).mono ?_
        rw [HPE.out, HPS.out]
        rintro e v24 ⟨rfl, hp⟩
        obtain ⟨rg2, hh⟩ := H23.out.heap 5 rfl hp
        have hh2 : Has v24 [oldR w, heapR hb mb rh5 nS 4, boxR xb #[.int .i64 (-9223372036854775808), .int .i64 4611686018427387904] (sz2 _ _), tRow ms8 cap8 nE, tRow ms9 cap9 nS, heapR gb nb rg2 (mkG (i + 1)) 65536] := hh
        have H24 := Lib.hid hh2
        clear hp hh hh2 H23
        go_wp2
        go_roundg (65536 - (i + 1))
        case measure => omega
        case rel => exact ⟨i + 1, rg2, by go_num, by omega, H24.out⟩
      have n1 : ¬ ((i : Int) < 65536) := by omega
      have HI := Lib.hid (show i = 65536 by omega)
      have hsrt := (HH.out.heapAt 5 rfl).srt
      have HTK := Lib.hid (show (((mkG i).takeWhile (dueB (-500))).length : Int) = 32536 by rw [mkG_take hsrt, HI.out]; decide)
      have HGL := Lib.hid (show (((mkG i).dropWhile (dueB (-500))).length : Int) = 33000 by rw [mkG_drop hsrt, HI.out]; decide)
      have HPE := Lib.hid (show putE (mkG i) 65536 ⟨0, -1⟩ = 5 by
        unfold putE
        rw [show (⟨0, -1⟩ : Tmr).id = -1 from rfl, mkG_neg, if_neg (by simp), mkG_len, if_pos (by have := HI.out; omega)])
      have HPS := Lib.hid (show putS (mkG i) 65536 ⟨0, -1⟩ = mkG i by unfold putS; rw [HPE.out]; rfl)
      clear hsrt
      go_wp2_with fail
      go_at_call 24
      refine (t_calls _ _ _).mono ?_
      rintro e v25 ⟨rfl, hx⟩
      have H25 := Lib.hid (HH.out.ext hx)
      clear hx
      go_wp2_with fail
      go_at_call 22
      refine (put_calls ⟨0, -1⟩ gb nb _ (mkG i) 65536 _ (H25.out.heapAt 5 rfl)).mono ?_
      rw [HPE.out, HPS.out]
      rintro e v26 ⟨rfl, hp⟩
      obtain ⟨rg6, hh⟩ := H25.out.heap 5 rfl hp
      have hh2 : Has v26 [oldR w, heapR hb mb rh5 nS 4, boxR xb #[.int .i64 (-9223372036854775808), .int .i64 4611686018427387904] (sz2 _ _), tRow ms8 cap8 nE, tRow ms9 cap9 nS, heapR gb nb rg6 (mkG i) 65536] := hh
      have H26 := Lib.hid hh2
      clear hp hh hh2 H25
      go_upto_region 27 with (go_at_call 17; refine (due_calls (-500) gb nb _ (mkG i) 65536 _ ((H26.out.ext (by repeat (first | exact ext_refl _ | assumption | refine ext_more' ?_ _ _ | refine ext_drew ?_ | refine ext_drewN ?_ _ | refine ext_alloc ?_ _))).heapAt 5 rfl)).mono ?_; intro e vd hp; obtain ⟨ms7, cap7, rfl, hh⟩ := (H26.out.ext (by repeat (first | exact ext_refl _ | assumption | refine ext_more' ?_ _ _ | refine ext_drew ?_ | refine ext_drewN ?_ _ | refine ext_alloc ?_ _))).due 5 rfl hp; have HTK2 := HTK.out; have HD7 := Lib.hid hh; clear hp hh)
      refine wp_at ?_
      intro W27 hW
      have hh : Has W27 _ := HD7.out.ext (by rw [hW]; repeat (first | exact ext_refl _ | assumption | refine ext_more' ?_ _ _ | refine ext_drew ?_ | refine ext_drewN ?_ _ | refine ext_alloc ?_ _))
      have H27 := Lib.hid hh
      clear hW hh HD7 HTK2
      have kx := (H27.out.boxAt 2 rfl).1
      have fx := (H27.out.boxAt 2 rfl).2
      have lx := at_lt (H27.out.boxAt 2 rfl) (sz2 _ _)
      refine wp_region_held_drew (S := fun w' => Ext W27 w') (by kernel_rfl) (ext_drew (ext_refl _)) (fun hHeld => ?_)
      refine wpAnyH_take' (i := 0) (v := ?v0_861) (some 116) rfl rfl (by kernel_rfl) (by kernel_rfl) (by kernel_rfl) (fun _ _ _ h => h) (Or.inl ⟨by kernel_rfl, ?y0_861⟩) (hHeld) ?_
      case y0_861 =>
        intro w' hSw
        go_simp
        try with_reducible rfl
      refine wpAnyH_take' (i := 1) (v := ?v1_862) (some 117) rfl rfl (by kernel_rfl) (by kernel_rfl) (by kernel_rfl) (fun _ _ _ h => h) (Or.inl ⟨by kernel_rfl, ?y1_862⟩) (hHeld) ?_
      case y1_862 =>
        intro w' hSw
        go_simp
        try with_reducible rfl
      refine wpAnyH_take' (i := 2) (v := ?v2_863) (some 118) rfl rfl (by kernel_rfl) (by kernel_rfl) (by kernel_rfl) (fun _ _ _ h => h) (Or.inl ⟨by kernel_rfl, ?y2_863⟩) (hHeld) ?_
      case y2_863 =>
        intro w' hSw
        go_simp
        try with_reducible rfl
      refine wpAnyH_take' (i := 3) (v := ?v3_864) (some 119) rfl rfl (by kernel_rfl) (by kernel_rfl) (by kernel_rfl) (fun _ _ _ h => h) (Or.inl ⟨by kernel_rfl, ?y3_864⟩) (hHeld) ?_
      case y3_864 =>
        intro w' hSw
        go_simp
        try with_reducible rfl
      refine wpAnyH_take' (i := 4) (v := ?v4_865) (some 120) rfl rfl (by kernel_rfl) (by kernel_rfl) (by kernel_rfl) (fun _ _ _ h => h) (Or.inl ⟨by kernel_rfl, ?y4_865⟩) (hHeld) ?_
      case y4_865 =>
        intro w' hSw
        go_simp
        try with_reducible rfl
      refine wpAnyH_take' (i := 5) (v := ?v5_866) (some 121) rfl rfl (by kernel_rfl) (by kernel_rfl) (by kernel_rfl) (fun _ _ _ h => h) (Or.inl ⟨by kernel_rfl, ?y5_866⟩) (hHeld) ?_
      case y5_866 =>
        intro w' hSw
        go_simp
        try with_reducible rfl
      refine wpAnyH_take' (i := 6) (v := ?v6_867) (some 122) rfl rfl (by kernel_rfl) (by kernel_rfl) (by kernel_rfl) (fun _ _ _ h => h) (Or.inl ⟨by kernel_rfl, ?y6_867⟩) (hHeld) ?_
      case y6_867 =>
        intro w' hSw
        have kx' := fun i => (hSw.cell (p := ⟨xb, i, none⟩) lx).trans (kx i); go_simp
        try with_reducible rfl
      have HZ0 := Lib.hid ((has_old W27).ext hHeld)
      clear hHeld
      generalize hwq : World.drew W27 = wd0 at HZ0 ⊢
      clear hwq
      refine wpAnyH_ready (rs := [7]) (by kernel_rfl) (by simp) ?_
      refine AllReadyH.cons rfl (fun K hK => ?_) AllReadyH.nil
      rw [if_pos (by kernel_rfl)]
      go_simp
      go_at_call 24
      refine (t_calls _ _ _).mono ?_
      rintro e u7 ⟨rfl, hx⟩
      have HZ7 := Lib.hid (HZ0.out.ext hx)
      refine hK.out _ _ (HZ7.out.oldAt 0 rfl) (fun hS => ?_)
      clear hK hS hx
      refine wpAnyH_take' (i := 8) (v := ?v8_868) (some 124) rfl rfl (by kernel_rfl) (by kernel_rfl) (by kernel_rfl) (fun _ _ _ h => h) (Or.inl ⟨by kernel_rfl, ?y8_868⟩) ((HZ7.out.oldAt 0 rfl)) ?_
      case y8_868 =>
        intro w' hSw
        go_simp
        try with_reducible rfl
      refine wpAnyH_take' (i := 9) (v := ?v9_869) (some 125) rfl rfl (by kernel_rfl) (by kernel_rfl) (by kernel_rfl) (fun _ _ _ h => h) (Or.inl ⟨by kernel_rfl, ?y9_869⟩) ((HZ7.out.oldAt 0 rfl)) ?_
      case y9_869 =>
        intro w' hSw
        go_simp
        try with_reducible rfl
      refine wpAnyH_take' (i := 10) (v := ?v10_870) (some 126) rfl rfl (by kernel_rfl) (by kernel_rfl) (by kernel_rfl) (fun _ _ _ h => h) (Or.inl ⟨by kernel_rfl, ?y10_870⟩) ((HZ7.out.oldAt 0 rfl)) ?_
      case y10_870 =>
        intro w' hSw
        go_simp
        try with_reducible rfl
      refine wpAnyH_take' (i := 11) (v := ?v11_871) (some 127) rfl rfl (by kernel_rfl) (by kernel_rfl) (by kernel_rfl) (fun _ _ _ h => h) (Or.inl ⟨by kernel_rfl, ?y11_871⟩) ((HZ7.out.oldAt 0 rfl)) ?_
      case y11_871 =>
        intro w' hSw
        go_simp
        try with_reducible rfl
      refine wpAnyH_take' (i := 12) (v := ?v12_872) (some 128) rfl rfl (by kernel_rfl) (by kernel_rfl) (by kernel_rfl) (fun _ _ _ h => h) (Or.inl ⟨by kernel_rfl, ?y12_872⟩) ((HZ7.out.oldAt 0 rfl)) ?_
      case y12_872 =>
        intro w' hSw
        go_simp
        try with_reducible rfl
      refine wpAnyH_take' (i := 13) (v := ?v13_873) (some 129) rfl rfl (by kernel_rfl) (by kernel_rfl) (by kernel_rfl) (fun _ _ _ h => h) (Or.inl ⟨by kernel_rfl, ?y13_873⟩) ((HZ7.out.oldAt 0 rfl)) ?_
      case y13_873 =>
        intro w' hSw
        go_simp
        try with_reducible rfl
      refine wpAnyH_take' (i := 14) (v := ?v14_874) (some 130) rfl rfl (by kernel_rfl) (by kernel_rfl) (by kernel_rfl) (fun _ _ _ h => h) (Or.inl ⟨by kernel_rfl, ?y14_874⟩) ((HZ7.out.oldAt 0 rfl)) ?_
      case y14_874 =>
        intro w' hSw
        go_simp
        try with_reducible rfl
      refine wpAnyH_take' (i := 15) (v := ?v15_875) (some 131) rfl rfl (by kernel_rfl) (by kernel_rfl) (by kernel_rfl) (fun _ _ _ h => h) (Or.inl ⟨by kernel_rfl, ?y15_875⟩) ((HZ7.out.oldAt 0 rfl)) ?_
      case y15_875 =>
        intro w' hSw
        go_simp
        try with_reducible rfl
      refine wpAnyH_ready (rs := [16]) (by kernel_rfl) (by simp) ?_
      refine AllReadyH.cons rfl (fun K hK => ?_) AllReadyH.nil
      rw [if_pos (by kernel_rfl)]
      go_simp
      go_at_call 24
      refine (t_calls _ _ _).mono ?_
      rintro e u16 ⟨rfl, hx⟩
      have HZ16 := Lib.hid (HZ7.out.ext hx)
      refine hK.out _ _ (HZ16.out.oldAt 0 rfl) (fun hS => ?_)
      clear hK hS hx
      refine wpAnyH_ready (rs := [17]) (by kernel_rfl) (by simp) ?_
      refine AllReadyH.cons rfl (fun K hK => ?_) AllReadyH.nil
      rw [if_pos (by kernel_rfl)]
      go_simp
      go_at_call 24
      refine (t_calls _ _ _).mono ?_
      rintro e u17 ⟨rfl, hx⟩
      have HZ17 := Lib.hid (HZ16.out.ext hx)
      refine hK.out _ _ (HZ17.out.oldAt 0 rfl) (fun hS => ?_)
      clear hK hS hx
      refine wpAnyH_ready (rs := [18]) (by kernel_rfl) (by simp) ?_
      refine AllReadyH.cons rfl (fun K hK => ?_) AllReadyH.nil
      rw [if_pos (by kernel_rfl)]
      go_simp
      have hN := HZ17.out.rowNew (cs := #[.int .i64 (-9223372036854775808), .int .i64 (-4611686018427387904), .int .i64 (-9223372036854775808), .int .i64 4611686018427387904]) (T := 29) (sz := 2) (n := 2) (ext_refl _) (ext_refl _) rfl (by decide)
      refine hK.out _ _ (ext_alloc (HZ17.out.oldAt 0 rfl) _) (fun hS => ?_)
      clear hK hS
      have HZ18 := Lib.hid hN
      clear hN
      generalize hwq : World.alloc u17 (Obj.cells #[.int .i64 (-9223372036854775808), .int .i64 (-4611686018427387904), .int .i64 (-9223372036854775808), .int .i64 4611686018427387904] 29) = wq18 at HZ18 ⊢
      clear hwq
      have HSE := Lib.hid (same7_calls ms8 (some ⟨u17.heap.size, 0, none⟩) cap8 2 nE wq18 (by decide) (tRow_rows (H27.out.ext (HZ18.out.oldAt 0 rfl)) 3 rfl) (tRow_rows (D := nE) HZ18.out 1 rfl))
      refine wpAnyH_ready (rs := [19]) (by kernel_rfl) (by simp) ?_
      refine AllReadyH.cons rfl (fun K hK => ?_) AllReadyH.nil
      rw [if_pos (by kernel_rfl)]
      go_simp
      go_at_call 19
      refine (HSE.out).mono ?_
      rintro e u19 ⟨rfl, hx⟩
      have HZ19 := Lib.hid (HZ18.out.ext hx)
      refine hK.out _ _ (HZ19.out.oldAt 0 rfl) (fun hS => ?_)
      clear hK hS hx
      refine wpAnyH_take' (i := 20) (v := ?v20_876) (some 136) rfl rfl (by kernel_rfl) (by kernel_rfl) (by kernel_rfl) (fun _ _ _ h => h) (Or.inl ⟨by kernel_rfl, ?y20_876⟩) ((HZ19.out.oldAt 0 rfl)) ?_
      case y20_876 =>
        intro w' hSw
        go_simp
        try with_reducible rfl
      refine wpAnyH_take' (i := 21) (v := ?v21_877) (some 137) rfl rfl (by kernel_rfl) (by kernel_rfl) (by kernel_rfl) (fun _ _ _ h => h) (Or.inl ⟨by kernel_rfl, ?y21_877⟩) ((HZ19.out.oldAt 0 rfl)) ?_
      case y21_877 =>
        intro w' hSw
        go_simp
        try with_reducible rfl
      refine wpAnyH_take' (i := 22) (v := ?v22_878) (some 138) rfl rfl (by kernel_rfl) (by kernel_rfl) (by kernel_rfl) (fun _ _ _ h => h) (Or.inl ⟨by kernel_rfl, ?y22_878⟩) ((HZ19.out.oldAt 0 rfl)) ?_
      case y22_878 =>
        intro w' hSw
        go_simp
        try with_reducible rfl
      refine wpAnyH_take' (i := 23) (v := ?v23_879) (some 139) rfl rfl (by kernel_rfl) (by kernel_rfl) (by kernel_rfl) (fun _ _ _ h => h) (Or.inl ⟨by kernel_rfl, ?y23_879⟩) ((HZ19.out.oldAt 0 rfl)) ?_
      case y23_879 =>
        intro w' hSw
        go_simp
        try with_reducible rfl
      refine wpAnyH_take' (i := 24) (v := ?v24_880) (some 140) rfl rfl (by kernel_rfl) (by kernel_rfl) (by kernel_rfl) (fun _ _ _ h => h) (Or.inl ⟨by kernel_rfl, ?y24_880⟩) ((HZ19.out.oldAt 0 rfl)) ?_
      case y24_880 =>
        intro w' hSw
        go_simp
        try with_reducible rfl
      refine wpAnyH_take' (i := 25) (v := ?v25_881) (some 141) rfl rfl (by kernel_rfl) (by kernel_rfl) (by kernel_rfl) (fun _ _ _ h => h) (Or.inl ⟨by kernel_rfl, ?y25_881⟩) ((HZ19.out.oldAt 0 rfl)) ?_
      case y25_881 =>
        intro w' hSw
        go_simp
        try with_reducible rfl
      refine wpAnyH_take' (i := 26) (v := ?v26_882) (some 142) rfl rfl (by kernel_rfl) (by kernel_rfl) (by kernel_rfl) (fun _ _ _ h => h) (Or.inl ⟨by kernel_rfl, ?y26_882⟩) ((HZ19.out.oldAt 0 rfl)) ?_
      case y26_882 =>
        intro w' hSw
        go_simp
        try with_reducible rfl
      refine wpAnyH_ready (rs := [27]) (by kernel_rfl) (by simp) ?_
      refine AllReadyH.cons rfl (fun K hK => ?_) AllReadyH.nil
      rw [if_pos (by kernel_rfl)]
      go_simp
      go_at_call 24
      refine (t_calls _ _ _).mono ?_
      rintro e u27 ⟨rfl, hx⟩
      have HZ27 := Lib.hid (HZ19.out.ext hx)
      refine hK.out _ _ (HZ27.out.oldAt 0 rfl) (fun hS => ?_)
      clear hK hS hx
      refine wpAnyH_ready (rs := [28]) (by kernel_rfl) (by simp) ?_
      refine AllReadyH.cons rfl (fun K hK => ?_) AllReadyH.nil
      rw [if_pos (by kernel_rfl)]
      go_simp
      go_at_call 24
      refine (t_calls _ _ _).mono ?_
      rintro e u28 ⟨rfl, hx⟩
      have HZ28 := Lib.hid (HZ27.out.ext hx)
      refine hK.out _ _ (HZ28.out.oldAt 0 rfl) (fun hS => ?_)
      clear hK hS hx
      refine wpAnyH_ready (rs := [29]) (by kernel_rfl) (by simp) ?_
      refine AllReadyH.cons rfl (fun K hK => ?_) AllReadyH.nil
      rw [if_pos (by kernel_rfl)]
      go_simp
      go_at_call 24
      refine (t_calls _ _ _).mono ?_
      rintro e u29 ⟨rfl, hx⟩
      have HZ29 := Lib.hid (HZ28.out.ext hx)
      refine hK.out _ _ (HZ29.out.oldAt 0 rfl) (fun hS => ?_)
      clear hK hS hx
      refine wpAnyH_ready (rs := [30]) (by kernel_rfl) (by simp) ?_
      refine AllReadyH.cons rfl (fun K hK => ?_) AllReadyH.nil
      rw [if_pos (by kernel_rfl)]
      go_simp
      have hN := HZ29.out.rowNew (cs := #[.int .i64 0, .int .i64 0, .int .i64 5, .int .i64 4611686018427387904, .int .i64 9223372036854775807, .int .i64 (-1)]) (T := 29) (sz := 2) (n := 3) (ext_refl _) (ext_refl _) rfl (by decide)
      refine hK.out _ _ (ext_alloc (HZ29.out.oldAt 0 rfl) _) (fun hS => ?_)
      clear hK hS
      have HZ30 := Lib.hid hN
      clear hN
      generalize hwq : World.alloc u29 (Obj.cells #[.int .i64 0, .int .i64 0, .int .i64 5, .int .i64 4611686018427387904, .int .i64 9223372036854775807, .int .i64 (-1)] 29) = wq30 at HZ30 ⊢
      clear hwq
      have HSA := Lib.hid (same7_calls ms9 (some ⟨u29.heap.size, 0, none⟩) cap9 3 nS wq30 (by decide) (tRow_rows (H27.out.ext (HZ30.out.oldAt 0 rfl)) 4 rfl) (tRow_rows (D := nS) HZ30.out 2 rfl))
      refine wpAnyH_ready (rs := [31]) (by kernel_rfl) (by simp) ?_
      refine AllReadyH.cons rfl (fun K hK => ?_) AllReadyH.nil
      rw [if_pos (by kernel_rfl)]
      go_simp
      go_at_call 19
      refine (HSA.out).mono ?_
      rintro e u31 ⟨rfl, hx⟩
      have HZ31 := Lib.hid (HZ30.out.ext hx)
      refine hK.out _ _ (HZ31.out.oldAt 0 rfl) (fun hS => ?_)
      clear hK hS hx
      refine wpAnyH_take' (i := 32) (v := ?v32_883) (some 148) rfl rfl (by kernel_rfl) (by kernel_rfl) (by kernel_rfl) (fun _ _ _ h => h) (Or.inl ⟨by kernel_rfl, ?y32_883⟩) ((HZ31.out.oldAt 0 rfl)) ?_
      case y32_883 =>
        intro w' hSw
        go_simp
        try with_reducible rfl
      refine wpAnyH_take' (i := 33) (v := ?v33_884) (some 149) rfl rfl (by kernel_rfl) (by kernel_rfl) (by kernel_rfl) (fun _ _ _ h => h) (Or.inl ⟨by kernel_rfl, ?y33_884⟩) ((HZ31.out.oldAt 0 rfl)) ?_
      case y33_884 =>
        intro w' hSw
        go_simp
        try with_reducible rfl
      refine wpAnyH_take' (i := 34) (v := ?v34_885) (some 150) rfl rfl (by kernel_rfl) (by kernel_rfl) (by kernel_rfl) (fun _ _ _ h => h) (Or.inl ⟨by kernel_rfl, ?y34_885⟩) ((HZ31.out.oldAt 0 rfl)) ?_
      case y34_885 =>
        intro w' hSw
        go_simp
        try with_reducible rfl
      refine wpAnyH_take' (i := 35) (v := ?v35_886) (some 151) rfl rfl (by kernel_rfl) (by kernel_rfl) (by kernel_rfl) (fun _ _ _ h => h) (Or.inl ⟨by kernel_rfl, ?y35_886⟩) ((HZ31.out.oldAt 0 rfl)) ?_
      case y35_886 =>
        intro w' hSw
        go_simp
        try with_reducible rfl
      refine wpAnyH_take' (i := 36) (v := ?v36_887) (some 152) rfl rfl (by kernel_rfl) (by kernel_rfl) (by kernel_rfl) (fun _ _ _ h => h) (Or.inl ⟨by kernel_rfl, ?y36_887⟩) ((HZ31.out.oldAt 0 rfl)) ?_
      case y36_887 =>
        intro w' hSw
        go_simp
        try with_reducible rfl
      refine wpAnyH_take' (i := 37) (v := ?v37_888) (some 153) rfl rfl (by kernel_rfl) (by kernel_rfl) (by kernel_rfl) (fun _ _ _ h => h) (Or.inl ⟨by kernel_rfl, ?y37_888⟩) ((HZ31.out.oldAt 0 rfl)) ?_
      case y37_888 =>
        intro w' hSw
        go_simp
        try with_reducible rfl
      refine wpAnyH_take' (i := 38) (v := ?v38_889) (some 154) rfl rfl (by kernel_rfl) (by kernel_rfl) (by kernel_rfl) (fun _ _ _ h => h) (Or.inl ⟨by kernel_rfl, ?y38_889⟩) ((HZ31.out.oldAt 0 rfl)) ?_
      case y38_889 =>
        intro w' hSw
        go_simp
        try with_reducible rfl
      refine wpAnyH_take' (i := 39) (v := ?v39_890) (some 155) rfl rfl (by kernel_rfl) (by kernel_rfl) (by kernel_rfl) (fun _ _ _ h => h) (Or.inl ⟨by kernel_rfl, ?y39_890⟩) ((HZ31.out.oldAt 0 rfl)) ?_
      case y39_890 =>
        intro w' hSw
        go_simp
        try with_reducible rfl
      refine wpAnyH_take' (i := 40) (v := ?v40_891) (some 156) rfl rfl (by kernel_rfl) (by kernel_rfl) (by kernel_rfl) (fun _ _ _ h => h) (Or.inl ⟨by kernel_rfl, ?y40_891⟩) ((HZ31.out.oldAt 0 rfl)) ?_
      case y40_891 =>
        intro w' hSw
        go_simp
        try with_reducible rfl
      refine wpAnyH_take' (i := 41) (v := ?v41_892) (some 157) rfl rfl (by kernel_rfl) (by kernel_rfl) (by kernel_rfl) (fun _ _ _ h => h) (Or.inl ⟨by kernel_rfl, ?y41_892⟩) ((HZ31.out.oldAt 0 rfl)) ?_
      case y41_892 =>
        intro w' hSw
        go_simp
        try with_reducible rfl
      refine wpAnyH_take' (i := 42) (v := ?v42_893) (some 158) rfl rfl (by kernel_rfl) (by kernel_rfl) (by kernel_rfl) (fun _ _ _ h => h) (Or.inl ⟨by kernel_rfl, ?y42_893⟩) ((HZ31.out.oldAt 0 rfl)) ?_
      case y42_893 =>
        intro w' hSw
        go_simp
        try with_reducible rfl
      refine wpAnyH_take' (i := 44) (v := ?v44_894) (some 160) rfl rfl (by kernel_rfl) (by kernel_rfl) (by kernel_rfl) (fun _ _ _ h => h) (Or.inl ⟨by kernel_rfl, ?y44_894⟩) ((HZ31.out.oldAt 0 rfl)) ?_
      case y44_894 =>
        intro w' hSw
        go_simp
        try with_reducible rfl
      refine wpAnyH_take' (i := 45) (v := ?v45_895) (some 161) rfl rfl (by kernel_rfl) (by kernel_rfl) (by kernel_rfl) (fun _ _ _ h => h) (Or.inl ⟨by kernel_rfl, ?y45_895⟩) ((HZ31.out.oldAt 0 rfl)) ?_
      case y45_895 =>
        intro w' hSw
        go_simp
        try with_reducible rfl
      refine wpAnyH_ready (rs := [43]) (by kernel_rfl) (by simp) ?_
      refine AllReadyH.cons rfl (fun K hK => ?_) AllReadyH.nil
      rw [if_pos (by kernel_rfl)]
      go_simp
      go_at_call 15
      refine (len_calls gb nb _ _ _ _ ((H27.out.ext (HZ31.out.oldAt 0 rfl)).heapAt 5 rfl)).mono ?_
      rw [HGL.out]
      rintro e u43 ⟨rfl, hx⟩
      have HZ43 := Lib.hid (HZ31.out.ext hx)
      refine hK.out _ _ (HZ43.out.oldAt 0 rfl) (fun hS => ?_)
      clear hK hS hx
      refine wpAnyH_take' (i := 46) (v := ?v46_896) (some 162) rfl rfl (by kernel_rfl) (by kernel_rfl) (by kernel_rfl) (fun _ _ _ h => h) (Or.inl ⟨by kernel_rfl, ?y46_896⟩) ((HZ43.out.oldAt 0 rfl)) ?_
      case y46_896 =>
        intro w' hSw
        go_simp
        try with_reducible rfl
      refine wpAnyH_take' (i := 47) (v := ?v47_897) (some 163) rfl rfl (by kernel_rfl) (by kernel_rfl) (by kernel_rfl) (fun _ _ _ h => h) (Or.inl ⟨by kernel_rfl, ?y47_897⟩) ((HZ43.out.oldAt 0 rfl)) ?_
      case y47_897 =>
        intro w' hSw
        go_simp
        try with_reducible rfl
      refine wpAnyH_take' (i := 48) (v := ?v48_898) (some 164) rfl rfl (by kernel_rfl) (by kernel_rfl) (by kernel_rfl) (fun _ _ _ h => h) (Or.inl ⟨by kernel_rfl, ?y48_898⟩) ((HZ43.out.oldAt 0 rfl)) ?_
      case y48_898 =>
        intro w' hSw
        go_simp
        try with_reducible rfl
      refine wpAnyH_ready (rs := [49]) (by kernel_rfl) (by simp) ?_
      refine AllReadyH.cons rfl (fun K hK => ?_) AllReadyH.nil
      rw [if_pos (by kernel_rfl)]
      go_simp
      go_at_call 16
      refine (awake07_calls _).mono ?_
      rintro e u49 ⟨rfl, hx⟩
      have HZ49 := Lib.hid (HZ43.out.ext hx)
      refine hK.out _ _ (HZ49.out.oldAt 0 rfl) (fun hS => ?_)
      clear hK hS hx
      refine wpAnyH_take' (i := 50) (v := ?v50_899) (some 166) rfl rfl (by kernel_rfl) (by kernel_rfl) (by kernel_rfl) (fun _ _ _ h => h) (Or.inl ⟨by kernel_rfl, ?y50_899⟩) ((HZ49.out.oldAt 0 rfl)) ?_
      case y50_899 =>
        intro w' hSw
        go_simp
        try with_reducible rfl
      refine wpAnyH_take' (i := 51) (v := ?v51_900) (some 0) rfl rfl (by kernel_rfl) (by kernel_rfl) (by kernel_rfl) (fun _ _ _ h => h) (Or.inl ⟨by kernel_rfl, ?y51_900⟩) ((HZ49.out.oldAt 0 rfl)) ?_
      case y51_900 =>
        intro w' hSw
        go_simp
        try with_reducible rfl
      refine wpAnyH_done (by kernel_rfl) ?_ _
      go_simp
      go_wp2
      go_ret
      exact ⟨rfl, ext_trans (H27.out.oldAt 0 rfl) (HZ49.out.oldAt 0 rfl)⟩
end Go.Proofs.Ytkicofagjebnjaa

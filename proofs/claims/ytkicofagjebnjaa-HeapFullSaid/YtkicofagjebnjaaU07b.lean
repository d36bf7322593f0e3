/- HeapFull. -/
import Derived.Test.YtkicofagjebnjaaR07
import Derived.Test.YtkicofagjebnjaaSp7b
namespace Go.Proofs.Ytkicofagjebnjaa
open Go.RowKit
set_option linter.unusedVariables false
set_option linter.unusedSimpArgs false

def oneV (_ : Tmr) : Value := .int .i64 1
set_option maxRecDepth 100000 in
set_option maxHeartbeats 16000000 in
theorem full_walk (m : Int) (hm0 : 0 ≤ m) (hm1 : m ≤ 255) (s : Option Addr) (cap : Nat) (l : List Tmr) (w : World) (hl : Rows_ w s l.length 2 (fun i => tmrC (at_ l i))) (hca : l.length ≤ cap) (hmx : cap ≤ maxLen) :
    Calls Try.prog 6 #[.int .u8 m, .slice s l.length cap] w fun e w' => e = .returned (.bool true) ∧ Ext w w' := by
  have HLL := Lib.hid hl
  have hmd2 : cap ≤ 9223372036854775807 := by unfold maxLen at hmx; exact hmx
  have pm : ∀ w : World, (Instr.makeMap 49 none).run Try.prog w = .ok (.map (some w.heap.size)) (w.alloc (.map #[] 0)) := fun _ => rfl
  clear hl hmx
  have hn1 : (1 : Int) + m % 50 ≤ 50 := by omega
  have hn0 : (1 : Int) ≤ 1 + m % 50 := by omega
  obtain ⟨n, hn⟩ : ∃ n : Int, n = 1 + m % 50 := ⟨_, rfl⟩
  rw [← hn] at hn1 hn0
  go_enter Try.func6, Try.ntmps6
  have HN := Lib.hid hn
  clear hn
  go_upto_region 2 with fail
  rw [← HN.out]
  go_upto_region 7 with (go_at_call 21; refine (new_ok n _ hn0 (by omega)).mono ?_; rintro e w1 ⟨hb, mb, rfl, ha1, hz1, hz2, hx1⟩; have H1 := Lib.hid (((has_old w).ext (by repeat (first | exact ext_refl _ | assumption | refine ext_more' ?_ _ _ | refine ext_drew ?_ | refine ext_drewN ?_ _ | refine ext_alloc ?_ _))).heapNew hx1 ha1 hz1 hz2); clear ha1 hz1 hz2 hx1)
  refine wp_at ?_
  intro W7 hW
  have x_W7 : Ext w1 W7 := by rw [hW]; repeat (first | exact ext_refl _ | assumption | refine ext_more' ?_ _ _ | refine ext_drew ?_ | refine ext_drewN ?_ _ | refine ext_alloc ?_ _)
  have hm7 := H1.out.mapNew .i64 (ext_refl _) (by rw [hW]; repeat (first | exact ext_refl _ | assumption | refine ext_more' ?_ _ _ | refine ext_drew ?_ | refine ext_drewN ?_ _ | refine ext_alloc ?_ _) : Ext (World.alloc w1 (.map _ _)) W7)
  clear hW
  obtain ⟨tb, htb⟩ : ∃ tb, tb = w1.heap.size := ⟨_, rfl⟩
  rw [← htb] at hm7 ⊢
  have hh7 : Has W7 [oldR w, heapR hb mb none ([] : List Tmr) n, mapR tb .i64 []] := hm7
  have H7 := Lib.hid hh7
  clear hm7 hh7 x_W7 H1 htb
  go_loopg [9] (min l.length 100) (fun gk k9 wr => ∃ (i : Nat) (S : List Tmr) (M : List (Int × Value)) (rg : Option Nat), k9 = .int .i64 i ∧ gk + i = min l.length 100 ∧ ThF oneV M S ∧ Has wr [oldR w, heapR hb mb rg S n, mapR tb .i64 M])
  case atStart => exact ⟨0, [], [], none, rfl, rfl, thF_nil _, H7.out⟩
  case round =>
    obtain ⟨i, S, M, rg, rfl, hgi, hth, hh⟩ := hrel
    have HTH := Lib.hid hth; have HH := Lib.hid hh
    clear hth hh
    have hi9 : i ≤ 100 := by omega
    by_cases hil : i < l.length
    rotate_left
    · have n1 : ¬ ((i : Int) < (l.length : Int)) := by omega
      go_wp2_with (go_at_call 16; refine (awake07_calls _).mono ?_; rintro e wa ⟨rfl, hxa⟩; have HXA := Lib.hid hxa; clear hxa)
      go_ret
      exact ⟨rfl, ext_trans (HH.out.oldAt 0 rfl) (ext_trans (by repeat (first | exact ext_refl _ | assumption | refine ext_more' ?_ _ _ | refine ext_drew ?_ | refine ext_drewN ?_ _ | refine ext_alloc ?_ _)) HXA.out)⟩
    have n1 : (i : Int) < (l.length : Int) := by omega
    by_cases hi3 : i < 100
    rotate_left
    · have n2 : ¬ ((i : Int) < 100) := by omega
      go_wp2_with (go_at_call 16; refine (awake07_calls _).mono ?_; rintro e wa ⟨rfl, hxa⟩; have HXA := Lib.hid hxa; clear hxa)
      go_ret
      exact ⟨rfl, ext_trans (HH.out.oldAt 0 rfl) (ext_trans (by repeat (first | exact ext_refl _ | assumption | refine ext_more' ?_ _ _ | refine ext_drew ?_ | refine ext_drewN ?_ _ | refine ext_alloc ?_ _)) HXA.out)⟩
    have n2 : (i : Int) < 100 := by omega
    have n0 : (0 : Int) ≤ (i : Int) := by omega
    obtain ⟨bl0, ol0, rfl, ql0, c0, c1⟩ := tmr_cells (V := fun i => at_ l i) HLL.out (HH.out.oldAt 0 rfl) hil
    clear c0 c1 ql0
    obtain ⟨x, hxx⟩ : ∃ x, x = at_ l i := ⟨_, rfl⟩
    have HXX := Lib.hid hxx
    clear hxx
    have hSl := (HH.out.heapAt 1 rfl).len
    have HLS := Lib.hid (show S.length ≤ 1000000 by omega)
    have hml := HTH.out.2.1
    cases hf : fnd x.id S with
    | some y =>
      have HF := Lib.hid hf
      have HE1 := Lib.hid (show putE S n x = 40 by unfold putE; rw [hf]; simp)
      have HS1 := Lib.hid (show putS S n x = S by unfold putS; rw [HE1.out]; rfl)
      clear hf hml hSl
      go_upto_region 10 with (go_at_call 20; refine (all_calls hb mb _ _ _ _ ((HH.out.ext (by repeat (first | exact ext_refl _ | assumption | refine ext_more' ?_ _ _ | refine ext_drew ?_ | refine ext_drewN ?_ _ | refine ext_alloc ?_ _))).heapAt 1 rfl)).mono ?_; intro e wa hp; obtain ⟨ms9, cap9, rfl, hh⟩ := (HH.out.ext (by repeat (first | exact ext_refl _ | assumption | refine ext_more' ?_ _ _ | refine ext_drew ?_ | refine ext_drewN ?_ _ | refine ext_alloc ?_ _))).all hp; have HA9 := Lib.hid hh; clear hp hh)
      refine wp_at ?_
      intro W10 hW
      have x_W10 : Ext wa W10 := by rw [hW]; repeat (first | exact ext_refl _ | assumption | refine ext_more' ?_ _ _ | refine ext_drew ?_ | refine ext_drewN ?_ _ | refine ext_alloc ?_ _)
      have hh : Has W10 [oldR w, heapR hb mb rg S n, mapR tb .i64 M, tRow ms9 cap9 S] := HA9.out.ext x_W10
      have H10 := Lib.hid hh
      clear hh HA9 x_W10
      clear hW
      obtain ⟨bl, ol, el, ql, c0, c1⟩ := tmr_cells (V := fun i => at_ l i) HLL.out (H10.out.oldAt 0 rfl) hil
      injection el with el; injection el with el1 el2; subst el1 el2
      have q1 := Nat.lt_of_lt_of_le ql (H10.out.oldAt 0 rfl).size
      rw [← HXX.out] at c0 c1
      go_upto_region 11 with (go_at_call 22; refine (put_calls x hb mb _ S n _ ((H10.out.ext (by repeat (first | exact ext_refl _ | assumption | refine ext_more' ?_ _ _ | refine ext_drew ?_ | refine ext_drewN ?_ _ | refine ext_alloc ?_ _))).heapAt 1 rfl)).mono ?_; rw [HE1.out, HS1.out]; rintro e wq ⟨rfl, hp⟩; have HP := Lib.hid hp; clear hp)
      refine wp_at ?_
      intro W11 hW
      have x_W11 : Ext wq W11 := by rw [hW]; repeat (first | exact ext_refl _ | assumption | refine ext_more' ?_ _ _ | refine ext_drew ?_ | refine ext_drewN ?_ _ | refine ext_alloc ?_ _)
      obtain ⟨rg2, hh2⟩ := (H10.out.ext (by repeat (first | exact ext_refl _ | assumption | refine ext_more' ?_ _ _ | refine ext_drew ?_ | refine ext_drewN ?_ _ | refine ext_alloc ?_ _))).heap 1 rfl HP.out
      have hh : Has W11 [oldR w, heapR hb mb rg2 S n, mapR tb .i64 M, tRow ms9 cap9 S] := hh2.ext x_W11
      have H11 := Lib.hid hh
      clear hh hh2 HP x_W11 c0 c1 q1 ql
      clear hW
      go_upto_region 12 with fail
      refine wp_at ?_
      intro W12 hW
      have x_W12 : Ext W11 W12 := by rw [hW]; repeat (first | exact ext_refl _ | assumption | refine ext_more' ?_ _ _ | refine ext_drew ?_ | refine ext_drewN ?_ _ | refine ext_alloc ?_ _)
      have H12 := Lib.hid (H11.out.ext x_W12)
      clear H11 x_W12
      clear hW
      obtain ⟨bl, ol, el, ql, c0, c1⟩ := tmr_cells (V := fun i => at_ l i) HLL.out (H12.out.oldAt 0 rfl) hil
      injection el with el; injection el with el1 el2; subst el1 el2
      have q1 := Nat.lt_of_lt_of_le ql (H12.out.oldAt 0 rfl).size
      rw [← HXX.out] at c0 c1
      have hlk := (run_mlook (P := Try.prog) Try.underlying49 Try.underlying3 (H12.out.mapAt 2 rfl) x.id (int0z7 W12)).1
      rw [HTH.out.1, HF.out] at hlk
      simp only [Option.map_some, Option.map_none, Option.getD_some, Option.getD_none, oneV] at hlk
      go_upto_region 16 with fail
      refine wp_at ?_
      intro W16 hW
      have x_W16 : Ext W12 W16 := by rw [hW]; repeat (first | exact ext_refl _ | assumption | refine ext_more' ?_ _ _ | refine ext_drew ?_ | refine ext_drewN ?_ _ | refine ext_alloc ?_ _)
      have H16 := Lib.hid (H12.out.ext x_W16)
      clear H12 x_W16 hlk c0 c1 q1 ql
      clear hW
      go_upto_region 26 with (first | (go_at_call 20; refine (all_calls hb mb _ _ _ _ ((H16.out.ext (by repeat (first | exact ext_refl _ | assumption | refine ext_more' ?_ _ _ | refine ext_drew ?_ | refine ext_drewN ?_ _ | refine ext_alloc ?_ _))).heapAt 1 rfl)).mono ?_; intro e wb hp; obtain ⟨ms7, cap7, rfl, hh⟩ := (H16.out.ext (by repeat (first | exact ext_refl _ | assumption | refine ext_more' ?_ _ _ | refine ext_drew ?_ | refine ext_drewN ?_ _ | refine ext_alloc ?_ _))).all hp; have HA7 := Lib.hid hh; clear hp hh) | (go_at_call 19; refine ((HA7.out.ext (by repeat (first | exact ext_refl _ | assumption | refine ext_more' ?_ _ _ | refine ext_drew ?_ | refine ext_drewN ?_ _ | refine ext_alloc ?_ _))).same 3 4 rfl rfl HLS.out).mono ?_; rintro e wc ⟨rfl, hx⟩; have HXC := Lib.hid hx; clear hx))
      refine wp_at ?_
      intro W19 hW
      have x_W19 : Ext wc W19 := by rw [hW]; repeat (first | exact ext_refl _ | assumption | refine ext_more' ?_ _ _ | refine ext_drew ?_ | refine ext_drewN ?_ _ | refine ext_alloc ?_ _)
      have hh : Has W19 [oldR w, heapR hb mb rg2 S n, mapR tb .i64 M] := (((HA7.out.ext (by repeat (first | exact ext_refl _ | assumption | refine ext_more' ?_ _ _ | refine ext_drew ?_ | refine ext_drewN ?_ _ | refine ext_alloc ?_ _))).ext (ext_trans HXC.out x_W19)).del 4).del 3
      have H19 := Lib.hid hh
      clear hh H16 x_W19 HA7 HXC
      clear hW
      have hln := (H19.out.heapAt 1 rfl).len
      have hml := HTH.out.2.1
      obtain ⟨L9, hL9⟩ : ∃ L9, L9 = (M).length := ⟨_, rfl⟩
      have hlq : ((S).length : Int) = (L9 : Int) := by rw [hL9]; exact congrArg (fun z : Nat => (z : Int)) hml.symm
      have hlq2 : (L9 : Int) ≤ n := by rw [← hlq]; exact hln
      have HLQ := Lib.hid hlq
      have HL9 := Lib.hid hL9
      clear hlq hln hml hL9
      have hfl := fun w' (hx : Ext W19 w') => run_mlen7 (P := Try.prog) (ty := 3) Try.underlying49 ((H19.out.mapAt 2 rfl).ext hx)
      rw [← HL9.out] at hfl
      have HFL := Lib.hid hfl
      clear hfl
      go_upto_region 8 with (first
        | (go_at_call 15; refine (len_calls hb mb _ _ _ _ ((H19.out.ext (by repeat (first | exact ext_refl _ | assumption | refine ext_more' ?_ _ _ | refine ext_drew ?_ | refine ext_drewN ?_ _ | refine ext_alloc ?_ _))).heapAt 1 rfl)).mono ?_; rw [HLQ.out]; rintro e wl ⟨rfl, hxl⟩; replace hxl := ext_trans (show Ext W19 _ from by repeat (first | exact ext_refl _ | assumption | refine ext_more' ?_ _ _ | refine ext_drew ?_ | refine ext_drewN ?_ _ | refine ext_alloc ?_ _)) hxl; have hfl := HFL.out wl hxl))
      refine wp_at ?_
      intro W8 hW
      have x8 : Ext W19 W8 := by rw [hW]; repeat (first | exact ext_refl _ | assumption | refine ext_more' ?_ _ _ | refine ext_drew ?_ | refine ext_drewN ?_ _ | refine ext_alloc ?_ _)
      have H8 := Lib.hid (H19.out.ext x8)
      clear hW x8 hfl
      go_wp2
      go_roundg (gk - 1)
      case measure => omega
      case rel => exact ⟨i + 1, _, _, _, by go_num, by omega, HTH.out, H8.out⟩
    | none =>
      have HF := Lib.hid hf
      by_cases hfu : n ≤ (S.length : Int)
      · have HE1 := Lib.hid (show putE S n x = 5 by unfold putE; rw [hf, if_neg (by simp), if_pos hfu])
        have HS1 := Lib.hid (show putS S n x = S by unfold putS; rw [HE1.out]; rfl)
        have HCM := Lib.hid (show n ≤ (M.length : Int) by rw [hml]; exact hfu)
        clear hf hml hSl hfu
        go_upto_region 10 with (go_at_call 20; refine (all_calls hb mb _ _ _ _ ((HH.out.ext (by repeat (first | exact ext_refl _ | assumption | refine ext_more' ?_ _ _ | refine ext_drew ?_ | refine ext_drewN ?_ _ | refine ext_alloc ?_ _))).heapAt 1 rfl)).mono ?_; intro e wa hp; obtain ⟨ms9, cap9, rfl, hh⟩ := (HH.out.ext (by repeat (first | exact ext_refl _ | assumption | refine ext_more' ?_ _ _ | refine ext_drew ?_ | refine ext_drewN ?_ _ | refine ext_alloc ?_ _))).all hp; have HA9 := Lib.hid hh; clear hp hh)
        refine wp_at ?_
        intro W10 hW
        have x_W10 : Ext wa W10 := by rw [hW]; repeat (first | exact ext_refl _ | assumption | refine ext_more' ?_ _ _ | refine ext_drew ?_ | refine ext_drewN ?_ _ | refine ext_alloc ?_ _)
        have hh : Has W10 [oldR w, heapR hb mb rg S n, mapR tb .i64 M, tRow ms9 cap9 S] := HA9.out.ext x_W10
        have H10 := Lib.hid hh
        clear hh HA9 x_W10
        clear hW
        obtain ⟨bl, ol, el, ql, c0, c1⟩ := tmr_cells (V := fun i => at_ l i) HLL.out (H10.out.oldAt 0 rfl) hil
        injection el with el; injection el with el1 el2; subst el1 el2
        have q1 := Nat.lt_of_lt_of_le ql (H10.out.oldAt 0 rfl).size
        rw [← HXX.out] at c0 c1
        go_upto_region 11 with (go_at_call 22; refine (put_calls x hb mb _ S n _ ((H10.out.ext (by repeat (first | exact ext_refl _ | assumption | refine ext_more' ?_ _ _ | refine ext_drew ?_ | refine ext_drewN ?_ _ | refine ext_alloc ?_ _))).heapAt 1 rfl)).mono ?_; rw [HE1.out, HS1.out]; rintro e wq ⟨rfl, hp⟩; have HP := Lib.hid hp; clear hp)
        refine wp_at ?_
        intro W11 hW
        have x_W11 : Ext wq W11 := by rw [hW]; repeat (first | exact ext_refl _ | assumption | refine ext_more' ?_ _ _ | refine ext_drew ?_ | refine ext_drewN ?_ _ | refine ext_alloc ?_ _)
        obtain ⟨rg2, hh2⟩ := (H10.out.ext (by repeat (first | exact ext_refl _ | assumption | refine ext_more' ?_ _ _ | refine ext_drew ?_ | refine ext_drewN ?_ _ | refine ext_alloc ?_ _))).heap 1 rfl HP.out
        have hh : Has W11 [oldR w, heapR hb mb rg2 S n, mapR tb .i64 M, tRow ms9 cap9 S] := hh2.ext x_W11
        have H11 := Lib.hid hh
        clear hh hh2 HP x_W11 c0 c1 q1 ql
        clear hW
        go_upto_region 12 with fail
        refine wp_at ?_
        intro W12 hW
        have x_W12 : Ext W11 W12 := by rw [hW]; repeat (first | exact ext_refl _ | assumption | refine ext_more' ?_ _ _ | refine ext_drew ?_ | refine ext_drewN ?_ _ | refine ext_alloc ?_ _)
        have H12 := Lib.hid (H11.out.ext x_W12)
        clear H11 x_W12
        clear hW
        obtain ⟨bl, ol, el, ql, c0, c1⟩ := tmr_cells (V := fun i => at_ l i) HLL.out (H12.out.oldAt 0 rfl) hil
        injection el with el; injection el with el1 el2; subst el1 el2
        have q1 := Nat.lt_of_lt_of_le ql (H12.out.oldAt 0 rfl).size
        rw [← HXX.out] at c0 c1
        have hlk := (run_mlook (P := Try.prog) Try.underlying49 Try.underlying3 (H12.out.mapAt 2 rfl) x.id (int0z7 W12)).1
        rw [HTH.out.1, HF.out] at hlk
        simp only [Option.map_some, Option.map_none, Option.getD_some, Option.getD_none, oneV] at hlk
        go_upto_region 14 with fail
        refine wp_at ?_
        intro W14 hW
        have x_W14 : Ext W12 W14 := by rw [hW]; repeat (first | exact ext_refl _ | assumption | refine ext_more' ?_ _ _ | refine ext_drew ?_ | refine ext_drewN ?_ _ | refine ext_alloc ?_ _)
        have H14 := Lib.hid (H12.out.ext x_W14)
        clear H12 x_W14 hlk c0 c1 q1 ql
        clear hW
        have hfl := run_mlen7 (P := Try.prog) (ty := 3) Try.underlying49 (H14.out.mapAt 2 rfl)
        have hcmp := HCM.out
        go_upto_region 16 with fail
        refine wp_at ?_
        intro W16 hW
        have x_W16 : Ext W14 W16 := by rw [hW]; repeat (first | exact ext_refl _ | assumption | refine ext_more' ?_ _ _ | refine ext_drew ?_ | refine ext_drewN ?_ _ | refine ext_alloc ?_ _)
        have H16 := Lib.hid (H14.out.ext x_W16)
        clear H14 x_W16 hfl hcmp
        clear hW
        go_upto_region 21 with (first | (go_at_call 20; refine (all_calls hb mb _ _ _ _ ((H16.out.ext (by repeat (first | exact ext_refl _ | assumption | refine ext_more' ?_ _ _ | refine ext_drew ?_ | refine ext_drewN ?_ _ | refine ext_alloc ?_ _))).heapAt 1 rfl)).mono ?_; intro e wb hp; obtain ⟨ms7, cap7, rfl, hh⟩ := (H16.out.ext (by repeat (first | exact ext_refl _ | assumption | refine ext_more' ?_ _ _ | refine ext_drew ?_ | refine ext_drewN ?_ _ | refine ext_alloc ?_ _))).all hp; have HA7 := Lib.hid hh; clear hp hh) | (go_at_call 19; refine ((HA7.out.ext (by repeat (first | exact ext_refl _ | assumption | refine ext_more' ?_ _ _ | refine ext_drew ?_ | refine ext_drewN ?_ _ | refine ext_alloc ?_ _))).same 3 4 rfl rfl HLS.out).mono ?_; rintro e wc ⟨rfl, hx⟩; have HXC := Lib.hid hx; clear hx))
        refine wp_at ?_
        intro W19 hW
        have x_W19 : Ext wc W19 := by rw [hW]; repeat (first | exact ext_refl _ | assumption | refine ext_more' ?_ _ _ | refine ext_drew ?_ | refine ext_drewN ?_ _ | refine ext_alloc ?_ _)
        have hh : Has W19 [oldR w, heapR hb mb rg2 S n, mapR tb .i64 M] := (((HA7.out.ext (by repeat (first | exact ext_refl _ | assumption | refine ext_more' ?_ _ _ | refine ext_drew ?_ | refine ext_drewN ?_ _ | refine ext_alloc ?_ _))).ext (ext_trans HXC.out x_W19)).del 4).del 3
        have H19 := Lib.hid hh
        clear hh H16 x_W19 HA7 HXC
        clear hW
        obtain ⟨y, S2, hyS⟩ : ∃ y S2, S = y :: S2 := by
          cases S with
          | nil => exact absurd HCM.out (by have := HTH.out.2.1; simp at this; simp [this]; omega)
          | cons y S2 => exact ⟨y, S2, rfl⟩
        subst hyS
        go_upto_region 22 with (go_at_call 13; refine (pop_calls hb mb _ (y :: S2) n _ ((H19.out.ext (by repeat (first | exact ext_refl _ | assumption | refine ext_more' ?_ _ _ | refine ext_drew ?_ | refine ext_drewN ?_ _ | refine ext_alloc ?_ _))).heapAt 1 rfl)).mono ?_; rw [show otV (y :: S2 : List Tmr).head? = .tuple #[.agg #[.int .i64 y.due, .int .i64 y.id], .bool true] from rfl]; rintro e wp ⟨rfl, hp⟩; have HP := Lib.hid hp; clear hp)
        refine wp_at ?_
        intro W22 hW
        have x_W22 : Ext wp W22 := by rw [hW]; repeat (first | exact ext_refl _ | assumption | refine ext_more' ?_ _ _ | refine ext_drew ?_ | refine ext_drewN ?_ _ | refine ext_alloc ?_ _)
        obtain ⟨rg3, hh2⟩ := (H19.out.ext (by repeat (first | exact ext_refl _ | assumption | refine ext_more' ?_ _ _ | refine ext_drew ?_ | refine ext_drewN ?_ _ | refine ext_alloc ?_ _))).heap 1 rfl HP.out
        have hb2 := hh2.box (ext_refl _) (show 0 < (#[.int .i64 y.due, .int .i64 y.id] : Array Value).size from sz2 _ _) (by rw [hW]; repeat (first | exact ext_refl _ | assumption | refine ext_more' ?_ _ _ | refine ext_drew ?_ | refine ext_drewN ?_ _ | refine ext_alloc ?_ _) : Ext (World.alloc wp (.cells _ _)) W22)
        have hh : Has W22 [oldR w, heapR hb mb rg3 S2 n, mapR tb .i64 M, boxR wp.heap.size #[.int .i64 y.due, .int .i64 y.id] (sz2 _ _)] := hb2
        have H22 := Lib.hid hh
        clear hh hh2 hb2 HP x_W22 H19
        clear hW
        obtain ⟨bl, ol, el, ql, c0, c1⟩ := tmr_cells (V := fun i => at_ l i) HLL.out (H22.out.oldAt 0 rfl) hil
        injection el with el; injection el with el1 el2; subst el1 el2
        have q1 := Nat.lt_of_lt_of_le ql (H22.out.oldAt 0 rfl).size
        rw [← HXX.out] at c0 c1
        have hids := (HH.out.heapAt 1 rfl).ids
        have hn0 : fnd x.id S2 = none := by
          rw [fnd_none]
          exact fun z hz => (fnd_none.1 HF.out) z (List.mem_cons_of_mem _ hz)
        have hlen := (H22.out.heapAt 1 rfl).len
        have hleq := (HH.out.heapAt 1 rfl).len
        have HE2 := Lib.hid (show putE S2 n x = 0 by unfold putE; rw [hn0, if_neg (by simp), if_neg (by simp only [List.length_cons] at hleq; omega)])
        have HS2 := Lib.hid (show putS S2 n x = ins x S2 by unfold putS; rw [HE2.out]; rfl)
        have HN0 := Lib.hid hn0
        have HI := Lib.hid hids
        clear hn0 hlen hleq hids
        go_upto_region 24 with (go_at_call 22; refine (put_calls x hb mb _ S2 n _ ((H22.out.ext (by repeat (first | exact ext_refl _ | assumption | refine ext_more' ?_ _ _ | refine ext_drew ?_ | refine ext_drewN ?_ _ | refine ext_alloc ?_ _))).heapAt 1 rfl)).mono ?_; rw [HE2.out, HS2.out]; rintro e wq ⟨rfl, hp⟩; have HP := Lib.hid hp; clear hp)
        refine wp_at ?_
        intro W24 hW
        have x_W24 : Ext wq W24 := by rw [hW]; repeat (first | exact ext_refl _ | assumption | refine ext_more' ?_ _ _ | refine ext_drew ?_ | refine ext_drewN ?_ _ | refine ext_alloc ?_ _)
        obtain ⟨rg4, hh2⟩ := (H22.out.ext (by repeat (first | exact ext_refl _ | assumption | refine ext_more' ?_ _ _ | refine ext_drew ?_ | refine ext_drewN ?_ _ | refine ext_alloc ?_ _))).heap 1 rfl HP.out
        have hh : Has W24 [oldR w, heapR hb mb rg4 (ins x S2) n, mapR tb .i64 M, boxR wp.heap.size #[.int .i64 y.due, .int .i64 y.id] (sz2 _ _)] := hh2.ext x_W24
        have H24 := Lib.hid hh
        clear hh hh2 HP x_W24 c0 c1 q1 ql H22
        clear hW
        have ky := (H24.out.boxAt 3 rfl).1
        have fy := (H24.out.boxAt 3 rfl).2
        have ly := at_lt (H24.out.boxAt 3 rfl) (sz2 _ _)
        obtain ⟨w25, hrun, hm, hc, hz⟩ := run_mdel (P := Try.prog) (ty := 0) Try.underlying49 Try.underlying3 (H24.out.mapAt 2 rfl) y.id 3
        have hh : Has w25 [oldR w, heapR hb mb rg4 (ins x S2) n, mapR tb .i64 (mdel y.id M)] := (H24.out.mapped 2 rfl hm hc).del 3
        have H25 := Lib.hid hh
        clear hm hc hz hh
        go_upto_region 25 with fail
        clear hrun ky fy ly H24
        obtain ⟨bl, ol, el, ql, c0, c1⟩ := tmr_cells (V := fun i => at_ l i) HLL.out (H25.out.oldAt 0 rfl) hil
        injection el with el; injection el with el1 el2; subst el1 el2
        have q1 := Nat.lt_of_lt_of_le ql (H25.out.oldAt 0 rfl).size
        rw [← HXX.out] at c0 c1
        obtain ⟨w26, hrun, hm, hc, hz⟩ := run_mput (P := Try.prog) Try.underlying49 Try.underlying3 (H25.out.mapAt 2 rfl) x.id (.int .i64 1)
        have hh : Has w26 [oldR w, heapR hb mb rg4 (ins x S2) n, mapR tb .i64 (mput x.id (.int .i64 1) (mdel y.id M))] := H25.out.mapped 2 rfl hm hc
        have Hw26 := Lib.hid hh
        clear hm hc hz hh
        go_upto_region 26 with fail
        clear hrun c0 c1 q1 ql
        have HTI := Lib.hid (thF_ins (thF_tail HTH.out HI.out) (show Ids S2 from (List.nodup_cons.1 HI.out).2) HN0.out)
        have hln := (Hw26.out.heapAt 1 rfl).len
        have hml := HTI.out.2.1
        obtain ⟨L9, hL9⟩ : ∃ L9, L9 = ((mput x.id (.int .i64 1) (mdel y.id M))).length := ⟨_, rfl⟩
        have hlq : (((ins x S2)).length : Int) = (L9 : Int) := by rw [hL9]; exact congrArg (fun z : Nat => (z : Int)) hml.symm
        have hlq2 : (L9 : Int) ≤ n := by rw [← hlq]; exact hln
        have HLQ := Lib.hid hlq
        have HL9 := Lib.hid hL9
        clear hlq hln hml hL9
        have hfl := fun w' (hx : Ext w26 w') => run_mlen7 (P := Try.prog) (ty := 3) Try.underlying49 ((Hw26.out.mapAt 2 rfl).ext hx)
        rw [← HL9.out] at hfl
        have HFL := Lib.hid hfl
        clear hfl
        go_upto_region 8 with (first
          | (go_at_call 15; refine (len_calls hb mb _ _ _ _ ((Hw26.out.ext (by repeat (first | exact ext_refl _ | assumption | refine ext_more' ?_ _ _ | refine ext_drew ?_ | refine ext_drewN ?_ _ | refine ext_alloc ?_ _))).heapAt 1 rfl)).mono ?_; rw [HLQ.out]; rintro e wl ⟨rfl, hxl⟩; replace hxl := ext_trans (show Ext w26 _ from by repeat (first | exact ext_refl _ | assumption | refine ext_more' ?_ _ _ | refine ext_drew ?_ | refine ext_drewN ?_ _ | refine ext_alloc ?_ _)) hxl; have hfl := HFL.out wl hxl))
        refine wp_at ?_
        intro W8 hW
        have x8 : Ext w26 W8 := by rw [hW]; repeat (first | exact ext_refl _ | assumption | refine ext_more' ?_ _ _ | refine ext_drew ?_ | refine ext_drewN ?_ _ | refine ext_alloc ?_ _)
        have H8 := Lib.hid (Hw26.out.ext x8)
        clear hW x8 hfl
        go_wp2
        go_roundg (gk - 1)
        case measure => omega
        case rel => exact ⟨i + 1, _, _, _, by go_num, by omega, HTI.out, H8.out⟩
      · have HE1 := Lib.hid (show putE S n x = 0 by unfold putE; rw [hf, if_neg (by simp), if_neg hfu])
        have HS1 := Lib.hid (show putS S n x = ins x S by unfold putS; rw [HE1.out]; rfl)
        have HCM := Lib.hid (show ¬ n ≤ (M.length : Int) by rw [hml]; exact hfu)
        clear hf hml hSl hfu
        go_upto_region 10 with (go_at_call 20; refine (all_calls hb mb _ _ _ _ ((HH.out.ext (by repeat (first | exact ext_refl _ | assumption | refine ext_more' ?_ _ _ | refine ext_drew ?_ | refine ext_drewN ?_ _ | refine ext_alloc ?_ _))).heapAt 1 rfl)).mono ?_; intro e wa hp; obtain ⟨ms9, cap9, rfl, hh⟩ := (HH.out.ext (by repeat (first | exact ext_refl _ | assumption | refine ext_more' ?_ _ _ | refine ext_drew ?_ | refine ext_drewN ?_ _ | refine ext_alloc ?_ _))).all hp; have HA9 := Lib.hid hh; clear hp hh)
        refine wp_at ?_
        intro W10 hW
        have x_W10 : Ext wa W10 := by rw [hW]; repeat (first | exact ext_refl _ | assumption | refine ext_more' ?_ _ _ | refine ext_drew ?_ | refine ext_drewN ?_ _ | refine ext_alloc ?_ _)
        have hh : Has W10 [oldR w, heapR hb mb rg S n, mapR tb .i64 M, tRow ms9 cap9 S] := HA9.out.ext x_W10
        have H10 := Lib.hid hh
        clear hh HA9 x_W10
        clear hW
        obtain ⟨bl, ol, el, ql, c0, c1⟩ := tmr_cells (V := fun i => at_ l i) HLL.out (H10.out.oldAt 0 rfl) hil
        injection el with el; injection el with el1 el2; subst el1 el2
        have q1 := Nat.lt_of_lt_of_le ql (H10.out.oldAt 0 rfl).size
        rw [← HXX.out] at c0 c1
        go_upto_region 11 with (go_at_call 22; refine (put_calls x hb mb _ S n _ ((H10.out.ext (by repeat (first | exact ext_refl _ | assumption | refine ext_more' ?_ _ _ | refine ext_drew ?_ | refine ext_drewN ?_ _ | refine ext_alloc ?_ _))).heapAt 1 rfl)).mono ?_; rw [HE1.out, HS1.out]; rintro e wq ⟨rfl, hp⟩; have HP := Lib.hid hp; clear hp)
        refine wp_at ?_
        intro W11 hW
        have x_W11 : Ext wq W11 := by rw [hW]; repeat (first | exact ext_refl _ | assumption | refine ext_more' ?_ _ _ | refine ext_drew ?_ | refine ext_drewN ?_ _ | refine ext_alloc ?_ _)
        obtain ⟨rg2, hh2⟩ := (H10.out.ext (by repeat (first | exact ext_refl _ | assumption | refine ext_more' ?_ _ _ | refine ext_drew ?_ | refine ext_drewN ?_ _ | refine ext_alloc ?_ _))).heap 1 rfl HP.out
        have hh : Has W11 [oldR w, heapR hb mb rg2 (ins x S) n, mapR tb .i64 M, tRow ms9 cap9 S] := hh2.ext x_W11
        have H11 := Lib.hid hh
        clear hh hh2 HP x_W11 c0 c1 q1 ql
        clear hW
        go_upto_region 12 with fail
        refine wp_at ?_
        intro W12 hW
        have x_W12 : Ext W11 W12 := by rw [hW]; repeat (first | exact ext_refl _ | assumption | refine ext_more' ?_ _ _ | refine ext_drew ?_ | refine ext_drewN ?_ _ | refine ext_alloc ?_ _)
        have H12 := Lib.hid (H11.out.ext x_W12)
        clear H11 x_W12
        clear hW
        obtain ⟨bl, ol, el, ql, c0, c1⟩ := tmr_cells (V := fun i => at_ l i) HLL.out (H12.out.oldAt 0 rfl) hil
        injection el with el; injection el with el1 el2; subst el1 el2
        have q1 := Nat.lt_of_lt_of_le ql (H12.out.oldAt 0 rfl).size
        rw [← HXX.out] at c0 c1
        have hlk := (run_mlook (P := Try.prog) Try.underlying49 Try.underlying3 (H12.out.mapAt 2 rfl) x.id (int0z7 W12)).1
        rw [HTH.out.1, HF.out] at hlk
        simp only [Option.map_some, Option.map_none, Option.getD_some, Option.getD_none, oneV] at hlk
        go_upto_region 14 with fail
        refine wp_at ?_
        intro W14 hW
        have x_W14 : Ext W12 W14 := by rw [hW]; repeat (first | exact ext_refl _ | assumption | refine ext_more' ?_ _ _ | refine ext_drew ?_ | refine ext_drewN ?_ _ | refine ext_alloc ?_ _)
        have H14 := Lib.hid (H12.out.ext x_W14)
        clear H12 x_W14 hlk c0 c1 q1 ql
        clear hW
        have hfl := run_mlen7 (P := Try.prog) (ty := 3) Try.underlying49 (H14.out.mapAt 2 rfl)
        have hcmp := HCM.out
        go_upto_region 16 with fail
        refine wp_at ?_
        intro W16 hW
        have x_W16 : Ext W14 W16 := by rw [hW]; repeat (first | exact ext_refl _ | assumption | refine ext_more' ?_ _ _ | refine ext_drew ?_ | refine ext_drewN ?_ _ | refine ext_alloc ?_ _)
        have H16 := Lib.hid (H14.out.ext x_W16)
        clear H14 x_W16 hfl hcmp
        clear hW
        go_upto_region 19 with fail
        refine wp_at ?_
        intro W19 hW
        have x_W19 : Ext W16 W19 := by rw [hW]; repeat (first | exact ext_refl _ | assumption | refine ext_more' ?_ _ _ | refine ext_drew ?_ | refine ext_drewN ?_ _ | refine ext_alloc ?_ _)
        have H19 := Lib.hid (H16.out.ext x_W19)
        clear H16 x_W19
        clear hW
        obtain ⟨bl, ol, el, ql, c0, c1⟩ := tmr_cells (V := fun i => at_ l i) HLL.out (H19.out.oldAt 0 rfl) hil
        injection el with el; injection el with el1 el2; subst el1 el2
        have q1 := Nat.lt_of_lt_of_le ql (H19.out.oldAt 0 rfl).size
        rw [← HXX.out] at c0 c1
        obtain ⟨w20, hrun, hm, hc, hz⟩ := run_mput (P := Try.prog) Try.underlying49 Try.underlying3 (H19.out.mapAt 2 rfl) x.id (.int .i64 1)
        have hh : Has w20 [oldR w, heapR hb mb rg2 (ins x S) n, mapR tb .i64 (mput x.id (.int .i64 1) M), tRow ms9 cap9 S] := H19.out.mapped 2 rfl hm hc
        have Hw20 := Lib.hid hh
        clear hm hc hz hh
        go_upto_region 20 with fail
        clear hrun c0 c1 q1 ql
        go_upto_region 26 with fail
        refine wp_at ?_
        intro W26 hW
        have x_W26 : Ext w20 W26 := by rw [hW]; repeat (first | exact ext_refl _ | assumption | refine ext_more' ?_ _ _ | refine ext_drew ?_ | refine ext_drewN ?_ _ | refine ext_alloc ?_ _)
        have hh : Has W26 [oldR w, heapR hb mb rg2 (ins x S) n, mapR tb .i64 (mput x.id (.int .i64 1) M)] := (Hw20.out.ext x_W26).del 3
        have H26 := Lib.hid hh
        clear hh x_W26 Hw20
        have HTI := Lib.hid (thF_ins HTH.out (HH.out.heapAt 1 rfl).ids HF.out)
        clear hW
        have hln := (H26.out.heapAt 1 rfl).len
        have hml := HTI.out.2.1
        obtain ⟨L9, hL9⟩ : ∃ L9, L9 = ((mput x.id (.int .i64 1) M)).length := ⟨_, rfl⟩
        have hlq : (((ins x S)).length : Int) = (L9 : Int) := by rw [hL9]; exact congrArg (fun z : Nat => (z : Int)) hml.symm
        have hlq2 : (L9 : Int) ≤ n := by rw [← hlq]; exact hln
        have HLQ := Lib.hid hlq
        have HL9 := Lib.hid hL9
        clear hlq hln hml hL9
        have hfl := fun w' (hx : Ext W26 w') => run_mlen7 (P := Try.prog) (ty := 3) Try.underlying49 ((H26.out.mapAt 2 rfl).ext hx)
        rw [← HL9.out] at hfl
        have HFL := Lib.hid hfl
        clear hfl
        go_upto_region 8 with (first
          | (go_at_call 15; refine (len_calls hb mb _ _ _ _ ((H26.out.ext (by repeat (first | exact ext_refl _ | assumption | refine ext_more' ?_ _ _ | refine ext_drew ?_ | refine ext_drewN ?_ _ | refine ext_alloc ?_ _))).heapAt 1 rfl)).mono ?_; rw [HLQ.out]; rintro e wl ⟨rfl, hxl⟩; replace hxl := ext_trans (show Ext W26 _ from by repeat (first | exact ext_refl _ | assumption | refine ext_more' ?_ _ _ | refine ext_drew ?_ | refine ext_drewN ?_ _ | refine ext_alloc ?_ _)) hxl; have hfl := HFL.out wl hxl))
        refine wp_at ?_
        intro W8 hW
        have x8 : Ext W26 W8 := by rw [hW]; repeat (first | exact ext_refl _ | assumption | refine ext_more' ?_ _ _ | refine ext_drew ?_ | refine ext_drewN ?_ _ | refine ext_alloc ?_ _)
        have H8 := Lib.hid (H26.out.ext x8)
        clear hW x8 hfl
        go_wp2
        go_roundg (gk - 1)
        case measure => omega
        case rel => exact ⟨i + 1, _, _, _, by go_num, by omega, HTI.out, H8.out⟩
end Go.Proofs.Ytkicofagjebnjaa

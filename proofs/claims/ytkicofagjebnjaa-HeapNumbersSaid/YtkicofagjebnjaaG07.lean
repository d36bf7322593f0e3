/- New, Len, Get, Next. -/
import Derived.Test.YtkicofagjebnjaaF07
namespace Go.Proofs.Ytkicofagjebnjaa
open Go.RowKit
set_option linter.unusedVariables false
set_option linter.unusedSimpArgs false

theorem own_some {w : World} {base n sz cap : Nat} {T : TypeId} {ms : Option Addr} {xs : List Value} (hn : 0 < n) (h : w.ownsRow base T sz (.slice ms n cap) n xs) : ∃ g, ms = some ⟨g, 0, none⟩ := by
  rcases h.2 with ⟨_, h0⟩ | ⟨g, cap, cur, hv, _⟩
  · omega
  · injection hv with h1; exact ⟨g, h1⟩
def otV (o : Option Tmr) : Value := .tuple #[.agg #[.int .i64 (o.getD ⟨0, 0⟩).due, .int .i64 (o.getD ⟨0, 0⟩).id], .bool o.isSome]
def NewPost (n : Int) (w : World) (e : Ending) (w' : World) : Prop :=
  if 1 ≤ n ∧ n ≤ 65536 then ∃ hb mb, e = .returned (.tuple #[.pointer (some ⟨hb, 0, none⟩), .int .i64 0]) ∧ HA w' hb mb none [] n ∧ w.heap.size ≤ hb ∧ w.heap.size ≤ mb ∧ Ext w w'
  else e = .returned (.tuple #[.pointer none, .int .i64 2]) ∧ Ext w w'
set_option maxRecDepth 100000 in
set_option maxHeartbeats 4000000 in
theorem new_calls (n : Int) (w : World) : Calls Try.prog 21 #[.int .i64 n] w (NewPost n w) := by
  by_cases h1 : n < 1
  · have HN := Lib.hid (show ¬ (1 ≤ n ∧ n ≤ 65536) by omega)
    go_enter Try.func21, Try.ntmps21
    go_wp2
    refine bodyPost_ret (results_tmp2 rfl _ _ _) rfl ?_
    unfold NewPost
    rw [if_neg HN.out]
    exact ⟨rfl, by repeat (first | exact ext_refl _ | assumption | refine ext_more' ?_ _ _ | refine ext_drew ?_ | refine ext_drewN ?_ _ | refine ext_alloc ?_ _)⟩
  by_cases h2 : 65536 < n
  · have HN := Lib.hid (show ¬ (1 ≤ n ∧ n ≤ 65536) by omega)
    go_enter Try.func21, Try.ntmps21
    go_wp2
    refine bodyPost_ret (results_tmp2 rfl _ _ _) rfl ?_
    unfold NewPost
    rw [if_neg HN.out]
    exact ⟨rfl, by repeat (first | exact ext_refl _ | assumption | refine ext_more' ?_ _ _ | refine ext_drew ?_ | refine ext_drewN ?_ _ | refine ext_alloc ?_ _)⟩
  have HN := Lib.hid (show 1 ≤ n ∧ n ≤ 65536 by omega)
  have pm : ∀ w : World, (Instr.makeMap 49 none).run Try.prog w = .ok (.map (some w.heap.size)) (w.alloc (.map #[] 0)) := fun _ => rfl
  go_enter Try.func21, Try.ntmps21
  go_wp2
  refine post_at ?_
  intro W1 hW
  have x1 : Ext w W1 := by rw [hW]; repeat (first | exact ext_refl _ | assumption | refine ext_more' ?_ _ _ | refine ext_drew ?_ | refine ext_drewN ?_ _ | refine ext_alloc ?_ _)
  have hm := mpS_new (k := .i64) (by rw [hW]; repeat (first | exact ext_refl _ | assumption | refine ext_more' ?_ _ _ | refine ext_drew ?_ | refine ext_drewN ?_ _ | refine ext_alloc ?_ _) : Ext (World.alloc w (.map _ _)) W1)
  have hb := at_new (by rw [hW]; repeat (first | exact ext_refl _ | assumption | refine ext_more' ?_ _ _ | refine ext_drew ?_ | refine ext_drewN ?_ _ | refine ext_alloc ?_ _) : Ext ((World.alloc w (.map _ _)).alloc (.cells _ _)) W1)
  simp only [sz_alloc] at hb
  clear hW
  refine bodyPost_ret (results_tmp2 rfl _ _ _) rfl ?_
  unfold NewPost
  rw [if_pos HN.out]
  exact ⟨w.heap.size + 1, w.heap.size, rfl, ⟨⟨none, 0, [], [], ⟨hb, World.ownsRow_nil _ _ _ _, hm, fits_nil, List.nodup_nil⟩, fun j _ h => by simp at h, List.Perm.refl _, rfl⟩, Srt.nil, List.nodup_nil, by omega, by simp, by simp, by have := HN.out; simp; omega, HN.out.1, HN.out.2⟩, by omega, by omega, x1⟩
set_option maxRecDepth 100000 in
set_option maxHeartbeats 4000000 in
theorem len_calls (hb mb : Nat) (rg : Option Nat) (S : List Tmr) (most : Int) (w : World) (ha : HA w hb mb rg S most) : Calls Try.prog 15 #[.pointer (some ⟨hb, 0, none⟩)] w fun e w' => e = .returned (.int .i64 S.length) ∧ Ext w w' := by
  have HAA := Lib.hid ha
  obtain ⟨⟨ms, cap, l, M, hv, hp, hpm, hrg⟩, hsrt, hids, hd2, hrh, hrm, hlen, hm1, hm2⟩ := ha
  have hll := hpm.length_eq
  have hln : l.length ≤ 65536 := by omega
  have hcap : l.length ≤ cap := (cap_of_own (n := 2) hv.row).1
  have HIL := Lib.hid (hids.perm hpm.symm)
  have HLL := Lib.hid hll
  have HV := Lib.hid hv; have HP := Lib.hid hp; have HPM := Lib.hid hpm; have HRG := Lib.hid hrg
  have HSR := Lib.hid hsrt; have HIS := Lib.hid hids
  have hb0 : hb < w.heap.size := at_lt hv.box (by simp)
  have hm0 : mb < w.heap.size := hv.map.lt
  have HBX := Lib.hid hv.box
  clear hv hp hpm hrg hids hsrt hll
  have kh := HBX.out.1
  go_enter Try.func15, Try.ntmps15
  go_wp2
  go_ret
  exact ⟨by rw [← HLL.out]; rfl, by repeat (first | exact ext_refl _ | assumption | refine ext_more' ?_ _ _ | refine ext_drew ?_ | refine ext_drewN ?_ _ | refine ext_alloc ?_ _)⟩
theorem len_nil (w : World) : Calls Try.prog 15 #[.pointer none] w fun e w' => e = .returned (.int .i64 0) ∧ Ext w w' := by
  go_enter Try.func15, Try.ntmps15
  go_wp2
  go_ret
  exact ⟨rfl, by repeat (first | exact ext_refl _ | assumption | refine ext_more' ?_ _ _ | refine ext_drew ?_ | refine ext_drewN ?_ _ | refine ext_alloc ?_ _)⟩
set_option maxRecDepth 100000 in
set_option maxHeartbeats 4000000 in
theorem next_calls7 (hb mb : Nat) (rg : Option Nat) (S : List Tmr) (most : Int) (w : World) (ha : HA w hb mb rg S most) : Calls Try.prog 18 #[.pointer (some ⟨hb, 0, none⟩)] w fun e w' => e = .returned (otV S.head?) ∧ Ext w w' := by
  have HAA := Lib.hid ha
  obtain ⟨⟨ms, cap, l, M, hv, hp, hpm, hrg⟩, hsrt, hids, hd2, hrh, hrm, hlen, hm1, hm2⟩ := ha
  have hll := hpm.length_eq
  have hln : l.length ≤ 65536 := by omega
  have hcap : l.length ≤ cap := (cap_of_own (n := 2) hv.row).1
  have HIL := Lib.hid (hids.perm hpm.symm)
  have HLL := Lib.hid hll
  have HV := Lib.hid hv; have HP := Lib.hid hp; have HPM := Lib.hid hpm; have HRG := Lib.hid hrg
  have HSR := Lib.hid hsrt; have HIS := Lib.hid hids
  have hb0 : hb < w.heap.size := at_lt hv.box (by simp)
  have hm0 : mb < w.heap.size := hv.map.lt
  have HBX := Lib.hid hv.box
  clear hv hp hpm hrg hids hsrt hll
  go_enter Try.func18, Try.ntmps18
  go_upto_region 1 with fail
  refine wp_at ?_
  intro W0 hW
  have x_W0 : Ext w W0 := by rw [hW]; repeat (first | exact ext_refl _ | assumption | refine ext_more' ?_ _ _ | refine ext_drew ?_ | refine ext_drewN ?_ _ | refine ext_alloc ?_ _)
  have br := at_new (by rw [hW]; repeat (first | exact ext_refl _ | assumption | refine ext_more' ?_ _ _ | refine ext_drew ?_ | refine ext_drewN ?_ _ | refine ext_alloc ?_ _) : Ext (World.alloc w (.cells _ _)) W0)
  clear hW
  have HBH := Lib.hid (at_ext HBX.out (by simp) x_W0)
  have kh := HBH.out.1
  have lh := at_lt HBH.out (by simp)
  by_cases h0 : l.length = 0
  · have hS : S = [] := List.eq_nil_of_length_eq_zero (by have := HLL.out; omega)
    have HS := Lib.hid hS
    have g0 : ((l.length : Int) == 0) = true := by rw [beq_iff_eq]; omega
    clear h0 hS
    go_upto_region 2 with (go_at_call 33; refine (made_calls hb mb _ (at_lt (at_ext HBH.out (by simp) (by repeat (first | exact ext_refl _ | assumption | refine ext_more' ?_ _ _ | refine ext_drew ?_ | refine ext_drewN ?_ _ | refine ext_alloc ?_ _))) (by simp)) (by rw [(at_ext HBH.out (by simp) (by repeat (first | exact ext_refl _ | assumption | refine ext_more' ?_ _ _ | refine ext_drew ?_ | refine ext_drewN ?_ _ | refine ext_alloc ?_ _))).1]; rfl)).mono ?_; rintro e w1 ⟨rfl, hx⟩; obtain ⟨r, d, rfl⟩ := ext_form hx; clear hx)
    refine wp_at ?_
    intro W1 hW
    have x_W1 : Ext W0 W1 := by rw [hW]; repeat (first | exact ext_refl _ | assumption | refine ext_more' ?_ _ _ | refine ext_drew ?_ | refine ext_drewN ?_ _ | refine ext_alloc ?_ _)
    clear hW
    have br := at_ext br (by simp) x_W1
    have hx := ext_trans x_W0 x_W1
    clear x_W0 x_W1 kh lh
    have kbr := br.1
    have fbr := br.2
    have lbr := at_lt br (by simp)
    go_wp2
    refine post_at ?_
    intro W9 hW
    have b9 : At W9 w.heap.size #[.int .i64 (0), .int .i64 (0)] := by rw [hW]; exact at_put (at_put br (by simp) rfl) (by simp) rfl
    have x9 : Ext w W9 := by rw [hW]; exact ext_set (ext_set hx (Nat.le_refl _) _) (Nat.le_refl _) _
    clear hW kbr fbr lbr
    have k_br := b9.1
    refine bodyPost_ret (by simp [results, Try.results18, go_sem, k_br]; rfl) rfl ?_
    exact ⟨by rw [HS.out]; rfl, x9⟩
  have hl0 : 0 < l.length := by omega
  have g0 : ((l.length : Int) == 0) = false := by rw [beq_eq_false_iff_ne]; omega
  have HM := Lib.hid (hp_min HP.out HPM.out HSR.out hl0)
  obtain ⟨g, rfl⟩ := own_some hl0 HV.out.row
  obtain ⟨x, hx⟩ : ∃ x, x = at_ l 0 := ⟨_, rfl⟩
  rw [← hx] at HM
  obtain ⟨d0, d1⟩ := row_cells rfl (own_ext HV.out.row x_W0) hl0
  rw [← hx] at d0 d1
  simp only [Nat.zero_mul, Nat.zero_add] at d0 d1
  have lg := own_lt (own_ext HV.out.row x_W0)
  have i1 : (0 : Int) < (l.length : Int) := by omega
  clear hx h0
  go_upto_region 3 with (go_at_call 33; refine (made_calls hb mb _ (at_lt (at_ext HBH.out (by simp) (by repeat (first | exact ext_refl _ | assumption | refine ext_more' ?_ _ _ | refine ext_drew ?_ | refine ext_drewN ?_ _ | refine ext_alloc ?_ _))) (by simp)) (by rw [(at_ext HBH.out (by simp) (by repeat (first | exact ext_refl _ | assumption | refine ext_more' ?_ _ _ | refine ext_drew ?_ | refine ext_drewN ?_ _ | refine ext_alloc ?_ _))).1]; rfl)).mono ?_; rintro e w1 ⟨rfl, hx⟩; obtain ⟨r, d, rfl⟩ := ext_form hx; clear hx)
  refine wp_at ?_
  intro W1 hW
  have x_W1 : Ext W0 W1 := by rw [hW]; repeat (first | exact ext_refl _ | assumption | refine ext_more' ?_ _ _ | refine ext_drew ?_ | refine ext_drewN ?_ _ | refine ext_alloc ?_ _)
  clear hW
  have br := at_ext br (by simp) x_W1
  have e0 := (x_W1.cell (p := ⟨g, 0, none⟩) lg).trans d0
  have e1 := (x_W1.cell (p := ⟨g, 1, none⟩) lg).trans d1
  have hne : w.heap.size ≠ g := by have := own_lt HV.out.row; omega
  have hx := ext_trans x_W0 x_W1
  have lg1 := Nat.lt_of_lt_of_le lg x_W1.size
  have HBH1 := Lib.hid (at_ext HBH.out (by simp) x_W1)
  clear x_W0 x_W1 kh lh d0 d1 lg
  have kh := HBH1.out.1
  have lh := at_lt HBH1.out (by simp)
  have kbr := br.1
  have fbr := br.2
  have lbr := at_lt br (by simp)
  go_wp2
  refine post_at ?_
  intro W9 hW
  have b9 : At W9 w.heap.size #[.int .i64 (x.due), .int .i64 (x.id)] := by rw [hW]; exact at_put (at_put br (by simp) rfl) (by simp) rfl
  have x9 : Ext w W9 := by rw [hW]; exact ext_set (ext_set hx (Nat.le_refl _) _) (Nat.le_refl _) _
  clear hW kbr fbr lbr
  have k_br := b9.1
  refine bodyPost_ret (by simp [results, Try.results18, go_sem, k_br]; rfl) rfl ?_
  exact ⟨by rw [HM.out.1]; rfl, x9⟩
end Go.Proofs.Ytkicofagjebnjaa

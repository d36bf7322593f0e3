/- Which timer is ahead: the comparisons' walks. -/
import Derived.Test.YtkicofagjebnjaaS07b
import Derived.Test.YtkicofagjebnjaaWl
import Derived.Test.YtkicofagjebnjaaWs
import Derived.Test.YtkicofagjebnjaaWj2
namespace Go.Proofs.Ytkicofagjebnjaa
open Go.RowKit
set_option linter.unusedVariables false
set_option linter.unusedSimpArgs false

def tmrC (t : Tmr) : List Value := [.int .i64 t.due, .int .i64 t.id]
def cmpI (x y : Int) : Int := if x < y then -1 else if y < x then 1 else 0
def orI (a b : Int) : Int := if a = 0 then b else a
theorem or_ord (a b : Tmr) : orI (cmpI a.due b.due) (cmpI a.id b.id) = ordI a b := by
  unfold orI cmpI ordI
  by_cases h1 : a.due < b.due
  · simp [h1]
  · by_cases h2 : b.due < a.due
    · simp [h1, h2]
    · simp [h1, h2]
theorem isnan_int (x : Int) (w : World) : Calls Try.prog 58 #[.int .i64 x] w fun e w' => e = .returned (.bool false) ∧ w = w' := by
  go_enter Try.func58, Try.ntmps58
  go_wp2
  go_ret
  exact ⟨by simp, rfl⟩
theorem isnan_int64 (x : Int) (w : World) : Calls Try.prog 57 #[.int .i64 x] w fun e w' => e = .returned (.bool false) ∧ w = w' := by
  go_enter Try.func57, Try.ntmps57
  go_wp2
  go_ret
  exact ⟨by simp, rfl⟩

set_option maxRecDepth 100000 in
set_option maxHeartbeats 4000000 in
theorem cmp_int (x y : Int) (w : World) : Calls Try.prog 45 #[.int .i64 x, .int .i64 y] w fun e w' => e = .returned (.int .i64 (cmpI x y)) ∧ w = w' := by
  by_cases h1 : x < y
  · have hc : cmpI x y = -1 := by unfold cmpI; rw [if_pos h1]
    have HC := Lib.hid hc; clear hc
    go_enter Try.func45, Try.ntmps45
    go_wp2_with (go_at_call 58; refine (isnan_int _ _).mono ?_; rintro e w' ⟨rfl, rfl⟩)
    go_ret
    exact ⟨by rw [HC.out]; rfl, rfl⟩
  · by_cases h2 : y < x
    · have hc : cmpI x y = 1 := by unfold cmpI; rw [if_neg h1, if_pos h2]
      have HC := Lib.hid hc; clear hc
      go_enter Try.func45, Try.ntmps45
      go_wp2_with (go_at_call 58; refine (isnan_int _ _).mono ?_; rintro e w' ⟨rfl, rfl⟩)
      go_ret
      exact ⟨by rw [HC.out]; rfl, rfl⟩
    · have hc : cmpI x y = 0 := by unfold cmpI; rw [if_neg h1, if_neg h2]
      have HC := Lib.hid hc; clear hc
      go_enter Try.func45, Try.ntmps45
      go_wp2_with (go_at_call 58; refine (isnan_int _ _).mono ?_; rintro e w' ⟨rfl, rfl⟩)
      go_ret
      exact ⟨by rw [HC.out]; rfl, rfl⟩

set_option maxRecDepth 100000 in
set_option maxHeartbeats 4000000 in
theorem cmp_int64 (x y : Int) (w : World) : Calls Try.prog 44 #[.int .i64 x, .int .i64 y] w fun e w' => e = .returned (.int .i64 (cmpI x y)) ∧ w = w' := by
  by_cases h1 : x < y
  · have hc : cmpI x y = -1 := by unfold cmpI; rw [if_pos h1]
    have HC := Lib.hid hc; clear hc
    go_enter Try.func44, Try.ntmps44
    go_wp2_with (go_at_call 57; refine (isnan_int64 _ _).mono ?_; rintro e w' ⟨rfl, rfl⟩)
    go_ret
    exact ⟨by rw [HC.out]; rfl, rfl⟩
  · by_cases h2 : y < x
    · have hc : cmpI x y = 1 := by unfold cmpI; rw [if_neg h1, if_pos h2]
      have HC := Lib.hid hc; clear hc
      go_enter Try.func44, Try.ntmps44
      go_wp2_with (go_at_call 57; refine (isnan_int64 _ _).mono ?_; rintro e w' ⟨rfl, rfl⟩)
      go_ret
      exact ⟨by rw [HC.out]; rfl, rfl⟩
    · have hc : cmpI x y = 0 := by unfold cmpI; rw [if_neg h1, if_neg h2]
      have HC := Lib.hid hc; clear hc
      go_enter Try.func44, Try.ntmps44
      go_wp2_with (go_at_call 57; refine (isnan_int64 _ _).mono ?_; rintro e w' ⟨rfl, rfl⟩)
      go_ret
      exact ⟨by rw [HC.out]; rfl, rfl⟩

set_option maxRecDepth 100000 in
set_option maxHeartbeats 4000000 in
theorem or_calls (a b : Int) (bq : Nat) (w : World) (lq : bq < w.heap.size) (h0 : w.cell? ⟨bq, 0, none⟩ = some (.int .i64 a)) (h1 : w.cell? ⟨bq, 1, none⟩ = some (.int .i64 b)) :
    Calls Try.prog 43 #[.slice (some ⟨bq, 0, none⟩) 2 2] w fun e w' => e = .returned (.int .i64 (orI a b)) ∧ w = w' := by
  by_cases ha : a = 0
  · have HO := Lib.hid (show orI a b = b by unfold orI; rw [if_pos ha])
    rw [ha] at h0
    clear ha
    by_cases hb : b = 0
    · have HB := Lib.hid hb
      rw [hb] at h1
      clear hb
      go_enter Try.func43, Try.ntmps43
      go_upto_region 3 with fail
      refine wp_loop_rounds 3 ?_
      rw [rounds_succ]
      go_wp2
      rw [rounds_succ]
      go_wp2
      rw [rounds_succ]
      go_wp2
      go_ret
      exact ⟨by rw [HO.out, HB.out]; rfl, rfl⟩
    · have gb : (b != 0) = true := by rw [bne_iff_ne]; exact hb
      clear hb
      go_enter Try.func43, Try.ntmps43
      go_upto_region 3 with fail
      refine wp_loop_rounds 2 ?_
      rw [rounds_succ]
      go_wp2
      rw [rounds_succ]
      go_wp2
      go_ret
      exact ⟨by rw [HO.out]; rfl, rfl⟩
  · have HO := Lib.hid (show orI a b = a by unfold orI; rw [if_neg ha])
    have gb : (a != 0) = true := by rw [bne_iff_ne]; exact ha
    clear ha
    go_enter Try.func43, Try.ntmps43
    go_upto_region 3 with fail
    refine wp_loop_rounds 1 ?_
    rw [rounds_succ]
    go_wp2
    go_ret
    exact ⟨by rw [HO.out]; rfl, rfl⟩

set_option maxRecDepth 100000 in
set_option maxHeartbeats 4000000 in
theorem order_calls (a b : Tmr) (w : World) : Calls Try.prog 38 #[.agg #[.int .i64 a.due, .int .i64 a.id], .agg #[.int .i64 b.due, .int .i64 b.id]] w fun e w' => e = .returned (.int .i64 (ordI a b)) ∧ Ext w w' := by
  have HO := Lib.hid (or_ord a b)
  go_enter Try.func38, Try.ntmps38
  go_upto_region 1 with fail
  refine wp_at ?_
  intro W1 hW
  have X1 : Ext w W1 := by rw [hW]; repeat (first | exact ext_refl _ | assumption | refine ext_more' ?_ _ _ | refine ext_drew ?_ | refine ext_drewN ?_ _ | refine ext_alloc ?_ _)
  have ba := at_new (by rw [hW]; repeat (first | exact ext_refl _ | assumption | refine ext_more' ?_ _ _ | refine ext_drew ?_ | refine ext_drewN ?_ _ | refine ext_alloc ?_ _) : Ext (World.alloc w (.cells _ _)) W1)
  have bb := at_new (by rw [hW]; repeat (first | exact ext_refl _ | assumption | refine ext_more' ?_ _ _ | refine ext_drew ?_ | refine ext_drewN ?_ _ | refine ext_alloc ?_ _) : Ext ((World.alloc w (.cells _ _)).alloc (.cells _ _)) W1)
  simp only [sz_alloc] at bb
  clear hW
  have HX := Lib.hid X1
  have ka := box_all (at_lt ba (by simp)) ba.1
  have kb := box_all (at_lt bb (by simp)) bb.1
  clear ba bb X1
  go_region_held3 (fun w' => Ext W1 w') (repeat (first | exact ext_refl _ | assumption | refine ext_more' ?_ _ _ | refine ext_drew ?_ | refine ext_drewN ?_ _ | refine ext_alloc ?_ _)) (first
    | (go_at_call 44; refine (cmp_int64 _ _ _).mono ?_; rintro e w' ⟨rfl, rfl⟩)
    | (go_at_call 45; refine (cmp_int _ _ _).mono ?_; rintro e w' ⟨rfl, rfl⟩)
    | (go_at_call 43; refine (or_calls (cmpI a.due b.due) (cmpI a.id b.id) _ _ ?lq1 ?lq2 ?lq3).mono ?_; (case lq1 => go_simp); (case lq2 => go_simp); (case lq3 => go_simp); rintro e w' ⟨rfl, rfl⟩; rw [HO.out]))
  all_goals
    refine then_at ?_
    intro W2 hW
    have x2 : Ext W1 W2 := by rw [hW]; repeat (first | exact ext_refl _ | assumption | refine ext_more' ?_ _ _ | refine ext_drew ?_ | refine ext_drewN ?_ _ | refine ext_alloc ?_ _)
    clear hW ka kb
    have HX2 := Lib.hid (ext_trans HX.out x2)
    go_wp2
    go_ret
    exact ⟨rfl, HX2.out⟩
end Go.Proofs.Ytkicofagjebnjaa

/- What run's functions do: a step: unless, the end, signals. -/
import Derived.Test.YtpfkpdimjljeaaaL10b
namespace Go.Proofs.Ytpfkpdimjljeaaa
open Go.RowKit
set_option linter.unusedVariables false
set_option linter.unusedSimpArgs false

set_option maxRecDepth 100000 in
set_option maxHeartbeats 8000000 in
theorem step_unless0 (R : Rn) (a b c n : Int) (s : ByteArray) (bx : Nat) (w : World) (h : At w bx (rnC R)) (p0 : 0 ≤ R.at') (p1 : R.at' ≤ 500) (a0 : 0 ≤ a) (a1 : a < 16) (hz : R.r a.toNat = 0) :
    Calls Try.prog 23 #[.pointer (some ⟨bx, 0, none⟩), .agg #[.int .u8 9, .int .i64 a, .int .i64 b, .int .i64 c, .int .i64 n, .string s]] w fun e w' => e = .returned (.bool true) ∧ Chg (fun k => k = bx) w w' ∧ At w' bx (rnC { R with at' := n }) := by
  go_enter Try.func23, Try.ntmps23
  go_upto_region 1 with fail
  refine wp_at ?_
  intro W1 hW
  have hx : Ext w W1 := by rw [hW]; repeat (first | exact ext_refl _ | assumption | refine ext_more' ?_ _ _ | refine ext_drew ?_ | refine ext_drewN ?_ _ | refine ext_alloc ?_ _)
  obtain ⟨li, ci⟩ := box_facts (by rw [hW]; repeat (first | exact ext_refl _ | assumption | refine ext_more' ?_ _ _ | refine ext_drew ?_ | refine ext_drewN ?_ _ | refine ext_alloc ?_ _) : Ext (World.alloc w (.cells _ _)) W1)
  clear hW
  have lb := at_lt h (by rw [rn_size]; decide)
  have h1 := at_ext h (by rw [rn_size]; decide) hx
  have g1 : Chg (fun k => k = bx) w W1 := chg_ext hx
  have c19 : W1.cell? ⟨bx, 19, none⟩ = some (.int .i64 R.at') := h1.1 19
  have f19 : W1.frozen? ⟨bx, 19, none⟩ = false := h1.2 19
  go_upto_region 2 with fail
  refine wp_at ?_
  intro W2 hW
  have g2 : Chg (fun k => k = bx) w W2 := by rw [hW]; repeat (first | exact Chg.refl _ _ | assumption | refine chg_put ?_ | refine chg_drew ?_)
  have h2 : At W2 bx (rnC { R with at' := R.at' + 1 }) := by rw [hW]; exact at_put h1 (by rw [rn_size]; decide) rfl
  obtain ⟨li, ci⟩ := chg_keep (b := bx) (by rw [hW]; repeat (first | exact Chg.refl _ _ | assumption | refine chg_put ?_ | refine chg_drew ?_) : Chg (fun k => k = bx) W1 W2) li (by omega) ci
  clear hW h1 c19 f19 g1
  go_upto_region 14 with (go_at_call 29; refine (sign_no _ (by decide) _).mono ?_; rintro e w1 ⟨rfl, hb⟩; obtain ⟨r, d, rfl⟩ := ext_form hb; clear hb)
  refine wp_at ?_
  intro W3 hW
  have hx3 : Ext W2 W3 := by rw [hW]; repeat (first | exact ext_refl _ | assumption | refine ext_more' ?_ _ _ | refine ext_drew ?_ | refine ext_drewN ?_ _ | refine ext_alloc ?_ _)
  clear hW
  have h1 := at_ext h2 (by rw [rn_size]; decide) hx3
  have g1 := chg_more g2 (chg_ext hx3)
  obtain ⟨li, ci⟩ := box_on hx3 li ci
  clear h2 g2 hx3 hx
  have cra : W3.cell? ⟨bx, 3 + a.toNat, none⟩ = some (.int .i64 0) := by rw [← hz]; exact (h1.1 _).trans (rn_reg { R with at' := R.at' + 1 } _ (by omega))
  have c19 : W3.cell? ⟨bx, 19, none⟩ = some (.int .i64 (R.at' + 1)) := h1.1 19
  have f19 : W3.frozen? ⟨bx, 19, none⟩ = false := h1.2 19
  go_region
  go_wp2
  go_ret
  refine ⟨rfl, by repeat (first | exact Chg.refl _ _ | assumption | refine chg_put ?_ | refine chg_drew ?_), ?_⟩
  first | exact at_put (at_drew h1) (by rw [rn_size]; decide) rfl | exact at_drew (at_put h1 (by rw [rn_size]; decide) rfl)

set_option maxRecDepth 100000 in
set_option maxHeartbeats 8000000 in
theorem step_unless1 (R : Rn) (a b c n : Int) (s : ByteArray) (bx : Nat) (w : World) (h : At w bx (rnC R)) (p0 : 0 ≤ R.at') (p1 : R.at' ≤ 500) (a0 : 0 ≤ a) (a1 : a < 16) (hz : (R.r a.toNat == 0) = false) :
    Calls Try.prog 23 #[.pointer (some ⟨bx, 0, none⟩), .agg #[.int .u8 9, .int .i64 a, .int .i64 b, .int .i64 c, .int .i64 n, .string s]] w fun e w' => e = .returned (.bool true) ∧ Chg (fun k => k = bx) w w' ∧ At w' bx (rnC { R with at' := R.at' + 1 }) := by
  go_enter Try.func23, Try.ntmps23
  go_upto_region 1 with fail
  refine wp_at ?_
  intro W1 hW
  have hx : Ext w W1 := by rw [hW]; repeat (first | exact ext_refl _ | assumption | refine ext_more' ?_ _ _ | refine ext_drew ?_ | refine ext_drewN ?_ _ | refine ext_alloc ?_ _)
  obtain ⟨li, ci⟩ := box_facts (by rw [hW]; repeat (first | exact ext_refl _ | assumption | refine ext_more' ?_ _ _ | refine ext_drew ?_ | refine ext_drewN ?_ _ | refine ext_alloc ?_ _) : Ext (World.alloc w (.cells _ _)) W1)
  clear hW
  have lb := at_lt h (by rw [rn_size]; decide)
  have h1 := at_ext h (by rw [rn_size]; decide) hx
  have g1 : Chg (fun k => k = bx) w W1 := chg_ext hx
  have c19 : W1.cell? ⟨bx, 19, none⟩ = some (.int .i64 R.at') := h1.1 19
  have f19 : W1.frozen? ⟨bx, 19, none⟩ = false := h1.2 19
  go_upto_region 2 with fail
  refine wp_at ?_
  intro W2 hW
  have g2 : Chg (fun k => k = bx) w W2 := by rw [hW]; repeat (first | exact Chg.refl _ _ | assumption | refine chg_put ?_ | refine chg_drew ?_)
  have h2 : At W2 bx (rnC { R with at' := R.at' + 1 }) := by rw [hW]; exact at_put h1 (by rw [rn_size]; decide) rfl
  obtain ⟨li, ci⟩ := chg_keep (b := bx) (by rw [hW]; repeat (first | exact Chg.refl _ _ | assumption | refine chg_put ?_ | refine chg_drew ?_) : Chg (fun k => k = bx) W1 W2) li (by omega) ci
  clear hW h1 c19 f19 g1
  go_upto_region 14 with (go_at_call 29; refine (sign_no _ (by decide) _).mono ?_; rintro e w1 ⟨rfl, hb⟩; obtain ⟨r, d, rfl⟩ := ext_form hb; clear hb)
  refine wp_at ?_
  intro W3 hW
  have hx3 : Ext W2 W3 := by rw [hW]; repeat (first | exact ext_refl _ | assumption | refine ext_more' ?_ _ _ | refine ext_drew ?_ | refine ext_drewN ?_ _ | refine ext_alloc ?_ _)
  clear hW
  have h1 := at_ext h2 (by rw [rn_size]; decide) hx3
  have g1 := chg_more g2 (chg_ext hx3)
  obtain ⟨li, ci⟩ := box_on hx3 li ci
  clear h2 g2 hx3 hx
  have cra : W3.cell? ⟨bx, 3 + a.toNat, none⟩ = some (.int .i64 (R.r a.toNat)) := (h1.1 _).trans (rn_reg { R with at' := R.at' + 1 } _ (by omega))
  have c19 : W3.cell? ⟨bx, 19, none⟩ = some (.int .i64 (R.at' + 1)) := h1.1 19
  have f19 : W3.frozen? ⟨bx, 19, none⟩ = false := h1.2 19
  go_region
  go_wp2
  go_ret
  refine ⟨rfl, by repeat (first | exact Chg.refl _ _ | assumption | refine chg_put ?_ | refine chg_drew ?_), ?_⟩
  exact h1

set_option maxRecDepth 100000 in
set_option maxHeartbeats 8000000 in
theorem step_done (R : Rn) (a b c n : Int) (s : ByteArray) (bx : Nat) (w : World) (h : At w bx (rnC R)) (p0 : 0 ≤ R.at') (p1 : R.at' ≤ 500) (a0 : 0 ≤ a) (a1 : a < 16) (s0 : 0 ≤ R.steps) (s1 : R.steps ≤ 10000) :
    Calls Try.prog 23 #[.pointer (some ⟨bx, 0, none⟩), .agg #[.int .u8 15, .int .i64 a, .int .i64 b, .int .i64 c, .int .i64 n, .string s]] w fun e w' => e = .returned (.bool false) ∧ Chg (fun k => k = bx) w w' ∧ At w' bx (rnC { R with at' := R.at' + 1, st := 1, os := 0, ov := R.r a.toNat, steps := R.steps + 1 }) := by
  go_enter Try.func23, Try.ntmps23
  go_upto_region 1 with fail
  refine wp_at ?_
  intro W1 hW
  have hx : Ext w W1 := by rw [hW]; repeat (first | exact ext_refl _ | assumption | refine ext_more' ?_ _ _ | refine ext_drew ?_ | refine ext_drewN ?_ _ | refine ext_alloc ?_ _)
  obtain ⟨li, ci⟩ := box_facts (by rw [hW]; repeat (first | exact ext_refl _ | assumption | refine ext_more' ?_ _ _ | refine ext_drew ?_ | refine ext_drewN ?_ _ | refine ext_alloc ?_ _) : Ext (World.alloc w (.cells _ _)) W1)
  clear hW
  have lb := at_lt h (by rw [rn_size]; decide)
  have h1 := at_ext h (by rw [rn_size]; decide) hx
  have g1 : Chg (fun k => k = bx) w W1 := chg_ext hx
  have c19 : W1.cell? ⟨bx, 19, none⟩ = some (.int .i64 R.at') := h1.1 19
  have f19 : W1.frozen? ⟨bx, 19, none⟩ = false := h1.2 19
  go_upto_region 2 with fail
  refine wp_at ?_
  intro W2 hW
  have g2 : Chg (fun k => k = bx) w W2 := by rw [hW]; repeat (first | exact Chg.refl _ _ | assumption | refine chg_put ?_ | refine chg_drew ?_)
  have h2 : At W2 bx (rnC { R with at' := R.at' + 1 }) := by rw [hW]; exact at_put h1 (by rw [rn_size]; decide) rfl
  obtain ⟨li, ci⟩ := chg_keep (b := bx) (by rw [hW]; repeat (first | exact Chg.refl _ _ | assumption | refine chg_put ?_ | refine chg_drew ?_) : Chg (fun k => k = bx) W1 W2) li (by omega) ci
  clear hW h1 c19 f19 g1
  go_upto_region 26 with (go_at_call 29; refine (sign_no _ (by decide) _).mono ?_; rintro e w1 ⟨rfl, hb⟩; obtain ⟨r, d, rfl⟩ := ext_form hb; clear hb)
  refine wp_at ?_
  intro W3 hW
  have hx3 : Ext W2 W3 := by rw [hW]; repeat (first | exact ext_refl _ | assumption | refine ext_more' ?_ _ _ | refine ext_drew ?_ | refine ext_drewN ?_ _ | refine ext_alloc ?_ _)
  clear hW
  have h1 := at_ext h2 (by rw [rn_size]; decide) hx3
  have g1 := chg_more g2 (chg_ext hx3)
  obtain ⟨li, ci⟩ := box_on hx3 li ci
  clear h2 g2 hx3 hx
  go_wp2_with (go_at_call 33; refine (end_calls { R with at' := R.at' + 1 } 15 a b c n s bx _ h1 a0 a1 s0 s1).mono ?_; rintro e w4 ⟨rfl, g4, h4⟩)
  go_ret
  refine ⟨rfl, chg_more g1 g4, ?_⟩
  first | exact h4 | simpa using h4

set_option maxRecDepth 100000 in
set_option maxHeartbeats 8000000 in
theorem step_fail (R : Rn) (a b c n : Int) (s : ByteArray) (bx : Nat) (w : World) (h : At w bx (rnC R)) (p0 : 0 ≤ R.at') (p1 : R.at' ≤ 500) (a0 : 0 ≤ a) (a1 : a < 16) (s0 : 0 ≤ R.steps) (s1 : R.steps ≤ 10000) :
    Calls Try.prog 23 #[.pointer (some ⟨bx, 0, none⟩), .agg #[.int .u8 16, .int .i64 a, .int .i64 b, .int .i64 c, .int .i64 n, .string s]] w fun e w' => e = .returned (.bool false) ∧ Chg (fun k => k = bx) w w' ∧ At w' bx (rnC { R with at' := R.at' + 1, st := 1, os := 1, ov := R.r a.toNat, steps := R.steps + 1 }) := by
  go_enter Try.func23, Try.ntmps23
  go_upto_region 1 with fail
  refine wp_at ?_
  intro W1 hW
  have hx : Ext w W1 := by rw [hW]; repeat (first | exact ext_refl _ | assumption | refine ext_more' ?_ _ _ | refine ext_drew ?_ | refine ext_drewN ?_ _ | refine ext_alloc ?_ _)
  obtain ⟨li, ci⟩ := box_facts (by rw [hW]; repeat (first | exact ext_refl _ | assumption | refine ext_more' ?_ _ _ | refine ext_drew ?_ | refine ext_drewN ?_ _ | refine ext_alloc ?_ _) : Ext (World.alloc w (.cells _ _)) W1)
  clear hW
  have lb := at_lt h (by rw [rn_size]; decide)
  have h1 := at_ext h (by rw [rn_size]; decide) hx
  have g1 : Chg (fun k => k = bx) w W1 := chg_ext hx
  have c19 : W1.cell? ⟨bx, 19, none⟩ = some (.int .i64 R.at') := h1.1 19
  have f19 : W1.frozen? ⟨bx, 19, none⟩ = false := h1.2 19
  go_upto_region 2 with fail
  refine wp_at ?_
  intro W2 hW
  have g2 : Chg (fun k => k = bx) w W2 := by rw [hW]; repeat (first | exact Chg.refl _ _ | assumption | refine chg_put ?_ | refine chg_drew ?_)
  have h2 : At W2 bx (rnC { R with at' := R.at' + 1 }) := by rw [hW]; exact at_put h1 (by rw [rn_size]; decide) rfl
  obtain ⟨li, ci⟩ := chg_keep (b := bx) (by rw [hW]; repeat (first | exact Chg.refl _ _ | assumption | refine chg_put ?_ | refine chg_drew ?_) : Chg (fun k => k = bx) W1 W2) li (by omega) ci
  clear hW h1 c19 f19 g1
  go_upto_region 26 with (go_at_call 29; refine (sign_no _ (by decide) _).mono ?_; rintro e w1 ⟨rfl, hb⟩; obtain ⟨r, d, rfl⟩ := ext_form hb; clear hb)
  refine wp_at ?_
  intro W3 hW
  have hx3 : Ext W2 W3 := by rw [hW]; repeat (first | exact ext_refl _ | assumption | refine ext_more' ?_ _ _ | refine ext_drew ?_ | refine ext_drewN ?_ _ | refine ext_alloc ?_ _)
  clear hW
  have h1 := at_ext h2 (by rw [rn_size]; decide) hx3
  have g1 := chg_more g2 (chg_ext hx3)
  obtain ⟨li, ci⟩ := box_on hx3 li ci
  clear h2 g2 hx3 hx
  go_wp2_with (go_at_call 33; refine (end_calls { R with at' := R.at' + 1 } 16 a b c n s bx _ h1 a0 a1 s0 s1).mono ?_; rintro e w4 ⟨rfl, g4, h4⟩)
  go_ret
  refine ⟨rfl, chg_more g1 g4, ?_⟩
  first | exact h4 | simpa using h4

set_option maxRecDepth 100000 in
set_option maxHeartbeats 8000000 in
theorem step_sig0 (R : Rn) (a b c n : Int) (s : ByteArray) (bx : Nat) (w : World) (h : At w bx (rnC R)) (p0 : 0 ≤ R.at') (p1 : R.at' ≤ 500) (hs : (R.slen : Int) ≤ R.sig) :
    Calls Try.prog 23 #[.pointer (some ⟨bx, 0, none⟩), .agg #[.int .u8 14, .int .i64 a, .int .i64 b, .int .i64 c, .int .i64 n, .string s]] w fun e w' => e = .returned (.bool false) ∧ Chg (fun k => k = bx) w w' ∧ At w' bx (rnC { R with at' := R.at' + 1, st := 3 }) := by
  go_enter Try.func23, Try.ntmps23
  go_upto_region 1 with fail
  refine wp_at ?_
  intro W1 hW
  have hx : Ext w W1 := by rw [hW]; repeat (first | exact ext_refl _ | assumption | refine ext_more' ?_ _ _ | refine ext_drew ?_ | refine ext_drewN ?_ _ | refine ext_alloc ?_ _)
  obtain ⟨li, ci⟩ := box_facts (by rw [hW]; repeat (first | exact ext_refl _ | assumption | refine ext_more' ?_ _ _ | refine ext_drew ?_ | refine ext_drewN ?_ _ | refine ext_alloc ?_ _) : Ext (World.alloc w (.cells _ _)) W1)
  clear hW
  have lb := at_lt h (by rw [rn_size]; decide)
  have h1 := at_ext h (by rw [rn_size]; decide) hx
  have g1 : Chg (fun k => k = bx) w W1 := chg_ext hx
  have c19 : W1.cell? ⟨bx, 19, none⟩ = some (.int .i64 R.at') := h1.1 19
  have f19 : W1.frozen? ⟨bx, 19, none⟩ = false := h1.2 19
  go_upto_region 2 with fail
  refine wp_at ?_
  intro W2 hW
  have g2 : Chg (fun k => k = bx) w W2 := by rw [hW]; repeat (first | exact Chg.refl _ _ | assumption | refine chg_put ?_ | refine chg_drew ?_)
  have h2 : At W2 bx (rnC { R with at' := R.at' + 1 }) := by rw [hW]; exact at_put h1 (by rw [rn_size]; decide) rfl
  obtain ⟨li, ci⟩ := chg_keep (b := bx) (by rw [hW]; repeat (first | exact Chg.refl _ _ | assumption | refine chg_put ?_ | refine chg_drew ?_) : Chg (fun k => k = bx) W1 W2) li (by omega) ci
  clear hW h1 c19 f19 g1
  go_upto_region 23 with (go_at_call 29; refine (sign_no _ (by decide) _).mono ?_; rintro e w1 ⟨rfl, hb⟩; obtain ⟨r, d, rfl⟩ := ext_form hb; clear hb)
  refine wp_at ?_
  intro W3 hW
  have hx3 : Ext W2 W3 := by rw [hW]; repeat (first | exact ext_refl _ | assumption | refine ext_more' ?_ _ _ | refine ext_drew ?_ | refine ext_drewN ?_ _ | refine ext_alloc ?_ _)
  clear hW
  have h1 := at_ext h2 (by rw [rn_size]; decide) hx3
  have g1 := chg_more g2 (chg_ext hx3)
  obtain ⟨li, ci⟩ := box_on hx3 li ci
  clear h2 g2 hx3 hx
  go_wp2_with (go_at_call 32; refine (signal_none { R with at' := R.at' + 1 } 14 a b c n s bx _ h1 hs).mono ?_; rintro e w4 ⟨rfl, g4, h4⟩)
  go_ret
  exact ⟨rfl, chg_more g1 g4, h4⟩

set_option maxRecDepth 100000 in
set_option maxHeartbeats 8000000 in
theorem step_sig1 (R : Rn) (a b c n : Int) (s : ByteArray) (bx : Nat) (w : World) (h : At w bx (rnC R)) (p0 : 0 ≤ R.at') (p1 : R.at' ≤ 500) (a0 : 0 ≤ a) (a1 : a < 16) (sb so : Nat) (v : Int) (hs : R.ss = some ⟨sb, so, none⟩) (hlt : sb < w.heap.size) (hne : sb ≠ bx) (s0 : 0 ≤ R.sig) (s1 : R.sig < R.slen) (s2 : R.sig ≤ 10000) (hv : w.cell? ⟨sb, so + R.sig.toNat, none⟩ = some (.int .i64 v)) :
    Calls Try.prog 23 #[.pointer (some ⟨bx, 0, none⟩), .agg #[.int .u8 14, .int .i64 a, .int .i64 b, .int .i64 c, .int .i64 n, .string s]] w fun e w' => e = .returned (.bool true) ∧ Chg (fun k => k = bx) w w' ∧ At w' bx (rnC { R with at' := R.at' + 1, r := putR R.r a.toNat v, sig := R.sig + 1 }) := by
  go_enter Try.func23, Try.ntmps23
  go_upto_region 1 with fail
  refine wp_at ?_
  intro W1 hW
  have hx : Ext w W1 := by rw [hW]; repeat (first | exact ext_refl _ | assumption | refine ext_more' ?_ _ _ | refine ext_drew ?_ | refine ext_drewN ?_ _ | refine ext_alloc ?_ _)
  obtain ⟨li, ci⟩ := box_facts (by rw [hW]; repeat (first | exact ext_refl _ | assumption | refine ext_more' ?_ _ _ | refine ext_drew ?_ | refine ext_drewN ?_ _ | refine ext_alloc ?_ _) : Ext (World.alloc w (.cells _ _)) W1)
  clear hW
  have lb := at_lt h (by rw [rn_size]; decide)
  have h1 := at_ext h (by rw [rn_size]; decide) hx
  have g1 : Chg (fun k => k = bx) w W1 := chg_ext hx
  have c19 : W1.cell? ⟨bx, 19, none⟩ = some (.int .i64 R.at') := h1.1 19
  have f19 : W1.frozen? ⟨bx, 19, none⟩ = false := h1.2 19
  go_upto_region 2 with fail
  refine wp_at ?_
  intro W2 hW
  have g2 : Chg (fun k => k = bx) w W2 := by rw [hW]; repeat (first | exact Chg.refl _ _ | assumption | refine chg_put ?_ | refine chg_drew ?_)
  have h2 : At W2 bx (rnC { R with at' := R.at' + 1 }) := by rw [hW]; exact at_put h1 (by rw [rn_size]; decide) rfl
  obtain ⟨li, ci⟩ := chg_keep (b := bx) (by rw [hW]; repeat (first | exact Chg.refl _ _ | assumption | refine chg_put ?_ | refine chg_drew ?_) : Chg (fun k => k = bx) W1 W2) li (by omega) ci
  clear hW h1 c19 f19 g1
  go_upto_region 23 with (go_at_call 29; refine (sign_no _ (by decide) _).mono ?_; rintro e w1 ⟨rfl, hb⟩; obtain ⟨r, d, rfl⟩ := ext_form hb; clear hb)
  refine wp_at ?_
  intro W3 hW
  have hx3 : Ext W2 W3 := by rw [hW]; repeat (first | exact ext_refl _ | assumption | refine ext_more' ?_ _ _ | refine ext_drew ?_ | refine ext_drewN ?_ _ | refine ext_alloc ?_ _)
  clear hW
  have h1 := at_ext h2 (by rw [rn_size]; decide) hx3
  have g1 := chg_more g2 (chg_ext hx3)
  obtain ⟨li, ci⟩ := box_on hx3 li ci
  clear h2 g2 hx3 hx
  have hlt3 : sb < W3.heap.size := Nat.lt_of_lt_of_le hlt g1.size
  have hv3 : W3.cell? ⟨sb, so + R.sig.toNat, none⟩ = some (.int .i64 v) := by
    rw [← hv]; unfold World.cell?; dsimp only; rw [g1.block sb hlt hne]
  clear hv
  go_wp2_with (go_at_call 32; refine (signal_some { R with at' := R.at' + 1 } 14 a b c n s bx sb so v _ h1 a0 a1 hs hlt3 hne s0 s1 s2 hv3).mono ?_; rintro e w4 ⟨rfl, g4, h4⟩)
  go_ret
  exact ⟨rfl, chg_more g1 g4, h4⟩
end Go.Proofs.Ytpfkpdimjljeaaa

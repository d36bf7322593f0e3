/- TaskTicks' closure. -/
import Derived.Test.YtnfmgojloahfkaaSX16
import Derived.Test.YtnfmgojloahfkaaWg
namespace Go.Proofs.Ytnfmgojloahfkaa
open Go.RowKit
set_option linter.unusedVariables false
set_option linter.unusedSimpArgs false

set_option maxRecDepth 100000 in
set_option maxHeartbeats 8000000 in
theorem cticks_calls (p0 p1 p2 p3 p4 p5 p6 p7 b0 b1 b2 b3 b4 b5 b6 b7 b8 b9 a0 a1 a2 a3 a4 a5 a6 a7 a8 a9 o0 o1 o2 o3 o4 o5 o6 z0 z1 z2 z3 z4 z5 z6 z7 z8 z9 n e : Int) (bp : Nat) (w : World) (h0 : 0 ≤ a2) (h1 : a2 ≤ 255) (hz0 : 0 ≤ z2) (hz1 : z2 ≤ 255)
    (lp : bp < w.heap.size) (cp : ∀ i, w.cell? ⟨bp, i, none⟩ = #[.int .i64 p0, .int .i64 p1, .int .i64 p2, .int .i64 p3, .int .i64 p4, .int .i64 p5, .int .i64 p6, .int .i64 p7][i]?)
    (e1 : tickF ⟨p0, p1, p2, p3, p4, p5, p6, p7⟩ ⟨a0, a1, a2, a3, a4, a5, a6, a7, a8, a9⟩ n = (⟨z0, z1, z2, z3, z4, z5, z6, z7, z8, z9⟩, 0)) (e2 : tickF ⟨p0, p1, p2, p3, p4, p5, p6, p7⟩ ⟨z0, z1, z2, z3, z4, z5, z6, z7, z8, z9⟩ n = (⟨z0, z1, z2, z3, z4, z5, z6, z7, z8, z9⟩, 0)) (hd : a2 = 1 → (z2 = 2 ∧ a3 ≤ n) ∨ (z2 = 1 ∧ n < a3) ∨ z2 = 4) :
    Calls Try.prog 27 #[.agg #[.int .i64 b0, .int .i64 b1, .int .u8 b2, .int .i64 b3, .int .i64 b4, .int .i64 b5, .int .i64 b6, .int .i64 b7, .int .i64 b8, .int .i64 b9], .agg #[.int .i64 a0, .int .i64 a1, .int .u8 a2, .int .i64 a3, .int .i64 a4, .int .i64 a5, .int .i64 a6, .int .i64 a7, .int .i64 a8, .int .i64 a9], .agg #[.int .i64 o0, .int .i64 o1, .int .i64 o2, .int .i64 o3, .int .i64 o4, .int .i64 o5, .int .i64 o6], .int .i64 n, .int .i64 e, .pointer (some ⟨bp, 0, none⟩)] w fun e w' => e = .returned (.bool true) ∧ Ext w w' := by
  have hq : (a2 == 1) = false ∨ (a2 = 1 ∧ ((z2 = 2 ∧ a3 ≤ n) ∨ (z2 = 1 ∧ n < a3) ∨ z2 = 4)) := by
    by_cases h : a2 = 1
    · exact .inr ⟨h, hd h⟩
    · left; simpa using h
  clear hd
  have E1 := Lib.hid e1; have E2 := Lib.hid e2; clear e1 e2
  rcases hq with hq | ⟨rfl, ⟨rfl, hq⟩ | ⟨rfl, hq⟩ | rfl⟩
  all_goals
    go_enter Try.func27, Try.ntmps27
    go_upto_region 1 with fail
    refine wp_at ?_
    intro W0 hW
    have hx : Ext w W0 := by rw [hW]; repeat (first | exact ext_refl _ | assumption | refine ext_more' ?_ _ _ | refine ext_drew ?_ | refine ext_drewN ?_ _ | refine ext_alloc ?_ _)
    obtain ⟨lt, ct⟩ := box_facts (by rw [hW]; repeat (first | exact ext_refl _ | assumption | refine ext_more' ?_ _ _ | refine ext_drew ?_ | refine ext_drewN ?_ _ | refine ext_alloc ?_ _) : Ext (World.alloc (World.alloc w _) (.cells _ _)) W0)
    (try simp only [more_size, sz_alloc] at lt ct)
    obtain ⟨lp, cp⟩ := box_on hx lp cp
    clear hW
    have hw := hx; clear hx
    go_upto_region 2 with (go_at_call 13; refine (ttick_calls _ _ _ _ _ _ _ _ _ _ _ _ _ _ _ _ _ _ _ _ (by assumption) (by assumption)).mono ?_; rw [E1.out]; rintro e w1 ⟨rfl, hb⟩; obtain ⟨r, d, rfl⟩ := ext_form hb; clear hb)
    refine wp_at ?_
    intro W1 hW
    have hx : Ext W0 W1 := by rw [hW]; repeat (first | exact ext_refl _ | assumption | refine ext_more' ?_ _ _ | refine ext_drew ?_ | refine ext_drewN ?_ _ | refine ext_alloc ?_ _)
    obtain ⟨lx, cx⟩ := box_facts (by rw [hW]; repeat (first | exact ext_refl _ | assumption | refine ext_more' ?_ _ _ | refine ext_drew ?_ | refine ext_drewN ?_ _ | refine ext_alloc ?_ _) : Ext (World.alloc (more _ _ _) (.cells _ _)) W1)
    (try simp only [more_size, sz_alloc] at lx cx)
    obtain ⟨lp, cp⟩ := box_on hx lp cp
    obtain ⟨lt, ct⟩ := box_on hx lt ct
    clear hW
    replace hw := ext_trans hw hx; clear hx
    go_upto_region 3 with (go_at_call 13; refine (ttick_calls _ _ _ _ _ _ _ _ _ _ _ _ _ _ _ _ _ _ _ _ (by first | assumption | decide) (by first | assumption | decide)).mono ?_; rw [E2.out]; rintro e w1 ⟨rfl, hb⟩; obtain ⟨r, d, rfl⟩ := ext_form hb; clear hb)
    refine wp_at ?_
    intro W2 hW
    have hx : Ext W1 W2 := by rw [hW]; repeat (first | exact ext_refl _ | assumption | refine ext_more' ?_ _ _ | refine ext_drew ?_ | refine ext_drewN ?_ _ | refine ext_alloc ?_ _)
    obtain ⟨ly, cy⟩ := box_facts (by rw [hW]; repeat (first | exact ext_refl _ | assumption | refine ext_more' ?_ _ _ | refine ext_drew ?_ | refine ext_drewN ?_ _ | refine ext_alloc ?_ _) : Ext (World.alloc (more _ _ _) (.cells _ _)) W2)
    (try simp only [more_size, sz_alloc] at ly cy)
    obtain ⟨lp, cp⟩ := box_on hx lp cp
    obtain ⟨lt, ct⟩ := box_on hx lt ct
    obtain ⟨lx, cx⟩ := box_on hx lx cx
    clear hW
    replace hw := ext_trans hw hx; clear hx
    go_wp2
    all_goals (go_ret; exact ⟨rfl, by repeat (first | exact ext_refl _ | assumption | refine ext_more' ?_ _ _ | refine ext_drew ?_ | refine ext_drewN ?_ _ | refine ext_alloc ?_ _)⟩)
end Go.Proofs.Ytnfmgojloahfkaa

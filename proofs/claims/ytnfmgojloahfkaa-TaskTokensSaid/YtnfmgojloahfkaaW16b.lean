/- TaskTokens' closure. -/
import Derived.Test.YtnfmgojloahfkaaSX16
import Derived.Test.YtnfmgojloahfkaaWg
namespace Go.Proofs.Ytnfmgojloahfkaa
open Go.RowKit
set_option linter.unusedVariables false
set_option linter.unusedSimpArgs false

set_option maxRecDepth 100000 in
set_option maxHeartbeats 8000000 in
theorem ctokens_calls (p0 p1 p2 p3 p4 p5 p6 p7 b0 b1 b2 b3 b4 b5 b6 b7 b8 b9 a0 a1 a2 a3 a4 a5 a6 a7 a8 a9 o0 o1 o2 o3 o4 o5 o6 n e k : Int) (bk bp : Nat) (w : World) (h0 : 0 ≤ a2) (h1 : a2 ≤ 255)
    (lp : bp < w.heap.size) (cp : ∀ i, w.cell? ⟨bp, i, none⟩ = #[.int .i64 p0, .int .i64 p1, .int .i64 p2, .int .i64 p3, .int .i64 p4, .int .i64 p5, .int .i64 p6, .int .i64 p7][i]?) (lk : bk < w.heap.size) (ck : ∀ i, w.cell? ⟨bk, i, none⟩ = #[.int .i64 k][i]?)
    (e12 : ¬ (a2 = 3 ∧ a1 = k) → tellF ⟨p0, p1, p2, p3, p4, p5, p6, p7⟩ ⟨a0, a1, a2, a3, a4, a5, a6, a7, a8, a9⟩ k 0 5 n 0 = (⟨a0, a1, a2, a3, a4, a5, a6, a7, a8, a9⟩, 109) ∧ beatF ⟨p0, p1, p2, p3, p4, p5, p6, p7⟩ ⟨a0, a1, a2, a3, a4, a5, a6, a7, a8, a9⟩ k n = (⟨a0, a1, a2, a3, a4, a5, a6, a7, a8, a9⟩, 109)) (hq : (o0 = 1 ∨ o0 = 2) → e = 0 → b2 = 3 ∧ b1 = o2) :
    Calls Try.prog 25 #[.agg #[.int .i64 b0, .int .i64 b1, .int .u8 b2, .int .i64 b3, .int .i64 b4, .int .i64 b5, .int .i64 b6, .int .i64 b7, .int .i64 b8, .int .i64 b9], .agg #[.int .i64 a0, .int .i64 a1, .int .u8 a2, .int .i64 a3, .int .i64 a4, .int .i64 a5, .int .i64 a6, .int .i64 a7, .int .i64 a8, .int .i64 a9], .agg #[.int .i64 o0, .int .i64 o1, .int .i64 o2, .int .i64 o3, .int .i64 o4, .int .i64 o5, .int .i64 o6], .int .i64 n, .int .i64 e, .pointer (some ⟨bk, 0, none⟩), .pointer (some ⟨bp, 0, none⟩)] w fun e w' => e = .returned (.bool true) ∧ Ext w w' := by
  by_cases hk : a2 = 3 ∧ a1 = k
  · obtain ⟨rfl, rfl⟩ := hk
    clear e12 hq
    go_enter Try.func25, Try.ntmps25
    go_upto_region 1 with fail
    refine wp_at ?_
    intro W0 hW
    have hx : Ext w W0 := by rw [hW]; repeat (first | exact ext_refl _ | assumption | refine ext_more' ?_ _ _ | refine ext_drew ?_ | refine ext_drewN ?_ _ | refine ext_alloc ?_ _)
    obtain ⟨lt, ct⟩ := box_facts (by rw [hW]; repeat (first | exact ext_refl _ | assumption | refine ext_more' ?_ _ _ | refine ext_drew ?_ | refine ext_drewN ?_ _ | refine ext_alloc ?_ _) : Ext (World.alloc (World.alloc w _) (.cells _ _)) W0)
    (try simp only [more_size, sz_alloc] at lt ct)
    obtain ⟨lp, cp⟩ := box_on hx lp cp
    obtain ⟨lk, ck⟩ := box_on hx lk ck
    clear hW
    have hw := hx; clear hx
    go_wp2
    go_ret
    exact ⟨rfl, by repeat (first | exact ext_refl _ | assumption | refine ext_more' ?_ _ _ | refine ext_drew ?_ | refine ext_drewN ?_ _ | refine ext_alloc ?_ _)⟩
  · obtain ⟨e1, e2⟩ := e12 hk
    have E1 := Lib.hid e1; have E2 := Lib.hid e2; clear e1 e2 e12
    have hk2 : (a2 == 3) = false ∨ (a2 = 3 ∧ (a1 == k) = false) := by
      by_cases h : a2 = 3
      · right; exact ⟨h, by simp; intro h2; exact hk ⟨h, h2⟩⟩
      · left; simpa using h
    clear hk
    have hc : (b2 = 3 ∧ b1 = o2 ∧ e = 0 ∧ (o0 = 1 ∨ o0 = 2)) ∨ (e == 0) = false ∨ ((o0 == 1) = false ∧ (o0 == 2) = false) := by
      by_cases he : e = 0
      · by_cases ho : o0 = 1 ∨ o0 = 2
        · obtain ⟨x1, x2⟩ := hq ho he; exact .inl ⟨x1, x2, he, ho⟩
        · right; right; simp; omega
      · right; left; simpa using he
    clear hq
    rcases hk2 with hk2 | ⟨rfl, hk2⟩
    all_goals
      rcases hc with ⟨rfl, rfl, rfl, rfl | rfl⟩ | hc | ⟨hc, hc'⟩
      all_goals
        go_enter Try.func25, Try.ntmps25
        go_upto_region 1 with fail
        refine wp_at ?_
        intro W0 hW
        have hx : Ext w W0 := by rw [hW]; repeat (first | exact ext_refl _ | assumption | refine ext_more' ?_ _ _ | refine ext_drew ?_ | refine ext_drewN ?_ _ | refine ext_alloc ?_ _)
        obtain ⟨lb, cb⟩ := box_facts (by rw [hW]; repeat (first | exact ext_refl _ | assumption | refine ext_more' ?_ _ _ | refine ext_drew ?_ | refine ext_drewN ?_ _ | refine ext_alloc ?_ _) : Ext (World.alloc w (.cells _ _)) W0)
        (try simp only [more_size, sz_alloc] at lb cb)
        obtain ⟨lt, ct⟩ := box_facts (by rw [hW]; repeat (first | exact ext_refl _ | assumption | refine ext_more' ?_ _ _ | refine ext_drew ?_ | refine ext_drewN ?_ _ | refine ext_alloc ?_ _) : Ext (World.alloc (World.alloc w _) (.cells _ _)) W0)
        (try simp only [more_size, sz_alloc] at lt ct)
        obtain ⟨lo, co⟩ := box_facts (by rw [hW]; repeat (first | exact ext_refl _ | assumption | refine ext_more' ?_ _ _ | refine ext_drew ?_ | refine ext_drewN ?_ _ | refine ext_alloc ?_ _) : Ext (World.alloc (World.alloc (World.alloc w _) _) (.cells _ _)) W0)
        (try simp only [more_size, sz_alloc] at lo co)
        obtain ⟨lp, cp⟩ := box_on hx lp cp
        obtain ⟨lk, ck⟩ := box_on hx lk ck
        clear hW
        have hw := hx; clear hx
        go_upto_region 4 with (go_at_call 12; refine (ttell_calls _ _ _ _ _ _ _ _ _ _ _ _ _ _ _ _ _ _ _ _ _ _ _ _ (by assumption) (by assumption)).mono ?_; rw [E1.out]; rintro e w1 ⟨rfl, hb⟩; obtain ⟨r, d, rfl⟩ := ext_form hb; clear hb)
        refine wp_at ?_
        intro W1 hW
        have hx : Ext W0 W1 := by rw [hW]; repeat (first | exact ext_refl _ | assumption | refine ext_more' ?_ _ _ | refine ext_drew ?_ | refine ext_drewN ?_ _ | refine ext_alloc ?_ _)
        obtain ⟨lx, cx⟩ := box_facts (by rw [hW]; repeat (first | exact ext_refl _ | assumption | refine ext_more' ?_ _ _ | refine ext_drew ?_ | refine ext_drewN ?_ _ | refine ext_alloc ?_ _) : Ext (World.alloc (more _ _ _) (.cells _ _)) W1)
        (try simp only [more_size, sz_alloc] at lx cx)
        obtain ⟨lb, cb⟩ := box_on hx lb cb
        obtain ⟨lt, ct⟩ := box_on hx lt ct
        obtain ⟨lo, co⟩ := box_on hx lo co
        obtain ⟨lp, cp⟩ := box_on hx lp cp
        obtain ⟨lk, ck⟩ := box_on hx lk ck
        clear hW
        replace hw := ext_trans hw hx; clear hx
        go_upto_region 5 with (go_at_call 26; refine (tbeat_calls _ _ _ _ _ _ _ _ _ _ _ _ _ _ _ _ _ _ _ _ _ (by assumption) (by assumption)).mono ?_; rw [E2.out]; rintro e w1 ⟨rfl, hb⟩; obtain ⟨r, d, rfl⟩ := ext_form hb; clear hb)
        refine wp_at ?_
        intro W2 hW
        have hx : Ext W1 W2 := by rw [hW]; repeat (first | exact ext_refl _ | assumption | refine ext_more' ?_ _ _ | refine ext_drew ?_ | refine ext_drewN ?_ _ | refine ext_alloc ?_ _)
        obtain ⟨ly, cy⟩ := box_facts (by rw [hW]; repeat (first | exact ext_refl _ | assumption | refine ext_more' ?_ _ _ | refine ext_drew ?_ | refine ext_drewN ?_ _ | refine ext_alloc ?_ _) : Ext (World.alloc (more _ _ _) (.cells _ _)) W2)
        (try simp only [more_size, sz_alloc] at ly cy)
        obtain ⟨lp, cp⟩ := box_on hx lp cp
        obtain ⟨lk, ck⟩ := box_on hx lk ck
        obtain ⟨lb, cb⟩ := box_on hx lb cb
        obtain ⟨lt, ct⟩ := box_on hx lt ct
        obtain ⟨lo, co⟩ := box_on hx lo co
        obtain ⟨lx, cx⟩ := box_on hx lx cx
        clear hW
        replace hw := ext_trans hw hx; clear hx
        go_wp2
        all_goals (go_ret; exact ⟨rfl, by repeat (first | exact ext_refl _ | assumption | refine ext_more' ?_ _ _ | refine ext_drew ?_ | refine ext_drewN ?_ _ | refine ext_alloc ?_ _)⟩)

end Go.Proofs.Ytnfmgojloahfkaa

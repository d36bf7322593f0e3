/- TaskOnce's closure. -/
import Derived.Test.YtnfmgojloahfkaaSX16
import Derived.Test.YtnfmgojloahfkaaWg
namespace Go.Proofs.Ytnfmgojloahfkaa
open Go.RowKit
set_option linter.unusedVariables false
set_option linter.unusedSimpArgs false

set_option maxRecDepth 100000 in
set_option maxHeartbeats 8000000 in
theorem conce_same (p0 p1 p2 p3 p4 p5 p6 p7 a0 a1 a2 a3 a4 a5 a6 a7 a8 a9 e o0 o1 o2 o3 o4 o5 o6 n v : Int) (bu bp : Nat) (w : World) (lp : bp < w.heap.size) (cp : ∀ i, w.cell? ⟨bp, i, none⟩ = #[.int .i64 p0, .int .i64 p1, .int .i64 p2, .int .i64 p3, .int .i64 p4, .int .i64 p5, .int .i64 p6, .int .i64 p7][i]?) (lu : bu < w.heap.size) (cu : ∀ i, w.cell? ⟨bu, i, none⟩ = #[.int .i64 v][i]?) (fu : w.frozen? ⟨bu, 0, none⟩ = false)
    (ht : rightT ⟨p0, p1, p2, p3, p4, p5, p6, p7⟩ ⟨a0, a1, a2, a3, a4, a5, a6, a7, a8, a9⟩ = true) (h0 : 0 ≤ a2) (h1 : a2 ≤ 255) (hm : a1 ≤ p0) :
    Calls Try.prog 22 #[.agg #[.int .i64 a0, .int .i64 a1, .int .u8 a2, .int .i64 a3, .int .i64 a4, .int .i64 a5, .int .i64 a6, .int .i64 a7, .int .i64 a8, .int .i64 a9], .agg #[.int .i64 a0, .int .i64 a1, .int .u8 a2, .int .i64 a3, .int .i64 a4, .int .i64 a5, .int .i64 a6, .int .i64 a7, .int .i64 a8, .int .i64 a9], .agg #[.int .i64 o0, .int .i64 o1, .int .i64 o2, .int .i64 o3, .int .i64 o4, .int .i64 o5, .int .i64 o6], .int .i64 n, .int .i64 e, .pointer (some ⟨bp, 0, none⟩), .pointer (some ⟨bu, 0, none⟩)] w fun e w' => e = .returned (.bool true) ∧ Ext w w' := by
  have HT := Lib.hid ht; clear ht
  have hm2 : ¬ (p0 < a1) := by omega
  all_goals
    go_enter Try.func22, Try.ntmps22
    go_upto_region 1 with fail
    refine wp_at ?_
    intro W0 hW
    have hx : Ext w W0 := by rw [hW]; repeat (first | exact ext_refl _ | assumption | refine ext_more' ?_ _ _ | refine ext_drew ?_ | refine ext_drewN ?_ _ | refine ext_alloc ?_ _)
    obtain ⟨lb, cb⟩ := box_facts (by rw [hW]; repeat (first | exact ext_refl _ | assumption | refine ext_more' ?_ _ _ | refine ext_drew ?_ | refine ext_drewN ?_ _ | refine ext_alloc ?_ _) : Ext (World.alloc w (.cells _ _)) W0)
    (try simp only [more_size, sz_alloc] at lb cb)
    obtain ⟨lt, ct⟩ := box_facts (by rw [hW]; repeat (first | exact ext_refl _ | assumption | refine ext_more' ?_ _ _ | refine ext_drew ?_ | refine ext_drewN ?_ _ | refine ext_alloc ?_ _) : Ext (World.alloc (World.alloc w _) (.cells _ _)) W0)
    (try simp only [more_size, sz_alloc] at lt ct)
    obtain ⟨lo, co⟩ := box_facts (by rw [hW]; repeat (first | exact ext_refl _ | assumption | refine ext_more' ?_ _ _ | refine ext_drew ?_ | refine ext_drewN ?_ _ | refine ext_alloc ?_ _) : Ext (World.alloc (World.alloc (World.alloc w _) _) (.cells _ _)) W0)
    (try simp only [more_size, sz_alloc] at lo co)
    obtain ⟨lp, cp⟩ := box_on hx lp cp
    obtain ⟨lu, cu⟩ := box_on hx lu cu
    clear hW
    have fu0 : W0.frozen? ⟨bu, 0, none⟩ = false := (hx.frozen (p := ⟨bu, 0, none⟩) (by assumption)).trans (by assumption)
    have hw := hx; clear hx
    go_wp2_with (go_at_call 16; refine (tright_calls _ _ _ _ _ _ _ _ _ _ _ _ _ _ _ _ _ _ _ (by first | assumption | decide) (by first | assumption | decide)).mono ?_; rw [HT.out]; rintro e w1 ⟨rfl, hb⟩; obtain ⟨r, d, rfl⟩ := ext_form hb; clear hb)
    all_goals (go_ret; exact ⟨rfl, by repeat (first | exact ext_refl _ | assumption | refine ext_more' ?_ _ _ | refine ext_drew ?_ | refine ext_drewN ?_ _ | refine ext_alloc ?_ _)⟩)

set_option maxRecDepth 100000 in
set_option maxHeartbeats 8000000 in
theorem conce_take (p0 p1 p2 p3 p4 p5 p6 p7 u k s q o1 o2 o3 o4 o5 o6 n v : Int) (bu bp : Nat) (w : World) (lp : bp < w.heap.size) (cp : ∀ i, w.cell? ⟨bp, i, none⟩ = #[.int .i64 p0, .int .i64 p1, .int .i64 p2, .int .i64 p3, .int .i64 p4, .int .i64 p5, .int .i64 p6, .int .i64 p7][i]?) (lu : bu < w.heap.size) (cu : ∀ i, w.cell? ⟨bu, i, none⟩ = #[.int .i64 v][i]?) (fu : w.frozen? ⟨bu, 0, none⟩ = false)
    (ht : rightT ⟨p0, p1, p2, p3, p4, p5, p6, p7⟩ ⟨u, (k + 1), 3, 0, 0, q, n, n, 0, 0⟩ = true) (hk : 0 ≤ k) (hm : k + 1 ≤ p0) (hm9 : p0 ≤ 100) (hv : v ≤ n) :
    Calls Try.prog 22 #[.agg #[.int .i64 u, .int .i64 k, .int .u8 2, .int .i64 0, .int .i64 s, .int .i64 0, .int .i64 0, .int .i64 0, .int .i64 0, .int .i64 0], .agg #[.int .i64 u, .int .i64 (k + 1), .int .u8 3, .int .i64 0, .int .i64 0, .int .i64 q, .int .i64 n, .int .i64 n, .int .i64 0, .int .i64 0], .agg #[.int .i64 0, .int .i64 o1, .int .i64 o2, .int .i64 o3, .int .i64 o4, .int .i64 o5, .int .i64 o6], .int .i64 n, .int .i64 0, .pointer (some ⟨bp, 0, none⟩), .pointer (some ⟨bu, 0, none⟩)] w fun e w' => e = .returned (.bool true) ∧ Ext w w' := by
  have HT := Lib.hid ht; clear ht
  have hm2 : ¬ (p0 < k + 1) := by omega
  have hk9 : k ≤ 100 := by omega
  have hk1 : (k + 1 == k) = false := by simp; omega
  have hk2 : (k + 1 != k) = true := by simp; omega
  have hv2 : ¬ (n < v) := by omega
  all_goals
    go_enter Try.func22, Try.ntmps22
    go_upto_region 1 with fail
    refine wp_at ?_
    intro W0 hW
    have hx : Ext w W0 := by rw [hW]; repeat (first | exact ext_refl _ | assumption | refine ext_more' ?_ _ _ | refine ext_drew ?_ | refine ext_drewN ?_ _ | refine ext_alloc ?_ _)
    obtain ⟨lb, cb⟩ := box_facts (by rw [hW]; repeat (first | exact ext_refl _ | assumption | refine ext_more' ?_ _ _ | refine ext_drew ?_ | refine ext_drewN ?_ _ | refine ext_alloc ?_ _) : Ext (World.alloc w (.cells _ _)) W0)
    (try simp only [more_size, sz_alloc] at lb cb)
    obtain ⟨lt, ct⟩ := box_facts (by rw [hW]; repeat (first | exact ext_refl _ | assumption | refine ext_more' ?_ _ _ | refine ext_drew ?_ | refine ext_drewN ?_ _ | refine ext_alloc ?_ _) : Ext (World.alloc (World.alloc w _) (.cells _ _)) W0)
    (try simp only [more_size, sz_alloc] at lt ct)
    obtain ⟨lo, co⟩ := box_facts (by rw [hW]; repeat (first | exact ext_refl _ | assumption | refine ext_more' ?_ _ _ | refine ext_drew ?_ | refine ext_drewN ?_ _ | refine ext_alloc ?_ _) : Ext (World.alloc (World.alloc (World.alloc w _) _) (.cells _ _)) W0)
    (try simp only [more_size, sz_alloc] at lo co)
    obtain ⟨lp, cp⟩ := box_on hx lp cp
    obtain ⟨lu, cu⟩ := box_on hx lu cu
    clear hW
    have fu0 : W0.frozen? ⟨bu, 0, none⟩ = false := (hx.frozen (p := ⟨bu, 0, none⟩) (by assumption)).trans (by assumption)
    have hw := hx; clear hx
    go_wp2_with (go_at_call 16; refine (tright_calls _ _ _ _ _ _ _ _ _ _ _ _ _ _ _ _ _ _ _ (by first | assumption | decide) (by first | assumption | decide)).mono ?_; rw [HT.out]; rintro e w1 ⟨rfl, hb⟩; obtain ⟨r, d, rfl⟩ := ext_form hb; clear hb)
    all_goals (go_ret; exact ⟨rfl, by repeat (first | exact ext_refl _ | assumption | refine ext_more' ?_ _ _ | refine ext_drew ?_ | refine ext_drewN ?_ _ | refine ext_alloc ?_ _)⟩)

set_option maxRecDepth 100000 in
set_option maxHeartbeats 8000000 in
theorem conce_beat (p0 p1 p2 p3 p4 p5 p6 p7 u k q a b o0 o1 o2 o3 o4 o5 o6 n v : Int) (bu bp : Nat) (w : World) (lp : bp < w.heap.size) (cp : ∀ i, w.cell? ⟨bp, i, none⟩ = #[.int .i64 p0, .int .i64 p1, .int .i64 p2, .int .i64 p3, .int .i64 p4, .int .i64 p5, .int .i64 p6, .int .i64 p7][i]?) (lu : bu < w.heap.size) (cu : ∀ i, w.cell? ⟨bu, i, none⟩ = #[.int .i64 v][i]?) (fu : w.frozen? ⟨bu, 0, none⟩ = false)
    (ht : rightT ⟨p0, p1, p2, p3, p4, p5, p6, p7⟩ ⟨u, k, 3, 0, 0, q, a, n, 0, 0⟩ = true) (hm : k ≤ p0) :
    Calls Try.prog 22 #[.agg #[.int .i64 u, .int .i64 k, .int .u8 3, .int .i64 0, .int .i64 0, .int .i64 q, .int .i64 a, .int .i64 b, .int .i64 0, .int .i64 0], .agg #[.int .i64 u, .int .i64 k, .int .u8 3, .int .i64 0, .int .i64 0, .int .i64 q, .int .i64 a, .int .i64 n, .int .i64 0, .int .i64 0], .agg #[.int .i64 o0, .int .i64 o1, .int .i64 o2, .int .i64 o3, .int .i64 o4, .int .i64 o5, .int .i64 o6], .int .i64 n, .int .i64 0, .pointer (some ⟨bp, 0, none⟩), .pointer (some ⟨bu, 0, none⟩)] w fun e w' => e = .returned (.bool true) ∧ Ext w w' := by
  have HT := Lib.hid ht; clear ht
  have hm2 : ¬ (p0 < k) := by omega
  all_goals
    go_enter Try.func22, Try.ntmps22
    go_upto_region 1 with fail
    refine wp_at ?_
    intro W0 hW
    have hx : Ext w W0 := by rw [hW]; repeat (first | exact ext_refl _ | assumption | refine ext_more' ?_ _ _ | refine ext_drew ?_ | refine ext_drewN ?_ _ | refine ext_alloc ?_ _)
    obtain ⟨lb, cb⟩ := box_facts (by rw [hW]; repeat (first | exact ext_refl _ | assumption | refine ext_more' ?_ _ _ | refine ext_drew ?_ | refine ext_drewN ?_ _ | refine ext_alloc ?_ _) : Ext (World.alloc w (.cells _ _)) W0)
    (try simp only [more_size, sz_alloc] at lb cb)
    obtain ⟨lt, ct⟩ := box_facts (by rw [hW]; repeat (first | exact ext_refl _ | assumption | refine ext_more' ?_ _ _ | refine ext_drew ?_ | refine ext_drewN ?_ _ | refine ext_alloc ?_ _) : Ext (World.alloc (World.alloc w _) (.cells _ _)) W0)
    (try simp only [more_size, sz_alloc] at lt ct)
    obtain ⟨lo, co⟩ := box_facts (by rw [hW]; repeat (first | exact ext_refl _ | assumption | refine ext_more' ?_ _ _ | refine ext_drew ?_ | refine ext_drewN ?_ _ | refine ext_alloc ?_ _) : Ext (World.alloc (World.alloc (World.alloc w _) _) (.cells _ _)) W0)
    (try simp only [more_size, sz_alloc] at lo co)
    obtain ⟨lp, cp⟩ := box_on hx lp cp
    obtain ⟨lu, cu⟩ := box_on hx lu cu
    clear hW
    have fu0 : W0.frozen? ⟨bu, 0, none⟩ = false := (hx.frozen (p := ⟨bu, 0, none⟩) (by assumption)).trans (by assumption)
    have hw := hx; clear hx
    go_wp2_with (go_at_call 16; refine (tright_calls _ _ _ _ _ _ _ _ _ _ _ _ _ _ _ _ _ _ _ (by first | assumption | decide) (by first | assumption | decide)).mono ?_; rw [HT.out]; rintro e w1 ⟨rfl, hb⟩; obtain ⟨r, d, rfl⟩ := ext_form hb; clear hb)
    all_goals (go_ret; exact ⟨rfl, by repeat (first | exact ext_refl _ | assumption | refine ext_more' ?_ _ _ | refine ext_drew ?_ | refine ext_drewN ?_ _ | refine ext_alloc ?_ _)⟩)

set_option maxRecDepth 100000 in
set_option maxHeartbeats 8000000 in
theorem conce_ready (p0 p1 p2 p3 p4 p5 p6 p7 b0 b1 b3 b4 b5 b6 b7 b8 b9 z o0 o1 o2 o3 o4 o5 o6 n v : Int) (bu bp : Nat) (w : World) (lp : bp < w.heap.size) (cp : ∀ i, w.cell? ⟨bp, i, none⟩ = #[.int .i64 p0, .int .i64 p1, .int .i64 p2, .int .i64 p3, .int .i64 p4, .int .i64 p5, .int .i64 p6, .int .i64 p7][i]?) (lu : bu < w.heap.size) (cu : ∀ i, w.cell? ⟨bu, i, none⟩ = #[.int .i64 v][i]?) (fu : w.frozen? ⟨bu, 0, none⟩ = false)
    (ht : rightT ⟨p0, p1, p2, p3, p4, p5, p6, p7⟩ ⟨b0, b1, 2, 0, n, 0, 0, 0, 0, 0⟩ = true) (hz : z = 1 ∨ z = 3) (hm : b1 ≤ p0) (hv : v ≤ n) :
    Calls Try.prog 22 #[.agg #[.int .i64 b0, .int .i64 b1, .int .u8 z, .int .i64 b3, .int .i64 b4, .int .i64 b5, .int .i64 b6, .int .i64 b7, .int .i64 b8, .int .i64 b9], .agg #[.int .i64 b0, .int .i64 b1, .int .u8 2, .int .i64 0, .int .i64 n, .int .i64 0, .int .i64 0, .int .i64 0, .int .i64 0, .int .i64 0], .agg #[.int .i64 o0, .int .i64 o1, .int .i64 o2, .int .i64 o3, .int .i64 o4, .int .i64 o5, .int .i64 o6], .int .i64 n, .int .i64 0, .pointer (some ⟨bp, 0, none⟩), .pointer (some ⟨bu, 0, none⟩)] w fun e w' => e = .returned (.bool true) ∧ Ext w w' := by
  have HT := Lib.hid ht; clear ht
  have hm2 : ¬ (p0 < b1) := by omega
  rcases hz with rfl | rfl
  all_goals
    go_enter Try.func22, Try.ntmps22
    go_upto_region 1 with fail
    refine wp_at ?_
    intro W0 hW
    have hx : Ext w W0 := by rw [hW]; repeat (first | exact ext_refl _ | assumption | refine ext_more' ?_ _ _ | refine ext_drew ?_ | refine ext_drewN ?_ _ | refine ext_alloc ?_ _)
    obtain ⟨lb, cb⟩ := box_facts (by rw [hW]; repeat (first | exact ext_refl _ | assumption | refine ext_more' ?_ _ _ | refine ext_drew ?_ | refine ext_drewN ?_ _ | refine ext_alloc ?_ _) : Ext (World.alloc w (.cells _ _)) W0)
    (try simp only [more_size, sz_alloc] at lb cb)
    obtain ⟨lt, ct⟩ := box_facts (by rw [hW]; repeat (first | exact ext_refl _ | assumption | refine ext_more' ?_ _ _ | refine ext_drew ?_ | refine ext_drewN ?_ _ | refine ext_alloc ?_ _) : Ext (World.alloc (World.alloc w _) (.cells _ _)) W0)
    (try simp only [more_size, sz_alloc] at lt ct)
    obtain ⟨lo, co⟩ := box_facts (by rw [hW]; repeat (first | exact ext_refl _ | assumption | refine ext_more' ?_ _ _ | refine ext_drew ?_ | refine ext_drewN ?_ _ | refine ext_alloc ?_ _) : Ext (World.alloc (World.alloc (World.alloc w _) _) (.cells _ _)) W0)
    (try simp only [more_size, sz_alloc] at lo co)
    obtain ⟨lp, cp⟩ := box_on hx lp cp
    obtain ⟨lu, cu⟩ := box_on hx lu cu
    clear hW
    have fu0 : W0.frozen? ⟨bu, 0, none⟩ = false := (hx.frozen (p := ⟨bu, 0, none⟩) (by assumption)).trans (by assumption)
    have hw := hx; clear hx
    go_wp2_with (go_at_call 16; refine (tright_calls _ _ _ _ _ _ _ _ _ _ _ _ _ _ _ _ _ _ _ (by first | assumption | decide) (by first | assumption | decide)).mono ?_; rw [HT.out]; rintro e w1 ⟨rfl, hb⟩; obtain ⟨r, d, rfl⟩ := ext_form hb; clear hb)
    all_goals (go_ret; exact ⟨rfl, by repeat (first | exact ext_refl _ | assumption | refine ext_more' ?_ _ _ | refine ext_drew ?_ | refine ext_drewN ?_ _ | refine ext_alloc ?_ _)⟩)

set_option maxRecDepth 100000 in
set_option maxHeartbeats 8000000 in
theorem conce_over (p0 p1 p2 p3 p4 p5 p6 p7 b0 b1 b3 b4 b5 b6 b7 b8 b9 z os ov o0 o1 o2 o3 o4 o5 o6 n v : Int) (bu bp : Nat) (w : World) (lp : bp < w.heap.size) (cp : ∀ i, w.cell? ⟨bp, i, none⟩ = #[.int .i64 p0, .int .i64 p1, .int .i64 p2, .int .i64 p3, .int .i64 p4, .int .i64 p5, .int .i64 p6, .int .i64 p7][i]?) (lu : bu < w.heap.size) (cu : ∀ i, w.cell? ⟨bu, i, none⟩ = #[.int .i64 v][i]?) (fu : w.frozen? ⟨bu, 0, none⟩ = false)
    (ht : rightT ⟨p0, p1, p2, p3, p4, p5, p6, p7⟩ ⟨b0, b1, 4, 0, 0, 0, 0, 0, os, ov⟩ = true) (hz : z = 1 ∨ z = 2 ∨ z = 3) (hm : b1 ≤ p0) :
    Calls Try.prog 22 #[.agg #[.int .i64 b0, .int .i64 b1, .int .u8 z, .int .i64 b3, .int .i64 b4, .int .i64 b5, .int .i64 b6, .int .i64 b7, .int .i64 b8, .int .i64 b9], .agg #[.int .i64 b0, .int .i64 b1, .int .u8 4, .int .i64 0, .int .i64 0, .int .i64 0, .int .i64 0, .int .i64 0, .int .i64 os, .int .i64 ov], .agg #[.int .i64 o0, .int .i64 o1, .int .i64 o2, .int .i64 o3, .int .i64 o4, .int .i64 o5, .int .i64 o6], .int .i64 n, .int .i64 0, .pointer (some ⟨bp, 0, none⟩), .pointer (some ⟨bu, 0, none⟩)] w fun e w' => e = .returned (.bool true) ∧ Ext w w' := by
  have HT := Lib.hid ht; clear ht
  have hm2 : ¬ (p0 < b1) := by omega
  rcases hz with rfl | rfl | rfl
  all_goals
    go_enter Try.func22, Try.ntmps22
    go_upto_region 1 with fail
    refine wp_at ?_
    intro W0 hW
    have hx : Ext w W0 := by rw [hW]; repeat (first | exact ext_refl _ | assumption | refine ext_more' ?_ _ _ | refine ext_drew ?_ | refine ext_drewN ?_ _ | refine ext_alloc ?_ _)
    obtain ⟨lb, cb⟩ := box_facts (by rw [hW]; repeat (first | exact ext_refl _ | assumption | refine ext_more' ?_ _ _ | refine ext_drew ?_ | refine ext_drewN ?_ _ | refine ext_alloc ?_ _) : Ext (World.alloc w (.cells _ _)) W0)
    (try simp only [more_size, sz_alloc] at lb cb)
    obtain ⟨lt, ct⟩ := box_facts (by rw [hW]; repeat (first | exact ext_refl _ | assumption | refine ext_more' ?_ _ _ | refine ext_drew ?_ | refine ext_drewN ?_ _ | refine ext_alloc ?_ _) : Ext (World.alloc (World.alloc w _) (.cells _ _)) W0)
    (try simp only [more_size, sz_alloc] at lt ct)
    obtain ⟨lo, co⟩ := box_facts (by rw [hW]; repeat (first | exact ext_refl _ | assumption | refine ext_more' ?_ _ _ | refine ext_drew ?_ | refine ext_drewN ?_ _ | refine ext_alloc ?_ _) : Ext (World.alloc (World.alloc (World.alloc w _) _) (.cells _ _)) W0)
    (try simp only [more_size, sz_alloc] at lo co)
    obtain ⟨lp, cp⟩ := box_on hx lp cp
    obtain ⟨lu, cu⟩ := box_on hx lu cu
    clear hW
    have fu0 : W0.frozen? ⟨bu, 0, none⟩ = false := (hx.frozen (p := ⟨bu, 0, none⟩) (by assumption)).trans (by assumption)
    have hw := hx; clear hx
    go_wp2_with (go_at_call 16; refine (tright_calls _ _ _ _ _ _ _ _ _ _ _ _ _ _ _ _ _ _ _ (by first | assumption | decide) (by first | assumption | decide)).mono ?_; rw [HT.out]; rintro e w1 ⟨rfl, hb⟩; obtain ⟨r, d, rfl⟩ := ext_form hb; clear hb)
    all_goals (go_ret; exact ⟨rfl, by repeat (first | exact ext_refl _ | assumption | refine ext_more' ?_ _ _ | refine ext_drew ?_ | refine ext_drewN ?_ _ | refine ext_alloc ?_ _)⟩)
end Go.Proofs.Ytnfmgojloahfkaa

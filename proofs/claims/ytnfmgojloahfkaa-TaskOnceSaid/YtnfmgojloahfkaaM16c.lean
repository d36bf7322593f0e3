/- TaskOnce, walked. -/
import Derived.Test.YtnfmgojloahfkaaZ16a
import Derived.Test.YtnfmgojloahfkaaP16
namespace Go.Proofs.Ytnfmgojloahfkaa
open Go.RowKit
set_option linter.unusedVariables false
set_option linter.unusedSimpArgs false

theorem frozen_new (w : World) (cs : Array Value) (t : TypeId) (i : Nat) : (w.alloc (.cells cs t)).frozen? ⟨w.heap.size, i, none⟩ = false := by simp [go_sem]

set_option maxRecDepth 100000 in
set_option maxHeartbeats 8000000 in
theorem once16_walk (p0 p1 p2 p3 p4 p5 p6 p7 : Int) (s : Option Addr) (len cap : Nat) (O : Nat → OpD) (w : World) (hlen : len ≤ 9223372036854775807) (hrows : Rows_ w s len 7 (fun i => opC (O i))) :
    Calls Try.prog 5 #[.agg #[.int .i64 p0, .int .i64 p1, .int .i64 p2, .int .i64 p3, .int .i64 p4, .int .i64 p5, .int .i64 p6, .int .i64 p7], .slice s len cap] w fun e w' => e = .returned (.bool true) ∧ Ext w w' := by
  by_cases hr : rightB ⟨p0, p1, p2, p3, p4, p5, p6, p7⟩ = true
  · have HR := Lib.hid hr
    have hsb : ∀ b o, s = some ⟨b, o, none⟩ → 0 < len → b < w.heap.size := fun b o h hl => by
      obtain ⟨b', o', h', hb', _⟩ := hrows hl
      rw [h] at h'; injection h' with h'; injection h' with h'' _; omega
    have HROWS := Lib.hid hrows; clear hrows
    go_enter Try.func5, Try.ntmps5
    go_upto_region 4 with (go_at_call 8; refine (right_calls _ _ _ _ _ _ _ _ _).mono ?_; rw [hr]; rintro e w1 ⟨rfl, hb⟩; obtain ⟨r, d, rfl⟩ := ext_form hb; clear hb)
    refine wp_at ?_
    intro W2 hW
    obtain ⟨W1, r, d, hX, hz, hW'⟩ := box_split (W1 := w.alloc (.cells #[.int .i64 p0, .int .i64 p1, .int .i64 p2, .int .i64 p3, .int .i64 p4, .int .i64 p5, .int .i64 p6, .int .i64 p7] 23)) (by rw [hW]; repeat (first | exact ext_refl _ | assumption | refine ext_more' ?_ _ _ | refine ext_drew ?_ | refine ext_drewN ?_ _ | refine ext_alloc ?_ _) : Ext (World.alloc _ (.cells _ _)) W2) (by repeat (first | exact ext_refl _ | assumption | refine ext_more' ?_ _ _ | refine ext_drew ?_ | refine ext_drewN ?_ _ | refine ext_alloc ?_ _))
    clear hW
    (try simp only [more_size, drew_sz, sz_alloc] at hz)
    obtain ⟨lp, cp⟩ := box_facts hX
    have hX0 := hX
    have hw := ext_trans (ext_alloc (ext_refl w) _) hX
    rw [← hz]
    subst hW'
    clear hz hX hr
    refine wp_at ?_
    intro W3 hW3
    have hx3 : Ext (W1.alloc (.cells #[.int .i64 0] 2)) W3 := by rw [hW3]; repeat (first | exact ext_refl _ | assumption | refine ext_more' ?_ _ _ | refine ext_drew ?_ | refine ext_drewN ?_ _ | refine ext_alloc ?_ _)
    clear hW3
    have h13 := ext_trans (ext_alloc (ext_refl W1) _) hx3
    obtain ⟨lp, cp⟩ := box_on h13 lp cp
    obtain ⟨lu, cu⟩ := box_facts hx3
    have fu := (hx3.frozen (p := ⟨W1.heap.size, 0, none⟩) (by simp)).trans (frozen_new W1 _ _ 0)
    have hsz := hX0.size
    simp only [sz_alloc] at hsz
    clear hX0
    have HROWS3 := Lib.hid (rows_on HROWS.out (ext_trans hw h13))
    have H13 := Lib.hid h13
    have HSB := Lib.hid hsb
    clear hsb h13 HROWS hx3
    go_wp2_with (first | (go_at_call 21; refine (ponce_calls _ _ _ _ _ _ _ _ 0 W1.heap.size w.heap.size s len cap O _ HR.out HROWS3.out lp cp lu cu fu (by omega) (fun hl b o h => by have := HSB.out b o h hl; omega) (by omega)).mono ?_; rintro e w1 ⟨rfl, v', hb⟩; have hq : Ext W1 w1 := ext_trans (ext_set (ext_trans H13.out (by repeat (first | exact ext_refl _ | assumption | refine ext_more' ?_ _ _ | refine ext_drew ?_ | refine ext_drewN ?_ _ | refine ext_alloc ?_ _))) (Nat.le_refl _) _) hb; clear hb; obtain ⟨r, d, rfl⟩ := ext_form hq; clear hq) | (go_at_call 9; refine (awake16_calls _).mono ?_; rintro e w1 ⟨rfl, hb⟩; obtain ⟨r, d, rfl⟩ := ext_form hb; clear hb))
    go_ret
    exact ⟨rfl, by repeat (first | exact ext_refl _ | assumption | refine ext_more' ?_ _ _ | refine ext_drew ?_ | refine ext_drewN ?_ _ | refine ext_alloc ?_ _)⟩
  · replace hr : rightB ⟨p0, p1, p2, p3, p4, p5, p6, p7⟩ = false := by simpa using hr
    clear hrows
    go_enter Try.func5, Try.ntmps5
    go_wp2_with (first | (go_at_call 8; refine (right_calls _ _ _ _ _ _ _ _ _).mono ?_; rw [hr]; rintro e w1 ⟨rfl, hb⟩; obtain ⟨r, d, rfl⟩ := ext_form hb; clear hb) | (go_at_call 9; refine (awake16_calls _).mono ?_; rintro e w1 ⟨rfl, hb⟩; obtain ⟨r, d, rfl⟩ := ext_form hb; clear hb))
    go_ret
    exact ⟨rfl, by repeat (first | exact ext_refl _ | assumption | refine ext_more' ?_ _ _ | refine ext_drew ?_ | refine ext_drewN ?_ _ | refine ext_alloc ?_ _)⟩
end Go.Proofs.Ytnfmgojloahfkaa

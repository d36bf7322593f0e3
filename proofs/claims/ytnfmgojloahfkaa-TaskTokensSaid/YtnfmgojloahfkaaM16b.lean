/- TaskTokens, walked. -/
import Derived.Test.YtnfmgojloahfkaaW16d
import Derived.Test.YtnfmgojloahfkaaP16
namespace Go.Proofs.Ytnfmgojloahfkaa
open Go.RowKit
set_option linter.unusedVariables false
set_option linter.unusedSimpArgs false

set_option maxRecDepth 100000 in
set_option maxHeartbeats 8000000 in
theorem tokens16_walk (p0 p1 p2 p3 p4 p5 p6 p7 k : Int) (s : Option Addr) (len cap : Nat) (O : Nat → OpD) (w : World) (hlen : len ≤ 9223372036854775807) (hrows : Rows_ w s len 7 (fun i => opC (O i))) :
    Calls Try.prog 6 #[.agg #[.int .i64 p0, .int .i64 p1, .int .i64 p2, .int .i64 p3, .int .i64 p4, .int .i64 p5, .int .i64 p6, .int .i64 p7], .slice s len cap, .int .i64 k] w fun e w' => e = .returned (.bool true) ∧ Ext w w' := by
  by_cases hr : rightB ⟨p0, p1, p2, p3, p4, p5, p6, p7⟩ = true
  · have HR := Lib.hid hr
    have HROWS := Lib.hid hrows; clear hrows
    go_enter Try.func6, Try.ntmps6
    go_upto_region 3 with (go_at_call 8; refine (right_calls _ _ _ _ _ _ _ _ _).mono ?_; rw [hr]; rintro e w1 ⟨rfl, hb⟩; obtain ⟨r, d, rfl⟩ := ext_form hb; clear hb)
    refine wp_at ?_
    intro W1 hW
    have hx : Ext w W1 := by rw [hW]; repeat (first | exact ext_refl _ | assumption | refine ext_more' ?_ _ _ | refine ext_drew ?_ | refine ext_drewN ?_ _ | refine ext_alloc ?_ _)
    obtain ⟨lp, cp⟩ := box_facts (by rw [hW]; repeat (first | exact ext_refl _ | assumption | refine ext_more' ?_ _ _ | refine ext_drew ?_ | refine ext_drewN ?_ _ | refine ext_alloc ?_ _) : Ext (World.alloc w (.cells _ _)) W1)
    (try simp only [more_size, sz_alloc] at lp cp)
    obtain ⟨lk, ck⟩ := box_facts (by rw [hW]; repeat (first | exact ext_refl _ | assumption | refine ext_more' ?_ _ _ | refine ext_drew ?_ | refine ext_drewN ?_ _ | refine ext_alloc ?_ _) : Ext (World.alloc (World.alloc w _) (.cells _ _)) W1)
    (try simp only [more_size, sz_alloc] at lk ck)
    clear hW
    have HX := Lib.hid hx
    have hw := hx; clear hx hr
    go_wp2_with (first | (go_at_call 21; refine (ptokens_calls _ _ _ _ _ _ _ _ _ _ _ _ _ _ _ _ HR.out hlen (rows_on HROWS.out HX.out) lp cp lk ck).mono ?_; rintro e w1 ⟨rfl, hb⟩; obtain ⟨r, d, rfl⟩ := ext_form hb; clear hb) | (go_at_call 9; refine (awake16_calls _).mono ?_; rintro e w1 ⟨rfl, hb⟩; obtain ⟨r, d, rfl⟩ := ext_form hb; clear hb))
    go_ret
    exact ⟨rfl, by repeat (first | exact ext_refl _ | assumption | refine ext_more' ?_ _ _ | refine ext_drew ?_ | refine ext_drewN ?_ _ | refine ext_alloc ?_ _)⟩
  · replace hr : rightB ⟨p0, p1, p2, p3, p4, p5, p6, p7⟩ = false := by simpa using hr
    clear hrows
    go_enter Try.func6, Try.ntmps6
    go_wp2_with (first | (go_at_call 8; refine (right_calls _ _ _ _ _ _ _ _ _).mono ?_; rw [hr]; rintro e w1 ⟨rfl, hb⟩; obtain ⟨r, d, rfl⟩ := ext_form hb; clear hb) | (go_at_call 9; refine (awake16_calls _).mono ?_; rintro e w1 ⟨rfl, hb⟩; obtain ⟨r, d, rfl⟩ := ext_form hb; clear hb))
    go_ret
    exact ⟨rfl, by repeat (first | exact ext_refl _ | assumption | refine ext_more' ?_ _ _ | refine ext_drew ?_ | refine ext_drewN ?_ _ | refine ext_alloc ?_ _)⟩
end Go.Proofs.Ytnfmgojloahfkaa

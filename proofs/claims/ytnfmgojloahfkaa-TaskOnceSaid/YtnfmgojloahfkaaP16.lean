/- The chapter's examples of layer 16. -/
import Derived.Test.YtnfmgojloahfkaaN16
import Derived.Test.YtnfmgojloahfkaaWf
import Derived.Test.YtnfmgojloahfkaaWg
namespace Go.Proofs.Ytnfmgojloahfkaa
set_option linter.unusedVariables false
set_option linter.unusedSimpArgs false
open Go.RowKit

set_option maxRecDepth 100000 in
set_option maxHeartbeats 8000000 in
theorem awake16_calls (w : World) :
    Calls Try.prog 9 #[] w fun e w' => e = .returned (.bool true) ∧ Ext w w' := by
  have e0 := Lib.hid (show beginF 0 = ⟨0, 0, 2, 0, 0, 0, 0, 0, 0, 0⟩ from by decide)
  have e1 := Lib.hid (show takeF ⟨2, 3, 9, 0, 0, 0, 0, 1⟩ ⟨0, 0, 2, 0, 0, 0, 0, 0, 0, 0⟩ 1 1 = (⟨0, 1, 3, 0, 0, 1, 1, 1, 0, 0⟩, 0) from by decide)
  have e2 := Lib.hid (show tellF ⟨2, 3, 9, 0, 0, 0, 0, 1⟩ ⟨0, 1, 3, 0, 0, 1, 1, 1, 0, 0⟩ 1 1 0 2 0 = (⟨0, 1, 1, 5, 0, 0, 0, 0, 0, 0⟩, 0) from by decide)
  have e3 := Lib.hid (show tickF ⟨2, 3, 9, 0, 0, 0, 0, 1⟩ ⟨0, 1, 1, 5, 0, 0, 0, 0, 0, 0⟩ 4 = (⟨0, 1, 1, 5, 0, 0, 0, 0, 0, 0⟩, 0) from by decide)
  have e4 := Lib.hid (show tickF ⟨2, 3, 9, 0, 0, 0, 0, 1⟩ ⟨0, 1, 1, 5, 0, 0, 0, 0, 0, 0⟩ 5 = (⟨0, 1, 2, 0, 5, 0, 0, 0, 0, 0⟩, 0) from by decide)
  have e5 := Lib.hid (show takeF ⟨2, 3, 9, 0, 0, 0, 0, 1⟩ ⟨0, 1, 2, 0, 5, 0, 0, 0, 0, 0⟩ 2 6 = (⟨0, 2, 3, 0, 0, 2, 6, 6, 0, 0⟩, 0) from by decide)
  have e6 := Lib.hid (show tellF ⟨2, 3, 9, 0, 0, 0, 0, 1⟩ ⟨0, 2, 3, 0, 0, 2, 6, 6, 0, 0⟩ 1 0 0 7 0 = (⟨0, 2, 3, 0, 0, 2, 6, 6, 0, 0⟩, 109) from by decide)
  have e7 := Lib.hid (show tellF ⟨2, 3, 9, 0, 0, 0, 0, 1⟩ ⟨0, 2, 3, 0, 0, 2, 6, 6, 0, 0⟩ 2 1 8 7 0 = (⟨0, 2, 4, 0, 0, 0, 0, 0, 1, 8⟩, 0) from by decide)
  go_enter Try.func9, Try.ntmps9
  go_wp2_with fail
  refine wp_at ?_
  intro W0 hW
  have hw : Ext w W0 := by rw [hW]; repeat (first | exact ext_refl _ | assumption | refine ext_more' ?_ _ _ | refine ext_drew ?_ | refine ext_drewN ?_ _ | refine ext_alloc ?_ _)
  obtain ⟨lp, cp⟩ := box_facts (by rw [hW]; repeat (first | exact ext_refl _ | assumption | refine ext_more' ?_ _ _ | refine ext_drew ?_ | refine ext_drewN ?_ _ | refine ext_alloc ?_ _) : Ext (World.alloc _ (.cells _ _)) W0)
  clear hW
  generalize w.heap.size = bp at *
  have ap := box_all lp cp
  go_region_held3 (fun w' => Ext W0 w') (repeat (first | exact ext_refl _ | assumption | refine ext_more' ?_ _ _ | refine ext_drew ?_ | refine ext_drewN ?_ _ | refine ext_alloc ?_ _))
    (first | (go_at_call 10; refine (begin_calls _ _).mono ?_; rw [e0.out]; rintro e w1 ⟨rfl, hb⟩; obtain ⟨r, d, rfl⟩ := ext_form hb; clear hb) | (go_at_call 11; refine (ttake_calls _ _ _ _ _ _ _ _ _ _ _ _ _ _ _ _ _ _ _ _ _ (by decide) (by decide)).mono ?_; (first | rw [e1.out] | rw [e2.out] | rw [e3.out] | rw [e4.out] | rw [e5.out] | rw [e6.out] | rw [e7.out]); rintro e w1 ⟨rfl, hb⟩; obtain ⟨r, d, rfl⟩ := ext_form hb; clear hb))
  all_goals
    clear ap
    refine then_at ?_
    intro W2 hW
    obtain ⟨W1, r, d, hX, hz, hW'⟩ := box_split (W1 := W0) (by rw [hW]; repeat (first | exact ext_refl _ | assumption | refine ext_more' ?_ _ _ | refine ext_drew ?_ | refine ext_drewN ?_ _ | refine ext_alloc ?_ _) : Ext (World.alloc _ (.cells _ _)) W2) (by repeat (first | exact ext_refl _ | assumption | refine ext_more' ?_ _ _ | refine ext_drew ?_ | refine ext_drewN ?_ _ | refine ext_alloc ?_ _))
    clear hW
    (try simp only [more_size, drew_sz] at hz)
    rw [← hz]
    clear hz
    obtain ⟨lp, cp⟩ := box_on hX lp cp
    replace hw := ext_trans hw hX
    clear hX
    subst hW'
    go_upto_region 4 with (go_at_call 12; refine (ttell_calls _ _ _ _ _ _ _ _ _ _ _ _ _ _ _ _ _ _ _ _ _ _ _ _ (by decide) (by decide)).mono ?_; (first | rw [e1.out] | rw [e2.out] | rw [e3.out] | rw [e4.out] | rw [e5.out] | rw [e6.out] | rw [e7.out]); rintro e w1 ⟨rfl, hb⟩; obtain ⟨r, d, rfl⟩ := ext_form hb; clear hb)
    refine wp_at ?_
    intro W2 hW
    have hx : Ext W1 W2 := by rw [hW]; repeat (first | exact ext_refl _ | assumption | refine ext_more' ?_ _ _ | refine ext_drew ?_ | refine ext_drewN ?_ _ | refine ext_alloc ?_ _)
    replace hw := ext_trans hw hx
    obtain ⟨lt, ct⟩ := box_facts (by rw [hW]; repeat (first | exact ext_refl _ | assumption | refine ext_more' ?_ _ _ | refine ext_drew ?_ | refine ext_drewN ?_ _ | refine ext_alloc ?_ _) : Ext (World.alloc _ (.cells _ _)) W2)
    (try simp only [more_size] at lt ct)
    obtain ⟨lp, cp⟩ := box_on hx lp cp
    clear hx hW
    go_upto_region 5 with (go_at_call 13; refine (ttick_calls _ _ _ _ _ _ _ _ _ _ _ _ _ _ _ _ _ _ _ _ (by decide) (by decide)).mono ?_; (first | rw [e1.out] | rw [e2.out] | rw [e3.out] | rw [e4.out] | rw [e5.out] | rw [e6.out] | rw [e7.out]); rintro e w1 ⟨rfl, hb⟩; obtain ⟨r, d, rfl⟩ := ext_form hb; clear hb)
    refine wp_at ?_
    intro W3 hW
    have hx : Ext W2 W3 := by rw [hW]; repeat (first | exact ext_refl _ | assumption | refine ext_more' ?_ _ _ | refine ext_drew ?_ | refine ext_drewN ?_ _ | refine ext_alloc ?_ _)
    replace hw := ext_trans hw hx
    obtain ⟨lf, cf⟩ := box_facts (by rw [hW]; repeat (first | exact ext_refl _ | assumption | refine ext_more' ?_ _ _ | refine ext_drew ?_ | refine ext_drewN ?_ _ | refine ext_alloc ?_ _) : Ext (World.alloc _ (.cells _ _)) W3)
    (try simp only [more_size] at lf cf)
    obtain ⟨lp, cp⟩ := box_on hx lp cp
    obtain ⟨lt, ct⟩ := box_on hx lt ct
    clear hx hW
    go_upto_region 6 with (go_at_call 13; refine (ttick_calls _ _ _ _ _ _ _ _ _ _ _ _ _ _ _ _ _ _ _ _ (by decide) (by decide)).mono ?_; (first | rw [e1.out] | rw [e2.out] | rw [e3.out] | rw [e4.out] | rw [e5.out] | rw [e6.out] | rw [e7.out]); rintro e w1 ⟨rfl, hb⟩; obtain ⟨r, d, rfl⟩ := ext_form hb; clear hb)
    refine wp_at ?_
    intro W4 hW
    have hx : Ext W3 W4 := by rw [hW]; repeat (first | exact ext_refl _ | assumption | refine ext_more' ?_ _ _ | refine ext_drew ?_ | refine ext_drewN ?_ _ | refine ext_alloc ?_ _)
    replace hw := ext_trans hw hx
    obtain ⟨lg, cg⟩ := box_facts (by rw [hW]; repeat (first | exact ext_refl _ | assumption | refine ext_more' ?_ _ _ | refine ext_drew ?_ | refine ext_drewN ?_ _ | refine ext_alloc ?_ _) : Ext (World.alloc _ (.cells _ _)) W4)
    (try simp only [more_size] at lg cg)
    obtain ⟨lp, cp⟩ := box_on hx lp cp
    obtain ⟨lt, ct⟩ := box_on hx lt ct
    obtain ⟨lf, cf⟩ := box_on hx lf cf
    clear hx hW
    go_upto_region 7 with (go_at_call 11; refine (ttake_calls _ _ _ _ _ _ _ _ _ _ _ _ _ _ _ _ _ _ _ _ _ (by decide) (by decide)).mono ?_; (first | rw [e1.out] | rw [e2.out] | rw [e3.out] | rw [e4.out] | rw [e5.out] | rw [e6.out] | rw [e7.out]); rintro e w1 ⟨rfl, hb⟩; obtain ⟨r, d, rfl⟩ := ext_form hb; clear hb)
    refine wp_at ?_
    intro W5 hW
    have hx : Ext W4 W5 := by rw [hW]; repeat (first | exact ext_refl _ | assumption | refine ext_more' ?_ _ _ | refine ext_drew ?_ | refine ext_drewN ?_ _ | refine ext_alloc ?_ _)
    replace hw := ext_trans hw hx
    obtain ⟨lh, ch⟩ := box_facts (by rw [hW]; repeat (first | exact ext_refl _ | assumption | refine ext_more' ?_ _ _ | refine ext_drew ?_ | refine ext_drewN ?_ _ | refine ext_alloc ?_ _) : Ext (World.alloc _ (.cells _ _)) W5)
    (try simp only [more_size] at lh ch)
    obtain ⟨lp, cp⟩ := box_on hx lp cp
    obtain ⟨lt, ct⟩ := box_on hx lt ct
    obtain ⟨lf, cf⟩ := box_on hx lf cf
    obtain ⟨lg, cg⟩ := box_on hx lg cg
    clear hx hW
    go_upto_region 8 with (go_at_call 12; refine (ttell_calls _ _ _ _ _ _ _ _ _ _ _ _ _ _ _ _ _ _ _ _ _ _ _ _ (by decide) (by decide)).mono ?_; (first | rw [e1.out] | rw [e2.out] | rw [e3.out] | rw [e4.out] | rw [e5.out] | rw [e6.out] | rw [e7.out]); rintro e w1 ⟨rfl, hb⟩; obtain ⟨r, d, rfl⟩ := ext_form hb; clear hb)
    refine wp_at ?_
    intro W6 hW
    have hx : Ext W5 W6 := by rw [hW]; repeat (first | exact ext_refl _ | assumption | refine ext_more' ?_ _ _ | refine ext_drew ?_ | refine ext_drewN ?_ _ | refine ext_alloc ?_ _)
    replace hw := ext_trans hw hx
    obtain ⟨lk, ck⟩ := box_facts (by rw [hW]; repeat (first | exact ext_refl _ | assumption | refine ext_more' ?_ _ _ | refine ext_drew ?_ | refine ext_drewN ?_ _ | refine ext_alloc ?_ _) : Ext (World.alloc _ (.cells _ _)) W6)
    (try simp only [more_size] at lk ck)
    obtain ⟨lp, cp⟩ := box_on hx lp cp
    obtain ⟨lt, ct⟩ := box_on hx lt ct
    obtain ⟨lf, cf⟩ := box_on hx lf cf
    obtain ⟨lg, cg⟩ := box_on hx lg cg
    obtain ⟨lh, ch⟩ := box_on hx lh ch
    clear hx hW
    go_upto_region 9 with (go_at_call 12; refine (ttell_calls _ _ _ _ _ _ _ _ _ _ _ _ _ _ _ _ _ _ _ _ _ _ _ _ (by decide) (by decide)).mono ?_; (first | rw [e1.out] | rw [e2.out] | rw [e3.out] | rw [e4.out] | rw [e5.out] | rw [e6.out] | rw [e7.out]); rintro e w1 ⟨rfl, hb⟩; obtain ⟨r, d, rfl⟩ := ext_form hb; clear hb)
    refine wp_at ?_
    intro W7 hW
    have hx : Ext W6 W7 := by rw [hW]; repeat (first | exact ext_refl _ | assumption | refine ext_more' ?_ _ _ | refine ext_drew ?_ | refine ext_drewN ?_ _ | refine ext_alloc ?_ _)
    replace hw := ext_trans hw hx
    obtain ⟨lm, cm⟩ := box_facts (by rw [hW]; repeat (first | exact ext_refl _ | assumption | refine ext_more' ?_ _ _ | refine ext_drew ?_ | refine ext_drewN ?_ _ | refine ext_alloc ?_ _) : Ext (World.alloc _ (.cells _ _)) W7)
    (try simp only [more_size] at lm cm)
    obtain ⟨lp, cp⟩ := box_on hx lp cp
    obtain ⟨lt, ct⟩ := box_on hx lt ct
    obtain ⟨lf, cf⟩ := box_on hx lf cf
    obtain ⟨lg, cg⟩ := box_on hx lg cg
    obtain ⟨lh, ch⟩ := box_on hx lh ch
    clear hx hW
    clear lp lk ck cp
    go_wp2
    go_ret
    exact ⟨rfl, by repeat (first | exact ext_refl _ | assumption | refine ext_more' ?_ _ _ | refine ext_drew ?_ | refine ext_drewN ?_ _ | refine ext_alloc ?_ _)⟩
end Go.Proofs.Ytnfmgojloahfkaa

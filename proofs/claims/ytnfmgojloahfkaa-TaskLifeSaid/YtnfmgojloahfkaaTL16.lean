/- TaskLife, walked. -/
import Derived.Test.YtnfmgojloahfkaaP16
import Derived.Test.YtnfmgojloahfkaaSL16
namespace Go.Proofs.Ytnfmgojloahfkaa
set_option linter.unusedVariables false
set_option linter.unusedSimpArgs false
open Go.RowKit

set_option maxRecDepth 100000 in
set_option maxHeartbeats 8000000 in
theorem life_walk (p0 p1 p2 p3 p4 p5 p6 p7 v g : Int) (w : World) (hg0 : 0 ≤ g) (hg1 : g ≤ 255) :
    Calls Try.prog 3 #[.agg #[.int .i64 p0, .int .i64 p1, .int .i64 p2, .int .i64 p3, .int .i64 p4, .int .i64 p5, .int .i64 p6, .int .i64 p7], .int .i64 v, .int .u8 g] w fun e w' => e = .returned (.bool true) ∧ Ext w w' := by
  have e0 := Lib.hid life_begin
  by_cases hr : rightB ⟨p0, p1, p2, p3, p4, p5, p6, p7⟩ = true
  · have hq := right_q hr
    have R := ((rightB_iff _).1 hr).most
    simp only at R
    obtain ⟨R1, R2⟩ := R
    go_enter Try.func3, Try.ntmps3
    go_wp2_with (first | (go_at_call 8; refine (right_calls _ _ _ _ _ _ _ _ _).mono ?_; rw [hr]; rintro e w1 ⟨rfl, hb⟩; obtain ⟨r, d, rfl⟩ := ext_form hb; clear hb) | (go_at_call 10; refine (begin_calls _ _).mono ?_; rw [e0.out]; rintro e w1 ⟨rfl, hb⟩; obtain ⟨r, d, rfl⟩ := ext_form hb; clear hb))
    refine wp_at ?_
    intro W2 hW
    obtain ⟨W1, r, d, hX, hz, hW'⟩ := box_split (W1 := w.alloc (.cells #[.int .i64 p0, .int .i64 p1, .int .i64 p2, .int .i64 0, .int .i64 0, .int .i64 0, .int .i64 0, .int .i64 p7] 23)) (by rw [hW]; repeat (first | exact ext_refl _ | assumption | refine ext_more' ?_ _ _ | refine ext_drew ?_ | refine ext_drewN ?_ _ | refine ext_alloc ?_ _) : Ext (World.alloc _ (.cells _ _)) W2) (by repeat (first | exact ext_refl _ | assumption | refine ext_more' ?_ _ _ | refine ext_drew ?_ | refine ext_drewN ?_ _ | refine ext_alloc ?_ _))
    clear hW
    (try simp only [more_size, drew_sz, sz_alloc] at hz)
    obtain ⟨lp, cp⟩ := box_facts hX
    have hw := ext_trans (ext_alloc (ext_refl w) _) hX
    rw [← hz]
    subst hW'
    clear hz hX e0
    have lp1 : w.heap.size < W1.heap.size + 1 := by omega
    have H1 := Lib.hid hq
    clear hr hq
    go_loopg [8, 9] p0.toNat (fun k sn sj wr => ∃ (j n : Int) (r : Array Obj) (d : Nat), wr = more (W1.alloc (.cells #[.int .i64 0, .int .i64 j, .int .u8 2, .int .i64 0, .int .i64 n, .int .i64 0, .int .i64 0, .int .i64 0, .int .i64 0, .int .i64 0] 30)) r d ∧ sn = .int .i64 n ∧ sj = .int .i64 (j + 1) ∧ 0 ≤ j ∧ j < p0 ∧ 0 ≤ n ∧ n < 1099511627776 ∧ (k : Int) = p0 - j)
    case atStart => exact ⟨0, 0, r, d, rfl, rfl, rfl, by omega, by omega, by omega, by omega, by omega⟩
    case round =>
      obtain ⟨j, n, r, d, rfl, rfl, rfl, hj, hj', hn, hn', hk⟩ := hrel
      have hjp : j + 1 ≤ p0 := by omega
      have hj2 : j ≤ 100 := by omega
      have e1 := Lib.hid (life_take H1.out hj hj' hn (by omega))
      have HK := Lib.hid hk; clear hk
      go_upto_region 9 with (go_at_call 11; refine (ttake_calls _ _ _ _ _ _ _ _ _ _ _ _ _ _ _ _ _ _ _ _ _ (by decide) (by decide)).mono ?_; rw [e1.out]; rintro e w1 ⟨rfl, hb⟩; obtain ⟨r, d, rfl⟩ := ext_form hb; clear hb)
      refine wp_at ?_
      intro W2 hW
      have hx2 : Ext (W1.alloc (.cells #[.int .i64 0, .int .i64 j, .int .u8 2, .int .i64 0, .int .i64 n, .int .i64 0, .int .i64 0, .int .i64 0, .int .i64 0, .int .i64 0] 30)) W2 := by rw [hW]; repeat (first | exact ext_refl _ | assumption | refine ext_more' ?_ _ _ | refine ext_drew ?_ | refine ext_drewN ?_ _ | refine ext_alloc ?_ _)
      obtain ⟨lx, cx⟩ := box_facts (by rw [hW]; repeat (first | exact ext_refl _ | assumption | refine ext_more' ?_ _ _ | refine ext_drew ?_ | refine ext_drewN ?_ _ | refine ext_alloc ?_ _) : Ext (World.alloc (more _ _ _) (.cells _ _)) W2)
      clear hW
      obtain ⟨r, d, rfl⟩ := ext_form hx2
      clear hx2
      (try simp only [more_size, sz_alloc] at lx cx)
      by_cases hg : j + 1 = g
      · have hgb : (j + 1 == g) = true := by simpa using hg
        have e2 := Lib.hid (fun V => life_fine V H1.out hj hj' hn (by omega))
        clear hg
        go_upto_region 13 with (go_at_call 12; refine (ttell_calls _ _ _ _ _ _ _ _ _ _ _ _ _ _ _ _ _ _ _ _ _ _ _ _ (by decide) (by decide)).mono ?_; rw [e2.out]; rintro e w1 ⟨rfl, hb⟩; obtain ⟨r, d, rfl⟩ := ext_form hb; clear hb)
        refine wp_at ?_
        intro W2 hW
        have hx2 : Ext (W1.alloc (.cells #[.int .i64 0, .int .i64 j, .int .u8 2, .int .i64 0, .int .i64 n, .int .i64 0, .int .i64 0, .int .i64 0, .int .i64 0, .int .i64 0] 30)) W2 := by rw [hW]; repeat (first | exact ext_refl _ | assumption | refine ext_more' ?_ _ _ | refine ext_drew ?_ | refine ext_drewN ?_ _ | refine ext_alloc ?_ _)
        obtain ⟨lo, co⟩ := box_facts (by rw [hW]; repeat (first | exact ext_refl _ | assumption | refine ext_more' ?_ _ _ | refine ext_drew ?_ | refine ext_drewN ?_ _ | refine ext_alloc ?_ _) : Ext (World.alloc (more (World.alloc W1 _) _ _) (.cells _ _)) W2)
        obtain ⟨ly, cy⟩ := box_facts (by rw [hW]; repeat (first | exact ext_refl _ | assumption | refine ext_more' ?_ _ _ | refine ext_drew ?_ | refine ext_drewN ?_ _ | refine ext_alloc ?_ _) : Ext (World.alloc (more (World.alloc (more _ _ _) _) _ _) (.cells _ _)) W2)
        obtain ⟨lx, cx⟩ := box_on (by rw [hW]; repeat (first | exact ext_refl _ | assumption | refine ext_more' ?_ _ _ | refine ext_drew ?_ | refine ext_drewN ?_ _ | refine ext_alloc ?_ _) : Ext (more (W1.alloc (.cells #[.int .i64 0, .int .i64 j, .int .u8 2, .int .i64 0, .int .i64 n, .int .i64 0, .int .i64 0, .int .i64 0, .int .i64 0, .int .i64 0] 30)) _ _) W2) (by simpa only [more_size, sz_alloc] using lx) cx
        clear hW
        obtain ⟨r, d, rfl⟩ := ext_form hx2
        clear hx2
        (try simp only [more_size, sz_alloc] at lo co)
        (try simp only [more_size, sz_alloc] at ly cy)
        go_wp2_with (go_at_call 9; refine (awake16_calls _).mono ?_; rintro e w1 ⟨rfl, hb⟩; obtain ⟨r, d, rfl⟩ := ext_form hb; clear hb)
        go_ret
        exact ⟨rfl, by repeat (first | exact ext_refl _ | assumption | refine ext_more' ?_ _ _ | refine ext_drew ?_ | refine ext_drewN ?_ _ | refine ext_alloc ?_ _)⟩
      · have hgb : (j + 1 == g) = false := by simpa using hg
        clear hg
        by_cases hl : j + 1 = p0
        · have hlb : (j + 1 == p0) = true := by simpa using hl
          have e2 := Lib.hid (fun V => life_last V H1.out hj hl hn (by omega))
          clear hl
          go_upto_region 13 with (go_at_call 12; refine (ttell_calls _ _ _ _ _ _ _ _ _ _ _ _ _ _ _ _ _ _ _ _ _ _ _ _ (by decide) (by decide)).mono ?_; rw [e2.out]; rintro e w1 ⟨rfl, hb⟩; obtain ⟨r, d, rfl⟩ := ext_form hb; clear hb)
          refine wp_at ?_
          intro W2 hW
          have hx2 : Ext (W1.alloc (.cells #[.int .i64 0, .int .i64 j, .int .u8 2, .int .i64 0, .int .i64 n, .int .i64 0, .int .i64 0, .int .i64 0, .int .i64 0, .int .i64 0] 30)) W2 := by rw [hW]; repeat (first | exact ext_refl _ | assumption | refine ext_more' ?_ _ _ | refine ext_drew ?_ | refine ext_drewN ?_ _ | refine ext_alloc ?_ _)
          obtain ⟨lo, co⟩ := box_facts (by rw [hW]; repeat (first | exact ext_refl _ | assumption | refine ext_more' ?_ _ _ | refine ext_drew ?_ | refine ext_drewN ?_ _ | refine ext_alloc ?_ _) : Ext (World.alloc (more (World.alloc W1 _) _ _) (.cells _ _)) W2)
          obtain ⟨ly, cy⟩ := box_facts (by rw [hW]; repeat (first | exact ext_refl _ | assumption | refine ext_more' ?_ _ _ | refine ext_drew ?_ | refine ext_drewN ?_ _ | refine ext_alloc ?_ _) : Ext (World.alloc (more (World.alloc (more _ _ _) _) _ _) (.cells _ _)) W2)
          obtain ⟨lx, cx⟩ := box_on (by rw [hW]; repeat (first | exact ext_refl _ | assumption | refine ext_more' ?_ _ _ | refine ext_drew ?_ | refine ext_drewN ?_ _ | refine ext_alloc ?_ _) : Ext (more (W1.alloc (.cells #[.int .i64 0, .int .i64 j, .int .u8 2, .int .i64 0, .int .i64 n, .int .i64 0, .int .i64 0, .int .i64 0, .int .i64 0, .int .i64 0] 30)) _ _) W2) (by simpa only [more_size, sz_alloc] using lx) cx
          clear hW
          obtain ⟨r, d, rfl⟩ := ext_form hx2
          clear hx2
          (try simp only [more_size, sz_alloc] at lo co)
          (try simp only [more_size, sz_alloc] at ly cy)
          go_wp2_with (go_at_call 9; refine (awake16_calls _).mono ?_; rintro e w1 ⟨rfl, hb⟩; obtain ⟨r, d, rfl⟩ := ext_form hb; clear hb)
          go_ret
          exact ⟨rfl, by repeat (first | exact ext_refl _ | assumption | refine ext_more' ?_ _ _ | refine ext_drew ?_ | refine ext_drewN ?_ _ | refine ext_alloc ?_ _)⟩
        · have hlb : (j + 1 == p0) = false := by simpa using hl
          have hl2 : j + 1 < p0 := by omega
          have e20 := fun V => life_again V H1.out hj hl2 hn (by omega)
          have ⟨m1, m2⟩ := plusF_bd n (waitF ⟨p0, p1, p2, 0, 0, 0, 0, p7⟩ (j + 1) 0)
          generalize plusF n (waitF ⟨p0, p1, p2, 0, 0, 0, 0, p7⟩ (j + 1) 0) = m at e20 m1 m2
          have e2 := Lib.hid e20
          clear e20 hl
          by_cases hme : 1099511627776 ≤ m
          · go_upto_region 13 with (go_at_call 12; refine (ttell_calls _ _ _ _ _ _ _ _ _ _ _ _ _ _ _ _ _ _ _ _ _ _ _ _ (by decide) (by decide)).mono ?_; rw [e2.out]; rintro e w1 ⟨rfl, hb⟩; obtain ⟨r, d, rfl⟩ := ext_form hb; clear hb)
            refine wp_at ?_
            intro W2 hW
            have hx2 : Ext (W1.alloc (.cells #[.int .i64 0, .int .i64 j, .int .u8 2, .int .i64 0, .int .i64 n, .int .i64 0, .int .i64 0, .int .i64 0, .int .i64 0, .int .i64 0] 30)) W2 := by rw [hW]; repeat (first | exact ext_refl _ | assumption | refine ext_more' ?_ _ _ | refine ext_drew ?_ | refine ext_drewN ?_ _ | refine ext_alloc ?_ _)
            obtain ⟨lo, co⟩ := box_facts (by rw [hW]; repeat (first | exact ext_refl _ | assumption | refine ext_more' ?_ _ _ | refine ext_drew ?_ | refine ext_drewN ?_ _ | refine ext_alloc ?_ _) : Ext (World.alloc (more (World.alloc W1 _) _ _) (.cells _ _)) W2)
            obtain ⟨ly, cy⟩ := box_facts (by rw [hW]; repeat (first | exact ext_refl _ | assumption | refine ext_more' ?_ _ _ | refine ext_drew ?_ | refine ext_drewN ?_ _ | refine ext_alloc ?_ _) : Ext (World.alloc (more (World.alloc (more _ _ _) _) _ _) (.cells _ _)) W2)
            obtain ⟨lx, cx⟩ := box_on (by rw [hW]; repeat (first | exact ext_refl _ | assumption | refine ext_more' ?_ _ _ | refine ext_drew ?_ | refine ext_drewN ?_ _ | refine ext_alloc ?_ _) : Ext (more (W1.alloc (.cells #[.int .i64 0, .int .i64 j, .int .u8 2, .int .i64 0, .int .i64 n, .int .i64 0, .int .i64 0, .int .i64 0, .int .i64 0, .int .i64 0] 30)) _ _) W2) (by simpa only [more_size, sz_alloc] using lx) cx
            clear hW
            obtain ⟨r, d, rfl⟩ := ext_form hx2
            clear hx2
            (try simp only [more_size, sz_alloc] at lo co)
            (try simp only [more_size, sz_alloc] at ly cy)
            go_wp2_with (go_at_call 9; refine (awake16_calls _).mono ?_; rintro e w1 ⟨rfl, hb⟩; obtain ⟨r, d, rfl⟩ := ext_form hb; clear hb)
            go_ret
            exact ⟨rfl, by repeat (first | exact ext_refl _ | assumption | refine ext_more' ?_ _ _ | refine ext_drew ?_ | refine ext_drewN ?_ _ | refine ext_alloc ?_ _)⟩
          · have e3 := Lib.hid (life_tick H1.out hj hl2 m1 m2)
            replace hme : m < 1099511627776 := by omega
            go_upto_region 13 with (go_at_call 12; refine (ttell_calls _ _ _ _ _ _ _ _ _ _ _ _ _ _ _ _ _ _ _ _ _ _ _ _ (by decide) (by decide)).mono ?_; rw [e2.out]; rintro e w1 ⟨rfl, hb⟩; obtain ⟨r, d, rfl⟩ := ext_form hb; clear hb)
            refine wp_at ?_
            intro W2 hW
            have hx2 : Ext (W1.alloc (.cells #[.int .i64 0, .int .i64 j, .int .u8 2, .int .i64 0, .int .i64 n, .int .i64 0, .int .i64 0, .int .i64 0, .int .i64 0, .int .i64 0] 30)) W2 := by rw [hW]; repeat (first | exact ext_refl _ | assumption | refine ext_more' ?_ _ _ | refine ext_drew ?_ | refine ext_drewN ?_ _ | refine ext_alloc ?_ _)
            obtain ⟨lo, co⟩ := box_facts (by rw [hW]; repeat (first | exact ext_refl _ | assumption | refine ext_more' ?_ _ _ | refine ext_drew ?_ | refine ext_drewN ?_ _ | refine ext_alloc ?_ _) : Ext (World.alloc (more (World.alloc W1 _) _ _) (.cells _ _)) W2)
            obtain ⟨ly, cy⟩ := box_facts (by rw [hW]; repeat (first | exact ext_refl _ | assumption | refine ext_more' ?_ _ _ | refine ext_drew ?_ | refine ext_drewN ?_ _ | refine ext_alloc ?_ _) : Ext (World.alloc (more (World.alloc (more _ _ _) _) _ _) (.cells _ _)) W2)
            obtain ⟨lx, cx⟩ := box_on (by rw [hW]; repeat (first | exact ext_refl _ | assumption | refine ext_more' ?_ _ _ | refine ext_drew ?_ | refine ext_drewN ?_ _ | refine ext_alloc ?_ _) : Ext (more (W1.alloc (.cells #[.int .i64 0, .int .i64 j, .int .u8 2, .int .i64 0, .int .i64 n, .int .i64 0, .int .i64 0, .int .i64 0, .int .i64 0, .int .i64 0] 30)) _ _) W2) (by simpa only [more_size, sz_alloc] using lx) cx
            clear hW
            obtain ⟨r, d, rfl⟩ := ext_form hx2
            clear hx2
            (try simp only [more_size, sz_alloc] at lo co)
            (try simp only [more_size, sz_alloc] at ly cy)
            go_wp2_with (go_at_call 13; refine (ttick_calls _ _ _ _ _ _ _ _ _ _ _ _ _ _ _ _ _ _ _ _ (by decide) (by decide)).mono ?_; rw [e3.out]; rintro e w1 ⟨rfl, hb⟩; obtain ⟨r, d, rfl⟩ := ext_form hb; clear hb)
            go_roundg (gk - 1)
            case measure => have := HK.out; omega
            case rel => exact ⟨j + 1, m, _, _, rfl, rfl, by go_num, by omega, by omega, m1, hme, by have := HK.out; omega⟩
  · replace hr : rightB ⟨p0, p1, p2, p3, p4, p5, p6, p7⟩ = false := by simpa using hr
    go_enter Try.func3, Try.ntmps3
    go_wp2_with (first | (go_at_call 8; refine (right_calls _ _ _ _ _ _ _ _ _).mono ?_; rw [hr]; rintro e w1 ⟨rfl, hb⟩; obtain ⟨r, d, rfl⟩ := ext_form hb; clear hb) | (go_at_call 9; refine (awake16_calls _).mono ?_; rintro e w1 ⟨rfl, hb⟩; obtain ⟨r, d, rfl⟩ := ext_form hb; clear hb))
    go_ret
    exact ⟨rfl, by repeat (first | exact ext_refl _ | assumption | refine ext_more' ?_ _ _ | refine ext_drew ?_ | refine ext_drewN ?_ _ | refine ext_alloc ?_ _)⟩
end Go.Proofs.Ytnfmgojloahfkaa

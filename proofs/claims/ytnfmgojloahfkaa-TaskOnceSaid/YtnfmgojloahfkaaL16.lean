/- What task's functions do: Tick's closure. -/
import Derived.Test.YtnfmgojloahfkaaK16
import Derived.Test.YtnfmgojloahfkaaE16
import Derived.Test.YtnfmgojloahfkaaWf
namespace Go.Proofs.Ytnfmgojloahfkaa
open Go.RowKit
set_option linter.unusedVariables false
set_option linter.unusedSimpArgs false

theorem again_bd (p : Pol) (t : Tsk) (os ov n j : Int) (h : t.tries ≤ 100) : 0 ≤ (againF p t os ov n j).state ∧ (againF p t os ov n j).state ≤ 255 ∧ (againF p t os ov n j).tries ≤ 100 := by
  unfold againF; split
  · exact ⟨(by show (0 : Int) ≤ 1; decide), (by show (1 : Int) ≤ 255; decide), h⟩
  · exact ⟨(by show (0 : Int) ≤ 4; decide), (by show (4 : Int) ≤ 255; decide), h⟩
theorem wp_at {P : Program} {c : Code} {Q : Exit → Act → World → Prop} {a : Act} {w : World} (h : ∀ W1, W1 = w → c.wp P Q a W1) : c.wp P Q a w := h w rfl

set_option maxRecDepth 100000 in
set_option maxHeartbeats 4000000 in
theorem tickclo_calls (p0 p1 p2 p3 p4 p5 p6 p7 a0 a1 a2 a3 a4 a5 a6 a7 a8 a9 n : Int) (bt bp bn : Nat) (w : World) (h0 : 0 ≤ a2) (h1 : a2 ≤ 255) (ht1 : a1 ≤ 100)
    (lt : bt < w.heap.size) (lp : bp < w.heap.size) (ln : bn < w.heap.size)
    (ht : ∀ i, w.cell? ⟨bt, i, none⟩ = #[.int .i64 a0, .int .i64 a1, .int .u8 a2, .int .i64 a3, .int .i64 a4, .int .i64 a5, .int .i64 a6, .int .i64 a7, .int .i64 a8, .int .i64 a9][i]?) (hp : ∀ i, w.cell? ⟨bp, i, none⟩ = #[.int .i64 p0, .int .i64 p1, .int .i64 p2, .int .i64 p3, .int .i64 p4, .int .i64 p5, .int .i64 p6, .int .i64 p7][i]?) (hn : w.cell? ⟨bn, 0, none⟩ = some (.int .i64 n)) :
    Calls Try.prog 34 #[.pointer (some ⟨bt, 0, none⟩), .pointer (some ⟨bp, 0, none⟩), .pointer (some ⟨bn, 0, none⟩)] w fun e w' =>
      e = .returned (.tuple #[.agg #[.int .i64 (tickE (tickS ⟨p0, p1, p2, p3, p4, p5, p6, p7⟩ (tickS ⟨p0, p1, p2, p3, p4, p5, p6, p7⟩ ⟨a0, a1, a2, a3, a4, a5, a6, a7, a8, a9⟩ n) n) n).put, .int .i64 (tickE (tickS ⟨p0, p1, p2, p3, p4, p5, p6, p7⟩ (tickS ⟨p0, p1, p2, p3, p4, p5, p6, p7⟩ ⟨a0, a1, a2, a3, a4, a5, a6, a7, a8, a9⟩ n) n) n).tries, .int .u8 (tickE (tickS ⟨p0, p1, p2, p3, p4, p5, p6, p7⟩ (tickS ⟨p0, p1, p2, p3, p4, p5, p6, p7⟩ ⟨a0, a1, a2, a3, a4, a5, a6, a7, a8, a9⟩ n) n) n).state, .int .i64 (tickE (tickS ⟨p0, p1, p2, p3, p4, p5, p6, p7⟩ (tickS ⟨p0, p1, p2, p3, p4, p5, p6, p7⟩ ⟨a0, a1, a2, a3, a4, a5, a6, a7, a8, a9⟩ n) n) n).ready, .int .i64 (tickE (tickS ⟨p0, p1, p2, p3, p4, p5, p6, p7⟩ (tickS ⟨p0, p1, p2, p3, p4, p5, p6, p7⟩ ⟨a0, a1, a2, a3, a4, a5, a6, a7, a8, a9⟩ n) n) n).since, .int .i64 (tickE (tickS ⟨p0, p1, p2, p3, p4, p5, p6, p7⟩ (tickS ⟨p0, p1, p2, p3, p4, p5, p6, p7⟩ ⟨a0, a1, a2, a3, a4, a5, a6, a7, a8, a9⟩ n) n) n).worker, .int .i64 (tickE (tickS ⟨p0, p1, p2, p3, p4, p5, p6, p7⟩ (tickS ⟨p0, p1, p2, p3, p4, p5, p6, p7⟩ ⟨a0, a1, a2, a3, a4, a5, a6, a7, a8, a9⟩ n) n) n).tried, .int .i64 (tickE (tickS ⟨p0, p1, p2, p3, p4, p5, p6, p7⟩ (tickS ⟨p0, p1, p2, p3, p4, p5, p6, p7⟩ ⟨a0, a1, a2, a3, a4, a5, a6, a7, a8, a9⟩ n) n) n).beat, .int .i64 (tickE (tickS ⟨p0, p1, p2, p3, p4, p5, p6, p7⟩ (tickS ⟨p0, p1, p2, p3, p4, p5, p6, p7⟩ ⟨a0, a1, a2, a3, a4, a5, a6, a7, a8, a9⟩ n) n) n).os, .int .i64 (tickE (tickS ⟨p0, p1, p2, p3, p4, p5, p6, p7⟩ (tickS ⟨p0, p1, p2, p3, p4, p5, p6, p7⟩ ⟨a0, a1, a2, a3, a4, a5, a6, a7, a8, a9⟩ n) n) n).ov], .int .i64 0]) ∧ Ext w w' := by
  have hpe : ∀ w', Ext w w' → ∀ i, w'.cell? ⟨bp, i, none⟩ = #[.int .i64 p0, .int .i64 p1, .int .i64 p2, .int .i64 p3, .int .i64 p4, .int .i64 p5, .int .i64 p6, .int .i64 p7][i]? := fun w' h i => (h.cell (p := ⟨bp, i, none⟩) lp).trans (hp i)
  have hne : ∀ w', Ext w w' → w'.cell? ⟨bn, 0, none⟩ = some (.int .i64 n) := fun w' h => (h.cell (p := ⟨bn, 0, none⟩) ln).trans hn
  have ln1 : bn < w.heap.size + 1 := by omega
  have ln2 : bn < w.heap.size + 1 + 1 := by omega
  have lp1 : bp < w.heap.size + 1 := by omega
  have lp2 : bp < w.heap.size + 1 + 1 := by omega
  go_enter Try.func34, Try.ntmps34
  go_wp2_with fail
  obtain ⟨W0, hW, hxw, hall, hal2⟩ := box2 w #[.int .i64 0, .int .i64 0, .int .u8 0, .int .i64 0, .int .i64 0, .int .i64 0, .int .i64 0, .int .i64 0, .int .i64 0, .int .i64 0] 30 #[.int .i64 a0, .int .i64 a1, .int .u8 a2, .int .i64 a3, .int .i64 a4, .int .i64 a5, .int .i64 a6, .int .i64 a7, .int .i64 a8, .int .i64 a9] 30
  have hpw : ∀ w', Ext W0 w' → ∀ i, w'.cell? ⟨bp, i, none⟩ = #[.int .i64 p0, .int .i64 p1, .int .i64 p2, .int .i64 p3, .int .i64 p4, .int .i64 p5, .int .i64 p6, .int .i64 p7][i]? := fun w' h i => hpe w' (ext_trans hxw h) i
  rw [← hW]
  have HW := Lib.hid hW; clear hW
  go_region_held3 (fun w' => Ext W0 w') (first | exact ext_drew (ext_refl _) | assumption | (exact ext_trans (by assumption) (by assumption)))
    (first | (go_at_call 18; refine (times_calls _ _ _ _ _ _ _ _ _ _ _ (by assumption) (by assumption)).mono ?_; rintro e w1 ⟨rfl, hb⟩) | (go_at_call 35; refine (due_calls _ _ _ _ _ _ _ _ _ _ _ _ _).mono ?_; rintro e w1 ⟨rfl, hb⟩))
  rename_i wr hx
  obtain ⟨r, d, rfl⟩ := ext_form hx
  have hW := HW.out; clear HW hx hpw hall hal2 hxw
  subst hW
  go_wp2_with fail
  go_loopg [6, 7, 8] 2 (fun k du wh ok wr => ∃ (x0 x1 x2 x3 x4 x5 x6 x7 x8 x9 : Int) (r : Array Obj) (d : Nat), wr = more ((w.alloc (.cells #[.int .i64 0, .int .i64 0, .int .u8 0, .int .i64 0, .int .i64 0, .int .i64 0, .int .i64 0, .int .i64 0, .int .i64 0, .int .i64 0] 30)).alloc (.cells #[.int .i64 x0, .int .i64 x1, .int .u8 x2, .int .i64 x3, .int .i64 x4, .int .i64 x5, .int .i64 x6, .int .i64 x7, .int .i64 x8, .int .i64 x9] 30)) r d ∧ du = .int .i64 (dueAt ⟨p0, p1, p2, p3, p4, p5, p6, p7⟩ (timesF ⟨x0, x1, x2, x3, x4, x5, x6, x7, x8, x9⟩)) ∧ wh = .int .i64 (dueWhich ⟨p0, p1, p2, p3, p4, p5, p6, p7⟩ (timesF ⟨x0, x1, x2, x3, x4, x5, x6, x7, x8, x9⟩)) ∧ ok = .bool (dueOk ⟨p0, p1, p2, p3, p4, p5, p6, p7⟩ (timesF ⟨x0, x1, x2, x3, x4, x5, x6, x7, x8, x9⟩)) ∧ 0 ≤ x2 ∧ x2 ≤ 255 ∧ x1 ≤ 100 ∧ ((k = 2 ∧ (⟨x0, x1, x2, x3, x4, x5, x6, x7, x8, x9⟩ : Tsk) = ⟨a0, a1, a2, a3, a4, a5, a6, a7, a8, a9⟩) ∨ (k = 1 ∧ (⟨x0, x1, x2, x3, x4, x5, x6, x7, x8, x9⟩ : Tsk) = tickS ⟨p0, p1, p2, p3, p4, p5, p6, p7⟩ ⟨a0, a1, a2, a3, a4, a5, a6, a7, a8, a9⟩ n) ∨ (k = 0 ∧ (⟨x0, x1, x2, x3, x4, x5, x6, x7, x8, x9⟩ : Tsk) = tickS ⟨p0, p1, p2, p3, p4, p5, p6, p7⟩ (tickS ⟨p0, p1, p2, p3, p4, p5, p6, p7⟩ ⟨a0, a1, a2, a3, a4, a5, a6, a7, a8, a9⟩ n) n)))
  case atStart => exact ⟨a0, a1, a2, a3, a4, a5, a6, a7, a8, a9, r, d, rfl, rfl, rfl, rfl, h0, h1, ht1, .inl ⟨rfl, rfl⟩⟩
  case round =>
    obtain ⟨x0, x1, x2, x3, x4, x5, x6, x7, x8, x9, r, d, rfl, rfl, rfl, rfl, g0, g1, g2, hk⟩ := hrel
    by_cases hd : dueNow ⟨p0, p1, p2, p3, p4, p5, p6, p7⟩ ⟨x0, x1, x2, x3, x4, x5, x6, x7, x8, x9⟩ n = true
    · have hd' : dueOk ⟨p0, p1, p2, p3, p4, p5, p6, p7⟩ (timesF ⟨x0, x1, x2, x3, x4, x5, x6, x7, x8, x9⟩) = true ∧ dueAt ⟨p0, p1, p2, p3, p4, p5, p6, p7⟩ (timesF ⟨x0, x1, x2, x3, x4, x5, x6, x7, x8, x9⟩) ≤ n := by simpa [dueNow] using hd
      obtain ⟨d1, d2⟩ := hd'
      have hk1 : gk = 2 ∨ gk = 1 := by
        rcases hk with h | h | ⟨_, h⟩
        · exact .inl h.1
        · exact .inr h.1
        · rw [h, tick_twice] at hd; cases hd
      have hs : tickS ⟨p0, p1, p2, p3, p4, p5, p6, p7⟩ ⟨x0, x1, x2, x3, x4, x5, x6, x7, x8, x9⟩ n = tickS ⟨p0, p1, p2, p3, p4, p5, p6, p7⟩ ⟨x0, x1, x2, x3, x4, x5, x6, x7, x8, x9⟩ n := rfl
      by_cases hw : dueWhich ⟨p0, p1, p2, p3, p4, p5, p6, p7⟩ (timesF ⟨x0, x1, x2, x3, x4, x5, x6, x7, x8, x9⟩) = 3 ∨ dueWhich ⟨p0, p1, p2, p3, p4, p5, p6, p7⟩ (timesF ⟨x0, x1, x2, x3, x4, x5, x6, x7, x8, x9⟩) = 1
      · have he : (decide (dueWhich ⟨p0, p1, p2, p3, p4, p5, p6, p7⟩ (timesF ⟨x0, x1, x2, x3, x4, x5, x6, x7, x8, x9⟩) = 3) || decide (dueWhich ⟨p0, p1, p2, p3, p4, p5, p6, p7⟩ (timesF ⟨x0, x1, x2, x3, x4, x5, x6, x7, x8, x9⟩) = 1)) = true := by simpa using hw
        have HS := Lib.hid (show tickS ⟨p0, p1, p2, p3, p4, p5, p6, p7⟩ ⟨x0, x1, x2, x3, x4, x5, x6, x7, x8, x9⟩ n = overF ⟨x0, x1, x2, x3, x4, x5, x6, x7, x8, x9⟩ 2 (dueWhich ⟨p0, p1, p2, p3, p4, p5, p6, p7⟩ (timesF ⟨x0, x1, x2, x3, x4, x5, x6, x7, x8, x9⟩)) from by unfold tickS; rw [if_pos ⟨d1, d2⟩, if_pos hw])
        have HK := Lib.hid hk; clear hk hd hs hw
        have d1' : (dueOk ⟨p0, p1, p2, p3, p4, p5, p6, p7⟩ (timesF ⟨x0, x1, x2, x3, x4, x5, x6, x7, x8, x9⟩) && decide (dueAt ⟨p0, p1, p2, p3, p4, p5, p6, p7⟩ (timesF ⟨x0, x1, x2, x3, x4, x5, x6, x7, x8, x9⟩) ≤ n)) = true := by rw [d1]; simpa using d2
        go_wp2_with (first | (go_at_call 36; refine (ends_calls _ _).mono ?_; rintro e w2 ⟨rfl, rfl⟩) | (go_at_call 32; refine (over_calls _ _ _ _ _ _ _ _ _ _ _ _ _).mono ?_; rintro e w1 ⟨rfl, hb⟩; obtain ⟨r, d, rfl⟩ := ext_form hb; clear hb; simp only [overF]))
        refine wp_at ?_
        intro W1 hW1
        have hx1 : Ext ((w.alloc (.cells #[.int .i64 0, .int .i64 0, .int .u8 0, .int .i64 0, .int .i64 0, .int .i64 0, .int .i64 0, .int .i64 0, .int .i64 0, .int .i64 0] 30)).alloc (.cells #[.int .i64 x0, .int .i64 x1, .int .u8 4, .int .i64 0, .int .i64 0, .int .i64 0, .int .i64 0, .int .i64 0, .int .i64 2, .int .i64 (dueWhich ⟨p0, p1, p2, p3, p4, p5, p6, p7⟩ (timesF ⟨x0, x1, x2, x3, x4, x5, x6, x7, x8, x9⟩))] 30)) W1 := by rw [hW1]; repeat (first | exact ext_refl _ | assumption | refine ext_more' ?_ _ _ | refine ext_drew ?_ | refine ext_drewN ?_ _ | refine ext_alloc ?_ _)
        clear hW1
        obtain ⟨W2, hW2, hxw, _, hal2⟩ := box2 w #[.int .i64 0, .int .i64 0, .int .u8 0, .int .i64 0, .int .i64 0, .int .i64 0, .int .i64 0, .int .i64 0, .int .i64 0, .int .i64 0] 30 #[.int .i64 x0, .int .i64 x1, .int .u8 4, .int .i64 0, .int .i64 0, .int .i64 0, .int .i64 0, .int .i64 0, .int .i64 2, .int .i64 (dueWhich ⟨p0, p1, p2, p3, p4, p5, p6, p7⟩ (timesF ⟨x0, x1, x2, x3, x4, x5, x6, x7, x8, x9⟩))] 30
        rw [← hW2] at hx1
        replace hal2 := fun w' (h : Ext W1 w') => hal2 w' (ext_trans hx1 h)
        have hpw : ∀ w', Ext W1 w' → ∀ i, w'.cell? ⟨bp, i, none⟩ = #[.int .i64 p0, .int .i64 p1, .int .i64 p2, .int .i64 p3, .int .i64 p4, .int .i64 p5, .int .i64 p6, .int .i64 p7][i]? := fun w' h i => hpe w' (ext_trans hxw (ext_trans hx1 h)) i
        have HW2 := Lib.hid hW2; clear hW2
        go_region_held3 (fun w' => Ext W1 w') (first | exact ext_drew (ext_refl _) | assumption | (exact ext_trans (by assumption) (by assumption)))
          (first | (go_at_call 18; refine (times_calls _ _ _ _ _ _ _ _ _ _ _ (by first | assumption | decide) (by first | assumption | decide)).mono ?_; rintro e w1 ⟨rfl, hb⟩) | (go_at_call 35; refine (due_calls _ _ _ _ _ _ _ _ _ _ _ _ _).mono ?_; rintro e w1 ⟨rfl, hb⟩))
        rename_i wr2 hx2
        obtain ⟨r2, d2, hf⟩ := ext_form (ext_trans hx1 hx2)
        rw [HW2.out] at hf
        clear hx1 hx2 hal2 hpw hxw HW2
        have HF := Lib.hid hf; clear hf
        go_wp2_with fail
        go_roundg (gk - 1)
        case measure => omega
        case rel => exact ⟨x0, x1, 4, 0, 0, 0, 0, 0, 2, (dueWhich ⟨p0, p1, p2, p3, p4, p5, p6, p7⟩ (timesF ⟨x0, x1, x2, x3, x4, x5, x6, x7, x8, x9⟩)), r2, d2, HF.out, rfl, rfl, rfl, by decide, by decide, g2, by
          rcases HK.out with ⟨h, hh⟩ | ⟨h, hh⟩ | ⟨h, _⟩
          · exact .inr (.inl ⟨by omega, by rw [← hh]; exact HS.out.symm⟩)
          · exact .inr (.inr ⟨by omega, by rw [← hh]; exact HS.out.symm⟩)
          · omega⟩
      · have he : (decide (dueWhich ⟨p0, p1, p2, p3, p4, p5, p6, p7⟩ (timesF ⟨x0, x1, x2, x3, x4, x5, x6, x7, x8, x9⟩) = 3) || decide (dueWhich ⟨p0, p1, p2, p3, p4, p5, p6, p7⟩ (timesF ⟨x0, x1, x2, x3, x4, x5, x6, x7, x8, x9⟩) = 1)) = false := by simpa using hw
        have HS := Lib.hid (show tickS ⟨p0, p1, p2, p3, p4, p5, p6, p7⟩ ⟨x0, x1, x2, x3, x4, x5, x6, x7, x8, x9⟩ n = againF ⟨p0, p1, p2, p3, p4, p5, p6, p7⟩ ⟨x0, x1, x2, x3, x4, x5, x6, x7, x8, x9⟩ 2 (dueWhich ⟨p0, p1, p2, p3, p4, p5, p6, p7⟩ (timesF ⟨x0, x1, x2, x3, x4, x5, x6, x7, x8, x9⟩)) n 0 from by unfold tickS; rw [if_pos ⟨d1, d2⟩, if_neg hw])
        have ⟨A0, A1, A2⟩ := again_bd ⟨p0, p1, p2, p3, p4, p5, p6, p7⟩ ⟨x0, x1, x2, x3, x4, x5, x6, x7, x8, x9⟩ 2 (dueWhich ⟨p0, p1, p2, p3, p4, p5, p6, p7⟩ (timesF ⟨x0, x1, x2, x3, x4, x5, x6, x7, x8, x9⟩)) n 0 g2
        have HK := Lib.hid hk; clear hk hd hs hw
        have d1' : (dueOk ⟨p0, p1, p2, p3, p4, p5, p6, p7⟩ (timesF ⟨x0, x1, x2, x3, x4, x5, x6, x7, x8, x9⟩) && decide (dueAt ⟨p0, p1, p2, p3, p4, p5, p6, p7⟩ (timesF ⟨x0, x1, x2, x3, x4, x5, x6, x7, x8, x9⟩) ≤ n)) = true := by rw [d1]; simpa using d2
        go_wp2_with (first | (go_at_call 36; refine (ends_calls _ _).mono ?_; rintro e w2 ⟨rfl, rfl⟩) | (go_at_call 33; refine (again_calls _ _ _ _ _ _ _ _ _ _ _ _ _ _ _ _ _ _ _ _ _ _ _ (by omega)).mono ?_; rintro e w1 ⟨rfl, hb⟩; obtain ⟨r, d, rfl⟩ := ext_form hb; clear hb))
        generalize hX : againF ⟨p0, p1, p2, p3, p4, p5, p6, p7⟩ ⟨x0, x1, x2, x3, x4, x5, x6, x7, x8, x9⟩ 2 (dueWhich ⟨p0, p1, p2, p3, p4, p5, p6, p7⟩ (timesF ⟨x0, x1, x2, x3, x4, x5, x6, x7, x8, x9⟩)) n 0 = X at HS A0 A1 A2 ⊢
        clear hX
        refine wp_at ?_
        intro W1 hW1
        have hx1 : Ext ((w.alloc (.cells #[.int .i64 0, .int .i64 0, .int .u8 0, .int .i64 0, .int .i64 0, .int .i64 0, .int .i64 0, .int .i64 0, .int .i64 0, .int .i64 0] 30)).alloc (.cells #[.int .i64 X.put, .int .i64 X.tries, .int .u8 X.state, .int .i64 X.ready, .int .i64 X.since, .int .i64 X.worker, .int .i64 X.tried, .int .i64 X.beat, .int .i64 X.os, .int .i64 X.ov] 30)) W1 := by rw [hW1]; repeat (first | exact ext_refl _ | assumption | refine ext_more' ?_ _ _ | refine ext_drew ?_ | refine ext_drewN ?_ _ | refine ext_alloc ?_ _)
        clear hW1
        obtain ⟨W2, hW2, hxw, _, hal2⟩ := box2 w #[.int .i64 0, .int .i64 0, .int .u8 0, .int .i64 0, .int .i64 0, .int .i64 0, .int .i64 0, .int .i64 0, .int .i64 0, .int .i64 0] 30 #[.int .i64 X.put, .int .i64 X.tries, .int .u8 X.state, .int .i64 X.ready, .int .i64 X.since, .int .i64 X.worker, .int .i64 X.tried, .int .i64 X.beat, .int .i64 X.os, .int .i64 X.ov] 30
        rw [← hW2] at hx1
        replace hal2 := fun w' (h : Ext W1 w') => hal2 w' (ext_trans hx1 h)
        have hpw : ∀ w', Ext W1 w' → ∀ i, w'.cell? ⟨bp, i, none⟩ = #[.int .i64 p0, .int .i64 p1, .int .i64 p2, .int .i64 p3, .int .i64 p4, .int .i64 p5, .int .i64 p6, .int .i64 p7][i]? := fun w' h i => hpe w' (ext_trans hxw (ext_trans hx1 h)) i
        have HW2 := Lib.hid hW2; clear hW2
        go_region_held3 (fun w' => Ext W1 w') (first | exact ext_drew (ext_refl _) | assumption | (exact ext_trans (by assumption) (by assumption)))
          (first | (go_at_call 18; refine (times_calls _ _ _ _ _ _ _ _ _ _ _ (by first | assumption | decide) (by first | assumption | decide)).mono ?_; rintro e w1 ⟨rfl, hb⟩) | (go_at_call 35; refine (due_calls _ _ _ _ _ _ _ _ _ _ _ _ _).mono ?_; rintro e w1 ⟨rfl, hb⟩))
        rename_i wr2 hx2
        obtain ⟨r2, d2, hf⟩ := ext_form (ext_trans hx1 hx2)
        rw [HW2.out] at hf
        clear hx1 hx2 hal2 hpw hxw HW2
        have HF := Lib.hid hf; clear hf
        go_wp2_with fail
        go_roundg (gk - 1)
        case measure => omega
        case rel => exact ⟨X.put, X.tries, X.state, X.ready, X.since, X.worker, X.tried, X.beat, X.os, X.ov, r2, d2, HF.out, rfl, rfl, rfl, A0, A1, A2, by
          rcases HK.out with ⟨h, hh⟩ | ⟨h, hh⟩ | ⟨h, _⟩
          · exact .inr (.inl ⟨by omega, by rw [← hh]; exact HS.out.symm⟩)
          · exact .inr (.inr ⟨by omega, by rw [← hh]; exact HS.out.symm⟩)
          · omega⟩
    · have hd' : dueNow ⟨p0, p1, p2, p3, p4, p5, p6, p7⟩ ⟨x0, x1, x2, x3, x4, x5, x6, x7, x8, x9⟩ n = false := by simpa using hd
      have hs := tickS_no hd'
      have hfin : tickS ⟨p0, p1, p2, p3, p4, p5, p6, p7⟩ (tickS ⟨p0, p1, p2, p3, p4, p5, p6, p7⟩ ⟨a0, a1, a2, a3, a4, a5, a6, a7, a8, a9⟩ n) n = ⟨x0, x1, x2, x3, x4, x5, x6, x7, x8, x9⟩ := by
        rcases hk with ⟨_, h⟩ | ⟨_, h⟩ | ⟨_, h⟩
        · rw [← h, hs, hs]
        · rw [← h, hs]
        · exact h.symm
      have HFIN := Lib.hid hfin
      have hq : dueOk ⟨p0, p1, p2, p3, p4, p5, p6, p7⟩ (timesF ⟨x0, x1, x2, x3, x4, x5, x6, x7, x8, x9⟩) = false ∨ (dueOk ⟨p0, p1, p2, p3, p4, p5, p6, p7⟩ (timesF ⟨x0, x1, x2, x3, x4, x5, x6, x7, x8, x9⟩) = true ∧ n < dueAt ⟨p0, p1, p2, p3, p4, p5, p6, p7⟩ (timesF ⟨x0, x1, x2, x3, x4, x5, x6, x7, x8, x9⟩)) := by
        unfold dueNow at hd'; cases h : dueOk ⟨p0, p1, p2, p3, p4, p5, p6, p7⟩ (timesF ⟨x0, x1, x2, x3, x4, x5, x6, x7, x8, x9⟩)
        · exact .inl rfl
        · rw [h] at hd'; right; exact ⟨rfl, by simpa using hd'⟩
      clear hk hd hd' hs hfin
      by_cases hx2 : x2 = 1 ∧ x3 ≤ n
      · obtain ⟨rfl, hx3⟩ := hx2
        have HE := Lib.hid (show tickE ⟨x0, x1, 1, x3, x4, x5, x6, x7, x8, x9⟩ n = ⟨x0, x1, 2, 0, n, 0, 0, 0, 0, 0⟩ from by unfold tickE; rw [if_pos ⟨rfl, hx3⟩])
        rcases hq with q1 | ⟨q1, q2⟩
        all_goals
          go_wp2_with (go_at_call 30; refine (bare_calls _ _ _ _ _ _ _ _ _ _ _ _).mono ?_; rintro e w1 ⟨rfl, hb⟩; obtain ⟨r, d, rfl⟩ := ext_form hb; clear hb; simp only [bareF])
          refine bodyPost_ret (by simp [results, Try.results34, go_sem]; rfl) rfl ?_
          exact ⟨by rw [HFIN.out, HE.out] <;> rfl, by repeat (first | exact ext_refl _ | assumption | refine ext_more' ?_ _ _ | refine ext_drew ?_ | refine ext_drewN ?_ _ | refine ext_alloc ?_ _)⟩
      · have HE := Lib.hid (show tickE ⟨x0, x1, x2, x3, x4, x5, x6, x7, x8, x9⟩ n = ⟨x0, x1, x2, x3, x4, x5, x6, x7, x8, x9⟩ from by unfold tickE; rw [if_neg hx2])
        have hc : (x2 == 1) = false ∨ ((x2 == 1) = true ∧ n < x3) := by
          by_cases h : x2 = 1
          · right; exact ⟨by simpa using h, by omega⟩
          · left; simpa using h
        clear hx2
        rcases hq with q1 | ⟨q1, q2⟩
        all_goals
          rcases hc with hc | ⟨hc, hc'⟩
          all_goals
            go_wp2
            refine bodyPost_ret (by simp [results, Try.results34, go_sem]; rfl) rfl ?_
            exact ⟨by rw [HFIN.out, HE.out] <;> rfl, by repeat (first | exact ext_refl _ | assumption | refine ext_more' ?_ _ _ | refine ext_drew ?_ | refine ext_drewN ?_ _ | refine ext_alloc ?_ _)⟩
end Go.Proofs.Ytnfmgojloahfkaa

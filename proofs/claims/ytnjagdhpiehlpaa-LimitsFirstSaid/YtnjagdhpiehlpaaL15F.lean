/- The law LimitsFirst walked. -/
import Derived.Test.YtnjagdhpiehlpaaL15
namespace Go.Proofs.Ytnjagdhpiehlpaa
open Go.RowKit

set_option maxRecDepth 100000 in
set_option maxHeartbeats 8000000 in
theorem first_walk (p0 p1 p2 p3 p4 p5 p6 p7 t0 t1 t2 t3 : Int) (w : World) :
    Calls Try.prog 8 #[.agg #[.int .i64 p0, .int .i64 p1, .int .i64 p2, .int .i64 p3, .int .i64 p4, .int .i64 p5, .int .i64 p6, .int .i64 p7], .agg #[.int .i64 t0, .int .i64 t1, .int .i64 t2, .int .i64 t3]] w fun e w' => e = .returned (.bool true) ∧ Ext w w' := by
  by_cases hr : rightB ⟨p0, p1, p2, p3, p4, p5, p6, p7⟩ = true
  · go_enter Try.func8, Try.ntmps8
    go_wp2_with fail
    obtain ⟨W0, hW, hxw, hall, hal2⟩ := box2 w #[.int .i64 p0, .int .i64 p1, .int .i64 p2, .int .i64 p3, .int .i64 p4, .int .i64 p5, .int .i64 p6, .int .i64 p7] 23 #[.int .i64 t0, .int .i64 t1, .int .i64 t2, .int .i64 t3] 36
    rw [← hW]; clear hW
    have hx := ext_refl W0
    go_wp2_with (first | (go_at_call 21; refine (due_calls _ _ _ _ _ _ _ _ _ _ _ _ _).mono ?_; rintro e w1 ⟨rfl, hb⟩; replace hx := ext_trans hx hb; clear hb) | (go_at_call 13; refine (right_calls _ _ _ _ _ _ _ _ _).mono ?_; rintro e w1 ⟨rfl, hb⟩; replace hx := ext_trans hx hb; clear hb))
    go_loopw [8, 9] (fun s i wr => ∃ k : Nat, 1 ≤ k ∧ k ≤ 5 ∧ i = .int .i64 k ∧ s = .bool (someB ⟨p0, p1, p2, p3, p4, p5, p6, p7⟩ ⟨t0, t1, t2, t3⟩ k) ∧ Ext W0 wr) (fun _ i _ => 5 - (intOf i).toNat)
    case atStart => exact ⟨1, by omega, by omega, rfl, rfl, hx⟩
    case round =>
      obtain ⟨k, hk1, hk5, rfl, rfl, hx⟩ := hrel
      have hk : k = 1 ∨ k = 2 ∨ k = 3 ∨ k = 4 ∨ k = 5 := by omega
      clear hk1 hk5
      rcases hk with rfl | rfl | rfl | rfl | rfl
      · have hd := one1_due (t := ⟨t0, t1, t2, t3⟩) hr
        have hs := Lib.hid (someB_step1 ⟨p0, p1, p2, p3, p4, p5, p6, p7⟩ ⟨t0, t1, t2, t3⟩)
        simp only [one1] at hd hs
        rcases hd with ⟨_, _, o1, o2, o3, o4, o5⟩ | ⟨_, o1, o2⟩
        · have O1 := Lib.hid o1; have O2 := Lib.hid o2
          have h3 : (!dueOk ⟨p0, p1, p2, p3, p4, p5, p6, p7⟩ ⟨t0, t1, t2, t3⟩) = false := by rw [o3]; rfl
          clear o3
          by_cases hk : dueWhich ⟨p0, p1, p2, p3, p4, p5, p6, p7⟩ ⟨t0, t1, t2, t3⟩ = 1
          · have O5 := Lib.hid (o5 hk)
            have hkb : ((1 : Int) == dueWhich ⟨p0, p1, p2, p3, p4, p5, p6, p7⟩ ⟨t0, t1, t2, t3⟩) = true := by rw [hk]; rfl
            clear o1 o2 o4 o5 hk
            go_wp2_with (go_at_call 21; refine (due_calls _ _ _ _ _ _ _ _ _ _ _ _ _).mono ?_; rw [O1.out, O2.out, O5.out]; rintro e w1 ⟨rfl, hb⟩; replace hx := ext_trans (ext_alloc hx _) hb; clear hb)
            all_goals
              go_roundw
              case rel => exact ⟨2, by omega, by omega, rfl, by rw [hs.out, O1.out]; first | (simp; done) | (simp [*]; done) | (simp [*, someB]; done), hx⟩
              case measure => simp [intOf]
          · have hkb : ((1 : Int) == dueWhich ⟨p0, p1, p2, p3, p4, p5, p6, p7⟩ ⟨t0, t1, t2, t3⟩) = false := by rw [beq_eq_false_iff_ne]; exact fun h => hk h.symm
            clear o1 o2 o5 hk
            go_wp2_with (go_at_call 21; refine (due_calls _ _ _ _ _ _ _ _ _ _ _ _ _).mono ?_; rw [O1.out, O2.out]; rintro e w1 ⟨rfl, hb⟩; replace hx := ext_trans (ext_alloc hx _) hb; clear hb)
            all_goals
              go_roundw
              case rel => exact ⟨2, by omega, by omega, rfl, by rw [hs.out, O1.out]; first | (simp; done) | (simp [*]; done) | (simp [*, someB]; done), hx⟩
              case measure => simp [intOf]
        · have O1 := Lib.hid o1
          have hkb : ((1 : Int) == dueWhich ⟨p0, p1, p2, p3, p4, p5, p6, p7⟩ ⟨t0, t1, t2, t3⟩) = false := by rw [beq_eq_false_iff_ne]; exact fun h => o2 h.symm
          clear o1 o2
          go_wp2_with (go_at_call 21; refine (due_calls _ _ _ _ _ _ _ _ _ _ _ _ _).mono ?_; rw [O1.out]; rintro e w1 ⟨rfl, hb⟩; replace hx := ext_trans (ext_alloc hx _) hb; clear hb)
          all_goals
            go_roundw
            case rel => exact ⟨2, by omega, by omega, rfl, by rw [hs.out, O1.out]; first | (simp; done) | (simp [*]; done) | (simp [*, someB]; done), hx⟩
            case measure => simp [intOf]
      · have hd := one2_due (t := ⟨t0, t1, t2, t3⟩) hr
        have hs := Lib.hid (someB_step2 ⟨p0, p1, p2, p3, p4, p5, p6, p7⟩ ⟨t0, t1, t2, t3⟩)
        simp only [one2] at hd hs
        rcases hd with ⟨_, _, o1, o2, o3, o4, o5⟩ | ⟨_, o1, o2⟩
        · have O1 := Lib.hid o1; have O2 := Lib.hid o2
          have h3 : (!dueOk ⟨p0, p1, p2, p3, p4, p5, p6, p7⟩ ⟨t0, t1, t2, t3⟩) = false := by rw [o3]; rfl
          clear o3
          by_cases hk : dueWhich ⟨p0, p1, p2, p3, p4, p5, p6, p7⟩ ⟨t0, t1, t2, t3⟩ = 2
          · have O5 := Lib.hid (o5 hk)
            have hkb : ((2 : Int) == dueWhich ⟨p0, p1, p2, p3, p4, p5, p6, p7⟩ ⟨t0, t1, t2, t3⟩) = true := by rw [hk]; rfl
            clear o1 o2 o4 o5 hk
            go_wp2_with (go_at_call 21; refine (due_calls _ _ _ _ _ _ _ _ _ _ _ _ _).mono ?_; rw [O1.out, O2.out, O5.out]; rintro e w1 ⟨rfl, hb⟩; replace hx := ext_trans (ext_alloc hx _) hb; clear hb)
            all_goals
              go_roundw
              case rel => exact ⟨3, by omega, by omega, rfl, by rw [hs.out, O1.out]; first | (simp; done) | (simp [*]; done) | (simp [*, someB]; done), hx⟩
              case measure => simp [intOf]
          · have hkb : ((2 : Int) == dueWhich ⟨p0, p1, p2, p3, p4, p5, p6, p7⟩ ⟨t0, t1, t2, t3⟩) = false := by rw [beq_eq_false_iff_ne]; exact fun h => hk h.symm
            clear o1 o2 o5 hk
            go_wp2_with (go_at_call 21; refine (due_calls _ _ _ _ _ _ _ _ _ _ _ _ _).mono ?_; rw [O1.out, O2.out]; rintro e w1 ⟨rfl, hb⟩; replace hx := ext_trans (ext_alloc hx _) hb; clear hb)
            all_goals
              go_roundw
              case rel => exact ⟨3, by omega, by omega, rfl, by rw [hs.out, O1.out]; first | (simp; done) | (simp [*]; done) | (simp [*, someB]; done), hx⟩
              case measure => simp [intOf]
        · have O1 := Lib.hid o1
          have hkb : ((2 : Int) == dueWhich ⟨p0, p1, p2, p3, p4, p5, p6, p7⟩ ⟨t0, t1, t2, t3⟩) = false := by rw [beq_eq_false_iff_ne]; exact fun h => o2 h.symm
          clear o1 o2
          go_wp2_with (go_at_call 21; refine (due_calls _ _ _ _ _ _ _ _ _ _ _ _ _).mono ?_; rw [O1.out]; rintro e w1 ⟨rfl, hb⟩; replace hx := ext_trans (ext_alloc hx _) hb; clear hb)
          all_goals
            go_roundw
            case rel => exact ⟨3, by omega, by omega, rfl, by rw [hs.out, O1.out]; first | (simp; done) | (simp [*]; done) | (simp [*, someB]; done), hx⟩
            case measure => simp [intOf]
      · have hd := one3_due (t := ⟨t0, t1, t2, t3⟩) hr
        have hs := Lib.hid (someB_step3 ⟨p0, p1, p2, p3, p4, p5, p6, p7⟩ ⟨t0, t1, t2, t3⟩)
        simp only [one3] at hd hs
        rcases hd with ⟨_, _, o1, o2, o3, o4, o5⟩ | ⟨_, o1, o2⟩
        · have O1 := Lib.hid o1; have O2 := Lib.hid o2
          have h3 : (!dueOk ⟨p0, p1, p2, p3, p4, p5, p6, p7⟩ ⟨t0, t1, t2, t3⟩) = false := by rw [o3]; rfl
          clear o3
          by_cases hk : dueWhich ⟨p0, p1, p2, p3, p4, p5, p6, p7⟩ ⟨t0, t1, t2, t3⟩ = 3
          · have O5 := Lib.hid (o5 hk)
            have hkb : ((3 : Int) == dueWhich ⟨p0, p1, p2, p3, p4, p5, p6, p7⟩ ⟨t0, t1, t2, t3⟩) = true := by rw [hk]; rfl
            clear o1 o2 o4 o5 hk
            go_wp2_with (go_at_call 21; refine (due_calls _ _ _ _ _ _ _ _ _ _ _ _ _).mono ?_; rw [O1.out, O2.out, O5.out]; rintro e w1 ⟨rfl, hb⟩; replace hx := ext_trans (ext_alloc hx _) hb; clear hb)
            all_goals
              go_roundw
              case rel => exact ⟨4, by omega, by omega, rfl, by rw [hs.out, O1.out]; first | (simp; done) | (simp [*]; done) | (simp [*, someB]; done), hx⟩
              case measure => simp [intOf]
          · have hkb : ((3 : Int) == dueWhich ⟨p0, p1, p2, p3, p4, p5, p6, p7⟩ ⟨t0, t1, t2, t3⟩) = false := by rw [beq_eq_false_iff_ne]; exact fun h => hk h.symm
            clear o1 o2 o5 hk
            go_wp2_with (go_at_call 21; refine (due_calls _ _ _ _ _ _ _ _ _ _ _ _ _).mono ?_; rw [O1.out, O2.out]; rintro e w1 ⟨rfl, hb⟩; replace hx := ext_trans (ext_alloc hx _) hb; clear hb)
            all_goals
              go_roundw
              case rel => exact ⟨4, by omega, by omega, rfl, by rw [hs.out, O1.out]; first | (simp; done) | (simp [*]; done) | (simp [*, someB]; done), hx⟩
              case measure => simp [intOf]
        · have O1 := Lib.hid o1
          have hkb : ((3 : Int) == dueWhich ⟨p0, p1, p2, p3, p4, p5, p6, p7⟩ ⟨t0, t1, t2, t3⟩) = false := by rw [beq_eq_false_iff_ne]; exact fun h => o2 h.symm
          clear o1 o2
          go_wp2_with (go_at_call 21; refine (due_calls _ _ _ _ _ _ _ _ _ _ _ _ _).mono ?_; rw [O1.out]; rintro e w1 ⟨rfl, hb⟩; replace hx := ext_trans (ext_alloc hx _) hb; clear hb)
          all_goals
            go_roundw
            case rel => exact ⟨4, by omega, by omega, rfl, by rw [hs.out, O1.out]; first | (simp; done) | (simp [*]; done) | (simp [*, someB]; done), hx⟩
            case measure => simp [intOf]
      · have hd := one4_due (t := ⟨t0, t1, t2, t3⟩) hr
        have hs := Lib.hid (someB_step4 ⟨p0, p1, p2, p3, p4, p5, p6, p7⟩ ⟨t0, t1, t2, t3⟩)
        simp only [one4] at hd hs
        rcases hd with ⟨_, _, o1, o2, o3, o4, o5⟩ | ⟨_, o1, o2⟩
        · have O1 := Lib.hid o1; have O2 := Lib.hid o2
          have h3 : (!dueOk ⟨p0, p1, p2, p3, p4, p5, p6, p7⟩ ⟨t0, t1, t2, t3⟩) = false := by rw [o3]; rfl
          clear o3
          by_cases hk : dueWhich ⟨p0, p1, p2, p3, p4, p5, p6, p7⟩ ⟨t0, t1, t2, t3⟩ = 4
          · have O5 := Lib.hid (o5 hk)
            have hkb : ((4 : Int) == dueWhich ⟨p0, p1, p2, p3, p4, p5, p6, p7⟩ ⟨t0, t1, t2, t3⟩) = true := by rw [hk]; rfl
            clear o1 o2 o4 o5 hk
            go_wp2_with (go_at_call 21; refine (due_calls _ _ _ _ _ _ _ _ _ _ _ _ _).mono ?_; rw [O1.out, O2.out, O5.out]; rintro e w1 ⟨rfl, hb⟩; replace hx := ext_trans (ext_alloc hx _) hb; clear hb)
            all_goals
              go_roundw
              case rel => exact ⟨5, by omega, by omega, rfl, by rw [hs.out, O1.out]; first | (simp; done) | (simp [*]; done) | (simp [*, someB]; done), hx⟩
              case measure => simp [intOf]
          · have hkb : ((4 : Int) == dueWhich ⟨p0, p1, p2, p3, p4, p5, p6, p7⟩ ⟨t0, t1, t2, t3⟩) = false := by rw [beq_eq_false_iff_ne]; exact fun h => hk h.symm
            clear o1 o2 o5 hk
            go_wp2_with (go_at_call 21; refine (due_calls _ _ _ _ _ _ _ _ _ _ _ _ _).mono ?_; rw [O1.out, O2.out]; rintro e w1 ⟨rfl, hb⟩; replace hx := ext_trans (ext_alloc hx _) hb; clear hb)
            all_goals
              go_roundw
              case rel => exact ⟨5, by omega, by omega, rfl, by rw [hs.out, O1.out]; first | (simp; done) | (simp [*]; done) | (simp [*, someB]; done), hx⟩
              case measure => simp [intOf]
        · have O1 := Lib.hid o1
          have hkb : ((4 : Int) == dueWhich ⟨p0, p1, p2, p3, p4, p5, p6, p7⟩ ⟨t0, t1, t2, t3⟩) = false := by rw [beq_eq_false_iff_ne]; exact fun h => o2 h.symm
          clear o1 o2
          go_wp2_with (go_at_call 21; refine (due_calls _ _ _ _ _ _ _ _ _ _ _ _ _).mono ?_; rw [O1.out]; rintro e w1 ⟨rfl, hb⟩; replace hx := ext_trans (ext_alloc hx _) hb; clear hb)
          all_goals
            go_roundw
            case rel => exact ⟨5, by omega, by omega, rfl, by rw [hs.out, O1.out]; first | (simp; done) | (simp [*]; done) | (simp [*, someB]; done), hx⟩
            case measure => simp [intOf]
      · have h5 : (someB ⟨p0, p1, p2, p3, p4, p5, p6, p7⟩ ⟨t0, t1, t2, t3⟩ 5 == dueOk ⟨p0, p1, p2, p3, p4, p5, p6, p7⟩ ⟨t0, t1, t2, t3⟩) = true := by rw [someB_five hr]; simp
        go_wp2_with (go_at_call 22; refine (awake15_calls _).mono ?_; rintro e w1 ⟨rfl, hb⟩; replace hx := ext_trans hx hb; clear hb)
        go_ret
        exact ⟨rfl, ext_trans hxw hx⟩
  · have H1 := Lib.hid (show dueAt ⟨p0, p1, p2, p3, p4, p5, p6, p7⟩ ⟨t0, t1, t2, t3⟩ = 0 from by unfold dueAt; simp [hr])
    have H2 := Lib.hid (show dueWhich ⟨p0, p1, p2, p3, p4, p5, p6, p7⟩ ⟨t0, t1, t2, t3⟩ = 0 from by unfold dueWhich; simp [hr])
    have H3 := Lib.hid (show dueOk ⟨p0, p1, p2, p3, p4, p5, p6, p7⟩ ⟨t0, t1, t2, t3⟩ = false from by unfold dueOk; rw [H2.out]; rfl)
    replace hr : rightB ⟨p0, p1, p2, p3, p4, p5, p6, p7⟩ = false := by simpa using hr
    go_enter Try.func8, Try.ntmps8
    go_wp2_with fail
    obtain ⟨W0, hW, hxw, hall, hal2⟩ := box2 w #[.int .i64 p0, .int .i64 p1, .int .i64 p2, .int .i64 p3, .int .i64 p4, .int .i64 p5, .int .i64 p6, .int .i64 p7] 23 #[.int .i64 t0, .int .i64 t1, .int .i64 t2, .int .i64 t3] 36
    rw [← hW]; clear hW
    have hx := ext_refl W0
    go_wp2_with (first | (go_at_call 21; refine (due_calls _ _ _ _ _ _ _ _ _ _ _ _ _).mono ?_; rw [H1.out, H2.out, H3.out]; rintro e w1 ⟨rfl, hb⟩; replace hx := ext_trans hx hb; clear hb) | (go_at_call 13; refine (right_calls _ _ _ _ _ _ _ _ _).mono ?_; rintro e w1 ⟨rfl, hb⟩; replace hx := ext_trans hx hb; clear hb) | (go_at_call 22; refine (awake15_calls _).mono ?_; rintro e w1 ⟨rfl, hb⟩; replace hx := ext_trans hx hb; clear hb))
    go_ret
    exact ⟨rfl, ext_trans hxw hx⟩
end Go.Proofs.Ytnjagdhpiehlpaa

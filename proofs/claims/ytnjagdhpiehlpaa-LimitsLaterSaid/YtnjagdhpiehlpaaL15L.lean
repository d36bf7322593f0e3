/- The law LimitsLater walked. -/
import Derived.Test.YtnjagdhpiehlpaaL15
namespace Go.Proofs.Ytnjagdhpiehlpaa
open Go.RowKit

/-! ### Later begins -/
theorem plusF_mono {a b : Int} (c : Int) (h : a ≤ b) : plusF a c ≤ plusF b c := by
  simp only [plusF_eq]; unfold mn mx; (repeat' split) <;> omega
theorem due_att {p : Pol} {t : Tms} (hr : rightB p = true) : (dueOk p t = true ∧ ∃ x ∈ allX p t, Pres x ∧ dueAt p t = dueX x ∧ ∀ y ∈ allX p t, Pres y → dueAt p t ≤ dueX y) ∨ (dueOk p t = false ∧ dueAt p t = 0 ∧ ∀ y ∈ allX p t, ¬ Pres y) := by
  have h := inv_all p t
  have ha : dueAt p t = (dueS p t).2 := by unfold dueAt; rw [if_pos hr]
  have hw : dueWhich p t = (dueS p t).1 := by unfold dueWhich; rw [if_pos hr]
  rw [ha, show dueOk p t = decide (0 < dueWhich p t) from rfl, hw]
  generalize dueS p t = fd at *
  rcases h with ⟨rfl, h⟩ | ⟨⟨z, hz, hpz, hfd⟩, h⟩
  · exact .inr ⟨rfl, rfl, h⟩
  · subst hfd
    exact .inl ⟨by simpa using allX_pos p t z hz, z, hz, hpz, rfl, h⟩
theorem dueAt_bd (p : Pol) (t : Tms) : 0 ≤ dueAt p t ∧ dueAt p t ≤ 1099511627776 := by
  by_cases hr : rightB p = true
  · rcases due_att (t := t) hr with ⟨_, x, _, _, h, _⟩ | ⟨_, h, _⟩
    · rw [h]; exact plusF_bd _ _
    · rw [h]; omega
  · unfold dueAt; rw [if_neg hr]; omega
theorem later_pure {p : Pol} {t u : Tms} (hr : rightB p = true) (h0 : 0 ≤ t.put) (h1 : 0 ≤ t.since) (h2 : 0 ≤ t.tried) (h3 : 0 ≤ t.beat) (k0 : t.put ≤ u.put) (k1 : t.since ≤ u.since) (k2 : t.tried ≤ u.tried) (k3 : t.beat ≤ u.beat) :
    dueOk p t = dueOk p u ∧ dueAt p t ≤ dueAt p u := by
  have hup : ∀ y ∈ allX p u, ∃ x ∈ allX p t, dueX x ≤ dueX y ∧ (Pres y → Pres x) ∧ (Pres x → Pres y) := by
    intro y hy
    simp only [allX, List.mem_cons, List.not_mem_nil, or_false] at hy
    rcases hy with rfl | rfl | rfl | rfl
    · exact ⟨(3, t.put, p.allIn), by simp [allX], plusF_mono _ k0, fun h => ⟨h.1, h0⟩, fun h => ⟨h.1, Int.le_trans h0 k0⟩⟩
    · exact ⟨(1, t.since, p.startIn), by simp [allX], plusF_mono _ k1, fun h => ⟨h.1, h1⟩, fun h => ⟨h.1, Int.le_trans h1 k1⟩⟩
    · exact ⟨(2, t.tried, p.runIn), by simp [allX], plusF_mono _ k2, fun h => ⟨h.1, h2⟩, fun h => ⟨h.1, Int.le_trans h2 k2⟩⟩
    · exact ⟨(4, t.beat, p.beatIn), by simp [allX], plusF_mono _ k3, fun h => ⟨h.1, h3⟩, fun h => ⟨h.1, Int.le_trans h3 k3⟩⟩
  have hdn : ∀ x ∈ allX p t, Pres x → ∃ y ∈ allX p u, Pres y := by
    intro y hy hp
    simp only [allX, List.mem_cons, List.not_mem_nil, or_false] at hy
    rcases hy with rfl | rfl | rfl | rfl
    · exact ⟨(3, u.put, p.allIn), by simp [allX], hp.1, Int.le_trans h0 k0⟩
    · exact ⟨(1, u.since, p.startIn), by simp [allX], hp.1, Int.le_trans h1 k1⟩
    · exact ⟨(2, u.tried, p.runIn), by simp [allX], hp.1, Int.le_trans h2 k2⟩
    · exact ⟨(4, u.beat, p.beatIn), by simp [allX], hp.1, Int.le_trans h3 k3⟩
  rcases due_att (t := t) hr with ⟨o1, x, hx, px, ex, mx⟩ | ⟨o1, e1, n1⟩
  · rcases due_att (t := u) hr with ⟨o2, y, hy, py, ey, _⟩ | ⟨o2, e2, n2⟩
    · refine ⟨by rw [o1, o2], ?_⟩
      obtain ⟨z, hz, hle, hpz, _⟩ := hup y hy
      have := mx z hz (hpz py); omega
    · obtain ⟨y, hy, py⟩ := hdn x hx px; exact (n2 y hy py).elim
  · rcases due_att (t := u) hr with ⟨o2, y, hy, py, ey, _⟩ | ⟨o2, e2, n2⟩
    · obtain ⟨z, hz, _, hpz, _⟩ := hup y hy; exact (n1 z hz (hpz py)).elim
    · exact ⟨by rw [o1, o2], by rw [e1, e2]; exact Int.le_refl _⟩

set_option maxRecDepth 100000 in
set_option maxHeartbeats 8000000 in
theorem later_walk (p0 p1 p2 p3 p4 p5 p6 p7 t0 t1 t2 t3 b0 b1 b2 b3 : Int) (w : World) (hb0 : 0 ≤ b0 ∧ b0 ≤ 65535) (hb1 : 0 ≤ b1 ∧ b1 ≤ 65535) (hb2 : 0 ≤ b2 ∧ b2 ≤ 65535) (hb3 : 0 ≤ b3 ∧ b3 ≤ 65535) :
    Calls Try.prog 9 #[.agg #[.int .i64 p0, .int .i64 p1, .int .i64 p2, .int .i64 p3, .int .i64 p4, .int .i64 p5, .int .i64 p6, .int .i64 p7], .agg #[.int .i64 t0, .int .i64 t1, .int .i64 t2, .int .i64 t3], .agg #[.int .u16 b0, .int .u16 b1, .int .u16 b2, .int .u16 b3]] w fun e w' => e = .returned (.bool true) ∧ Ext w w' := by
  obtain ⟨q0, r0⟩ := hb0; obtain ⟨q1, r1⟩ := hb1; obtain ⟨q2, r2⟩ := hb2; obtain ⟨q3, r3⟩ := hb3
  by_cases hr : rightB ⟨p0, p1, p2, p3, p4, p5, p6, p7⟩ = true
  · go_enter Try.func9, Try.ntmps9
    go_wp2_with fail
    obtain ⟨W0, hW, hxw, hall, hal2, hal3⟩ := box3e w #[.int .i64 p0, .int .i64 p1, .int .i64 p2, .int .i64 p3, .int .i64 p4, .int .i64 p5, .int .i64 p6, .int .i64 p7] 23 #[.int .i64 t0, .int .i64 t1, .int .i64 t2, .int .i64 t3] 36 #[.int .u16 b0, .int .u16 b1, .int .u16 b2, .int .u16 b3] 40
    rw [← hW]; clear hW
    have hx := ext_refl W0
    go_wp2_with (go_at_call 13; refine (right_calls _ _ _ _ _ _ _ _ _).mono ?_; rintro e w1 ⟨rfl, hb⟩; replace hx := ext_trans hx hb; clear hb)
    have i0 : ∀ w, (Instr.index 41 (.agg #[.int .i64 t0, .int .i64 t1, .int .i64 t2, .int .i64 t3]) (.int .i64 0)).run Try.prog w = .ok (.int .i64 t0) w := fun _ => by kernel_rfl
    have i1 : ∀ w, (Instr.index 41 (.agg #[.int .i64 t0, .int .i64 t1, .int .i64 t2, .int .i64 t3]) (.int .i64 1)).run Try.prog w = .ok (.int .i64 t1) w := fun _ => by kernel_rfl
    have i2 : ∀ w, (Instr.index 41 (.agg #[.int .i64 t0, .int .i64 t1, .int .i64 t2, .int .i64 t3]) (.int .i64 2)).run Try.prog w = .ok (.int .i64 t2) w := fun _ => by kernel_rfl
    have i3 : ∀ w, (Instr.index 41 (.agg #[.int .i64 t0, .int .i64 t1, .int .i64 t2, .int .i64 t3]) (.int .i64 3)).run Try.prog w = .ok (.int .i64 t3) w := fun _ => by kernel_rfl
    by_cases hg : (0 ≤ t0 ∧ t0 ≤ 1099511627776) ∧ (0 ≤ t1 ∧ t1 ≤ 1099511627776) ∧ (0 ≤ t2 ∧ t2 ≤ 1099511627776) ∧ (0 ≤ t3 ∧ t3 ≤ 1099511627776)
    · obtain ⟨⟨a0, c0⟩, ⟨a1, c1⟩, ⟨a2, c2⟩, ⟨a3, c3⟩⟩ := hg
      have hl := later_pure (t := ⟨t0, t1, t2, t3⟩) (u := ⟨t0 + b0, t1 + b1, t2 + b2, t3 + b3⟩) hr a0 a1 a2 a3 (by simp only; omega) (by simp only; omega) (by simp only; omega) (by simp only; omega)
      obtain ⟨l1, l2⟩ := hl
      have l3 := (dueAt_bd ⟨p0, p1, p2, p3, p4, p5, p6, p7⟩ ⟨t0 + b0, t1 + b1, t2 + b2, t3 + b3⟩).2
      have l4 : (dueOk ⟨p0, p1, p2, p3, p4, p5, p6, p7⟩ ⟨t0, t1, t2, t3⟩ == dueOk ⟨p0, p1, p2, p3, p4, p5, p6, p7⟩ ⟨t0 + b0, t1 + b1, t2 + b2, t3 + b3⟩) = true := by rw [l1]; simp
      clear l1
      refine wp_loop_rounds 5 ?_
      rw [rounds_succ]; go_wp2
      rw [rounds_succ]; go_wp2
      rw [rounds_succ]; go_wp2
      rw [rounds_succ]; go_wp2
      rw [rounds_succ]; go_wp2_with (first | (go_at_call 21; refine (due_calls _ _ _ _ _ _ _ _ _ _ _ _ _).mono ?_; rintro e w1 ⟨rfl, hb⟩; have hcc := (bcell hb).1; replace hx : Ext W0 w1 := (by first | exact ext_trans hx hb | exact ext_trans (ext_alloc hx _) hb); clear hb) | (go_at_call 22; refine (awake15_calls _).mono ?_; rintro e w1 ⟨rfl, hb⟩; replace hx := ext_trans hx hb; clear hb))
      go_ret
      exact ⟨rfl, ext_trans hxw hx⟩
    · have hbad : ((t0 < 0 ∨ (0 ≤ t0 ∧ 1099511627776 < t0))) ∨ ((0 ≤ t0 ∧ t0 ≤ 1099511627776) ∧ (t1 < 0 ∨ (0 ≤ t1 ∧ 1099511627776 < t1))) ∨ ((0 ≤ t0 ∧ t0 ≤ 1099511627776) ∧ (0 ≤ t1 ∧ t1 ≤ 1099511627776) ∧ (t2 < 0 ∨ (0 ≤ t2 ∧ 1099511627776 < t2))) ∨ ((0 ≤ t0 ∧ t0 ≤ 1099511627776) ∧ (0 ≤ t1 ∧ t1 ≤ 1099511627776) ∧ (0 ≤ t2 ∧ t2 ≤ 1099511627776) ∧ (t3 < 0 ∨ (0 ≤ t3 ∧ 1099511627776 < t3))) := by omega
      clear hg
      rcases hbad with (h | ⟨h, h'⟩) | ⟨⟨a0, c0⟩, h | ⟨h, h'⟩⟩ | ⟨⟨a0, c0⟩, ⟨a1, c1⟩, h | ⟨h, h'⟩⟩ | ⟨⟨a0, c0⟩, ⟨a1, c1⟩, ⟨a2, c2⟩, h | ⟨h, h'⟩⟩
      all_goals
        refine wp_loop_rounds 5 ?_
        rw [rounds_succ]; go_wp2_with (go_at_call 22; refine (awake15_calls _).mono ?_; rintro e w1 ⟨rfl, hb⟩; replace hx := ext_trans hx hb; clear hb)
        try (rw [rounds_succ]; go_wp2_with (go_at_call 22; refine (awake15_calls _).mono ?_; rintro e w1 ⟨rfl, hb⟩; replace hx := ext_trans hx hb; clear hb))
        try (rw [rounds_succ]; go_wp2_with (go_at_call 22; refine (awake15_calls _).mono ?_; rintro e w1 ⟨rfl, hb⟩; replace hx := ext_trans hx hb; clear hb))
        try (rw [rounds_succ]; go_wp2_with (go_at_call 22; refine (awake15_calls _).mono ?_; rintro e w1 ⟨rfl, hb⟩; replace hx := ext_trans hx hb; clear hb))
        go_ret
        exact ⟨rfl, ext_trans hxw hx⟩
  · replace hr : rightB ⟨p0, p1, p2, p3, p4, p5, p6, p7⟩ = false := by simpa using hr
    go_enter Try.func9, Try.ntmps9
    go_wp2_with fail
    obtain ⟨W0, hW, hxw, hall, hal2, hal3⟩ := box3e w #[.int .i64 p0, .int .i64 p1, .int .i64 p2, .int .i64 p3, .int .i64 p4, .int .i64 p5, .int .i64 p6, .int .i64 p7] 23 #[.int .i64 t0, .int .i64 t1, .int .i64 t2, .int .i64 t3] 36 #[.int .u16 b0, .int .u16 b1, .int .u16 b2, .int .u16 b3] 40
    rw [← hW]; clear hW
    have hx := ext_refl W0
    go_wp2_with (first | (go_at_call 13; refine (right_calls _ _ _ _ _ _ _ _ _).mono ?_; rintro e w1 ⟨rfl, hb⟩; replace hx := ext_trans hx hb; clear hb) | (go_at_call 22; refine (awake15_calls _).mono ?_; rintro e w1 ⟨rfl, hb⟩; replace hx := ext_trans hx hb; clear hb))
    go_ret
    exact ⟨rfl, ext_trans hxw hx⟩
end Go.Proofs.Ytnjagdhpiehlpaa

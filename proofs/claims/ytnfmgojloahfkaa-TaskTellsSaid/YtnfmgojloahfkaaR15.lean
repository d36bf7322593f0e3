/- What the document's functions of layer 15 do: the same. -/
import Derived.Test.YtnfmgojloahfkaaS15
import Derived.Test.YtnfmgojloahfkaaR14
namespace Go.Proofs.Ytnfmgojloahfkaa
set_option linter.unusedVariables false
set_option linter.unusedSimpArgs false
open Go.RowKit

theorem rends_calls (k : Int) (w : World) :
    Calls Try.prog 56 #[.int .i64 k] w fun e w' => e = .returned (.bool (decide (k = 3) || decide (k = 1))) ∧ w = w' := by
  go_enter Try.func56, Try.ntmps56
  go_wp2
  all_goals (go_ret; exact ⟨by first | rfl | (simp; done) | (simp; omega), rfl⟩)

/-- The four timeouts, by number. -/
def inN (p : Pol) : Nat → Int
  | 0 => p.allIn | 1 => p.startIn | 2 => p.runIn | _ => p.beatIn
def frN (t : Tms) : Nat → Int
  | 0 => t.put | 1 => t.since | 2 => t.tried | _ => t.beat
def whN : Nat → Int
  | 0 => 3 | 1 => 1 | 2 => 2 | _ => 4
def fdN (p : Pol) (t : Tms) : Nat → Int × Int
  | 0 => (0, 0)
  | k + 1 => stepF (fdN p t k) (whN k) (frN t k) (inN p k)
theorem fdN_four (p : Pol) (t : Tms) : fdN p t 4 = dueS p t := rfl
theorem whN_pos (k : Nat) : 0 < whN k := by unfold whN; split <;> decide
theorem lt4 {k : Nat} (h : k < 4) : k = 0 ∨ k = 1 ∨ k = 2 ∨ k = 3 := by omega

set_option maxRecDepth 100000 in
set_option maxHeartbeats 4000000 in
theorem rdue_calls (p0 p1 p2 p3 p4 p5 p6 p7 t0 t1 t2 t3 : Int) (w : World) :
    Calls Try.prog 55 #[.agg #[.int .i64 p0, .int .i64 p1, .int .i64 p2, .int .i64 p3, .int .i64 p4, .int .i64 p5, .int .i64 p6, .int .i64 p7], .agg #[.int .i64 t0, .int .i64 t1, .int .i64 t2, .int .i64 t3]] w fun e w' => e = .returned (.tuple #[.int .i64 (dueAt ⟨p0, p1, p2, p3, p4, p5, p6, p7⟩ ⟨t0, t1, t2, t3⟩), .int .i64 (dueWhich ⟨p0, p1, p2, p3, p4, p5, p6, p7⟩ ⟨t0, t1, t2, t3⟩), .bool (dueOk ⟨p0, p1, p2, p3, p4, p5, p6, p7⟩ ⟨t0, t1, t2, t3⟩)]) ∧ Ext w w' := by
  by_cases hr : rightB ⟨p0, p1, p2, p3, p4, p5, p6, p7⟩ = true
  · have H1 := Lib.hid (show dueAt ⟨p0, p1, p2, p3, p4, p5, p6, p7⟩ ⟨t0, t1, t2, t3⟩ = (fdN ⟨p0, p1, p2, p3, p4, p5, p6, p7⟩ ⟨t0, t1, t2, t3⟩ 4).2 from by unfold dueAt; rw [if_pos hr]; rfl)
    have H2 := Lib.hid (show dueWhich ⟨p0, p1, p2, p3, p4, p5, p6, p7⟩ ⟨t0, t1, t2, t3⟩ = (fdN ⟨p0, p1, p2, p3, p4, p5, p6, p7⟩ ⟨t0, t1, t2, t3⟩ 4).1 from by unfold dueWhich; rw [if_pos hr]; rfl)
    have H3 := Lib.hid (show dueOk ⟨p0, p1, p2, p3, p4, p5, p6, p7⟩ ⟨t0, t1, t2, t3⟩ = decide (0 < (fdN ⟨p0, p1, p2, p3, p4, p5, p6, p7⟩ ⟨t0, t1, t2, t3⟩ 4).1) from by unfold dueOk; rw [H2.out])
    go_enter Try.func55, Try.ntmps55
    go_wp2_with fail
    obtain ⟨W0, hW, hxw, hall, hal2⟩ := box2 w #[.int .i64 p0, .int .i64 p1, .int .i64 p2, .int .i64 p3, .int .i64 p4, .int .i64 p5, .int .i64 p6, .int .i64 p7] 23 #[.int .i64 t0, .int .i64 t1, .int .i64 t2, .int .i64 t3] 43
    rw [← hW]; clear hW
    have hx := ext_refl W0
    go_wp2_with (go_at_call 45; refine (rright_calls _ _ _ _ _ _ _ _ _).mono ?_; rintro e w1 ⟨rfl, hb⟩; replace hx := ext_trans hx hb; clear hb)
    obtain ⟨W2, hW, hxw2, hb1, hb2, hb3⟩ := box3e w1 #[.int .i64 p5, .int .i64 p3, .int .i64 p4, .int .i64 p6] 2 #[.int .i64 t0, .int .i64 t1, .int .i64 t2, .int .i64 t3] 2 #[.int .i64 3, .int .i64 1, .int .i64 2, .int .i64 4] 3
    rw [← hW]; clear hW
    replace hb3 : ∀ w', Ext W2 w' → ∀ i, w'.cell? ⟨w1.heap.size + 1 + 1, i, none⟩ = #[Value.int .i64 3, .int .i64 1, .int .i64 2, .int .i64 4][i]? := hb3
    have fin : ∀ w', Ext W2 w' → Ext w w' := fun w' h => ext_trans hxw (ext_trans hx (ext_trans hxw2 h))
    clear hall hal2 hxw hxw2 hx
    go_loopw [10, 11] (fun b i wr => ∃ (k : Nat) (bst : Int), k ≤ 4 ∧ i = .int .i64 k ∧ b = .int .i64 bst ∧ ((bst = -1 ∧ fdN ⟨p0, p1, p2, p3, p4, p5, p6, p7⟩ ⟨t0, t1, t2, t3⟩ k = (0, 0)) ∨ ∃ j : Nat, j < k ∧ bst = j ∧ fdN ⟨p0, p1, p2, p3, p4, p5, p6, p7⟩ ⟨t0, t1, t2, t3⟩ k = (whN j, plusF (frN ⟨t0, t1, t2, t3⟩ j) (inN ⟨p0, p1, p2, p3, p4, p5, p6, p7⟩ j))) ∧ Ext W2 wr) (fun _ i _ => 4 - (intOf i).toNat)
    case atStart => exact ⟨0, -1, by omega, rfl, rfl, .inl ⟨rfl, rfl⟩, ext_refl _⟩
    case round =>
      obtain ⟨k, bst, hk, rfl, rfl, hb, hx⟩ := hrel
      have cells : ∀ k : Nat, k < 4 → wr.cell? ⟨w1.heap.size, k, none⟩ = some (.int .i64 (inN ⟨p0, p1, p2, p3, p4, p5, p6, p7⟩ k)) ∧ wr.cell? ⟨w1.heap.size + 1, k, none⟩ = some (.int .i64 (frN ⟨t0, t1, t2, t3⟩ k)) ∧ wr.cell? ⟨w1.heap.size + 1 + 1, k, none⟩ = some (.int .i64 (whN k)) := by
        intro k hk
        rw [hb1 wr hx, hb2 wr hx, hb3 wr hx]
        rcases lt4 hk with rfl | rfl | rfl | rfl <;> exact ⟨rfl, rfl, rfl⟩
      clear hb1 hb2 hb3
      by_cases hk4 : k < 4
      · have HS := Lib.hid (show fdN ⟨p0, p1, p2, p3, p4, p5, p6, p7⟩ ⟨t0, t1, t2, t3⟩ (k + 1) = stepF (fdN ⟨p0, p1, p2, p3, p4, p5, p6, p7⟩ ⟨t0, t1, t2, t3⟩ k) (whN k) (frN ⟨t0, t1, t2, t3⟩ k) (inN ⟨p0, p1, p2, p3, p4, p5, p6, p7⟩ k) from rfl)
        obtain ⟨c1, c2, c3⟩ := cells k hk4
        by_cases h1 : inN ⟨p0, p1, p2, p3, p4, p5, p6, p7⟩ k ≤ 0
        · have HB := Lib.hid hb; clear hb cells
          have HT := Lib.hid (show stepF (fdN ⟨p0, p1, p2, p3, p4, p5, p6, p7⟩ ⟨t0, t1, t2, t3⟩ k) (whN k) (frN ⟨t0, t1, t2, t3⟩ k) (inN ⟨p0, p1, p2, p3, p4, p5, p6, p7⟩ k) = fdN ⟨p0, p1, p2, p3, p4, p5, p6, p7⟩ ⟨t0, t1, t2, t3⟩ k from by unfold stepF; rw [if_neg (by omega)])
          go_wp2
          go_roundw
          case rel => exact ⟨k + 1, bst, by omega, by go_num, rfl, by rw [HS.out, HT.out]; exact HB.out.imp id (fun ⟨j, a, b⟩ => ⟨j, by omega, b⟩), hx⟩
          case measure => simp [intOf]; omega
        · by_cases h2 : frN ⟨t0, t1, t2, t3⟩ k < 0
          · have HB := Lib.hid hb; clear hb cells
            have HT := Lib.hid (show stepF (fdN ⟨p0, p1, p2, p3, p4, p5, p6, p7⟩ ⟨t0, t1, t2, t3⟩ k) (whN k) (frN ⟨t0, t1, t2, t3⟩ k) (inN ⟨p0, p1, p2, p3, p4, p5, p6, p7⟩ k) = fdN ⟨p0, p1, p2, p3, p4, p5, p6, p7⟩ ⟨t0, t1, t2, t3⟩ k from by unfold stepF; rw [if_neg (by omega)])
            go_wp2
            go_roundw
            case rel => exact ⟨k + 1, bst, by omega, by go_num, rfl, by rw [HS.out, HT.out]; exact HB.out.imp id (fun ⟨j, a, b⟩ => ⟨j, by omega, b⟩), hx⟩
            case measure => simp [intOf]; omega
          · rcases hb with ⟨rfl, h0⟩ | ⟨j, hj, rfl, h0⟩
            · have HT := Lib.hid (show stepF (fdN ⟨p0, p1, p2, p3, p4, p5, p6, p7⟩ ⟨t0, t1, t2, t3⟩ k) (whN k) (frN ⟨t0, t1, t2, t3⟩ k) (inN ⟨p0, p1, p2, p3, p4, p5, p6, p7⟩ k) = (whN k, plusF (frN ⟨t0, t1, t2, t3⟩ k) (inN ⟨p0, p1, p2, p3, p4, p5, p6, p7⟩ k)) from by unfold stepF; rw [if_pos ⟨by omega, .inl (by rw [h0])⟩])
              clear h0 cells
              go_wp2
              go_quiet ((go_at_call 60; exact Calls.quiet_of_same ((rplus_calls _ _ _).mono fun _ _ h => ⟨h.1, h.2.symm⟩)))
              go_wp2
              go_roundw
              case rel => exact ⟨k + 1, k, by omega, by go_num, rfl, .inr ⟨k, by omega, rfl, by rw [HS.out, HT.out]⟩, ext_drewN hx _⟩
              case measure => simp [intOf]; omega
            · obtain ⟨d1, d2, d3⟩ := cells j (by omega)
              have hw := whN_pos j
              have hj0 : decide ((j : Int) < 0) = false := by simp
              by_cases hlt : plusF (frN ⟨t0, t1, t2, t3⟩ k) (inN ⟨p0, p1, p2, p3, p4, p5, p6, p7⟩ k) < plusF (frN ⟨t0, t1, t2, t3⟩ j) (inN ⟨p0, p1, p2, p3, p4, p5, p6, p7⟩ j)
              · have HT := Lib.hid (show stepF (fdN ⟨p0, p1, p2, p3, p4, p5, p6, p7⟩ ⟨t0, t1, t2, t3⟩ k) (whN k) (frN ⟨t0, t1, t2, t3⟩ k) (inN ⟨p0, p1, p2, p3, p4, p5, p6, p7⟩ k) = (whN k, plusF (frN ⟨t0, t1, t2, t3⟩ k) (inN ⟨p0, p1, p2, p3, p4, p5, p6, p7⟩ k)) from by unfold stepF; rw [if_pos ⟨by omega, .inr (by rw [h0]; exact hlt)⟩])
                clear h0 cells hw
                go_wp2
                go_quiet ((go_at_call 60; exact Calls.quiet_of_same ((rplus_calls _ _ _).mono fun _ _ h => ⟨h.1, h.2.symm⟩)))
                go_wp2
                go_roundw
                case rel => exact ⟨k + 1, k, by omega, by go_num, rfl, .inr ⟨k, by omega, rfl, by rw [HS.out, HT.out]⟩, ext_drewN hx _⟩
                case measure => simp [intOf]; omega
              · have HT := Lib.hid (show stepF (fdN ⟨p0, p1, p2, p3, p4, p5, p6, p7⟩ ⟨t0, t1, t2, t3⟩ k) (whN k) (frN ⟨t0, t1, t2, t3⟩ k) (inN ⟨p0, p1, p2, p3, p4, p5, p6, p7⟩ k) = fdN ⟨p0, p1, p2, p3, p4, p5, p6, p7⟩ ⟨t0, t1, t2, t3⟩ k from by unfold stepF; rw [if_neg (by rw [h0]; simp only; omega)])
                have HB := Lib.hid h0
                clear h0 cells hw
                go_wp2
                go_quiet ((go_at_call 60; exact Calls.quiet_of_same ((rplus_calls _ _ _).mono fun _ _ h => ⟨h.1, h.2.symm⟩)))
                go_wp2
                go_roundw
                case rel => exact ⟨k + 1, j, by omega, by go_num, rfl, .inr ⟨j, by omega, rfl, by rw [HS.out, HT.out, HB.out]⟩, ext_drewN hx _⟩
                case measure => simp [intOf]; omega
      · obtain rfl : k = 4 := by omega
        rcases hb with ⟨rfl, h0⟩ | ⟨j, hj, rfl, h0⟩
        · have HB := Lib.hid h0
          clear h0 cells
          go_wp2
          go_ret3
          exact ⟨by rw [H1.out, H2.out, H3.out, HB.out]; rfl, fin _ hx⟩
        · obtain ⟨d1, d2, d3⟩ := cells j hj
          have HB := Lib.hid h0
          have hw := Lib.hid (whN_pos j)
          clear h0 cells
          go_wp2
          go_quiet ((go_at_call 60; exact Calls.quiet_of_same ((rplus_calls _ _ _).mono fun _ _ h => ⟨h.1, h.2.symm⟩)))
          go_wp2
          go_ret3
          exact ⟨by rw [H1.out, H2.out, H3.out, HB.out]; simp [hw.out], fin _ (ext_drewN hx _)⟩
  · replace hr : rightB ⟨p0, p1, p2, p3, p4, p5, p6, p7⟩ = false := by simpa using hr
    have H1 := Lib.hid (show dueAt ⟨p0, p1, p2, p3, p4, p5, p6, p7⟩ ⟨t0, t1, t2, t3⟩ = 0 from by unfold dueAt; simp [hr])
    have H2 := Lib.hid (show dueWhich ⟨p0, p1, p2, p3, p4, p5, p6, p7⟩ ⟨t0, t1, t2, t3⟩ = 0 from by unfold dueWhich; simp [hr])
    have H3 := Lib.hid (show dueOk ⟨p0, p1, p2, p3, p4, p5, p6, p7⟩ ⟨t0, t1, t2, t3⟩ = false from by unfold dueOk; rw [H2.out]; rfl)
    go_enter Try.func55, Try.ntmps55
    go_wp2_with fail
    obtain ⟨W0, hW, hxw, hall, hal2⟩ := box2 w #[.int .i64 p0, .int .i64 p1, .int .i64 p2, .int .i64 p3, .int .i64 p4, .int .i64 p5, .int .i64 p6, .int .i64 p7] 23 #[.int .i64 t0, .int .i64 t1, .int .i64 t2, .int .i64 t3] 43
    rw [← hW]; clear hW
    have hx := ext_refl W0
    go_wp2_with (go_at_call 45; refine (rright_calls _ _ _ _ _ _ _ _ _).mono ?_; rintro e w1 ⟨rfl, hb⟩; replace hx := ext_trans hx hb; clear hb)
    go_ret3
    exact ⟨by rw [H1.out, H2.out, H3.out]; rfl, ext_trans hxw hx⟩
end Go.Proofs.Ytnfmgojloahfkaa

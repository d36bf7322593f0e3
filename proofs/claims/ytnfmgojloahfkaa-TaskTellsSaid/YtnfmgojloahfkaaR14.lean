/- What the document's functions of layer 14 do: the same. -/
import Derived.Test.YtnfmgojloahfkaaC14
namespace Go.Proofs.Ytnfmgojloahfkaa
set_option linter.unusedVariables false
set_option linter.unusedSimpArgs false
open Go.RowKit

/-! ### The document's waits -/
theorem waitW_stay {i c : Int} (hi : 0 ≤ i) (hc : 0 ≤ c) (hc' : c ≤ 1099511627776) {k : Nat} (h : waitW i c k = c ∨ waitW i c k = 0) : ∀ j, waitW i c (k + j) = waitW i c k
  | 0 => rfl
  | j + 1 => by
    rw [← Nat.add_assoc, waitW_succ_eq hi hc hc', waitW_stay hi hc hc' h j]
    split <;> omega
theorem waitW_64 {i c : Int} (hi : 0 ≤ i) (hc : 0 ≤ c) (hc' : c ≤ 1099511627776) (k : Nat) : waitW i c k = waitW i c (mn k 64).toNat := by
  by_cases h : k ≤ 64
  · have : (mn (k : Int) 64).toNat = k := by unfold mn; split <;> omega
    rw [this]
  · have h64 : (mn (k : Int) 64).toNat = 64 := by unfold mn; split <;> omega
    rw [h64]
    obtain ⟨d, rfl⟩ := Nat.exists_eq_add_of_le (show 64 ≤ k by omega)
    refine waitW_stay hi hc hc' ?_ d
    by_cases h0 : 0 < i
    · exact .inl (waitW_end h0 hc hc' (by omega))
    · right
      have : ∀ k, waitW i c k = 0 := by
        intro k
        induction k with
        | zero => unfold waitW mn; split <;> omega
        | succ k ih => rw [waitW_succ_eq hi hc hc', ih]; split <;> omega
      exact this 64
/-- One more round of the document's loop. -/
theorem rwait_step {i c x : Int} {k : Nat} (hi : 0 ≤ i) (hc : 0 ≤ c) (hc' : c ≤ 1099511627776) (_hx : 0 < x) (hxc : x < c) (h : mn x c = waitW i c k) : mn (x * 2) c = waitW i c (k + 1) := by
  rw [waitW_succ_eq hi hc hc', ← h]; unfold mn; (repeat' split) <;> omega
theorem rwait_end {i c x : Int} {k m : Nat} (hi : 0 ≤ i) (hc : 0 ≤ c) (hc' : c ≤ 1099511627776) (hkm : k ≤ m) (h : mn x c = waitW i c k) (he : k = m ∨ x = 0 ∨ c ≤ x) : mn x c = waitW i c m := by
  rcases he with he | he
  · rw [h, he]
  · obtain ⟨d, rfl⟩ := Nat.exists_eq_add_of_le hkm
    rw [h]; refine (waitW_stay hi hc hc' ?_ d).symm
    rw [← h]; unfold mn; split <;> omega

theorem rwithin_calls (a : Int) (w : World) :
    Calls Try.prog 57 #[.int .i64 a] w fun e w' => e = .returned (.bool (tm a)) ∧ w = w' := by
  go_enter Try.func57, Try.ntmps57
  go_wp2
  all_goals (go_ret; exact ⟨by first | rfl | (simp [tm]; done) | (simp [tm]; omega), rfl⟩)

set_option maxHeartbeats 2000000 in
theorem rright_calls (p0 p1 p2 p3 p4 p5 p6 p7 : Int) (w : World) :
    Calls Try.prog 45 #[.agg #[.int .i64 p0, .int .i64 p1, .int .i64 p2, .int .i64 p3, .int .i64 p4, .int .i64 p5, .int .i64 p6, .int .i64 p7]] w fun e w' => e = .returned (.bool (rightB ⟨p0, p1, p2, p3, p4, p5, p6, p7⟩)) ∧ Ext w w' := by
  go_enter Try.func45, Try.ntmps45
  go_wp2_with (go_at_call 57; refine (rwithin_calls _ _).mono ?_; rintro e w2 ⟨rfl, rfl⟩)
  all_goals (go_ret; refine ⟨?_, ext_alloc (ext_refl _) _⟩)
  all_goals first | (simp [rightB, *]; done) | (simp [rightB, *]; omega) | (simp_all [rightB]; omega)

theorem rplus_calls (a b : Int) (w : World) :
    Calls Try.prog 60 #[.int .i64 a, .int .i64 b] w fun e w' => e = .returned (.int .i64 (plusF a b)) ∧ w = w' := by
  go_enter Try.func60, Try.ntmps60
  go_wp2
  all_goals (go_ret; refine ⟨ret_int (k := .i64) ?_, rfl⟩)
  all_goals (unfold plusF mx mn; (repeat' split) <;> omega)

theorem rmore_calls (p0 p1 p2 p3 p4 p5 p6 p7 n : Int) (w : World) :
    Calls Try.prog 59 #[.agg #[.int .i64 p0, .int .i64 p1, .int .i64 p2, .int .i64 p3, .int .i64 p4, .int .i64 p5, .int .i64 p6, .int .i64 p7], .int .i64 n] w fun e w' => e = .returned (.bool (moreB ⟨p0, p1, p2, p3, p4, p5, p6, p7⟩ n)) ∧ Ext w w' := by
  by_cases hr : rightB ⟨p0, p1, p2, p3, p4, p5, p6, p7⟩ = true
  · have HM : Hid (moreB ⟨p0, p1, p2, p3, p4, p5, p6, p7⟩ n = (decide (0 ≤ n) && decide (n < p0))) := by unfold moreB; rw [hr]; simp [Hid]
    go_enter Try.func59, Try.ntmps59
    go_wp2_with fail
    obtain ⟨W0, hW, hxw, hall⟩ := box1 w #[.int .i64 p0, .int .i64 p1, .int .i64 p2, .int .i64 p3, .int .i64 p4, .int .i64 p5, .int .i64 p6, .int .i64 p7] 23
    rw [← hW]; clear hW
    have hx := ext_refl W0
    go_wp2_with (go_at_call 45; refine (rright_calls _ _ _ _ _ _ _ _ _).mono ?_; rintro e w1 ⟨rfl, hb⟩; replace hx := ext_trans hx hb; clear hb)
    all_goals (go_ret; refine ⟨by rw [HM.out]; first | rfl | (simp; done) | (simp [*]; done) | (simp [*]; omega), ext_trans hxw hx⟩)
  · have HM : Hid (moreB ⟨p0, p1, p2, p3, p4, p5, p6, p7⟩ n = false) := by unfold moreB; simp [Hid, hr]
    replace hr : rightB ⟨p0, p1, p2, p3, p4, p5, p6, p7⟩ = false := by simpa using hr
    go_enter Try.func59, Try.ntmps59
    go_wp2_with fail
    obtain ⟨W0, hW, hxw, hall⟩ := box1 w #[.int .i64 p0, .int .i64 p1, .int .i64 p2, .int .i64 p3, .int .i64 p4, .int .i64 p5, .int .i64 p6, .int .i64 p7] 23
    rw [← hW]; clear hW
    have hx := ext_refl W0
    go_wp2_with (go_at_call 45; refine (rright_calls _ _ _ _ _ _ _ _ _).mono ?_; rintro e w1 ⟨rfl, hb⟩; replace hx := ext_trans hx hb; clear hb)
    all_goals (go_ret; refine ⟨by rw [HM.out]; first | rfl | (simp; done) | (simp [*]; done) | (simp [*]; omega), ext_trans hxw hx⟩)

set_option maxRecDepth 100000 in
set_option maxHeartbeats 2000000 in
theorem rwait_calls (p0 p1 p2 p3 p4 p5 p6 p7 n j : Int) (w : World) (hn : n ≤ 9223372036854775807) :
    Calls Try.prog 61 #[.agg #[.int .i64 p0, .int .i64 p1, .int .i64 p2, .int .i64 p3, .int .i64 p4, .int .i64 p5, .int .i64 p6, .int .i64 p7], .int .i64 n, .int .i64 j] w fun e w' => e = .returned (.int .i64 (waitF ⟨p0, p1, p2, p3, p4, p5, p6, p7⟩ n j)) ∧ Ext w w' := by
  by_cases hr : rightB ⟨p0, p1, p2, p3, p4, p5, p6, p7⟩ = true
  · by_cases h1 : 1 ≤ n
    · have hR := (rightB_iff _).1 hr
      have ⟨q1, q1'⟩ := hR.init
      have ⟨q2, q3⟩ := hR.cap
      simp only at q1 q1' q2 q3
      clear hR
      obtain ⟨m, rfl⟩ : ∃ m : Nat, n = (m : Int) + 1 := ⟨(n - 1).toNat, by omega⟩
      have hm' : (m : Int) ≤ 9223372036854775806 := by omega
      clear hn h1
      have HF : Hid (∀ x, mn x p2 = waitW p1 p2 m → waitF ⟨p0, p1, p2, p3, p4, p5, p6, p7⟩ (m + 1) j = plusF (mn x p2) j) := by
        intro x hx
        unfold waitF; rw [if_pos ⟨hr, by omega⟩, hx]; simp only [Int.add_sub_cancel]; rw [← waitW_64 q1 q2 q3]
      go_enter Try.func61, Try.ntmps61
      go_wp2_with fail
      obtain ⟨W0, hW, hxw, hall⟩ := box1 w #[.int .i64 p0, .int .i64 p1, .int .i64 p2, .int .i64 p3, .int .i64 p4, .int .i64 p5, .int .i64 p6, .int .i64 p7] 23
      rw [← hW]; clear hW
      have hx := ext_refl W0
      go_wp2_with (go_at_call 45; refine (rright_calls _ _ _ _ _ _ _ _ _).mono ?_; rintro e w1 ⟨rfl, hb⟩; replace hx := ext_trans hx hb; clear hb)
      go_loopw [7, 8] (fun v i wr => ∃ (k : Nat) (x : Int), k ≤ m ∧ i = .int .i64 ((k : Int) + 1) ∧ v = .int .i64 x ∧ 0 ≤ x ∧ x ≤ 2199023255552 ∧ mn x p2 = waitW p1 p2 k ∧ Ext W0 wr) (fun _ i _ => (m + 1 - intOf i).toNat)
      case atStart => exact ⟨0, p1, by omega, rfl, rfl, q1, by omega, rfl, hx⟩
      case round =>
        obtain ⟨k, x, hk, rfl, rfl, x1, x2, hmn, hx⟩ := hrel
        have Hmn := Lib.hid hmn; clear hmn
        by_cases hgo : k < m ∧ 0 < x ∧ x < p2
        · obtain ⟨g1, g2, g3⟩ := hgo
          go_wp2
          go_roundw
          case rel => exact ⟨k + 1, x * 2, by omega, by go_num, rfl, by omega, by omega, rwait_step q1 q2 q3 g2 g3 Hmn.out, hx⟩
          case measure => simp [intOf]; omega
        · have he := Lib.hid (HF.out x (rwait_end q1 q2 q3 hk Hmn.out (by omega)))
          have ht : k = m ∨ (k < m ∧ x = 0) ∨ (k < m ∧ 0 < x ∧ p2 ≤ x) := by omega
          by_cases hgt : p2 < x
          · have hmx : mn x p2 = p2 := by unfold mn; rw [if_pos hgt]
            rw [hmx] at he
            clear hmx hgo
            replace ht : k = m ∨ (k < m ∧ 0 < x ∧ p2 ≤ x) := by omega
            rcases ht with rfl | ⟨g1, g2, g3⟩
            all_goals
              go_wp2_with (go_at_call 60; refine (rplus_calls _ _ _).mono ?_; rintro e w2 ⟨rfl, rfl⟩)
              go_ret
              exact ⟨by rw [he.out]; rfl, ext_trans hxw hx⟩
          · have hmx : mn x p2 = x := by unfold mn; rw [if_neg hgt]
            rw [hmx] at he
            clear hmx hgo
            rcases ht with rfl | ⟨g1, rfl⟩ | ⟨g1, g2, g3⟩
            all_goals
              go_wp2_with (go_at_call 60; refine (rplus_calls _ _ _).mono ?_; rintro e w2 ⟨rfl, rfl⟩)
              go_ret
              exact ⟨by rw [he.out]; rfl, ext_trans hxw hx⟩
    · have HF : Hid (waitF ⟨p0, p1, p2, p3, p4, p5, p6, p7⟩ n j = 0) := by unfold waitF; rw [if_neg (by omega)]; rfl
      go_enter Try.func61, Try.ntmps61
      go_wp2_with fail
      obtain ⟨W0, hW, hxw, hall⟩ := box1 w #[.int .i64 p0, .int .i64 p1, .int .i64 p2, .int .i64 p3, .int .i64 p4, .int .i64 p5, .int .i64 p6, .int .i64 p7] 23
      rw [← hW]; clear hW
      have hx := ext_refl W0
      go_wp2_with (go_at_call 45; refine (rright_calls _ _ _ _ _ _ _ _ _).mono ?_; rintro e w1 ⟨rfl, hb⟩; replace hx := ext_trans hx hb; clear hb)
      go_ret
      exact ⟨by rw [HF.out]; rfl, ext_trans hxw hx⟩
  · have HF : Hid (waitF ⟨p0, p1, p2, p3, p4, p5, p6, p7⟩ n j = 0) := by unfold waitF; rw [if_neg (by simp [hr])]; rfl
    replace hr : rightB ⟨p0, p1, p2, p3, p4, p5, p6, p7⟩ = false := by simpa using hr
    go_enter Try.func61, Try.ntmps61
    go_wp2_with fail
    obtain ⟨W0, hW, hxw, hall⟩ := box1 w #[.int .i64 p0, .int .i64 p1, .int .i64 p2, .int .i64 p3, .int .i64 p4, .int .i64 p5, .int .i64 p6, .int .i64 p7] 23
    rw [← hW]; clear hW
    have hx := ext_refl W0
    go_wp2_with (go_at_call 45; refine (rright_calls _ _ _ _ _ _ _ _ _).mono ?_; rintro e w1 ⟨rfl, hb⟩; replace hx := ext_trans hx hb; clear hb)
    go_ret
    exact ⟨by rw [HF.out]; rfl, ext_trans hxw hx⟩
end Go.Proofs.Ytnfmgojloahfkaa

/- The laws' helpers of layer 10. -/
import Derived.Test.YtpfkpdimjljeaaaI10
namespace Go.Proofs.Ytpfkpdimjljeaaa
open Go.RowKit
set_option linter.unusedVariables false
set_option linter.unusedSimpArgs false

theorem pick_calls (x n : Int) (w : World) (hn : 1 ≤ n) (hn' : n ≤ 9223372036854775806) :
    Calls Try.prog 16 #[.int .i64 x, .int .i64 n] w fun e w' => e = .returned (.int .i64 (x % n)) ∧ w = w' := by
  have h0 : ¬ (n < 1) := by omega
  have h1 : ¬ (n = 0) := by omega
  have hb := Int.emod_nonneg x (show n ≠ 0 by omega)
  have hc := Int.emod_lt_of_pos x (show 0 < n by omega)
  have hd : (0 ≤ x.tmod n ∧ x.tmod n = x % n) ∨ (x.tmod n < 0 ∧ -n < x.tmod n ∧ x.tmod n + n = x % n) := by
    rw [Int.tmod_eq_emod]
    split
    · left; omega
    · have hna : (n.natAbs : Int) = n := by omega
      have hz : x % n ≠ 0 := by
        rename_i h
        intro h2
        exact h (.inr (Int.dvd_of_emod_eq_zero h2))
      right; omega
  rcases hd with ⟨d1, d2⟩ | ⟨d1, d2, d3⟩
  · go_enter Try.func16, Try.ntmps16
    go_wp2
    go_ret
    exact ⟨rfl, rfl⟩
  · go_enter Try.func16, Try.ntmps16
    go_wp2
    go_ret
    exact ⟨rfl, rfl⟩
set_option maxRecDepth 100000 in
set_option maxHeartbeats 4000000 in
theorem great_calls (p0 : ByteArray) (regs : Int) (s : Option Addr) (len cap : Nat) (I : Nat → Ins) (w : World) (hrows : Rows_ w s len 6 (fun i => insC (I i))) :
    Calls Try.prog 10 #[.agg #[.string p0, .int .i64 regs, .slice s len cap]] w fun e w' => (∃ g, e = .returned (.bool g)) ∧ Ext w w' := by
  have HROWS := Lib.hid hrows; clear hrows
  by_cases hA : (600 : Int) < len ∨ (3000 : Int) < p0.size
  · rcases hA with hA | hA
    all_goals
      go_enter Try.func10, Try.ntmps10
      go_wp2_with fail
      all_goals (go_ret; exact ⟨by simp, by repeat (first | exact ext_refl _ | assumption | refine ext_more' ?_ _ _ | refine ext_drew ?_ | refine ext_drewN ?_ _ | refine ext_alloc ?_ _)⟩)
  · have h1 : ¬ ((600 : Int) < len) := by omega
    have h2 : ¬ ((3000 : Int) < p0.size) := by omega
    clear hA
    go_enter Try.func10, Try.ntmps10
    go_wp2_with fail
    refine wp_at ?_
    intro W1 hW
    have hw : Ext w W1 := by rw [hW]; repeat (first | exact ext_refl _ | assumption | refine ext_more' ?_ _ _ | refine ext_drew ?_ | refine ext_drewN ?_ _ | refine ext_alloc ?_ _)
    obtain ⟨lp, cp⟩ := box_facts (by rw [hW]; repeat (first | exact ext_refl _ | assumption | refine ext_more' ?_ _ _ | refine ext_drew ?_ | refine ext_drewN ?_ _ | refine ext_alloc ?_ _) : Ext (World.alloc w (.cells _ _)) W1)
    clear hW
    have HW := Lib.hid hw
    go_loopg [3, 18] len (fun g v k wr => ∃ (i : Nat) (x : Int), wr = W1 ∧ v = .int .i64 x ∧ k = .int .i64 i ∧ g + i = len)
    case atStart => exact ⟨0, 0, rfl, rfl, rfl, by omega⟩
    case round =>
      obtain ⟨i, x, rfl, rfl, rfl, hgi⟩ := hrel
      by_cases hi : i < len
      · obtain ⟨b, o, rfl, hb, c0, c1, c2, c3, c4, c5⟩ := ins_cells HROWS.out hw hi
        have hi3 : (i : Int) < len := by omega
        go_wp2
        go_roundg (gk - 1)
        case measure => omega
        case rel => exact ⟨i + 1, _, rfl, rfl, by go_num, by omega⟩
      · have hi3 : ¬ ((i : Int) < len) := by omega
        go_wp2
        go_ret
        refine ⟨?_, by repeat (first | exact ext_refl _ | assumption | refine ext_more' ?_ _ _ | refine ext_drew ?_ | refine ext_drewN ?_ _ | refine ext_alloc ?_ _)⟩
        by_cases hq : (60000 : Int) < x <;> simp [hq]
end Go.Proofs.Ytpfkpdimjljeaaa

/- What run's functions do: the end. -/
import Derived.Test.YtpfkpdimjljeaaaF10
namespace Go.Proofs.Ytpfkpdimjljeaaa
open Go.RowKit
set_option linter.unusedVariables false
set_option linter.unusedSimpArgs false

theorem rn_reg (R : Rn) (k : Nat) (hk : k < 16) : (rnC R)[3 + k]? = some (.int .i64 (R.r k)) := by
  have : k = 0 ∨ k = 1 ∨ k = 2 ∨ k = 3 ∨ k = 4 ∨ k = 5 ∨ k = 6 ∨ k = 7 ∨ k = 8 ∨ k = 9 ∨ k = 10 ∨ k = 11 ∨ k = 12 ∨ k = 13 ∨ k = 14 ∨ k = 15 := by omega
  rcases this with rfl | rfl | rfl | rfl | rfl | rfl | rfl | rfl | rfl | rfl | rfl | rfl | rfl | rfl | rfl | rfl <;> rfl
def putR (r : Nat → Int) (k : Nat) (v : Int) : Nat → Int := fun j => if j = k then v else r j
theorem rn_putR (R : Rn) (k : Nat) (hk : k < 16) (v : Int) : (rnC R).setIfInBounds (3 + k) (.int .i64 v) = rnC { R with r := putR R.r k v } := by
  have : k = 0 ∨ k = 1 ∨ k = 2 ∨ k = 3 ∨ k = 4 ∨ k = 5 ∨ k = 6 ∨ k = 7 ∨ k = 8 ∨ k = 9 ∨ k = 10 ∨ k = 11 ∨ k = 12 ∨ k = 13 ∨ k = 14 ∨ k = 15 := by omega
  rcases this with rfl | rfl | rfl | rfl | rfl | rfl | rfl | rfl | rfl | rfl | rfl | rfl | rfl | rfl | rfl | rfl <;> rfl

set_option maxRecDepth 100000 in
set_option maxHeartbeats 8000000 in
theorem end_calls (R : Rn) (o a b c n : Int) (s : ByteArray) (bx : Nat) (w : World) (h : At w bx (rnC R)) (a0 : 0 ≤ a) (a1 : a < 16) (s0 : 0 ≤ R.steps) (s1 : R.steps ≤ 10000) :
    Calls Try.prog 33 #[.pointer (some ⟨bx, 0, none⟩), .agg #[.int .u8 o, .int .i64 a, .int .i64 b, .int .i64 c, .int .i64 n, .string s]] w fun e w' => e = .returned (.bool false) ∧ Chg (fun k => k = bx) w w' ∧ At w' bx (rnC { R with st := 1, os := (if o = 16 then 1 else 0), ov := R.r a.toNat, steps := R.steps + 1 }) := by
  have ho : (o == 16) = true ∨ (o == 16) = false := by cases (o == 16) <;> simp
  rcases ho with ho | ho
  all_goals
    go_enter Try.func33, Try.ntmps33
    go_upto_region 1 with fail
    refine wp_at ?_
    intro W1 hW
    have hx : Ext w W1 := by rw [hW]; repeat (first | exact ext_refl _ | assumption | refine ext_more' ?_ _ _ | refine ext_drew ?_ | refine ext_drewN ?_ _ | refine ext_alloc ?_ _)
    obtain ⟨li, ci⟩ := box_facts (by rw [hW]; repeat (first | exact ext_refl _ | assumption | refine ext_more' ?_ _ _ | refine ext_drew ?_ | refine ext_drewN ?_ _ | refine ext_alloc ?_ _) : Ext (World.alloc w (.cells _ _)) W1)
    clear hW
    have h1 := at_ext h (by rw [rn_size]; decide) hx
    have cr : W1.cell? ⟨bx, 3 + a.toNat, none⟩ = some (.int .i64 (R.r a.toNat)) := (h1.1 _).trans (rn_reg R _ (by omega))
    have c23 : W1.cell? ⟨bx, 23, none⟩ = some (.int .i64 R.os) := h1.1 23
    have f23 : W1.frozen? ⟨bx, 23, none⟩ = false := h1.2 23
    have c24 : W1.cell? ⟨bx, 24, none⟩ = some (.int .i64 R.ov) := h1.1 24
    have f24 : W1.frozen? ⟨bx, 24, none⟩ = false := h1.2 24
    go_region
    refine then_at ?_
    intro W2 hW
    have g2 : Chg (fun k => k = bx) w W2 := by rw [hW]; have g1 : Chg (fun k => k = bx) w W1 := chg_ext hx; repeat (first | exact Chg.refl _ _ | assumption | refine chg_put ?_ | refine chg_drew ?_)
    have h2 : At W2 bx (rnC { R with os := 0, ov := R.r a.toNat }) := by
      rw [hW]
      first | exact at_put (at_put (at_drew h1) (by rw [rn_size]; decide) rfl) (by simp [rn_size]) rfl | exact at_drew (at_put (at_put h1 (by rw [rn_size]; decide) rfl) (by simp [rn_size]) rfl)
    have lb := at_lt h (by rw [rn_size]; decide)
    obtain ⟨li, ci⟩ := chg_keep (b := bx) (by rw [hW]; repeat (first | exact Chg.refl _ _ | assumption | refine chg_put ?_ | refine chg_drew ?_) : Chg (fun k => k = bx) W1 W2) li (by omega) ci
    clear hW c23 c24 f23 f24 cr h1
    have c23 : W2.cell? ⟨bx, 23, none⟩ = some (.int .i64 0) := h2.1 23
    have f23 : W2.frozen? ⟨bx, 23, none⟩ = false := h2.2 23
    have c28 : W2.cell? ⟨bx, 28, none⟩ = some (.int .i64 R.steps) := h2.1 28
    have f28 : W2.frozen? ⟨bx, 28, none⟩ = false := h2.2 28
    go_wp2_with fail
  · have he : o = 16 := by simpa using ho
    subst he
    refine (stop_calls { R with os := 1, ov := R.r a.toNat, steps := R.steps + 1 } 1 bx _ (at_put (at_put h2 (by rw [rn_size]; decide) rfl) (by simp [rn_size]) rfl)).mono ?_
    rintro e w3 ⟨rfl, g3, h3⟩
    go_wp2
    go_ret
    refine ⟨rfl, chg_more (chg_put (chg_put g2)) g3, ?_⟩
    first | exact h3 | simpa using h3
  · have he : ¬ o = 16 := by simpa using ho
    refine (stop_calls { R with os := 0, ov := R.r a.toNat, steps := R.steps + 1 } 1 bx _ (at_put h2 (by rw [rn_size]; decide) rfl)).mono ?_
    rintro e w3 ⟨rfl, g3, h3⟩
    go_wp2
    go_ret
    refine ⟨rfl, chg_more (chg_put g2) g3, ?_⟩
    first | exact h3 | (rw [if_neg he]; exact h3)
end Go.Proofs.Ytpfkpdimjljeaaa

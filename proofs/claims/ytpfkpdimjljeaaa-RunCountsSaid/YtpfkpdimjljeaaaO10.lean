/- What run's functions do: waits. -/
import Derived.Test.YtpfkpdimjljeaaaN10
namespace Go.Proofs.Ytpfkpdimjljeaaa
open Go.RowKit
set_option linter.unusedVariables false
set_option linter.unusedSimpArgs false

set_option maxRecDepth 100000 in
set_option maxHeartbeats 8000000 in
theorem wait_out (R : Rn) (o a b c n : Int) (s : ByteArray) (bx : Nat) (w : World) (h : At w bx (rnC R)) (a0 : 0 ≤ a) (a1 : a < 16) (b0 : 0 ≤ b) (b1 : b < 16) (e0 : 0 ≤ c) (e1 : c < 16) (hn : R.r b.toNat < 1 ∨ (1 ≤ R.r b.toNat ∧ (R.mlen : Int) < R.r b.toNat)) :
    Calls Try.prog 31 #[.pointer (some ⟨bx, 0, none⟩), .agg #[.int .u8 o, .int .i64 a, .int .i64 b, .int .i64 c, .int .i64 n, .string s]] w fun e w' => e = .returned (.bool true) ∧ Chg (fun k => k = bx) w w' ∧ At w' bx (rnC { R with r := putR (putR R.r a.toNat 0) c.toNat 1 }) := by
  have hn0 : (¬ (1 ≤ R.r b.toNat) ∧ decide (1 ≤ R.r b.toNat) = false) ∨ (1 ≤ R.r b.toNat ∧ (R.mlen : Int) < R.r b.toNat) := by
    rcases hn with h | h
    · left; exact ⟨by omega, by simp; omega⟩
    · exact .inr h
  clear hn
  go_enter Try.func31, Try.ntmps31
  go_upto_region 1 with fail
  refine wp_at ?_
  intro W1 hW
  have hx : Ext w W1 := by rw [hW]; repeat (first | exact ext_refl _ | assumption | refine ext_more' ?_ _ _ | refine ext_drew ?_ | refine ext_drewN ?_ _ | refine ext_alloc ?_ _)
  obtain ⟨li, ci⟩ := box_facts (by rw [hW]; repeat (first | exact ext_refl _ | assumption | refine ext_more' ?_ _ _ | refine ext_drew ?_ | refine ext_drewN ?_ _ | refine ext_alloc ?_ _) : Ext (World.alloc w (.cells _ _)) W1)
  clear hW
  have lb := at_lt h (by rw [rn_size]; decide)
  have h1 := at_ext h (by rw [rn_size]; decide) hx
  have g1 : Chg (fun k => k = bx) w W1 := chg_ext hx
  have lb1 := at_lt h1 (by rw [rn_size]; decide)
  have crb : W1.cell? ⟨bx, 3 + b.toNat, none⟩ = some (.int .i64 (R.r b.toNat)) := (h1.1 _).trans (rn_reg R _ (by omega))
  go_region
  all_goals
    refine then_at ?_
    intro W2 hW
    have hx2 : Ext W1 W2 := by rw [hW]; repeat (first | exact ext_refl _ | assumption | refine ext_more' ?_ _ _ | refine ext_drew ?_ | refine ext_drewN ?_ _ | refine ext_alloc ?_ _)
    obtain ⟨ln, cn⟩ := box_facts (by rw [hW]; repeat (first | exact ext_refl _ | assumption | refine ext_more' ?_ _ _ | refine ext_drew ?_ | refine ext_drewN ?_ _ | refine ext_alloc ?_ _) : Ext (World.alloc _ (.cells _ _)) W2)
    clear hW
    (try simp only [drew_sz, sz_alloc] at ln cn)
    have h2 := at_ext h1 (by rw [rn_size]; decide) hx2
    have g2 := chg_more g1 (chg_ext hx2)
    obtain ⟨li, ci⟩ := box_on hx2 li ci
    have lb2 := at_lt h2 (by rw [rn_size]; decide)
    clear h1 g1 crb
    go_wp2_with fail
    refine wp_at ?_
    intro W3 hW
    have hx3 : Ext W2 W3 := by rw [hW]; repeat (first | exact ext_refl _ | assumption | refine ext_more' ?_ _ _ | refine ext_drew ?_ | refine ext_drewN ?_ _ | refine ext_alloc ?_ _)
    obtain ⟨lo, co⟩ := box_facts (by rw [hW]; repeat (first | exact ext_refl _ | assumption | refine ext_more' ?_ _ _ | refine ext_drew ?_ | refine ext_drewN ?_ _ | refine ext_alloc ?_ _) : Ext (World.alloc _ (.cells _ _)) W3)
    clear hW
    (try simp only [drew_sz, sz_alloc] at lo co)
    have h3 := at_ext h2 (by rw [rn_size]; decide) hx3
    have g3 := chg_more g2 (chg_ext hx3)
    obtain ⟨li, ci⟩ := box_on hx3 li ci
    obtain ⟨ln, cn⟩ := box_on hx3 ln cn
    have lb3 := at_lt h3 (by rw [rn_size]; decide)
    clear h2 g2
    have c26 : W3.cell? ⟨bx, 26, none⟩ = some (.slice R.ms R.mlen R.mcap) := h3.1 26
    have f26 : W3.frozen? ⟨bx, 26, none⟩ = false := h3.2 26
    rcases hn0 with ⟨hn, hn'⟩ | ⟨hn, hn'⟩
    all_goals
      go_region
      go_wp2_with fail
      have cra : W3.cell? ⟨bx, 3 + a.toNat, none⟩ = some (.int .i64 (R.r a.toNat)) := (h3.1 _).trans (rn_reg R _ (by omega))
      have fra : W3.frozen? ⟨bx, 3 + a.toNat, none⟩ = false := h3.2 _
      go_region
      refine then_at ?_
      intro W4 hW
      have g4 : Chg (fun k => k = bx) w W4 := by rw [hW]; repeat (first | exact Chg.refl _ _ | assumption | refine chg_put ?_ | refine chg_drew ?_)
      have h4 : At W4 bx (rnC { R with r := putR R.r a.toNat (0) }) := by
        rw [hW]
        first | exact at_drew (at_put h3 (by rw [rn_size]; omega) (rn_putR R _ (by omega) (0))) | exact at_put (at_drew h3) (by rw [rn_size]; omega) (rn_putR R _ (by omega) (0)) | exact at_put h3 (by rw [rn_size]; omega) (rn_putR R _ (by omega) (0)) | exact at_drew (at_drew (at_put h3 (by rw [rn_size]; omega) (rn_putR R _ (by omega) (0)))) | exact at_drew (at_drew (at_put h3 (by rw [rn_size]; omega) (rn_putR R _ (by omega) (0)))) | exact at_put (at_drew (at_drew h3)) (by rw [rn_size]; omega) (rn_putR R _ (by omega) (0)) | exact at_drew (at_put (at_drew h3) (by rw [rn_size]; omega) (rn_putR R _ (by omega) (0)))
      obtain ⟨li, ci⟩ := chg_keep (b := bx) (by rw [hW]; repeat (first | exact Chg.refl _ _ | assumption | refine chg_put ?_ | refine chg_drew ?_) : Chg (fun k => k = bx) W3 W4) li (by omega) ci
      obtain ⟨lo, co⟩ := chg_keep (b := bx) (by rw [hW]; repeat (first | exact Chg.refl _ _ | assumption | refine chg_put ?_ | refine chg_drew ?_) : Chg (fun k => k = bx) W3 W4) lo (by omega) co
      clear hW cra fra h3
      go_wp2_with fail
      have crc : W4.cell? ⟨bx, 3 + c.toNat, none⟩ = some (.int .i64 (({ R with r := putR R.r a.toNat (0) } : Rn).r c.toNat)) := (h4.1 _).trans (rn_reg { R with r := putR R.r a.toNat (0) } _ (by omega))
      have frc : W4.frozen? ⟨bx, 3 + c.toNat, none⟩ = false := h4.2 _
      go_region
      go_wp2
      go_ret
      refine ⟨rfl, by repeat (first | exact Chg.refl _ _ | assumption | refine chg_put ?_ | refine chg_drew ?_), ?_⟩
      first | exact at_drew (at_put h4 (by rw [rn_size]; omega) (rn_putR { R with r := putR R.r a.toNat (0) } _ (by omega) (1))) | exact at_put (at_drew h4) (by rw [rn_size]; omega) (rn_putR { R with r := putR R.r a.toNat (0) } _ (by omega) (1)) | exact at_put h4 (by rw [rn_size]; omega) (rn_putR { R with r := putR R.r a.toNat (0) } _ (by omega) (1)) | exact at_drew (at_drew (at_put h4 (by rw [rn_size]; omega) (rn_putR { R with r := putR R.r a.toNat (0) } _ (by omega) (1)))) | exact at_put (at_drew (at_drew h4)) (by rw [rn_size]; omega) (rn_putR { R with r := putR R.r a.toNat (0) } _ (by omega) (1)) | exact at_drew (at_put (at_drew h4) (by rw [rn_size]; omega) (rn_putR { R with r := putR R.r a.toNat (0) } _ (by omega) (1)))
end Go.Proofs.Ytpfkpdimjljeaaa

/- What run's functions do: signals. -/
import Derived.Test.YtpfkpdimjljeaaaG10
namespace Go.Proofs.Ytpfkpdimjljeaaa
open Go.RowKit
set_option linter.unusedVariables false
set_option linter.unusedSimpArgs false

set_option maxRecDepth 100000 in
set_option maxHeartbeats 8000000 in
theorem signal_none (R : Rn) (o a b c n : Int) (s : ByteArray) (bx : Nat) (w : World) (h : At w bx (rnC R)) (hs : (R.slen : Int) ≤ R.sig) :
    Calls Try.prog 32 #[.pointer (some ⟨bx, 0, none⟩), .agg #[.int .u8 o, .int .i64 a, .int .i64 b, .int .i64 c, .int .i64 n, .string s]] w fun e w' => e = .returned (.bool false) ∧ Chg (fun k => k = bx) w w' ∧ At w' bx (rnC { R with st := 3 }) := by
  go_enter Try.func32, Try.ntmps32
  go_upto_region 1 with fail
  refine wp_at ?_
  intro W1 hW
  have hx : Ext w W1 := by rw [hW]; repeat (first | exact ext_refl _ | assumption | refine ext_more' ?_ _ _ | refine ext_drew ?_ | refine ext_drewN ?_ _ | refine ext_alloc ?_ _)
  obtain ⟨li, ci⟩ := box_facts (by rw [hW]; repeat (first | exact ext_refl _ | assumption | refine ext_more' ?_ _ _ | refine ext_drew ?_ | refine ext_drewN ?_ _ | refine ext_alloc ?_ _) : Ext (World.alloc w (.cells _ _)) W1)
  clear hW
  have lb := at_lt h (by rw [rn_size]; decide)
  have h1 := at_ext h (by rw [rn_size]; decide) hx
  have g1 : Chg (fun k => k = bx) w W1 := chg_ext hx
  have c21 : W1.cell? ⟨bx, 21, none⟩ = some (.slice R.ss R.slen R.scap) := h1.1 21
  have f21 : W1.frozen? ⟨bx, 21, none⟩ = false := h1.2 21
  have c27 : W1.cell? ⟨bx, 27, none⟩ = some (.int .i64 R.sig) := h1.1 27
  have f27 : W1.frozen? ⟨bx, 27, none⟩ = false := h1.2 27
  go_region
  go_wp2_with fail
  refine (stop_calls R 3 bx W1.drew (at_drew h1)).mono ?_
  rintro e w3 ⟨rfl, g3, h3⟩
  go_wp2
  go_ret
  exact ⟨rfl, chg_more (chg_drew g1) g3, h3⟩
set_option maxRecDepth 100000 in
set_option maxHeartbeats 8000000 in
theorem signal_some (R : Rn) (o a b c n : Int) (s : ByteArray) (bx sb so : Nat) (v : Int) (w : World) (h : At w bx (rnC R)) (a0 : 0 ≤ a) (a1 : a < 16) (hs : R.ss = some ⟨sb, so, none⟩) (hlt : sb < w.heap.size) (hne : sb ≠ bx) (s0 : 0 ≤ R.sig) (s1 : R.sig < R.slen) (s2 : R.sig ≤ 10000)
    (hv : w.cell? ⟨sb, so + R.sig.toNat, none⟩ = some (.int .i64 v)) :
    Calls Try.prog 32 #[.pointer (some ⟨bx, 0, none⟩), .agg #[.int .u8 o, .int .i64 a, .int .i64 b, .int .i64 c, .int .i64 n, .string s]] w fun e w' => e = .returned (.bool true) ∧ Chg (fun k => k = bx) w w' ∧ At w' bx (rnC { R with r := putR R.r a.toNat v, sig := R.sig + 1 }) := by
  go_enter Try.func32, Try.ntmps32
  go_upto_region 1 with fail
  refine wp_at ?_
  intro W1 hW
  have hx : Ext w W1 := by rw [hW]; repeat (first | exact ext_refl _ | assumption | refine ext_more' ?_ _ _ | refine ext_drew ?_ | refine ext_drewN ?_ _ | refine ext_alloc ?_ _)
  obtain ⟨li, ci⟩ := box_facts (by rw [hW]; repeat (first | exact ext_refl _ | assumption | refine ext_more' ?_ _ _ | refine ext_drew ?_ | refine ext_drewN ?_ _ | refine ext_alloc ?_ _) : Ext (World.alloc w (.cells _ _)) W1)
  clear hW
  have lb := at_lt h (by rw [rn_size]; decide)
  have h1 := at_ext h (by rw [rn_size]; decide) hx
  have g1 : Chg (fun k => k = bx) w W1 := chg_ext hx
  have c21 : W1.cell? ⟨bx, 21, none⟩ = some (.slice (some ⟨sb, so, none⟩) R.slen R.scap) := by rw [← hs]; exact h1.1 21
  have c27 : W1.cell? ⟨bx, 27, none⟩ = some (.int .i64 R.sig) := h1.1 27
  have f27 : W1.frozen? ⟨bx, 27, none⟩ = false := h1.2 27
  have cr : W1.cell? ⟨bx, 3 + a.toNat, none⟩ = some (.int .i64 (R.r a.toNat)) := (h1.1 _).trans (rn_reg R _ (by omega))
  have fr : W1.frozen? ⟨bx, 3 + a.toNat, none⟩ = false := h1.2 _
  have cv : W1.cell? ⟨sb, so + R.sig.toNat, none⟩ = some (.int .i64 v) := (hx.cell (p := ⟨sb, so + R.sig.toNat, none⟩) hlt).trans hv
  clear hv hs
  go_region
  go_wp2_with fail
  go_region
  refine then_at ?_
  intro W2 hW
  have g2 : Chg (fun k => k = bx) w W2 := by rw [hW]; repeat (first | exact Chg.refl _ _ | assumption | refine chg_put ?_ | refine chg_drew ?_)
  have h2 : At W2 bx (rnC { R with r := putR R.r a.toNat v }) := by
    rw [hW]
    first | exact at_put (at_drew (at_drew h1)) (by rw [rn_size]; omega) (rn_putR R _ (by omega) v) | exact at_drew (at_put (at_drew h1) (by rw [rn_size]; omega) (rn_putR R _ (by omega) v)) | exact at_drew (at_drew (at_put h1 (by rw [rn_size]; omega) (rn_putR R _ (by omega) v))) | exact at_put (at_drew h1) (by rw [rn_size]; omega) (rn_putR R _ (by omega) v) | exact at_drew (at_put h1 (by rw [rn_size]; omega) (rn_putR R _ (by omega) v)) | exact at_put h1 (by rw [rn_size]; omega) (rn_putR R _ (by omega) v)
  obtain ⟨li, ci⟩ := chg_keep (b := bx) (by rw [hW]; repeat (first | exact Chg.refl _ _ | assumption | refine chg_put ?_ | refine chg_drew ?_) : Chg (fun k => k = bx) W1 W2) li (by omega) ci
  clear hW
  have c27 : W2.cell? ⟨bx, 27, none⟩ = some (.int .i64 R.sig) := h2.1 27
  have f27 : W2.frozen? ⟨bx, 27, none⟩ = false := h2.2 27
  go_wp2
  go_ret
  exact ⟨rfl, chg_put g2, at_put h2 (by simp [rn_size]) rfl⟩
end Go.Proofs.Ytpfkpdimjljeaaa

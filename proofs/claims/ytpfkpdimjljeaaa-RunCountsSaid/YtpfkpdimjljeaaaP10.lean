/- What run's functions do: waits for a number that is not over. -/
import Derived.Test.YtpfkpdimjljeaaaO10
namespace Go.Proofs.Ytpfkpdimjljeaaa
open Go.RowKit
set_option linter.unusedVariables false
set_option linter.unusedSimpArgs false

set_option maxRecDepth 100000 in
set_option maxHeartbeats 8000000 in
theorem wait_none (R : Rn) (o a b c n : Int) (s : ByteArray) (bx : Nat) (w : World) (K : Nat → Kno) (h : At w bx (rnC R)) (b0 : 0 ≤ b) (b1 : b < 16) (hn : 1 ≤ R.r b.toNat) (hn' : R.r b.toNat ≤ R.mlen) (hlen : R.klen ≤ 1000000) (hrows : Rows_ w R.ks R.klen 3 (fun i => knoC (K i))) (hi : idxF K R.klen (R.r b.toNat) = -1) :
    Calls Try.prog 31 #[.pointer (some ⟨bx, 0, none⟩), .agg #[.int .u8 o, .int .i64 a, .int .i64 b, .int .i64 c, .int .i64 n, .string s]] w fun e w' => e = .returned (.bool false) ∧ Chg (fun k => k = bx) w w' ∧ At w' bx (rnC { R with on := R.r b.toNat, st := 2 }) := by
  have HI := Lib.hid hi; clear hi
  have HROWS := Lib.hid hrows; clear hrows
  go_enter Try.func31, Try.ntmps31
  go_upto_region 1 with fail
  refine wp_at ?_
  intro W1 hW
  have hx : Ext w W1 := by rw [hW]; repeat (first | exact ext_refl _ | assumption | refine ext_more' ?_ _ _ | refine ext_drew ?_ | refine ext_drewN ?_ _ | refine ext_alloc ?_ _)
  obtain ⟨li, ci⟩ := box_facts (by rw [hW]; repeat (first | exact ext_refl _ | assumption | refine ext_more' ?_ _ _ | refine ext_drew ?_ | refine ext_drewN ?_ _ | refine ext_alloc ?_ _) : Ext (World.alloc w (.cells _ _)) W1)
  clear hW
  have lb := at_lt h (by rw [rn_size]; decide)
  have h1 := at_ext h (by rw [rn_size]; decide) hx
  have g1 : Chg (fun k => k = bx) w W1 := chg_ext hx
  have lb1 := at_lt h1 (by rw [rn_size]; decide)
  have crb : W1.cell? ⟨bx, 3 + b.toNat, none⟩ = some (.int .i64 (R.r b.toNat)) := (h1.1 _).trans (rn_reg R _ (by omega))
  go_region
  all_goals
    refine then_at ?_
    intro W2 hW
    have hx2 : Ext W1 W2 := by rw [hW]; repeat (first | exact ext_refl _ | assumption | refine ext_more' ?_ _ _ | refine ext_drew ?_ | refine ext_drewN ?_ _ | refine ext_alloc ?_ _)
    obtain ⟨ln, cn⟩ := box_facts (by rw [hW]; repeat (first | exact ext_refl _ | assumption | refine ext_more' ?_ _ _ | refine ext_drew ?_ | refine ext_drewN ?_ _ | refine ext_alloc ?_ _) : Ext (World.alloc _ (.cells _ _)) W2)
    clear hW
    (try simp only [drew_sz, sz_alloc] at ln cn)
    have h2 := at_ext h1 (by rw [rn_size]; decide) hx2
    have g2 := chg_more g1 (chg_ext hx2)
    obtain ⟨li, ci⟩ := box_on hx2 li ci
    have lb2 := at_lt h2 (by rw [rn_size]; decide)
    clear h1 g1 crb
    go_wp2_with fail
    refine wp_at ?_
    intro W3 hW
    have hx3 : Ext W2 W3 := by rw [hW]; repeat (first | exact ext_refl _ | assumption | refine ext_more' ?_ _ _ | refine ext_drew ?_ | refine ext_drewN ?_ _ | refine ext_alloc ?_ _)
    obtain ⟨lo, co⟩ := box_facts (by rw [hW]; repeat (first | exact ext_refl _ | assumption | refine ext_more' ?_ _ _ | refine ext_drew ?_ | refine ext_drewN ?_ _ | refine ext_alloc ?_ _) : Ext (World.alloc _ (.cells _ _)) W3)
    clear hW
    (try simp only [drew_sz, sz_alloc] at lo co)
    have h3 := at_ext h2 (by rw [rn_size]; decide) hx3
    have g3 := chg_more g2 (chg_ext hx3)
    obtain ⟨li, ci⟩ := box_on hx3 li ci
    obtain ⟨ln, cn⟩ := box_on hx3 ln cn
    have lb3 := at_lt h3 (by rw [rn_size]; decide)
    clear h2 g2
    have c26 : W3.cell? ⟨bx, 26, none⟩ = some (.slice R.ms R.mlen R.mcap) := h3.1 26
    have f26 : W3.frozen? ⟨bx, 26, none⟩ = false := h3.2 26
    have HX := Lib.hid (ext_trans hx (ext_trans hx2 hx3))
    have c20 : W3.cell? ⟨bx, 20, none⟩ = some (.slice R.ks R.klen R.kcap) := h3.1 20
    have f20 : W3.frozen? ⟨bx, 20, none⟩ = false := h3.2 20
    go_region
    go_upto_region 5 with (go_at_call 45; refine (index_calls _ _ _ K (R.r b.toNat) W1.heap.size W3.drew ln (cn 0) hlen (rows_on2 HROWS.out (ext_drew HX.out))).mono ?_; rw [HI.out]; rintro e w1 ⟨rfl, hb⟩; obtain ⟨r, d, rfl⟩ := ext_form hb; clear hb)
    refine wp_at ?_
    intro W5 hW
    have hx5 : Ext W3 W5 := by rw [hW]; repeat (first | exact ext_refl _ | assumption | refine ext_more' ?_ _ _ | refine ext_drew ?_ | refine ext_drewN ?_ _ | refine ext_alloc ?_ _)
    clear hW
    have h5 := at_ext h3 (by rw [rn_size]; decide) hx5
    have g5 := chg_more g3 (chg_ext hx5)
    obtain ⟨li, ci⟩ := box_on hx5 li ci
    obtain ⟨ln, cn⟩ := box_on hx5 ln cn
    obtain ⟨lo, co⟩ := box_on hx5 lo co
    have lb5 := at_lt h5 (by rw [rn_size]; decide)
    have c25 : W5.cell? ⟨bx, 25, none⟩ = some (.int .i64 R.on) := h5.1 25
    have f25 : W5.frozen? ⟨bx, 25, none⟩ = false := h5.2 25
    go_wp2_with fail
    refine (stop_calls { R with on := R.r b.toNat } 2 bx _ (at_put h5 (by rw [rn_size]; decide) rfl)).mono ?_
    rintro e w6 ⟨rfl, g6, h6⟩
    go_wp2
    go_ret
    exact ⟨rfl, chg_more (chg_put g5) g6, h6⟩
end Go.Proofs.Ytpfkpdimjljeaaa

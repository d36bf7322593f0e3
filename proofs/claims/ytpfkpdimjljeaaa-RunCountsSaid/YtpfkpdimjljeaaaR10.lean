/- What run's functions do: a step: waits. -/
import Derived.Test.YtpfkpdimjljeaaaQ10
namespace Go.Proofs.Ytpfkpdimjljeaaa
open Go.RowKit
set_option linter.unusedVariables false
set_option linter.unusedSimpArgs false

set_option maxRecDepth 100000 in
set_option maxHeartbeats 8000000 in
theorem step_waito (R : Rn) (a b c n : Int) (s : ByteArray) (bx : Nat) (w : World) (h : At w bx (rnC R)) (p0 : 0 ≤ R.at') (p1 : R.at' ≤ 500) (a0 : 0 ≤ a) (a1 : a < 16) (b0 : 0 ≤ b) (b1 : b < 16) (e0 : 0 ≤ c) (e1 : c < 16) (hn : R.r b.toNat < 1 ∨ (1 ≤ R.r b.toNat ∧ (R.mlen : Int) < R.r b.toNat)) :
    Calls Try.prog 23 #[.pointer (some ⟨bx, 0, none⟩), .agg #[.int .u8 13, .int .i64 a, .int .i64 b, .int .i64 c, .int .i64 n, .string s]] w fun e w' => e = .returned (.bool true) ∧ Chg (fun k => k = bx) w w' ∧ At w' bx (rnC { R with at' := R.at' + 1, r := putR (putR R.r a.toNat 0) c.toNat 1 }) := by
  go_enter Try.func23, Try.ntmps23
  go_upto_region 1 with fail
  refine wp_at ?_
  intro W1 hW
  have hx : Ext w W1 := by rw [hW]; repeat (first | exact ext_refl _ | assumption | refine ext_more' ?_ _ _ | refine ext_drew ?_ | refine ext_drewN ?_ _ | refine ext_alloc ?_ _)
  obtain ⟨li, ci⟩ := box_facts (by rw [hW]; repeat (first | exact ext_refl _ | assumption | refine ext_more' ?_ _ _ | refine ext_drew ?_ | refine ext_drewN ?_ _ | refine ext_alloc ?_ _) : Ext (World.alloc w (.cells _ _)) W1)
  clear hW
  have lb := at_lt h (by rw [rn_size]; decide)
  have h1 := at_ext h (by rw [rn_size]; decide) hx
  have g1 : Chg (fun k => k = bx) w W1 := chg_ext hx
  have c19 : W1.cell? ⟨bx, 19, none⟩ = some (.int .i64 R.at') := h1.1 19
  have f19 : W1.frozen? ⟨bx, 19, none⟩ = false := h1.2 19
  go_upto_region 2 with fail
  refine wp_at ?_
  intro W2 hW
  have g2 : Chg (fun k => k = bx) w W2 := by rw [hW]; repeat (first | exact Chg.refl _ _ | assumption | refine chg_put ?_ | refine chg_drew ?_)
  have h2 : At W2 bx (rnC { R with at' := R.at' + 1 }) := by rw [hW]; exact at_put h1 (by rw [rn_size]; decide) rfl
  obtain ⟨li, ci⟩ := chg_keep (b := bx) (by rw [hW]; repeat (first | exact Chg.refl _ _ | assumption | refine chg_put ?_ | refine chg_drew ?_) : Chg (fun k => k = bx) W1 W2) li (by omega) ci
  clear hW h1 c19 f19 g1
  go_upto_region 21 with (go_at_call 29; refine (sign_no _ (by decide) _).mono ?_; rintro e w1 ⟨rfl, hb⟩; obtain ⟨r, d, rfl⟩ := ext_form hb; clear hb)
  refine wp_at ?_
  intro W3 hW
  have hx3 : Ext W2 W3 := by rw [hW]; repeat (first | exact ext_refl _ | assumption | refine ext_more' ?_ _ _ | refine ext_drew ?_ | refine ext_drewN ?_ _ | refine ext_alloc ?_ _)
  clear hW
  have h1 := at_ext h2 (by rw [rn_size]; decide) hx3
  have g1 := chg_more g2 (chg_ext hx3)
  obtain ⟨li, ci⟩ := box_on hx3 li ci
  clear h2 g2 hx3 hx
  go_wp2_with (go_at_call 31; refine (wait_out { R with at' := R.at' + 1 } 13 a b c n s bx _ h1 a0 a1 b0 b1 e0 e1 hn).mono ?_; rintro e w4 ⟨rfl, g4, h4⟩)
  go_ret
  exact ⟨rfl, chg_more g1 g4, h4⟩

set_option maxRecDepth 100000 in
set_option maxHeartbeats 8000000 in
theorem step_waitn (R : Rn) (a b c n : Int) (s : ByteArray) (bx : Nat) (w : World) (h : At w bx (rnC R)) (p0 : 0 ≤ R.at') (p1 : R.at' ≤ 500) (b0 : 0 ≤ b) (b1 : b < 16) (K : Nat → Kno) (hn : 1 ≤ R.r b.toNat) (hn' : R.r b.toNat ≤ R.mlen) (hlen : R.klen ≤ 1000000) (hrows : Rows_ w R.ks R.klen 3 (fun i => knoC (K i))) (hks : 0 < R.klen → ∀ b o, R.ks = some ⟨b, o, none⟩ → b ≠ bx) (hi : idxF K R.klen (R.r b.toNat) = -1) :
    Calls Try.prog 23 #[.pointer (some ⟨bx, 0, none⟩), .agg #[.int .u8 13, .int .i64 a, .int .i64 b, .int .i64 c, .int .i64 n, .string s]] w fun e w' => e = .returned (.bool false) ∧ Chg (fun k => k = bx) w w' ∧ At w' bx (rnC { R with at' := R.at' + 1, on := R.r b.toNat, st := 2 }) := by
  go_enter Try.func23, Try.ntmps23
  go_upto_region 1 with fail
  refine wp_at ?_
  intro W1 hW
  have hx : Ext w W1 := by rw [hW]; repeat (first | exact ext_refl _ | assumption | refine ext_more' ?_ _ _ | refine ext_drew ?_ | refine ext_drewN ?_ _ | refine ext_alloc ?_ _)
  obtain ⟨li, ci⟩ := box_facts (by rw [hW]; repeat (first | exact ext_refl _ | assumption | refine ext_more' ?_ _ _ | refine ext_drew ?_ | refine ext_drewN ?_ _ | refine ext_alloc ?_ _) : Ext (World.alloc w (.cells _ _)) W1)
  clear hW
  have lb := at_lt h (by rw [rn_size]; decide)
  have h1 := at_ext h (by rw [rn_size]; decide) hx
  have g1 : Chg (fun k => k = bx) w W1 := chg_ext hx
  have c19 : W1.cell? ⟨bx, 19, none⟩ = some (.int .i64 R.at') := h1.1 19
  have f19 : W1.frozen? ⟨bx, 19, none⟩ = false := h1.2 19
  go_upto_region 2 with fail
  refine wp_at ?_
  intro W2 hW
  have g2 : Chg (fun k => k = bx) w W2 := by rw [hW]; repeat (first | exact Chg.refl _ _ | assumption | refine chg_put ?_ | refine chg_drew ?_)
  have h2 : At W2 bx (rnC { R with at' := R.at' + 1 }) := by rw [hW]; exact at_put h1 (by rw [rn_size]; decide) rfl
  obtain ⟨li, ci⟩ := chg_keep (b := bx) (by rw [hW]; repeat (first | exact Chg.refl _ _ | assumption | refine chg_put ?_ | refine chg_drew ?_) : Chg (fun k => k = bx) W1 W2) li (by omega) ci
  clear hW h1 c19 f19 g1
  go_upto_region 21 with (go_at_call 29; refine (sign_no _ (by decide) _).mono ?_; rintro e w1 ⟨rfl, hb⟩; obtain ⟨r, d, rfl⟩ := ext_form hb; clear hb)
  refine wp_at ?_
  intro W3 hW
  have hx3 : Ext W2 W3 := by rw [hW]; repeat (first | exact ext_refl _ | assumption | refine ext_more' ?_ _ _ | refine ext_drew ?_ | refine ext_drewN ?_ _ | refine ext_alloc ?_ _)
  clear hW
  have h1 := at_ext h2 (by rw [rn_size]; decide) hx3
  have g1 := chg_more g2 (chg_ext hx3)
  obtain ⟨li, ci⟩ := box_on hx3 li ci
  clear h2 g2 hx3 hx
  have hr3 := rows_chg hrows g1 hks
  clear hrows hks
  go_wp2_with (go_at_call 31; refine (wait_none { R with at' := R.at' + 1 } 13 a b c n s bx _ K h1 b0 b1 hn hn' hlen hr3 hi).mono ?_; rintro e w4 ⟨rfl, g4, h4⟩)
  go_ret
  exact ⟨rfl, chg_more g1 g4, h4⟩

set_option maxRecDepth 100000 in
set_option maxHeartbeats 8000000 in
theorem step_waitg (R : Rn) (a b c n : Int) (s : ByteArray) (bx : Nat) (w : World) (h : At w bx (rnC R)) (p0 : 0 ≤ R.at') (p1 : R.at' ≤ 500) (a0 : 0 ≤ a) (a1 : a < 16) (b0 : 0 ≤ b) (b1 : b < 16) (e0 : 0 ≤ c) (e1 : c < 16) (i : Nat) (K : Nat → Kno) (hn : 1 ≤ R.r b.toNat) (hn' : R.r b.toNat ≤ R.mlen) (hlen : R.klen ≤ 1000000) (hrows : Rows_ w R.ks R.klen 3 (fun i => knoC (K i))) (hks : 0 < R.klen → ∀ b o, R.ks = some ⟨b, o, none⟩ → b ≠ bx) (hi : idxF K R.klen (R.r b.toNat) = i) (hik : i < R.klen) :
    Calls Try.prog 23 #[.pointer (some ⟨bx, 0, none⟩), .agg #[.int .u8 13, .int .i64 a, .int .i64 b, .int .i64 c, .int .i64 n, .string s]] w fun e w' => e = .returned (.bool true) ∧ Chg (fun k => k = bx) w w' ∧ At w' bx (rnC { R with at' := R.at' + 1, r := putR (putR R.r a.toNat (K i).out.v) c.toNat (K i).out.st }) := by
  go_enter Try.func23, Try.ntmps23
  go_upto_region 1 with fail
  refine wp_at ?_
  intro W1 hW
  have hx : Ext w W1 := by rw [hW]; repeat (first | exact ext_refl _ | assumption | refine ext_more' ?_ _ _ | refine ext_drew ?_ | refine ext_drewN ?_ _ | refine ext_alloc ?_ _)
  obtain ⟨li, ci⟩ := box_facts (by rw [hW]; repeat (first | exact ext_refl _ | assumption | refine ext_more' ?_ _ _ | refine ext_drew ?_ | refine ext_drewN ?_ _ | refine ext_alloc ?_ _) : Ext (World.alloc w (.cells _ _)) W1)
  clear hW
  have lb := at_lt h (by rw [rn_size]; decide)
  have h1 := at_ext h (by rw [rn_size]; decide) hx
  have g1 : Chg (fun k => k = bx) w W1 := chg_ext hx
  have c19 : W1.cell? ⟨bx, 19, none⟩ = some (.int .i64 R.at') := h1.1 19
  have f19 : W1.frozen? ⟨bx, 19, none⟩ = false := h1.2 19
  go_upto_region 2 with fail
  refine wp_at ?_
  intro W2 hW
  have g2 : Chg (fun k => k = bx) w W2 := by rw [hW]; repeat (first | exact Chg.refl _ _ | assumption | refine chg_put ?_ | refine chg_drew ?_)
  have h2 : At W2 bx (rnC { R with at' := R.at' + 1 }) := by rw [hW]; exact at_put h1 (by rw [rn_size]; decide) rfl
  obtain ⟨li, ci⟩ := chg_keep (b := bx) (by rw [hW]; repeat (first | exact Chg.refl _ _ | assumption | refine chg_put ?_ | refine chg_drew ?_) : Chg (fun k => k = bx) W1 W2) li (by omega) ci
  clear hW h1 c19 f19 g1
  go_upto_region 21 with (go_at_call 29; refine (sign_no _ (by decide) _).mono ?_; rintro e w1 ⟨rfl, hb⟩; obtain ⟨r, d, rfl⟩ := ext_form hb; clear hb)
  refine wp_at ?_
  intro W3 hW
  have hx3 : Ext W2 W3 := by rw [hW]; repeat (first | exact ext_refl _ | assumption | refine ext_more' ?_ _ _ | refine ext_drew ?_ | refine ext_drewN ?_ _ | refine ext_alloc ?_ _)
  clear hW
  have h1 := at_ext h2 (by rw [rn_size]; decide) hx3
  have g1 := chg_more g2 (chg_ext hx3)
  obtain ⟨li, ci⟩ := box_on hx3 li ci
  clear h2 g2 hx3 hx
  have hr3 := rows_chg hrows g1 hks
  clear hrows hks
  go_wp2_with (go_at_call 31; refine (wait_got { R with at' := R.at' + 1 } 13 a b c n s bx i _ K h1 a0 a1 b0 b1 e0 e1 hn hn' hlen hr3 hi hik).mono ?_; rintro e w4 ⟨rfl, g4, h4⟩)
  go_ret
  exact ⟨rfl, chg_more g1 g4, h4⟩
end Go.Proofs.Ytpfkpdimjljeaaa

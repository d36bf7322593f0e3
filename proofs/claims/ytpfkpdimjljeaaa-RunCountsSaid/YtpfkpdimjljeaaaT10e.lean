/- What run's functions do: a step: something is begun. -/
import Derived.Test.YtpfkpdimjljeaaaT10b
import Derived.Test.YtpfkpdimjljeaaaT10c
import Derived.Test.YtpfkpdimjljeaaaT10d
namespace Go.Proofs.Ytpfkpdimjljeaaa
open Go.RowKit
set_option linter.unusedVariables false
set_option linter.unusedSimpArgs false

set_option maxRecDepth 100000 in
set_option maxHeartbeats 8000000 in
theorem step_app10 (R : Rn) (a b c n : Int) (s : ByteArray) (bx : Nat) (w : World) (h : At w bx (rnC R)) (p0 : 0 ≤ R.at') (p1 : R.at' ≤ 500) (a0 : 0 ≤ a) (a1 : a < 16) (b0 : 0 ≤ b) (b1 : b < 16) (hm : R.mlen < 200) (base : Nat) (l : List Cmd) (ho : OwnsC w base R l) (hbx : bx < base) (hbs : base ≤ w.heap.size) :
    Calls Try.prog 23 #[.pointer (some ⟨bx, 0, none⟩), .agg #[.int .u8 10, .int .i64 a, .int .i64 b, .int .i64 c, .int .i64 n, .string s]] w fun e w' => e = .returned (.bool true) ∧ Chg (fun k => k = bx ∨ base ≤ k) w w' ∧ ∃ g cap, At w' bx (rnC { R with at' := R.at' + 1, r := putR R.r a.toNat (R.mlen + 1), ms := some ⟨g, 0, none⟩, mlen := R.mlen + 1, mcap := cap }) ∧ w'.ownsRow base 55 5 (.slice (some ⟨g, 0, none⟩) (R.mlen + 1) cap) (R.mlen + 1) (cmdCs (l ++ [⟨R.mlen + 1, 1, s, R.r b.toNat, c⟩])) := by
  go_enter Try.func23, Try.ntmps23
  go_upto_region 1 with fail
  refine wp_at ?_
  intro W1 hW
  have hx : Ext w W1 := by rw [hW]; repeat (first | exact ext_refl _ | assumption | refine ext_more' ?_ _ _ | refine ext_drew ?_ | refine ext_drewN ?_ _ | refine ext_alloc ?_ _)
  obtain ⟨li, ci⟩ := box_facts (by rw [hW]; repeat (first | exact ext_refl _ | assumption | refine ext_more' ?_ _ _ | refine ext_drew ?_ | refine ext_drewN ?_ _ | refine ext_alloc ?_ _) : Ext (World.alloc w (.cells _ _)) W1)
  clear hW
  have lb := at_lt h (by rw [rn_size]; decide)
  have h1 := at_ext h (by rw [rn_size]; decide) hx
  have g1 : Chg (fun k => k = bx) w W1 := chg_ext hx
  have c19 : W1.cell? ⟨bx, 19, none⟩ = some (.int .i64 R.at') := h1.1 19
  have f19 : W1.frozen? ⟨bx, 19, none⟩ = false := h1.2 19
  go_upto_region 2 with fail
  refine wp_at ?_
  intro W2 hW
  have g2 : Chg (fun k => k = bx) w W2 := by rw [hW]; repeat (first | exact Chg.refl _ _ | assumption | refine chg_put ?_ | refine chg_drew ?_)
  have h2 : At W2 bx (rnC { R with at' := R.at' + 1 }) := by rw [hW]; exact at_put h1 (by rw [rn_size]; decide) rfl
  obtain ⟨li, ci⟩ := chg_keep (b := bx) (by rw [hW]; repeat (first | exact Chg.refl _ _ | assumption | refine chg_put ?_ | refine chg_drew ?_) : Chg (fun k => k = bx) W1 W2) li (by omega) ci
  clear hW h1 c19 f19 g1
  go_upto_region 19 with (go_at_call 29; refine (sign_no _ (by decide) _).mono ?_; rintro e w1 ⟨rfl, hb⟩; obtain ⟨r, d, rfl⟩ := ext_form hb; clear hb)
  refine wp_at ?_
  intro W3 hW
  have hx3 : Ext W2 W3 := by rw [hW]; repeat (first | exact ext_refl _ | assumption | refine ext_more' ?_ _ _ | refine ext_drew ?_ | refine ext_drewN ?_ _ | refine ext_alloc ?_ _)
  clear hW
  have h1 := at_ext h2 (by rw [rn_size]; decide) hx3
  have g1 := chg_more g2 (chg_ext hx3)
  obtain ⟨li, ci⟩ := box_on hx3 li ci
  clear h2 g2 hx3 hx
  have ho3 : OwnsC W3 base { R with at' := R.at' + 1 } l := own_chg ho g1 (fun e => by have := (ho.lt _ e).1; omega)
  have hb3 : base ≤ W3.heap.size := Nat.le_trans hbs g1.size
  have HO3 := Lib.hid ho3; clear ho3 ho
  go_wp2_with (go_at_call 30; refine (begin_app10 { R with at' := R.at' + 1 } a b c n s bx base l _ h1 a0 a1 b0 b1 hm HO3.out hbx hb3).mono ?_; rintro e w4 ⟨rfl, g4, g, cap, h4, o4⟩)
  go_ret
  exact ⟨rfl, (chg_b g1).trans g4, g, cap, h4, o4⟩

set_option maxRecDepth 100000 in
set_option maxHeartbeats 8000000 in
theorem step_app11 (R : Rn) (a b c n : Int) (s : ByteArray) (bx : Nat) (w : World) (h : At w bx (rnC R)) (p0 : 0 ≤ R.at') (p1 : R.at' ≤ 500) (a0 : 0 ≤ a) (a1 : a < 16) (b0 : 0 ≤ b) (b1 : b < 16) (hm : R.mlen < 200) (base : Nat) (l : List Cmd) (ho : OwnsC w base R l) (hbx : bx < base) (hbs : base ≤ w.heap.size) :
    Calls Try.prog 23 #[.pointer (some ⟨bx, 0, none⟩), .agg #[.int .u8 11, .int .i64 a, .int .i64 b, .int .i64 c, .int .i64 n, .string s]] w fun e w' => e = .returned (.bool true) ∧ Chg (fun k => k = bx ∨ base ≤ k) w w' ∧ ∃ g cap, At w' bx (rnC { R with at' := R.at' + 1, r := putR R.r a.toNat (R.mlen + 1), ms := some ⟨g, 0, none⟩, mlen := R.mlen + 1, mcap := cap }) ∧ w'.ownsRow base 55 5 (.slice (some ⟨g, 0, none⟩) (R.mlen + 1) cap) (R.mlen + 1) (cmdCs (l ++ [⟨R.mlen + 1, 2, s, mx (R.r b.toNat) 0, c⟩])) := by
  go_enter Try.func23, Try.ntmps23
  go_upto_region 1 with fail
  refine wp_at ?_
  intro W1 hW
  have hx : Ext w W1 := by rw [hW]; repeat (first | exact ext_refl _ | assumption | refine ext_more' ?_ _ _ | refine ext_drew ?_ | refine ext_drewN ?_ _ | refine ext_alloc ?_ _)
  obtain ⟨li, ci⟩ := box_facts (by rw [hW]; repeat (first | exact ext_refl _ | assumption | refine ext_more' ?_ _ _ | refine ext_drew ?_ | refine ext_drewN ?_ _ | refine ext_alloc ?_ _) : Ext (World.alloc w (.cells _ _)) W1)
  clear hW
  have lb := at_lt h (by rw [rn_size]; decide)
  have h1 := at_ext h (by rw [rn_size]; decide) hx
  have g1 : Chg (fun k => k = bx) w W1 := chg_ext hx
  have c19 : W1.cell? ⟨bx, 19, none⟩ = some (.int .i64 R.at') := h1.1 19
  have f19 : W1.frozen? ⟨bx, 19, none⟩ = false := h1.2 19
  go_upto_region 2 with fail
  refine wp_at ?_
  intro W2 hW
  have g2 : Chg (fun k => k = bx) w W2 := by rw [hW]; repeat (first | exact Chg.refl _ _ | assumption | refine chg_put ?_ | refine chg_drew ?_)
  have h2 : At W2 bx (rnC { R with at' := R.at' + 1 }) := by rw [hW]; exact at_put h1 (by rw [rn_size]; decide) rfl
  obtain ⟨li, ci⟩ := chg_keep (b := bx) (by rw [hW]; repeat (first | exact Chg.refl _ _ | assumption | refine chg_put ?_ | refine chg_drew ?_) : Chg (fun k => k = bx) W1 W2) li (by omega) ci
  clear hW h1 c19 f19 g1
  go_upto_region 19 with (go_at_call 29; refine (sign_no _ (by decide) _).mono ?_; rintro e w1 ⟨rfl, hb⟩; obtain ⟨r, d, rfl⟩ := ext_form hb; clear hb)
  refine wp_at ?_
  intro W3 hW
  have hx3 : Ext W2 W3 := by rw [hW]; repeat (first | exact ext_refl _ | assumption | refine ext_more' ?_ _ _ | refine ext_drew ?_ | refine ext_drewN ?_ _ | refine ext_alloc ?_ _)
  clear hW
  have h1 := at_ext h2 (by rw [rn_size]; decide) hx3
  have g1 := chg_more g2 (chg_ext hx3)
  obtain ⟨li, ci⟩ := box_on hx3 li ci
  clear h2 g2 hx3 hx
  have ho3 : OwnsC W3 base { R with at' := R.at' + 1 } l := own_chg ho g1 (fun e => by have := (ho.lt _ e).1; omega)
  have hb3 : base ≤ W3.heap.size := Nat.le_trans hbs g1.size
  have HO3 := Lib.hid ho3; clear ho3 ho
  go_wp2_with (go_at_call 30; refine (begin_app11 { R with at' := R.at' + 1 } a b c n s bx base l _ h1 a0 a1 b0 b1 hm HO3.out hbx hb3).mono ?_; rintro e w4 ⟨rfl, g4, g, cap, h4, o4⟩)
  go_ret
  exact ⟨rfl, (chg_b g1).trans g4, g, cap, h4, o4⟩

set_option maxRecDepth 100000 in
set_option maxHeartbeats 8000000 in
theorem step_app12 (R : Rn) (a b c n : Int) (s : ByteArray) (bx : Nat) (w : World) (h : At w bx (rnC R)) (p0 : 0 ≤ R.at') (p1 : R.at' ≤ 500) (a0 : 0 ≤ a) (a1 : a < 16) (b0 : 0 ≤ b) (b1 : b < 16) (hm : R.mlen < 200) (base : Nat) (l : List Cmd) (ho : OwnsC w base R l) (hbx : bx < base) (hbs : base ≤ w.heap.size) :
    Calls Try.prog 23 #[.pointer (some ⟨bx, 0, none⟩), .agg #[.int .u8 12, .int .i64 a, .int .i64 b, .int .i64 c, .int .i64 n, .string s]] w fun e w' => e = .returned (.bool true) ∧ Chg (fun k => k = bx ∨ base ≤ k) w w' ∧ ∃ g cap, At w' bx (rnC { R with at' := R.at' + 1, r := putR R.r a.toNat (R.mlen + 1), ms := some ⟨g, 0, none⟩, mlen := R.mlen + 1, mcap := cap }) ∧ w'.ownsRow base 55 5 (.slice (some ⟨g, 0, none⟩) (R.mlen + 1) cap) (R.mlen + 1) (cmdCs (l ++ [⟨R.mlen + 1, 3, s, R.r b.toNat, c⟩])) := by
  go_enter Try.func23, Try.ntmps23
  go_upto_region 1 with fail
  refine wp_at ?_
  intro W1 hW
  have hx : Ext w W1 := by rw [hW]; repeat (first | exact ext_refl _ | assumption | refine ext_more' ?_ _ _ | refine ext_drew ?_ | refine ext_drewN ?_ _ | refine ext_alloc ?_ _)
  obtain ⟨li, ci⟩ := box_facts (by rw [hW]; repeat (first | exact ext_refl _ | assumption | refine ext_more' ?_ _ _ | refine ext_drew ?_ | refine ext_drewN ?_ _ | refine ext_alloc ?_ _) : Ext (World.alloc w (.cells _ _)) W1)
  clear hW
  have lb := at_lt h (by rw [rn_size]; decide)
  have h1 := at_ext h (by rw [rn_size]; decide) hx
  have g1 : Chg (fun k => k = bx) w W1 := chg_ext hx
  have c19 : W1.cell? ⟨bx, 19, none⟩ = some (.int .i64 R.at') := h1.1 19
  have f19 : W1.frozen? ⟨bx, 19, none⟩ = false := h1.2 19
  go_upto_region 2 with fail
  refine wp_at ?_
  intro W2 hW
  have g2 : Chg (fun k => k = bx) w W2 := by rw [hW]; repeat (first | exact Chg.refl _ _ | assumption | refine chg_put ?_ | refine chg_drew ?_)
  have h2 : At W2 bx (rnC { R with at' := R.at' + 1 }) := by rw [hW]; exact at_put h1 (by rw [rn_size]; decide) rfl
  obtain ⟨li, ci⟩ := chg_keep (b := bx) (by rw [hW]; repeat (first | exact Chg.refl _ _ | assumption | refine chg_put ?_ | refine chg_drew ?_) : Chg (fun k => k = bx) W1 W2) li (by omega) ci
  clear hW h1 c19 f19 g1
  go_upto_region 19 with (go_at_call 29; refine (sign_no _ (by decide) _).mono ?_; rintro e w1 ⟨rfl, hb⟩; obtain ⟨r, d, rfl⟩ := ext_form hb; clear hb)
  refine wp_at ?_
  intro W3 hW
  have hx3 : Ext W2 W3 := by rw [hW]; repeat (first | exact ext_refl _ | assumption | refine ext_more' ?_ _ _ | refine ext_drew ?_ | refine ext_drewN ?_ _ | refine ext_alloc ?_ _)
  clear hW
  have h1 := at_ext h2 (by rw [rn_size]; decide) hx3
  have g1 := chg_more g2 (chg_ext hx3)
  obtain ⟨li, ci⟩ := box_on hx3 li ci
  clear h2 g2 hx3 hx
  have ho3 : OwnsC W3 base { R with at' := R.at' + 1 } l := own_chg ho g1 (fun e => by have := (ho.lt _ e).1; omega)
  have hb3 : base ≤ W3.heap.size := Nat.le_trans hbs g1.size
  have HO3 := Lib.hid ho3; clear ho3 ho
  go_wp2_with (go_at_call 30; refine (begin_app12 { R with at' := R.at' + 1 } a b c n s bx base l _ h1 a0 a1 b0 b1 hm HO3.out hbx hb3).mono ?_; rintro e w4 ⟨rfl, g4, g, cap, h4, o4⟩)
  go_ret
  exact ⟨rfl, (chg_b g1).trans g4, g, cap, h4, o4⟩
end Go.Proofs.Ytpfkpdimjljeaaa

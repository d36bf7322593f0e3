/- The laws' helpers of layer 10: the same commands, the same stand. -/
import Derived.Test.YtpfkpdimjljeaaaU10rc
namespace Go.Proofs.Ytpfkpdimjljeaaa
open Go.RowKit
set_option linter.unusedVariables false
set_option linter.unusedSimpArgs false

theorem cmd_cells {w W1 : World} {s : Option Addr} {len : Nat} {C : Nat → Cmd} (h : Rows_ w s len 5 (fun i => cmdC (C i))) (hx : Ext w W1) {i : Nat} (hi : i < len) :
    ∃ b o, s = some ⟨b, o, none⟩ ∧ b < W1.heap.size ∧ W1.cell? ⟨b, o + i * 5, none⟩ = some (.int .i64 (C i).n) ∧ W1.cell? ⟨b, o + i * 5 + 1, none⟩ = some (.int .u8 (C i).kind) ∧ W1.cell? ⟨b, o + i * 5 + 2, none⟩ = some (.string (C i).s) ∧
      W1.cell? ⟨b, o + i * 5 + 3, none⟩ = some (.int .i64 (C i).arg) ∧ W1.cell? ⟨b, o + i * 5 + 4, none⟩ = some (.int .i64 (C i).policy) := by
  obtain ⟨b, o, rfl, hb, hr⟩ := h (by omega)
  have hk : ∀ k, k < 5 → W1.cell? ⟨b, o + i * 5 + k, none⟩ = (cmdC (C i))[k]? := fun k hk => by
    rw [hx.cell (p := ⟨b, o + i * 5 + k, none⟩) hb, ← (hr i hi).2 k hk, Nat.add_assoc]
  exact ⟨b, o, rfl, Nat.lt_of_lt_of_le hb hx.size, hk 0 (by decide), hk 1 (by decide), hk 2 (by decide), hk 3 (by decide), hk 4 (by decide)⟩
set_option maxRecDepth 100000 in
set_option maxHeartbeats 4000000 in
theorem samecmds_true (s1 s2 : Option Addr) (len c1 c2 : Nat) (C : Nat → Cmd) (w : World) (hl : len ≤ 1000000) (h1 : Rows_ w s1 len 5 (fun i => cmdC (C i))) (h2 : Rows_ w s2 len 5 (fun i => cmdC (C i))) :
    Calls Try.prog 18 #[.slice s1 len c1, .slice s2 len c2] w fun e w' => e = .returned (.bool true) ∧ Ext w w' := by
  have H1 := Lib.hid h1; have H2 := Lib.hid h2; clear h1 h2
  go_enter Try.func18, Try.ntmps18
  go_wp2
  go_loopg [5] len (fun g k wr => ∃ (i : Nat), k = .int .i64 i ∧ g + i = len ∧ Ext w wr)
  case atStart => exact ⟨0, rfl, by omega, ext_refl _⟩
  case round =>
    obtain ⟨i, rfl, hgi, hx⟩ := hrel
    have HX := Lib.hid hx; clear hx
    by_cases hi : i < len
    · obtain ⟨b, o, rfl, hb, c0, c1, c2, c3, c4⟩ := cmd_cells H1.out HX.out hi
      obtain ⟨b', o', rfl, hb', d0, d1, d2, d3, d4⟩ := cmd_cells H2.out HX.out hi
      have hi3 : (i : Int) < len := by omega
      go_wp2_with fail
      go_region
      go_wp2
      go_roundg (gk - 1)
      case measure => omega
      case rel => exact ⟨i + 1, by go_num, by omega, by have hx := HX.out; repeat (first | exact ext_refl _ | assumption | refine ext_more' ?_ _ _ | refine ext_drew ?_ | refine ext_drewN ?_ _ | refine ext_alloc ?_ _)⟩
    · have hi3 : ¬ ((i : Int) < len) := by omega
      go_wp2
      go_ret
      exact ⟨rfl, HX.out⟩
theorem ins_slice {w : World} {s : Option Addr} {len n : Nat} {f : Nat → List Value} {m : Nat} (h : Rows_ w s len n f) (hm : m ≤ len) : Rows_ w s m n f := fun hl => by
  obtain ⟨b, o, hs, hb, hr⟩ := h (by omega)
  exact ⟨b, o, hs, hb, fun i hi => hr i (by omega)⟩
set_option maxRecDepth 100000 in
set_option maxHeartbeats 4000000 in
theorem same_true (y0 y1 y2 y3 : Int) (y5 y6 : Nat) (s1 s2 : Option Addr) (len c1 c2 : Nat) (C : Nat → Cmd) (w : World) (hl : len ≤ 1000000) (h1 : Rows_ w s1 len 5 (fun i => cmdC (C i))) (h2 : Rows_ w s2 len 5 (fun i => cmdC (C i))) :
    Calls Try.prog 14 #[.agg #[.int .i64 y0, .int .i64 y1, .int .i64 y2, .int .i64 y3, .slice s1 len c1, .int .i64 y5, .int .i64 y6], .agg #[.int .i64 y0, .int .i64 y1, .int .i64 y2, .int .i64 y3, .slice s2 len c2, .int .i64 y5, .int .i64 y6]] w fun e w' => e = .returned (.bool true) ∧ Ext w w' := by
  have H1 := Lib.hid h1; have H2 := Lib.hid h2; clear h1 h2
  go_enter Try.func14, Try.ntmps14
  go_upto_region 1 with fail
  refine wp_at ?_
  intro W1 hW
  have hx : Ext w W1 := by rw [hW]; repeat (first | exact ext_refl _ | assumption | refine ext_more' ?_ _ _ | refine ext_drew ?_ | refine ext_drewN ?_ _ | refine ext_alloc ?_ _)
  obtain ⟨l1, k1⟩ := box_facts (by rw [hW]; repeat (first | exact ext_refl _ | assumption | refine ext_more' ?_ _ _ | refine ext_drew ?_ | refine ext_drewN ?_ _ | refine ext_alloc ?_ _) : Ext (World.alloc w (.cells _ _)) W1)
  obtain ⟨l2, k2⟩ := box_facts (by rw [hW]; repeat (first | exact ext_refl _ | assumption | refine ext_more' ?_ _ _ | refine ext_drew ?_ | refine ext_drewN ?_ _ | refine ext_alloc ?_ _) : Ext ((World.alloc w (.cells _ _)).alloc (.cells _ _)) W1)
  simp only [sz_alloc] at l2 k2
  clear hW
  have HX := Lib.hid hx; clear hx
  go_wp2_with (go_at_call 18; refine (samecmds_true s1 s2 len c1 c2 C _ hl (rows_on2 H1.out HX.out) (rows_on2 H2.out HX.out)).mono ?_; rintro e w2 ⟨rfl, hb⟩)
  go_ret
  exact ⟨rfl, ext_trans HX.out hb⟩
end Go.Proofs.Ytpfkpdimjljeaaa

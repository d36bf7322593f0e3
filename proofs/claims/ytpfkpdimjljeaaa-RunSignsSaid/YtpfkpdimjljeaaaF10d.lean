/- RunSigns. -/
import Derived.Test.YtpfkpdimjljeaaaP10c
namespace Go.Proofs.Ytpfkpdimjljeaaa
open Go.RowKit
set_option linter.unusedVariables false
set_option linter.unusedSimpArgs false

def sgI (o b : Int) : Nat → Ins
  | 0 => ⟨1, 1, 0, 0, b, ⟨#[]⟩⟩
  | 1 => ⟨o, 2, 0, 1, 0, ⟨#[]⟩⟩
  | _ => ⟨15, 2, 0, 0, 0, ⟨#[]⟩⟩
def wantF (a b : Int) : Nat → Int
  | 0 => wrap64 (a + b)
  | 1 => wrap64 (a - b)
  | 2 => wrap64 (a * b)
  | 3 => b2i (decide (a < b))
  | _ => b2i (decide (a = b))
set_option maxHeartbeats 8000000 in
theorem ex_sg (k : Nat) (hk : k < 5) (a b : Int) (g : Nat) (w : World) (h : Rows_ w (some ⟨g, 0, none⟩) 3 6 (fun i => insC (sgI ((k : Int) + 3) b i))) :
    Calls Try.prog 17 #[.agg #[.string ⟨#[112]⟩, .int .i64 3, .slice (some ⟨g, 0, none⟩) 3 3], .int .i64 a, .slice none 0 0, .slice none 0 0, .int .i64 10] w (RunAt w 1 0 (wantF a b k) 0 0 (fun i => [].getD i default) 0 3) := by
  have hk' : k = 0 ∨ k = 1 ∨ k = 2 ∨ k = 3 ∨ k = 4 := by omega
  rcases hk' with rfl | rfl | rfl | rfl | rfl
  · refine (run_callsC ⟨#[112]⟩ 3 a 10 (some ⟨g, 0, none⟩) none none 3 3 0 0 0 0 (sgI (((0 : Nat) : Int) + 3) b) kno1 (fun _ => 0) w h (no_rows _ _ _) (no_rows _ _ _) (by decide)).mono fun e w' hp => ?_
    have h0 : runE ⟨#[112]⟩ 3 3 (sgI (((0 : Nat) : Int) + 3) b) 10 = 0 := by rfl
    rw [h0] at hp
    exact run_at_of (l := []) (sig := 0) (steps := 3) hp (by rfl) (by rfl) (by rfl) (by rfl) (by rfl) (by rfl) (by rfl)
  · refine (run_callsC ⟨#[112]⟩ 3 a 10 (some ⟨g, 0, none⟩) none none 3 3 0 0 0 0 (sgI (((1 : Nat) : Int) + 3) b) kno1 (fun _ => 0) w h (no_rows _ _ _) (no_rows _ _ _) (by decide)).mono fun e w' hp => ?_
    have h0 : runE ⟨#[112]⟩ 3 3 (sgI (((1 : Nat) : Int) + 3) b) 10 = 0 := by rfl
    rw [h0] at hp
    exact run_at_of (l := []) (sig := 0) (steps := 3) hp (by rfl) (by rfl) (by rfl) (by rfl) (by rfl) (by rfl) (by rfl)
  · refine (run_callsC ⟨#[112]⟩ 3 a 10 (some ⟨g, 0, none⟩) none none 3 3 0 0 0 0 (sgI (((2 : Nat) : Int) + 3) b) kno1 (fun _ => 0) w h (no_rows _ _ _) (no_rows _ _ _) (by decide)).mono fun e w' hp => ?_
    have h0 : runE ⟨#[112]⟩ 3 3 (sgI (((2 : Nat) : Int) + 3) b) 10 = 0 := by rfl
    rw [h0] at hp
    exact run_at_of (l := []) (sig := 0) (steps := 3) hp (by rfl) (by rfl) (by rfl) (by rfl) (by rfl) (by rfl) (by rfl)
  · refine (run_callsC ⟨#[112]⟩ 3 a 10 (some ⟨g, 0, none⟩) none none 3 3 0 0 0 0 (sgI (((3 : Nat) : Int) + 3) b) kno1 (fun _ => 0) w h (no_rows _ _ _) (no_rows _ _ _) (by decide)).mono fun e w' hp => ?_
    have h0 : runE ⟨#[112]⟩ 3 3 (sgI (((3 : Nat) : Int) + 3) b) 10 = 0 := by rfl
    rw [h0] at hp
    exact run_at_of (l := []) (sig := 0) (steps := 3) hp (by rfl) (by rfl) (by rfl) (by rfl) (by rfl) (by rfl) (by rfl)
  · refine (run_callsC ⟨#[112]⟩ 3 a 10 (some ⟨g, 0, none⟩) none none 3 3 0 0 0 0 (sgI (((4 : Nat) : Int) + 3) b) kno1 (fun _ => 0) w h (no_rows _ _ _) (no_rows _ _ _) (by decide)).mono fun e w' hp => ?_
    have h0 : runE ⟨#[112]⟩ 3 3 (sgI (((4 : Nat) : Int) + 3) b) 10 = 0 := by rfl
    rw [h0] at hp
    exact run_at_of (l := []) (sig := 0) (steps := 3) hp (by rfl) (by rfl) (by rfl) (by rfl) (by rfl) (by rfl) (by rfl)
theorem sgx0 (w : World) : (Instr.index 60 (.agg #[.int .u8 3, .int .u8 4, .int .u8 5, .int .u8 6, .int .u8 7]) (.int .i64 ((0 : Nat) : Int))).run Try.prog w = .ok (.int .u8 (((0 : Nat) : Int) + 3)) w := by kernel_rfl
theorem sgx1 (w : World) : (Instr.index 60 (.agg #[.int .u8 3, .int .u8 4, .int .u8 5, .int .u8 6, .int .u8 7]) (.int .i64 ((1 : Nat) : Int))).run Try.prog w = .ok (.int .u8 (((1 : Nat) : Int) + 3)) w := by kernel_rfl
theorem sgx2 (w : World) : (Instr.index 60 (.agg #[.int .u8 3, .int .u8 4, .int .u8 5, .int .u8 6, .int .u8 7]) (.int .i64 ((2 : Nat) : Int))).run Try.prog w = .ok (.int .u8 (((2 : Nat) : Int) + 3)) w := by kernel_rfl
theorem sgx3 (w : World) : (Instr.index 60 (.agg #[.int .u8 3, .int .u8 4, .int .u8 5, .int .u8 6, .int .u8 7]) (.int .i64 ((3 : Nat) : Int))).run Try.prog w = .ok (.int .u8 (((3 : Nat) : Int) + 3)) w := by kernel_rfl
theorem sgx4 (w : World) : (Instr.index 60 (.agg #[.int .u8 3, .int .u8 4, .int .u8 5, .int .u8 6, .int .u8 7]) (.int .i64 ((4 : Nat) : Int))).run Try.prog w = .ok (.int .u8 (((4 : Nat) : Int) + 3)) w := by kernel_rfl
theorem trs_calls (t : Bool) (w : World) : Calls Try.prog 19 #[.bool t] w fun e w' => e = .returned (.int .i64 (b2i t)) ∧ w = w' := by
  cases t
  all_goals
    go_enter Try.func19, Try.ntmps19
    go_wp2
    go_ret
    exact ⟨rfl, rfl⟩
set_option maxRecDepth 100000 in
set_option maxHeartbeats 8000000 in
theorem signs_walk (a b : Int) (w : World) :
    Calls Try.prog 9 #[.int .i64 a, .int .i64 b] w fun e w' => e = .returned (.bool true) ∧ Ext w w' := by
  have hxi : ∀ k : Nat, k < 5 → ∀ w, (Instr.index 60 (.agg #[.int .u8 3, .int .u8 4, .int .u8 5, .int .u8 6, .int .u8 7]) (.int .i64 k)).run Try.prog w = .ok (.int .u8 ((k : Int) + 3)) w := by
    intro k hk w
    have hk' : k = 0 ∨ k = 1 ∨ k = 2 ∨ k = 3 ∨ k = 4 := by omega
    rcases hk' with rfl | rfl | rfl | rfl | rfl
    · exact sgx0 w
    · exact sgx1 w
    · exact sgx2 w
    · exact sgx3 w
    · exact sgx4 w
  have HXI := Lib.hid hxi; clear hxi
  go_enter Try.func9, Try.ntmps9
  go_upto_region 3 with (go_at_call 19; refine (trs_calls _ _).mono ?_; rintro e w1 ⟨rfl, rfl⟩)
  refine wp_at ?_
  intro W0 hW
  have hx : Ext w W0 := by rw [hW]; repeat (first | exact ext_refl _ | assumption | refine ext_more' ?_ _ _ | refine ext_drew ?_ | refine ext_drewN ?_ _ | refine ext_alloc ?_ _)
  have b0 := at_new (by rw [hW]; repeat (first | exact ext_refl _ | assumption | refine ext_more' ?_ _ _ | refine ext_drew ?_ | refine ext_drewN ?_ _ | refine ext_alloc ?_ _) : Ext (World.alloc w (.cells _ _)) W0)
  have heq : b2i (a == b) = b2i (decide (a = b)) := by rw [show (a == b) = decide (a = b) from by rw [Bool.eq_iff_iff]; simp]
  rw [heq] at b0 ⊢
  have hbx : ∀ k : Nat, k < 5 → (#[.int .i64 (wrap64 (a + b)), .int .i64 (wrap64 (a - b)), .int .i64 (wrap64 (a * b)), .int .i64 (b2i (decide (a < b))), .int .i64 (b2i (decide (a = b)))] : Array Value)[k]? = some (.int .i64 (wantF a b k)) := by
    intro k hk
    have hk' : k = 0 ∨ k = 1 ∨ k = 2 ∨ k = 3 ∨ k = 4 := by omega
    rcases hk' with rfl | rfl | rfl | rfl | rfl <;> rfl
  have HB0 := Lib.hid b0; have HX := Lib.hid hx; have HBX := Lib.hid hbx
  have HXR := Lib.hid (ext_refl W0)
  clear hW b0 hx hbx heq
  go_wp2_with fail
  go_loopg [33] 5 (fun g k wr => ∃ (i : Nat), k = .int .i64 i ∧ g + i = 5 ∧ Ext W0 wr)
  case atStart => exact ⟨0, rfl, by omega, HXR.out⟩
  case round =>
    obtain ⟨i, rfl, hgi, hxr⟩ := hrel
    have HR := Lib.hid hxr; clear hxr HXR
    by_cases hi : i < 5
    · have hi3 : (i : Int) < 5 := by omega
      have hi0 : (0 : Int) ≤ i := by omega
      have hix := HXI.out i hi
      have HS := Lib.hid (ex_sg i hi a b)
      go_upto_region 7 with fail
      refine wp_at ?_
      intro W1 hW
      have e1 : Ext wr W1 := by rw [hW]; repeat (first | exact ext_refl _ | assumption | refine ext_more' ?_ _ _ | refine ext_drew ?_ | refine ext_drewN ?_ _ | refine ext_alloc ?_ _)
      obtain ⟨l1, k1⟩ := box_facts (by rw [hW]; repeat (first | exact ext_refl _ | assumption | refine ext_more' ?_ _ _ | refine ext_drew ?_ | refine ext_drewN ?_ _ | refine ext_alloc ?_ _) : Ext (World.alloc wr (.cells _ _)) W1)
      obtain ⟨l2, k2⟩ := box_facts (by rw [hW]; repeat (first | exact ext_refl _ | assumption | refine ext_more' ?_ _ _ | refine ext_drew ?_ | refine ext_drewN ?_ _ | refine ext_alloc ?_ _) : Ext ((World.alloc wr (.cells _ _)).alloc (.cells _ _)) W1)
      simp only [sz_alloc] at l2 k2
      have HRW := Lib.hid (show Rows_ W1 (some ⟨wr.heap.size, 0, none⟩) 3 6 (fun j => insC (sgI ((i : Int) + 3) b j)) from rows_of_box l1 k1 fun j hj => ⟨rfl, fun q hq => by
        have hj' : j = 0 ∨ j = 1 ∨ j = 2 := by omega
        have hq' : q = 0 ∨ q = 1 ∨ q = 2 ∨ q = 3 ∨ q = 4 ∨ q = 5 := by omega
        rcases hj' with rfl | rfl | rfl <;> rcases hq' with rfl | rfl | rfl | rfl | rfl | rfl <;> rfl⟩)
      have HR1 := Lib.hid (ext_trans HR.out e1)
      clear hW e1 hix k1 l1
      go_wp2_with fail
      refine (HS.out _ _ HRW.out).mono ?_
      rintro e w2 ⟨ms, cap, rfl, hb, hr⟩
      clear hr k2 l2
      have HR2 := Lib.hid (ext_trans HR1.out hb)
      clear hb HRW HR1
      go_upto_region 8 with fail
      refine wp_at ?_
      intro W2 hW
      have e2 : Ext w2 W2 := by rw [hW]; repeat (first | exact ext_refl _ | assumption | refine ext_more' ?_ _ _ | refine ext_drew ?_ | refine ext_drewN ?_ _ | refine ext_alloc ?_ _)
      obtain ⟨l3, k3⟩ := box_facts (by rw [hW]; repeat (first | exact ext_refl _ | assumption | refine ext_more' ?_ _ _ | refine ext_drew ?_ | refine ext_drewN ?_ _ | refine ext_alloc ?_ _) : Ext (World.alloc w2 (.cells _ _)) W2)
      have hx2 := ext_trans HR2.out e2
      have b0 := at_ext HB0.out (by simp) hx2
      have kw : W2.cell? ⟨w.heap.size, i, none⟩ = some (.int .i64 (wantF a b i)) := (b0.1 i).trans (HBX.out i hi)
      have HR3 := Lib.hid hx2
      clear hW e2 hx2 b0 HR2
      generalize wantF a b i = wn at *
      go_quiet (fail)
      go_wp2
      go_roundg (gk - 1)
      case measure => omega
      case rel => exact ⟨i + 1, by go_num, by omega, by have hx := HR3.out; repeat (first | exact ext_refl _ | assumption | refine ext_more' ?_ _ _ | refine ext_drew ?_ | refine ext_drewN ?_ _ | refine ext_alloc ?_ _)⟩
    · have hi3 : ¬ ((i : Int) < 5) := by omega
      go_wp2_with (go_at_call 11; refine (awake10_calls _).mono ?_; rintro e w1 ⟨rfl, hb⟩; obtain ⟨r, d, rfl⟩ := ext_form hb; clear hb)
      go_ret
      exact ⟨rfl, by have hx := ext_trans HX.out HR.out; repeat (first | exact ext_refl _ | assumption | refine ext_more' ?_ _ _ | refine ext_drew ?_ | refine ext_drewN ?_ _ | refine ext_alloc ?_ _)⟩
end Go.Proofs.Ytpfkpdimjljeaaa

/- Heaps that New did not make. -/
import Derived.Test.YtkicofagjebnjaaR07
import Derived.Test.YtkicofagjebnjaaSp7b
namespace Go.Proofs.Ytkicofagjebnjaa
open Go.RowKit
set_option linter.unusedVariables false
set_option linter.unusedSimpArgs false

/-- A heap that New did not make. -/
def HNo (w : World) (p : Value) : Prop := p = .pointer none ∨ ∃ hb, p = .pointer (some ⟨hb, 0, none⟩) ∧ At w hb #[.slice none 0 0, .map none, .int .i64 0]
theorem HNo.ext {w w' : World} {p : Value} (h : HNo w p) (x : Ext w w') : HNo w' p := h.imp id fun ⟨hb, e, k⟩ => ⟨hb, e, at_ext k (by simp) x⟩
theorem made_no (p : Value) (w : World) (hp : HNo w p) : Calls Try.prog 33 #[p] w fun e w' => e = .returned (.bool false) ∧ Ext w w' := by
  rcases hp with rfl | ⟨hb, rfl, hh⟩
  · exact made_nil w
  · exact made_not hb w (at_lt hh (by simp)) (by rw [hh.1]; rfl)

set_option maxRecDepth 100000 in
set_option maxHeartbeats 4000000 in
theorem drop_no (p : Value) (d : Int) (w : World) (hp : HNo w p) : Calls Try.prog 12 #[p, .int .i64 d] w fun e w' => e = .returned (.tuple #[.agg #[.int .i64 0, .int .i64 0], .int .i64 1]) ∧ Ext w w' := by
  have HP := Lib.hid hp
  clear hp
  go_enter Try.func12, Try.ntmps12
  go_wp2_with (go_at_call 33; refine (made_no p _ (HP.out.ext (by repeat (first | exact ext_refl _ | assumption | refine ext_more' ?_ _ _ | refine ext_drew ?_ | refine ext_drewN ?_ _ | refine ext_alloc ?_ _)))).mono ?_; rintro e w1 ⟨rfl, hx⟩; obtain ⟨r, d, rfl⟩ := ext_form hx; clear hx)
  refine post_at ?_
  intro W1 hW
  have x1 : Ext w W1 := by rw [hW]; repeat (first | exact ext_refl _ | assumption | refine ext_more' ?_ _ _ | refine ext_drew ?_ | refine ext_drewN ?_ _ | refine ext_alloc ?_ _)
  have b1 := at_new (by rw [hW]; repeat (first | exact ext_refl _ | assumption | refine ext_more' ?_ _ _ | refine ext_drew ?_ | refine ext_drewN ?_ _ | refine ext_alloc ?_ _) : Ext (World.alloc w (.cells _ _)) W1)
  clear hW
  have k1 := b1.1
  refine bodyPost_ret (by simp [results, Try.results12, go_sem, k1]; rfl) rfl ?_
  exact ⟨rfl, x1⟩

set_option maxRecDepth 100000 in
set_option maxHeartbeats 4000000 in
theorem get_no (p : Value) (d : Int) (w : World) (hp : HNo w p) : Calls Try.prog 25 #[p, .int .i64 d] w fun e w' => e = .returned (.tuple #[.agg #[.int .i64 0, .int .i64 0], .bool false]) ∧ Ext w w' := by
  have HP := Lib.hid hp
  clear hp
  go_enter Try.func25, Try.ntmps25
  go_wp2_with (go_at_call 33; refine (made_no p _ (HP.out.ext (by repeat (first | exact ext_refl _ | assumption | refine ext_more' ?_ _ _ | refine ext_drew ?_ | refine ext_drewN ?_ _ | refine ext_alloc ?_ _)))).mono ?_; rintro e w1 ⟨rfl, hx⟩; obtain ⟨r, d, rfl⟩ := ext_form hx; clear hx)
  refine post_at ?_
  intro W1 hW
  have x1 : Ext w W1 := by rw [hW]; repeat (first | exact ext_refl _ | assumption | refine ext_more' ?_ _ _ | refine ext_drew ?_ | refine ext_drewN ?_ _ | refine ext_alloc ?_ _)
  have b1 := at_new (by rw [hW]; repeat (first | exact ext_refl _ | assumption | refine ext_more' ?_ _ _ | refine ext_drew ?_ | refine ext_drewN ?_ _ | refine ext_alloc ?_ _) : Ext (World.alloc w (.cells _ _)) W1)
  clear hW
  have k1 := b1.1
  refine bodyPost_ret (by simp [results, Try.results25, go_sem, k1]; rfl) rfl ?_
  exact ⟨rfl, x1⟩

set_option maxRecDepth 100000 in
set_option maxHeartbeats 4000000 in
theorem next_no (p : Value) (w : World) (hp : HNo w p) : Calls Try.prog 18 #[p] w fun e w' => e = .returned (.tuple #[.agg #[.int .i64 0, .int .i64 0], .bool false]) ∧ Ext w w' := by
  have HP := Lib.hid hp
  clear hp
  go_enter Try.func18, Try.ntmps18
  go_wp2_with (go_at_call 33; refine (made_no p _ (HP.out.ext (by repeat (first | exact ext_refl _ | assumption | refine ext_more' ?_ _ _ | refine ext_drew ?_ | refine ext_drewN ?_ _ | refine ext_alloc ?_ _)))).mono ?_; rintro e w1 ⟨rfl, hx⟩; obtain ⟨r, d, rfl⟩ := ext_form hx; clear hx)
  refine post_at ?_
  intro W1 hW
  have x1 : Ext w W1 := by rw [hW]; repeat (first | exact ext_refl _ | assumption | refine ext_more' ?_ _ _ | refine ext_drew ?_ | refine ext_drewN ?_ _ | refine ext_alloc ?_ _)
  have b1 := at_new (by rw [hW]; repeat (first | exact ext_refl _ | assumption | refine ext_more' ?_ _ _ | refine ext_drew ?_ | refine ext_drewN ?_ _ | refine ext_alloc ?_ _) : Ext (World.alloc w (.cells _ _)) W1)
  clear hW
  have k1 := b1.1
  refine bodyPost_ret (by simp [results, Try.results18, go_sem, k1]; rfl) rfl ?_
  exact ⟨rfl, x1⟩

set_option maxRecDepth 100000 in
set_option maxHeartbeats 4000000 in
theorem pop_no (p : Value) (w : World) (hp : HNo w p) : Calls Try.prog 13 #[p] w fun e w' => e = .returned (.tuple #[.agg #[.int .i64 0, .int .i64 0], .bool false]) ∧ Ext w w' := by
  have HP := Lib.hid hp
  clear hp
  go_enter Try.func13, Try.ntmps13
  go_wp2_with (go_at_call 33; refine (made_no p _ (HP.out.ext (by repeat (first | exact ext_refl _ | assumption | refine ext_more' ?_ _ _ | refine ext_drew ?_ | refine ext_drewN ?_ _ | refine ext_alloc ?_ _)))).mono ?_; rintro e w1 ⟨rfl, hx⟩; obtain ⟨r, d, rfl⟩ := ext_form hx; clear hx)
  refine post_at ?_
  intro W1 hW
  have x1 : Ext w W1 := by rw [hW]; repeat (first | exact ext_refl _ | assumption | refine ext_more' ?_ _ _ | refine ext_drew ?_ | refine ext_drewN ?_ _ | refine ext_alloc ?_ _)
  have b1 := at_new (by rw [hW]; repeat (first | exact ext_refl _ | assumption | refine ext_more' ?_ _ _ | refine ext_drew ?_ | refine ext_drewN ?_ _ | refine ext_alloc ?_ _) : Ext (World.alloc w (.cells _ _)) W1)
  clear hW
  have k1 := b1.1
  refine bodyPost_ret (by simp [results, Try.results13, go_sem, k1]; rfl) rfl ?_
  exact ⟨rfl, x1⟩

set_option maxRecDepth 100000 in
set_option maxHeartbeats 4000000 in
theorem put_no (p : Value) (t : Tmr) (w : World) (hp : HNo w p) : Calls Try.prog 22 #[p, .agg #[.int .i64 t.due, .int .i64 t.id]] w fun e w' => e = .returned (.int .i64 1) ∧ Ext w w' := by
  have HP := Lib.hid hp
  clear hp
  go_enter Try.func22, Try.ntmps22
  go_wp2_with (go_at_call 33; refine (made_no p _ (HP.out.ext (by repeat (first | exact ext_refl _ | assumption | refine ext_more' ?_ _ _ | refine ext_drew ?_ | refine ext_drewN ?_ _ | refine ext_alloc ?_ _)))).mono ?_; rintro e w1 ⟨rfl, hx⟩; obtain ⟨r, d, rfl⟩ := ext_form hx; clear hx)
  go_ret
  exact ⟨rfl, by repeat (first | exact ext_refl _ | assumption | refine ext_more' ?_ _ _ | refine ext_drew ?_ | refine ext_drewN ?_ _ | refine ext_alloc ?_ _)⟩
set_option maxRecDepth 100000 in
set_option maxHeartbeats 4000000 in
theorem due_no (p : Value) (now : Int) (w : World) (hp : HNo w p) : Calls Try.prog 17 #[p, .int .i64 now] w fun e w' => e = .returned (.slice none 0 0) ∧ Ext w w' := by
  have HP := Lib.hid hp
  clear hp
  go_enter Try.func17, Try.ntmps17
  go_upto_region 3 with (go_at_call 18; refine (next_no p _ (HP.out.ext (by repeat (first | exact ext_refl _ | assumption | refine ext_more' ?_ _ _ | refine ext_drew ?_ | refine ext_drewN ?_ _ | refine ext_alloc ?_ _)))).mono ?_; rintro e w1 ⟨rfl, hx⟩; obtain ⟨r, d, rfl⟩ := ext_form hx; clear hx)
  go_loopg [5, 7] 1 (fun gk k5 k7 wr => k5 = .slice none 0 0 ∧ k7 = .bool false ∧ Ext w wr)
  case atStart => exact ⟨rfl, rfl, by repeat (first | exact ext_refl _ | assumption | refine ext_more' ?_ _ _ | refine ext_drew ?_ | refine ext_drewN ?_ _ | refine ext_alloc ?_ _)⟩
  case round =>
    obtain ⟨rfl, rfl, hx⟩ := hrel
    have HX := Lib.hid hx
    clear hx
    go_wp2
    go_ret
    exact ⟨rfl, HX.out⟩
theorem len_no (p : Value) (w : World) (hp : HNo w p) : Calls Try.prog 15 #[p] w fun e w' => e = .returned (.int .i64 0) ∧ Ext w w' := by
  rcases hp with rfl | ⟨hb, rfl, hh⟩
  · exact len_nil w
  · have k := hh.1
    have l := at_lt hh (by simp)
    clear hh
    go_enter Try.func15, Try.ntmps15
    go_wp2
    go_ret
    exact ⟨rfl, by repeat (first | exact ext_refl _ | assumption | refine ext_more' ?_ _ _ | refine ext_drew ?_ | refine ext_drewN ?_ _ | refine ext_alloc ?_ _)⟩
theorem all_no (p : Value) (w : World) (hp : HNo w p) : Calls Try.prog 20 #[p] w fun e w' => (∃ ms cap, e = .returned (.slice ms 0 cap)) ∧ Ext w w' := by
  rcases hp with rfl | ⟨hb, rfl, hh⟩
  · exact (all_nil w).mono fun e w' ⟨h, x⟩ => ⟨⟨_, _, h⟩, x⟩
  · have k := hh.1
    have l := at_lt hh (by simp)
    clear hh
    go_enter Try.func20, Try.ntmps20
    go_wp2_with (first
      | (go_at_call 36; refine (clone_tmr none 0 [] _ (fun h => by simp at h) (by simp)).mono ?_; unfold ClonePost7; rintro e w1 ⟨ms1, cap1, rfl, ho1, hx1⟩; have HX1 := Lib.hid hx1; clear ho1 hx1)
      | (go_at_call 37; refine (sort_none _ _ _ _).mono ?_; rintro e w2 ⟨rfl, rfl⟩))
    go_ret
    exact ⟨⟨_, _, rfl⟩, HX1.out⟩
end Go.Proofs.Ytkicofagjebnjaa

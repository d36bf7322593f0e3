/- The laws of layer 15: each is walked, and returns true. -/
import Derived.Test.YtnjagdhpiehlpaaC15
namespace Go.Proofs.Ytnjagdhpiehlpaa
open Go.RowKit

set_option maxHeartbeats 2000000 in
theorem awake15_calls (w : World) :
    Calls Try.prog 22 #[] w fun e w' => e = .returned (.bool true) ∧ Ext w w' := by
  have ea := Lib.hid (show dueAt ⟨1, 0, 0, 0, 4, 10, 0, 1⟩ ⟨0, -1, 3, 3⟩ = 7 from by decide)
  have eb := Lib.hid (show dueWhich ⟨1, 0, 0, 0, 4, 10, 0, 1⟩ ⟨0, -1, 3, 3⟩ = 2 from by decide)
  have ec := Lib.hid (show dueOk ⟨1, 0, 0, 0, 4, 10, 0, 1⟩ ⟨0, -1, 3, 3⟩ = true from by decide)
  have fa := Lib.hid (show dueAt ⟨1, 0, 0, 0, 4, 10, 0, 1⟩ ⟨0, -1, 6, 6⟩ = 10 from by decide)
  have fb := Lib.hid (show dueWhich ⟨1, 0, 0, 0, 4, 10, 0, 1⟩ ⟨0, -1, 6, 6⟩ = 3 from by decide)
  have fc := Lib.hid (show dueOk ⟨1, 0, 0, 0, 4, 10, 0, 1⟩ ⟨0, -1, 6, 6⟩ = true from by decide)
  have ga := Lib.hid (show dueAt ⟨1, 0, 0, 0, 0, 0, 0, 1⟩ ⟨0, 0, 0, 0⟩ = 0 from by decide)
  have gb := Lib.hid (show dueWhich ⟨1, 0, 0, 0, 0, 0, 0, 1⟩ ⟨0, 0, 0, 0⟩ = 0 from by decide)
  have gc := Lib.hid (show dueOk ⟨1, 0, 0, 0, 0, 0, 0, 1⟩ ⟨0, 0, 0, 0⟩ = false from by decide)
  go_enter Try.func22, Try.ntmps22
  go_wp2_with fail
  obtain ⟨W0, hW, hxw, hall⟩ := box1 w #[.int .i64 1, .int .i64 0, .int .i64 0, .int .i64 0, .int .i64 4, .int .i64 10, .int .i64 0, .int .i64 1] 23
  rw [← hW]; clear hW
  have hx := ext_refl W0
  go_wp2_with (go_at_call 21; refine (due_calls _ _ _ _ _ _ _ _ _ _ _ _ _).mono ?_; (first | rw [ea.out, eb.out, ec.out] | rw [fa.out, fb.out, fc.out] | rw [ga.out, gb.out, gc.out]); rintro e w1 ⟨rfl, hb⟩; replace hx := ext_trans hx hb; clear hb)
  go_ret
  exact ⟨rfl, ext_trans hxw hx⟩
end Go.Proofs.Ytnjagdhpiehlpaa

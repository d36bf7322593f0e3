/- What program's functions do: names, numbers below. -/
import Derived.Test.YtpfkpdimjljeaaaS10
import Derived.Test.YtpfkpdimjljeaaaWg
namespace Go.Proofs.Ytpfkpdimjljeaaa
open Go.RowKit
set_option linter.unusedVariables false
set_option linter.unusedSimpArgs false

theorem below_calls (h : Int) (w : World) :
    Calls Try.prog 35 #[.int .i64 h] w fun e w' => e = .returned (.func (.func 36) #[] #[.pointer (some ⟨w.heap.size, 0, none⟩)]) ∧ w' = w.alloc (.cells #[.int .i64 h] 3) := by
  go_enter Try.func35, Try.ntmps35
  go_wp2
  go_ret
  exact ⟨rfl, rfl⟩
theorem below1_calls (n h : Int) (b : Nat) (w : World) (hb : w.cell? ⟨b, 0, none⟩ = some (.int .i64 h)) :
    Calls Try.prog 36 #[.int .i64 n, .pointer (some ⟨b, 0, none⟩)] w fun e w' => e = .returned (.bool (decide (0 ≤ n) && decide (n < h))) ∧ w = w' := by
  go_enter Try.func36, Try.ntmps36
  go_wp2
  all_goals (go_ret; refine ⟨?_, rfl⟩)
  all_goals (simp; try omega)
theorem any_calls (n : Int) (w : World) :
    Calls Try.prog 37 #[.int .i64 n] w fun e w' => e = .returned (.bool true) ∧ w = w' := by
  go_enter Try.func37, Try.ntmps37
  go_wp2
  go_ret
  exact ⟨rfl, rfl⟩
theorem named_calls (s : ByteArray) (w : World) :
    Calls Try.prog 27 #[.string s] w fun e w' => e = .returned (.bool (nameB s)) ∧ w = w' := by
  go_enter Try.func27, Try.ntmps27
  go_wp2
  all_goals (go_ret; refine ⟨?_, rfl⟩)
  all_goals (simp [nameB, *]; try omega)
end Go.Proofs.Ytpfkpdimjljeaaa

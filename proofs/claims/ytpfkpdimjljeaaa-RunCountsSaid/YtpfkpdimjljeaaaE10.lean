/- What run's functions do: signs. -/
import Derived.Test.YtpfkpdimjljeaaaS10
import Derived.Test.YtpfkpdimjljeaaaWg
import Derived.Laws.EntriesVeiled
namespace Go.Proofs.Ytpfkpdimjljeaaa
open Go.RowKit
set_option linter.unusedVariables false
set_option linter.unusedSimpArgs false

theorem sign_add (w : World) : Calls Try.prog 29 #[.int .u8 3] w fun e w' => e = .returned (.tuple #[.func (.func 40) #[] #[], .bool true]) ∧ Ext w w' := by
  go_enter Try.func29, Try.ntmps29
  go_wp2
  refine bodyPost_ret (by simp [results, Try.results29, go_sem]; rfl) rfl ?_
  exact ⟨rfl, by repeat (first | exact ext_refl _ | assumption | refine ext_more' ?_ _ _ | refine ext_drew ?_ | refine ext_drewN ?_ _ | refine ext_alloc ?_ _)⟩

theorem sign_sub (w : World) : Calls Try.prog 29 #[.int .u8 4] w fun e w' => e = .returned (.tuple #[.func (.func 41) #[] #[], .bool true]) ∧ Ext w w' := by
  go_enter Try.func29, Try.ntmps29
  go_wp2
  refine bodyPost_ret (by simp [results, Try.results29, go_sem]; rfl) rfl ?_
  exact ⟨rfl, by repeat (first | exact ext_refl _ | assumption | refine ext_more' ?_ _ _ | refine ext_drew ?_ | refine ext_drewN ?_ _ | refine ext_alloc ?_ _)⟩

theorem sign_mul (w : World) : Calls Try.prog 29 #[.int .u8 5] w fun e w' => e = .returned (.tuple #[.func (.func 42) #[] #[], .bool true]) ∧ Ext w w' := by
  go_enter Try.func29, Try.ntmps29
  go_wp2
  refine bodyPost_ret (by simp [results, Try.results29, go_sem]; rfl) rfl ?_
  exact ⟨rfl, by repeat (first | exact ext_refl _ | assumption | refine ext_more' ?_ _ _ | refine ext_drew ?_ | refine ext_drewN ?_ _ | refine ext_alloc ?_ _)⟩

theorem sign_less (w : World) : Calls Try.prog 29 #[.int .u8 6] w fun e w' => e = .returned (.tuple #[.func (.func 43) #[] #[.pointer (some ⟨w.heap.size, 0, none⟩)], .bool true]) ∧ Ext w w' ∧ w'.cell? ⟨w.heap.size, 0, none⟩ = some (.func (.func 39) #[] #[]) := by
  go_enter Try.func29, Try.ntmps29
  go_wp2
  refine bodyPost_ret (by simp [results, Try.results29, go_sem]; rfl) rfl ?_
  exact ⟨rfl, by repeat (first | exact ext_refl _ | assumption | refine ext_more' ?_ _ _ | refine ext_drew ?_ | refine ext_drewN ?_ _ | refine ext_alloc ?_ _), by simp⟩

theorem sign_same (w : World) : Calls Try.prog 29 #[.int .u8 7] w fun e w' => e = .returned (.tuple #[.func (.func 44) #[] #[.pointer (some ⟨w.heap.size, 0, none⟩)], .bool true]) ∧ Ext w w' ∧ w'.cell? ⟨w.heap.size, 0, none⟩ = some (.func (.func 39) #[] #[]) := by
  go_enter Try.func29, Try.ntmps29
  go_wp2
  refine bodyPost_ret (by simp [results, Try.results29, go_sem]; rfl) rfl ?_
  exact ⟨rfl, by repeat (first | exact ext_refl _ | assumption | refine ext_more' ?_ _ _ | refine ext_drew ?_ | refine ext_drewN ?_ _ | refine ext_alloc ?_ _), by simp⟩

theorem sign_no (o : Int) (h : ¬ (3 ≤ o ∧ o ≤ 7)) (w : World) : Calls Try.prog 29 #[.int .u8 o] w fun e w' => e = .returned (.tuple #[.nilFunc, .bool false]) ∧ Ext w w' := by
  have h3 : (o == 3) = false := by simp; omega
  have h4 : (o == 4) = false := by simp; omega
  have h5 : (o == 5) = false := by simp; omega
  have h6 : (o == 6) = false := by simp; omega
  have h7 : (o == 7) = false := by simp; omega
  clear h
  go_enter Try.func29, Try.ntmps29
  go_wp2
  refine bodyPost_ret (by simp [results, Try.results29, go_sem]; rfl) rfl ?_
  exact ⟨rfl, by repeat (first | exact ext_refl _ | assumption | refine ext_more' ?_ _ _ | refine ext_drew ?_ | refine ext_drewN ?_ _ | refine ext_alloc ?_ _)⟩
theorem sgn_add (a b : Int) (w : World) : Calls Try.prog 40 #[.int .i64 a, .int .i64 b] w fun e w' => e = .returned (.int .i64 (wrap64 (a + b))) ∧ w = w' := by
  go_enter Try.func40, Try.ntmps40
  go_wp2
  go_ret
  exact ⟨rfl, rfl⟩
theorem sgn_sub (a b : Int) (w : World) : Calls Try.prog 41 #[.int .i64 a, .int .i64 b] w fun e w' => e = .returned (.int .i64 (wrap64 (a - b))) ∧ w = w' := by
  go_enter Try.func41, Try.ntmps41
  go_wp2
  go_ret
  exact ⟨rfl, rfl⟩
theorem sgn_mul (a b : Int) (w : World) : Calls Try.prog 42 #[.int .i64 a, .int .i64 b] w fun e w' => e = .returned (.int .i64 (wrap64 (a * b))) ∧ w = w' := by
  go_enter Try.func42, Try.ntmps42
  go_wp2
  go_ret
  exact ⟨rfl, rfl⟩
theorem truth_t (w : World) : Calls Try.prog 39 #[.bool true] w fun e w' => e = .returned (.int .i64 1) ∧ w = w' := by
  go_enter Try.func39, Try.ntmps39
  go_wp2
  go_ret
  exact ⟨rfl, rfl⟩
theorem truth_f (w : World) : Calls Try.prog 39 #[.bool false] w fun e w' => e = .returned (.int .i64 0) ∧ w = w' := by
  go_enter Try.func39, Try.ntmps39
  go_wp2
  go_ret
  exact ⟨rfl, rfl⟩
def b2i (b : Bool) : Int := if b then 1 else 0
theorem truth_calls (b : Bool) (w : World) : Calls Try.prog 39 #[.bool b] w fun e w' => e = .returned (.int .i64 (b2i b)) ∧ w = w' := by
  cases b
  · exact truth_f w
  · exact truth_t w
theorem sgn_less (a b : Int) (p : Nat) (w : World) (hp : w.cell? ⟨p, 0, none⟩ = some (.func (.func 39) #[] #[])) : Calls Try.prog 43 #[.int .i64 a, .int .i64 b, .pointer (some ⟨p, 0, none⟩)] w fun e w' => e = .returned (.int .i64 (b2i (decide (a < b)))) ∧ w = w' := by
  go_enter Try.func43, Try.ntmps43
  go_wp2_with (go_at_call 39; refine (truth_calls _ _).mono ?_; rintro e w1 ⟨rfl, rfl⟩)
  go_ret
  exact ⟨rfl, rfl⟩
theorem sgn_same (a b : Int) (p : Nat) (w : World) (hp : w.cell? ⟨p, 0, none⟩ = some (.func (.func 39) #[] #[])) : Calls Try.prog 44 #[.int .i64 a, .int .i64 b, .pointer (some ⟨p, 0, none⟩)] w fun e w' => e = .returned (.int .i64 (b2i (decide (a = b)))) ∧ w = w' := by
  go_enter Try.func44, Try.ntmps44
  go_wp2_with (go_at_call 39; refine (truth_calls _ _).mono ?_; rintro e w1 ⟨rfl, rfl⟩)
  go_ret
  exact ⟨by first | rfl | (congr 3), rfl⟩
end Go.Proofs.Ytpfkpdimjljeaaa

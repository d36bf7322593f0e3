/- The row of millwheellaw10.RunCounts: for every input it returns true, and its arguments read as before. No condition. -/
import Derived.Test.YtpfkpdimjljeaaaRows
import Derived.Test.YtpfkpdimjljeaaaOp
import Derived.Test.YtpfkpdimjljeaaaF10e
import Derived.Test.YtpfkpdimjljeaaaOp3
namespace Go.Proofs.Ytpfkpdimjljeaaa.runCounts
open Go.ChangeShapes Go.WideShapes Go.ChangeAt Go.RowKit
open Go.ChangeMaps (open_string shut_string)
set_option linter.unusedVariables false
theorem own : ownKnob Try.prog.godebug = none := by kernel_rfl
theorem laidOut : laidOutB Try.prog = true := by kernel_rfl
set_option maxRecDepth 100000 in
theorem lifted (os : Os) (started : os.Started) (H : Type) (enc : TypeId × Value → H) :
    ReturnsInHanded {} Try.checked os 7 .any (Rows.runCountsSpec.pre6 enc Try.prog Try.f7 Rows.runCountsRow.domain false) (Rows.runCountsSpec.post enc Try.prog Try.f7 false true false false) := by
  refine returnsInHanded_of_change (C := Try.checked) own started (by kernel_rfl) Try.func7
    (ChangeSpec.witness6 (enc := enc) (C := Try.checked) false ⟨#[], #[.int .u8 0, .slice none 0 0], []⟩ 8 (by kernel_rfl) (by kernel_rfl) (by kernel_rfl) (by kernel_rfl)) ?_
  intro W base args ds gs before hval0 hW hcnd _
  have hval : ∀ (j : Nat) t v, Try.f7.params[j]? = some t → args[j]? = some v → Value.okWide Try.prog W .any base t v := hval0
  have hW' := hW
  obtain ⟨p, q, hA0, hV, rfl, hfz, hnd⟩ := hW
  have hA : DataW.TrodAll enc Try.prog W 0 (fun _ => true) true Try.f7.params.toList args.toList ds p := hA0
  rw [Try.params7] at hA hval
  obtain ⟨v0, vs0, d0, ds0, p0, q0, hargs, rfl, rfl, h0, r0⟩ := trodAll_cons hA
  obtain ⟨v1, vs1, d1, ds1, p1, q1, rfl, rfl, rfl, h1, r1⟩ := trodAll_cons r0
  obtain ⟨rfl, rfl, rfl⟩ := trodAll_nil r1
  obtain rfl : args = #[v0, v1] := by cases args; simp_all
  obtain ⟨rfl, rfl⟩ := trodVars_none hV
  have k0 := h0
  obtain ⟨a0, rfl, _, _, w0⟩ := open_int Try.underlying5 (hval 0 5 v0 rfl rfl) h0
  have k1 := h1
  obtain ⟨a1, len1, cap1, rfl⟩ := okWide_slice Try.underlying26 (hval 1 26 v1 rfl rfl)
  clear hA0 hval0
  obtain ⟨m1, hm1⟩ := h1
  obtain ⟨s1, n1, cc1, f1, he1, hle1, hca1, hrw1, hal1⟩ := open_rows2 (c := .slice a1 len1 cap1) (nl := 8) (L := [.int .i64]) Try.underlying26 (by kernel_rfl) (by kernel_rfl) (by decide) (by simpa [Value.cells] using hm1)
  injection he1 with he1a he1b he1c
  subst he1a he1b he1c
  obtain ⟨O1, hO1⟩ := num_of hal1
  have hr1 := rows_cong hrw1 hO1
  refine (counts_walk a0 _ _ _ O1 W (bounds_u8 w0).1 (bounds_u8 w0).2 hr1 hle1).mono fun e W' ⟨he, bel⟩ => ?_
  subst he
  exact ⟨_, rfl, _, _, _, [], _, [], hW', trodAll_mk1 (shut_bool Try.underlying4 _), (trodAll_cons_mk (Below.trod laidOut (by kernel_rfl) (of_decide_eq_true (by kernel_rfl)) k0 bel (lt_of_Trod k0)) (trodAll_cons_mk (Below.trod laidOut (by kernel_rfl) (of_decide_eq_true (by kernel_rfl)) k1 bel (lt_of_Trod k1)) trodAll_mk0)), rfl, bel.frame _, fun h => by cases h⟩
theorem over : Rows.runCountsRow.holds Try.pinned (OpenSpec.ofChange Rows.runCountsSpec) :=
  OpenClaim.holds_of_wide 7 Try.f7 rfl rfl rfl rfl rfl rfl rfl ⟨rfl, rfl, rfl, rfl, rfl⟩ rfl rfl rfl rfl rfl (by kernel_rfl) Try.func7 (by kernel_rfl)
    (of_decide_eq_true (by kernel_rfl)) (by unfold Func.isWrapper; first | (rw [if_pos (by decide +kernel)]; kernel_rfl) | (rw [if_neg (by decide +kernel)]; exact ⟨rfl, rfl⟩))
    (fun os started H enc _ => lifted os started H enc)
theorem proved : Rows.RunCountsSaid := over
end Go.Proofs.Ytpfkpdimjljeaaa.runCounts
namespace Go.Proofs.Ytpfkpdimjljeaaa
theorem runCounts_holds : Rows.RunCountsSaid := runCounts.proved
#print axioms runCounts_holds
end Go.Proofs.Ytpfkpdimjljeaaa

/- The row of millwheellaw07.HeapNone: for every input it returns true, and its arguments read as before. No condition. -/
import Derived.Test.YtkicofagjebnjaaRows
import Derived.Test.YtkicofagjebnjaaOp
import Derived.Test.YtkicofagjebnjaaU07e
import Derived.Test.YtkicofagjebnjaaOp7
namespace Go.Proofs.Ytkicofagjebnjaa.heapNone
open Go.ChangeShapes Go.WideShapes Go.ChangeAt Go.RowKit
open Go.ChangeMaps (open_string shut_string)
set_option linter.unusedVariables false
set_option linter.unusedSimpArgs false
theorem own : ownKnob Try.prog.godebug = none := by kernel_rfl
theorem laidOut : laidOutB Try.prog = true := by kernel_rfl
set_option maxRecDepth 100000 in
theorem lifted (os : Os) (started : os.Started) (H : Type) (enc : TypeId × Value → H) :
    ReturnsInHanded {} Try.checked os 9 .any (Rows.heapNoneSpec.pre6 enc Try.prog Try.f9 Rows.heapNoneRow.domain false) (Rows.heapNoneSpec.post enc Try.prog Try.f9 false true false false) := by
  refine returnsInHanded_of_change (C := Try.checked) own started (by kernel_rfl) Try.func9
    (ChangeSpec.witness6 (enc := enc) (C := Try.checked) false ⟨#[], #[.agg #[.int .i64 0, .int .i64 0]], []⟩ 8 (by kernel_rfl) (by kernel_rfl) (by kernel_rfl) (by kernel_rfl)) ?_
  intro W base args ds gs before hval0 hW hcnd _
  have hval : ∀ (j : Nat) t v, Try.f9.params[j]? = some t → args[j]? = some v → Value.okWide Try.prog W .any base t v := hval0
  have hW' := hW
  obtain ⟨p, q, hA0, hV, rfl, hfz, hnd⟩ := hW
  have hA : DataW.TrodAll enc Try.prog W 0 (fun _ => true) true Try.f9.params.toList args.toList ds p := hA0
  rw [Try.params9] at hA hval
  obtain ⟨v0, vs0, d0, ds0, p0, q0, hargs, rfl, rfl, h0, r0⟩ := trodAll_cons hA
  obtain ⟨rfl, rfl, rfl⟩ := trodAll_nil r0
  obtain rfl : args = #[v0] := by cases args; simp_all
  obtain ⟨rfl, rfl⟩ := trodVars_none hV
  have k0 := h0
  obtain ⟨cs0, rfl, o0⟩ := open_agg (n := 8) (L := [.int .i64, .int .i64]) (.inl ⟨_, Try.underlying29⟩) (by kernel_rfl) (by kernel_rfl) (hval 0 29 v0 rfl rfl) h0
  obtain ⟨c0_0, t0_0, rfl, ⟨a0_0, rfl, w0_0⟩, o0_0⟩ := allOk_cons o0
  obtain ⟨c0_1, t0_1, rfl, ⟨a0_1, rfl, w0_1⟩, o0_1⟩ := allOk_cons o0_0
  obtain rfl := allOk_nil o0_1
  clear o0 o0_0 o0_1
  clear hA0 hval0
  refine (none_walk ⟨a0_0, a0_1⟩ W).mono fun e W' ⟨he, bel⟩ => ?_
  subst he
  exact ⟨_, rfl, _, _, _, [], _, [], hW', trodAll_mk1 (shut_bool Try.underlying4 _), (trodAll_cons_mk (Below.trod laidOut (by kernel_rfl) (of_decide_eq_true (by kernel_rfl)) k0 bel (lt_of_Trod k0)) trodAll_mk0), rfl, bel.frame _, fun h => by cases h⟩
theorem over : Rows.heapNoneRow.holds Try.pinned (OpenSpec.ofChange Rows.heapNoneSpec) :=
  OpenClaim.holds_of_wide 9 Try.f9 rfl rfl rfl rfl rfl rfl rfl ⟨rfl, rfl, rfl, rfl, rfl⟩ rfl rfl rfl rfl rfl (by kernel_rfl) Try.func9 (by kernel_rfl)
    (of_decide_eq_true (by kernel_rfl)) (by unfold Func.isWrapper; first | (rw [if_pos (by decide +kernel)]; kernel_rfl) | (rw [if_neg (by decide +kernel)]; exact ⟨rfl, rfl⟩))
    (fun os started H enc _ => lifted os started H enc)
theorem proved : Rows.HeapNoneSaid := over
end Go.Proofs.Ytkicofagjebnjaa.heapNone
namespace Go.Proofs.Ytkicofagjebnjaa
theorem heapNone_holds : Rows.HeapNoneSaid := heapNone.proved
#print axioms heapNone_holds
end Go.Proofs.Ytkicofagjebnjaa

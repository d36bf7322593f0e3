/- The row of millwheellaw16.TaskOnce: for every input it returns true, and its arguments read as before. No condition. -/
import Derived.Test.YtnfmgojloahfkaaRows
import Derived.Test.YtnfmgojloahfkaaOp
import Derived.Test.YtnfmgojloahfkaaM16c
import Derived.Test.YtnfmgojloahfkaaOp2
namespace Go.Proofs.Ytnfmgojloahfkaa.taskOnce
open Go.ChangeShapes Go.WideShapes Go.ChangeAt Go.RowKit
open Go.ChangeMaps (open_string shut_string)
set_option linter.unusedVariables false
theorem own : ownKnob Try.prog.godebug = none := by kernel_rfl
theorem laidOut : laidOutB Try.prog = true := by kernel_rfl
set_option maxRecDepth 100000 in
theorem lifted (os : Os) (started : os.Started) (H : Type) (enc : TypeId × Value → H) :
    ReturnsInHanded {} Try.checked os 5 .any (Rows.taskOnceSpec.pre6 enc Try.prog Try.f5 Rows.taskOnceRow.domain false) (Rows.taskOnceSpec.post enc Try.prog Try.f5 false true false false) := by
  refine returnsInHanded_of_change (C := Try.checked) own started (by kernel_rfl) Try.func5
    (ChangeSpec.witness6 (enc := enc) (C := Try.checked) false ⟨#[], #[.agg #[.int .i64 0, .int .i64 0, .int .i64 0, .int .i64 0, .int .i64 0, .int .i64 0, .int .i64 0, .int .i64 0], .slice none 0 0], []⟩ 8 (by kernel_rfl) (by kernel_rfl) (by kernel_rfl) (by kernel_rfl)) ?_
  intro W base args ds gs before hval0 hW hcnd _
  have hval : ∀ (j : Nat) t v, Try.f5.params[j]? = some t → args[j]? = some v → Value.okWide Try.prog W .any base t v := hval0
  have hW' := hW
  obtain ⟨p, q, hA0, hV, rfl, hfz, hnd⟩ := hW
  have hA : DataW.TrodAll enc Try.prog W 0 (fun _ => true) true Try.f5.params.toList args.toList ds p := hA0
  rw [Try.params5] at hA hval
  obtain ⟨v0, vs0, d0, ds0, p0, q0, hargs, rfl, rfl, h0, r0⟩ := trodAll_cons hA
  obtain ⟨v1, vs1, d1, ds1, p1, q1, rfl, rfl, rfl, h1, r1⟩ := trodAll_cons r0
  obtain ⟨rfl, rfl, rfl⟩ := trodAll_nil r1
  obtain rfl : args = #[v0, v1] := by cases args; simp_all
  obtain ⟨rfl, rfl⟩ := trodVars_none hV
  have k0 := h0
  obtain ⟨cs0, rfl, o0⟩ := open_agg (n := 8) (L := [.int .i64, .int .i64, .int .i64, .int .i64, .int .i64, .int .i64, .int .i64, .int .i64]) (.inl ⟨_, Try.underlying23⟩) (by kernel_rfl) (by kernel_rfl) (hval 0 23 v0 rfl rfl) h0
  obtain ⟨c0_0, t0_0, rfl, ⟨a0_0, rfl, w0_0⟩, o0_0⟩ := allOk_cons o0
  obtain ⟨c0_1, t0_1, rfl, ⟨a0_1, rfl, w0_1⟩, o0_1⟩ := allOk_cons o0_0
  obtain ⟨c0_2, t0_2, rfl, ⟨a0_2, rfl, w0_2⟩, o0_2⟩ := allOk_cons o0_1
  obtain ⟨c0_3, t0_3, rfl, ⟨a0_3, rfl, w0_3⟩, o0_3⟩ := allOk_cons o0_2
  obtain ⟨c0_4, t0_4, rfl, ⟨a0_4, rfl, w0_4⟩, o0_4⟩ := allOk_cons o0_3
  obtain ⟨c0_5, t0_5, rfl, ⟨a0_5, rfl, w0_5⟩, o0_5⟩ := allOk_cons o0_4
  obtain ⟨c0_6, t0_6, rfl, ⟨a0_6, rfl, w0_6⟩, o0_6⟩ := allOk_cons o0_5
  obtain ⟨c0_7, t0_7, rfl, ⟨a0_7, rfl, w0_7⟩, o0_7⟩ := allOk_cons o0_6
  obtain rfl := allOk_nil o0_7
  clear o0 o0_0 o0_1 o0_2 o0_3 o0_4 o0_5 o0_6 o0_7
  have k1 := h1
  obtain ⟨a1, len1, cap1, rfl⟩ := okWide_slice Try.underlying46 (hval 1 46 v1 rfl rfl)
  clear hA0 hval0
  obtain ⟨m1, hm1⟩ := h1
  obtain ⟨s1, n1, cc1, f1, he1, hlen1, hrows1, hall1⟩ := open_rows (c := .slice a1 len1 cap1) (nl := 8) (L := [.int .i64, .int .i64, .int .i64, .int .i64, .int .i64, .int .i64, .int .i64]) Try.underlying46 (by kernel_rfl) (by kernel_rfl) (by decide) (by simpa [Value.cells] using hm1)
  injection he1 with he1a he1b he1c
  subst he1a he1b he1c
  obtain ⟨O1, hO1⟩ := ops_of hall1
  have hr1 := rows_congr hrows1 hO1
  have hl1 : len1 ≤ 9223372036854775807 := hlen1
  refine (once16_walk a0_0 a0_1 a0_2 a0_3 a0_4 a0_5 a0_6 a0_7 _ _ _ O1 W hl1 hr1).mono fun e W' ⟨he, bel⟩ => ?_
  subst he
  exact ⟨_, rfl, _, _, _, [], _, [], hW', trodAll_mk1 (shut_bool Try.underlying4 _), (trodAll_cons_mk (Below.trod laidOut (by kernel_rfl) (of_decide_eq_true (by kernel_rfl)) k0 bel (lt_of_Trod k0)) (trodAll_cons_mk (Below.trod laidOut (by kernel_rfl) (of_decide_eq_true (by kernel_rfl)) k1 bel (lt_of_Trod k1)) trodAll_mk0)), rfl, bel.frame _, fun h => by cases h⟩
theorem over : Rows.taskOnceRow.holds Try.pinned (OpenSpec.ofChange Rows.taskOnceSpec) :=
  OpenClaim.holds_of_wide 5 Try.f5 rfl rfl rfl rfl rfl rfl rfl ⟨rfl, rfl, rfl, rfl, rfl⟩ rfl rfl rfl rfl rfl (by kernel_rfl) Try.func5 (by kernel_rfl)
    (of_decide_eq_true (by kernel_rfl)) (by unfold Func.isWrapper; first | (rw [if_pos (by decide +kernel)]; kernel_rfl) | (rw [if_neg (by decide +kernel)]; exact ⟨rfl, rfl⟩))
    (fun os started H enc _ => lifted os started H enc)
theorem proved : Rows.TaskOnceSaid := over
end Go.Proofs.Ytnfmgojloahfkaa.taskOnce
namespace Go.Proofs.Ytnfmgojloahfkaa
theorem taskOnce_holds : Rows.TaskOnceSaid := taskOnce.proved
#print axioms taskOnce_holds
end Go.Proofs.Ytnfmgojloahfkaa

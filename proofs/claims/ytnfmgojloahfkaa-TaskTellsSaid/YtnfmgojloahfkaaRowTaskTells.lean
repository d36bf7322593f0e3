/- The row of millwheellaw16.TaskTells: for every input it returns true, and its arguments read as before. No condition. -/
import Derived.Test.YtnfmgojloahfkaaRows
import Derived.Test.YtnfmgojloahfkaaOp
import Derived.Test.YtnfmgojloahfkaaT16
namespace Go.Proofs.Ytnfmgojloahfkaa.taskTells
open Go.ChangeShapes Go.WideShapes Go.ChangeAt Go.RowKit
open Go.ChangeMaps (open_string shut_string)
set_option linter.unusedVariables false
theorem own : ownKnob Try.prog.godebug = none := by kernel_rfl
theorem laidOut : laidOutB Try.prog = true := by kernel_rfl
set_option maxRecDepth 100000 in
theorem lifted (os : Os) (started : os.Started) (H : Type) (enc : TypeId × Value → H) :
    ReturnsInHanded {} Try.checked os 4 .any (Rows.taskTellsSpec.pre6 enc Try.prog Try.f4 Rows.taskTellsRow.domain false) (Rows.taskTellsSpec.post enc Try.prog Try.f4 false true false false) := by
  refine returnsInHanded_of_change (C := Try.checked) own started (by kernel_rfl) Try.func4
    (ChangeSpec.witness6 (enc := enc) (C := Try.checked) false ⟨#[], #[.agg #[.int .i64 0, .int .i64 0, .int .i64 0, .int .i64 0, .int .i64 0, .int .i64 0, .int .i64 0, .int .i64 0], .agg #[.int .i64 0, .int .i64 0, .int .u8 0, .int .i64 0, .int .i64 0, .int .i64 0, .int .i64 0, .int .i64 0, .int .i64 0, .int .i64 0], .agg #[.int .i64 0, .int .i64 0, .int .i64 0, .int .i64 0, .int .i64 0, .int .i64 0, .int .i64 0]], []⟩ 8 (by kernel_rfl) (by kernel_rfl) (by kernel_rfl) (by kernel_rfl)) ?_
  intro W base args ds gs before hval0 hW hcnd _
  have hval : ∀ (j : Nat) t v, Try.f4.params[j]? = some t → args[j]? = some v → Value.okWide Try.prog W .any base t v := hval0
  have hW' := hW
  obtain ⟨p, q, hA0, hV, rfl, hfz, hnd⟩ := hW
  have hA : DataW.TrodAll enc Try.prog W 0 (fun _ => true) true Try.f4.params.toList args.toList ds p := hA0
  rw [Try.params4] at hA hval
  obtain ⟨v0, vs0, d0, ds0, p0, q0, hargs, rfl, rfl, h0, r0⟩ := trodAll_cons hA
  obtain ⟨v1, vs1, d1, ds1, p1, q1, rfl, rfl, rfl, h1, r1⟩ := trodAll_cons r0
  obtain ⟨v2, vs2, d2, ds2, p2, q2, rfl, rfl, rfl, h2, r2⟩ := trodAll_cons r1
  obtain ⟨rfl, rfl, rfl⟩ := trodAll_nil r2
  obtain rfl : args = #[v0, v1, v2] := by cases args; simp_all
  obtain ⟨rfl, rfl⟩ := trodVars_none hV
  have k0 := h0
  obtain ⟨cs0, rfl, o0⟩ := open_agg (n := 8) (L := [.int .i64, .int .i64, .int .i64, .int .i64, .int .i64, .int .i64, .int .i64, .int .i64]) (.inl ⟨_, Try.underlying23⟩) (by kernel_rfl) (by kernel_rfl) (hval 0 23 v0 rfl rfl) h0
  obtain ⟨c0_0, t0_0, rfl, ⟨a0_0, rfl, w0_0⟩, o0_0⟩ := allOk_cons o0
  obtain ⟨c0_1, t0_1, rfl, ⟨a0_1, rfl, w0_1⟩, o0_1⟩ := allOk_cons o0_0
  obtain ⟨c0_2, t0_2, rfl, ⟨a0_2, rfl, w0_2⟩, o0_2⟩ := allOk_cons o0_1
  obtain ⟨c0_3, t0_3, rfl, ⟨a0_3, rfl, w0_3⟩, o0_3⟩ := allOk_cons o0_2
  obtain ⟨c0_4, t0_4, rfl, ⟨a0_4, rfl, w0_4⟩, o0_4⟩ := allOk_cons o0_3
  obtain ⟨c0_5, t0_5, rfl, ⟨a0_5, rfl, w0_5⟩, o0_5⟩ := allOk_cons o0_4
  obtain ⟨c0_6, t0_6, rfl, ⟨a0_6, rfl, w0_6⟩, o0_6⟩ := allOk_cons o0_5
  obtain ⟨c0_7, t0_7, rfl, ⟨a0_7, rfl, w0_7⟩, o0_7⟩ := allOk_cons o0_6
  obtain rfl := allOk_nil o0_7
  clear o0 o0_0 o0_1 o0_2 o0_3 o0_4 o0_5 o0_6 o0_7
  have k1 := h1
  obtain ⟨cs1, rfl, o1⟩ := open_agg (n := 8) (L := [.int .i64, .int .i64, .int .u8, .int .i64, .int .i64, .int .i64, .int .i64, .int .i64, .int .i64, .int .i64]) (.inl ⟨_, Try.underlying30⟩) (by kernel_rfl) (by kernel_rfl) (hval 1 30 v1 rfl rfl) h1
  obtain ⟨c1_0, t1_0, rfl, ⟨a1_0, rfl, w1_0⟩, o1_0⟩ := allOk_cons o1
  obtain ⟨c1_1, t1_1, rfl, ⟨a1_1, rfl, w1_1⟩, o1_1⟩ := allOk_cons o1_0
  obtain ⟨c1_2, t1_2, rfl, ⟨a1_2, rfl, w1_2⟩, o1_2⟩ := allOk_cons o1_1
  obtain ⟨c1_3, t1_3, rfl, ⟨a1_3, rfl, w1_3⟩, o1_3⟩ := allOk_cons o1_2
  obtain ⟨c1_4, t1_4, rfl, ⟨a1_4, rfl, w1_4⟩, o1_4⟩ := allOk_cons o1_3
  obtain ⟨c1_5, t1_5, rfl, ⟨a1_5, rfl, w1_5⟩, o1_5⟩ := allOk_cons o1_4
  obtain ⟨c1_6, t1_6, rfl, ⟨a1_6, rfl, w1_6⟩, o1_6⟩ := allOk_cons o1_5
  obtain ⟨c1_7, t1_7, rfl, ⟨a1_7, rfl, w1_7⟩, o1_7⟩ := allOk_cons o1_6
  obtain ⟨c1_8, t1_8, rfl, ⟨a1_8, rfl, w1_8⟩, o1_8⟩ := allOk_cons o1_7
  obtain ⟨c1_9, t1_9, rfl, ⟨a1_9, rfl, w1_9⟩, o1_9⟩ := allOk_cons o1_8
  obtain rfl := allOk_nil o1_9
  clear o1 o1_0 o1_1 o1_2 o1_3 o1_4 o1_5 o1_6 o1_7 o1_8 o1_9
  have k2 := h2
  obtain ⟨cs2, rfl, o2⟩ := open_agg (n := 8) (L := [.int .i64, .int .i64, .int .i64, .int .i64, .int .i64, .int .i64, .int .i64]) (.inl ⟨_, Try.underlying39⟩) (by kernel_rfl) (by kernel_rfl) (hval 2 39 v2 rfl rfl) h2
  obtain ⟨c2_0, t2_0, rfl, ⟨a2_0, rfl, w2_0⟩, o2_0⟩ := allOk_cons o2
  obtain ⟨c2_1, t2_1, rfl, ⟨a2_1, rfl, w2_1⟩, o2_1⟩ := allOk_cons o2_0
  obtain ⟨c2_2, t2_2, rfl, ⟨a2_2, rfl, w2_2⟩, o2_2⟩ := allOk_cons o2_1
  obtain ⟨c2_3, t2_3, rfl, ⟨a2_3, rfl, w2_3⟩, o2_3⟩ := allOk_cons o2_2
  obtain ⟨c2_4, t2_4, rfl, ⟨a2_4, rfl, w2_4⟩, o2_4⟩ := allOk_cons o2_3
  obtain ⟨c2_5, t2_5, rfl, ⟨a2_5, rfl, w2_5⟩, o2_5⟩ := allOk_cons o2_4
  obtain ⟨c2_6, t2_6, rfl, ⟨a2_6, rfl, w2_6⟩, o2_6⟩ := allOk_cons o2_5
  obtain rfl := allOk_nil o2_6
  clear o2 o2_0 o2_1 o2_2 o2_3 o2_4 o2_5 o2_6
  clear hA0 hval0
  refine (tells16_walk a0_0 a0_1 a0_2 a0_3 a0_4 a0_5 a0_6 a0_7 a1_0 a1_1 a1_2 a1_3 a1_4 a1_5 a1_6 a1_7 a1_8 a1_9 a2_0 a2_1 a2_2 a2_3 a2_4 a2_5 a2_6 W (bounds_u8 w1_2).1 (bounds_u8 w1_2).2).mono fun e W' ⟨he, bel⟩ => ?_
  subst he
  exact ⟨_, rfl, _, _, _, [], _, [], hW', trodAll_mk1 (shut_bool Try.underlying4 _), (trodAll_cons_mk (Below.trod laidOut (by kernel_rfl) (of_decide_eq_true (by kernel_rfl)) k0 bel (lt_of_Trod k0)) (trodAll_cons_mk (Below.trod laidOut (by kernel_rfl) (of_decide_eq_true (by kernel_rfl)) k1 bel (lt_of_Trod k1)) (trodAll_cons_mk (Below.trod laidOut (by kernel_rfl) (of_decide_eq_true (by kernel_rfl)) k2 bel (lt_of_Trod k2)) trodAll_mk0))), rfl, bel.frame _, fun h => by cases h⟩
theorem over : Rows.taskTellsRow.holds Try.pinned (OpenSpec.ofChange Rows.taskTellsSpec) :=
  OpenClaim.holds_of_wide 4 Try.f4 rfl rfl rfl rfl rfl rfl rfl ⟨rfl, rfl, rfl, rfl, rfl⟩ rfl rfl rfl rfl rfl (by kernel_rfl) Try.func4 (by kernel_rfl)
    (of_decide_eq_true (by kernel_rfl)) (by unfold Func.isWrapper; first | (rw [if_pos (by decide +kernel)]; kernel_rfl) | (rw [if_neg (by decide +kernel)]; exact ⟨rfl, rfl⟩))
    (fun os started H enc _ => lifted os started H enc)
theorem proved : Rows.TaskTellsSaid := over
end Go.Proofs.Ytnfmgojloahfkaa.taskTells
namespace Go.Proofs.Ytnfmgojloahfkaa
theorem taskTells_holds : Rows.TaskTellsSaid := taskTells.proved
#print axioms taskTells_holds
end Go.Proofs.Ytnfmgojloahfkaa

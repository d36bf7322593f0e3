/- The row of millwheellaw12.HistoryWrong: for every input it returns true, and its arguments read as before. No condition. -/
import Derived.Test.YthpgmefjgidkgaaRows
import Derived.Test.YthpgmefjgidkgaaOp
import Derived.Test.YthpgmefjgidkgaaVG12
import Derived.Test.YthpgmefjgidkgaaOp4
namespace Go.Proofs.Ythpgmefjgidkgaa.historyWrong
open Go.ChangeShapes Go.WideShapes Go.ChangeAt Go.RowKit
open Go.ChangeMaps (open_string shut_string)
set_option linter.unusedVariables false
theorem own : ownKnob Try.prog.godebug = none := by kernel_rfl
theorem laidOut : laidOutB Try.prog = true := by kernel_rfl
set_option maxRecDepth 100000 in
theorem lifted (os : Os) (started : os.Started) (H : Type) (enc : TypeId × Value → H) :
    ReturnsInHanded {} Try.checked os 5 .any (Rows.historyWrongSpec.pre6 enc Try.prog Try.f5 Rows.historyWrongRow.domain false) (Rows.historyWrongSpec.post enc Try.prog Try.f5 false true false false) := by
  refine returnsInHanded_of_change (C := Try.checked) own started (by kernel_rfl) Try.func5
    (ChangeSpec.witness6 (enc := enc) (C := Try.checked) false ⟨#[], #[.slice none 0 0, .int .u8 0], []⟩ 8 (by kernel_rfl) (by kernel_rfl) (by kernel_rfl) (by kernel_rfl)) ?_
  intro W base args ds gs before hval0 hW hcnd _
  have hval : ∀ (j : Nat) t v, Try.f5.params[j]? = some t → args[j]? = some v → Value.okWide Try.prog W .any base t v := hval0
  have hW' := hW
  obtain ⟨p, q, hA0, hV, rfl, hfz, hnd⟩ := hW
  have hA : DataW.TrodAll enc Try.prog W 0 (fun _ => true) true Try.f5.params.toList args.toList ds p := hA0
  rw [Try.params5] at hA hval
  obtain ⟨v0, vs0, d0, ds0, p0, q0, hargs, rfl, rfl, h0, r0⟩ := trodAll_cons hA
  obtain ⟨v1, vs1, d1, ds1, p1, q1, rfl, rfl, rfl, h1, r1⟩ := trodAll_cons r0
  obtain ⟨rfl, rfl, rfl⟩ := trodAll_nil r1
  obtain rfl : args = #[v0, v1] := by cases args; simp_all
  obtain ⟨rfl, rfl⟩ := trodVars_none hV
  have k0 := h0
  obtain ⟨a0, len0, cap0, rfl⟩ := okWide_slice Try.underlying22 (hval 0 22 v0 rfl rfl)
  have k1 := h1
  obtain ⟨a1, rfl, _, _, w1⟩ := open_int Try.underlying5 (hval 1 5 v1 rfl rfl) h1
  clear hA0 hval0
  obtain ⟨m0, hm0⟩ := h0
  obtain ⟨s0, n0, cc0, f0, he0, hle0, hca0, hrw0, hal0⟩ := open_rowsE (c := .slice a0 len0 cap0) (nl := 8) (L := [.int .u8, .int .i64, .int .i64, .int .i64, .int .i64, .int .i64, .str]) Try.underlying22 (by kernel_rfl) (by kernel_rfl) (by decide) (by simpa [Value.cells] using hm0)
  injection he0 with he0a he0b he0c
  subst he0a he0b he0c
  obtain ⟨l0, hl0, hr0, hu0⟩ := ev_list hrw0 hal0
  subst hl0
  refine (wrong_walk _ _ l0 W hr0 hle0 hca0 hu0 a1 (bounds_u8 w1).1 (bounds_u8 w1).2).mono fun e W' ⟨he, bel⟩ => ?_
  subst he
  exact ⟨_, rfl, _, _, _, [], _, [], hW', trodAll_mk1 (shut_bool Try.underlying4 _), (trodAll_cons_mk (Below.trod laidOut (by kernel_rfl) (of_decide_eq_true (by kernel_rfl)) k0 bel (lt_of_Trod k0)) (trodAll_cons_mk (Below.trod laidOut (by kernel_rfl) (of_decide_eq_true (by kernel_rfl)) k1 bel (lt_of_Trod k1)) trodAll_mk0)), rfl, bel.frame _, fun h => by cases h⟩
theorem over : Rows.historyWrongRow.holds Try.pinned (OpenSpec.ofChange Rows.historyWrongSpec) :=
  OpenClaim.holds_of_wide 5 Try.f5 rfl rfl rfl rfl rfl rfl rfl ⟨rfl, rfl, rfl, rfl, rfl⟩ rfl rfl rfl rfl rfl (by kernel_rfl) Try.func5 (by kernel_rfl)
    (of_decide_eq_true (by kernel_rfl)) (by unfold Func.isWrapper; first | (rw [if_pos (by decide +kernel)]; kernel_rfl) | (rw [if_neg (by decide +kernel)]; exact ⟨rfl, rfl⟩))
    (fun os started H enc _ => lifted os started H enc)
theorem proved : Rows.HistoryWrongSaid := over
end Go.Proofs.Ythpgmefjgidkgaa.historyWrong
namespace Go.Proofs.Ythpgmefjgidkgaa
theorem historyWrong_holds : Rows.HistoryWrongSaid := historyWrong.proved
#print axioms historyWrong_holds
end Go.Proofs.Ythpgmefjgidkgaa

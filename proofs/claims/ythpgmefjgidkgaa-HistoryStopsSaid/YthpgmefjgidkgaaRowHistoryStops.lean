/- The row of millwheellaw12.HistoryStops: for every input it returns true, and its arguments read as before. No condition. -/
import Derived.Test.YthpgmefjgidkgaaRows
import Derived.Test.YthpgmefjgidkgaaOp
import Derived.Test.YthpgmefjgidkgaaVD12
import Derived.Test.YthpgmefjgidkgaaOp4
namespace Go.Proofs.Ythpgmefjgidkgaa.historyStops
open Go.ChangeShapes Go.WideShapes Go.ChangeAt Go.RowKit
open Go.ChangeMaps (open_string shut_string)
set_option linter.unusedVariables false
theorem own : ownKnob Try.prog.godebug = none := by kernel_rfl
theorem laidOut : laidOutB Try.prog = true := by kernel_rfl
set_option maxRecDepth 100000 in
theorem lifted (os : Os) (started : os.Started) (H : Type) (enc : TypeId × Value → H) :
    ReturnsInHanded {} Try.checked os 7 .any (Rows.historyStopsSpec.pre6 enc Try.prog Try.f7 Rows.historyStopsRow.domain false) (Rows.historyStopsSpec.post enc Try.prog Try.f7 false true false false) := by
  refine returnsInHanded_of_change (C := Try.checked) own started (by kernel_rfl) Try.func7
    (ChangeSpec.witness6 (enc := enc) (C := Try.checked) false ⟨#[], #[.slice none 0 0], []⟩ 8 (by kernel_rfl) (by kernel_rfl) (by kernel_rfl) (by kernel_rfl)) ?_
  intro W base args ds gs before hval0 hW hcnd _
  have hval : ∀ (j : Nat) t v, Try.f7.params[j]? = some t → args[j]? = some v → Value.okWide Try.prog W .any base t v := hval0
  have hW' := hW
  obtain ⟨p, q, hA0, hV, rfl, hfz, hnd⟩ := hW
  have hA : DataW.TrodAll enc Try.prog W 0 (fun _ => true) true Try.f7.params.toList args.toList ds p := hA0
  rw [Try.params7] at hA hval
  obtain ⟨v0, vs0, d0, ds0, p0, q0, hargs, rfl, rfl, h0, r0⟩ := trodAll_cons hA
  obtain ⟨rfl, rfl, rfl⟩ := trodAll_nil r0
  obtain rfl : args = #[v0] := by cases args; simp_all
  obtain ⟨rfl, rfl⟩ := trodVars_none hV
  have k0 := h0
  obtain ⟨a0, len0, cap0, rfl⟩ := okWide_slice Try.underlying22 (hval 0 22 v0 rfl rfl)
  clear hA0 hval0
  obtain ⟨m0, hm0⟩ := h0
  obtain ⟨s0, n0, cc0, f0, he0, hle0, hca0, hrw0, hal0⟩ := open_rowsE (c := .slice a0 len0 cap0) (nl := 8) (L := [.int .u8, .int .i64, .int .i64, .int .i64, .int .i64, .int .i64, .str]) Try.underlying22 (by kernel_rfl) (by kernel_rfl) (by decide) (by simpa [Value.cells] using hm0)
  injection he0 with he0a he0b he0c
  subst he0a he0b he0c
  obtain ⟨l0, hl0, hr0, hu0⟩ := ev_list hrw0 hal0
  subst hl0
  refine (stops_walk _ _ l0 W hr0 hle0 hca0 hu0).mono fun e W' ⟨he, bel⟩ => ?_
  subst he
  exact ⟨_, rfl, _, _, _, [], _, [], hW', trodAll_mk1 (shut_bool Try.underlying4 _), (trodAll_cons_mk (Below.trod laidOut (by kernel_rfl) (of_decide_eq_true (by kernel_rfl)) k0 bel (lt_of_Trod k0)) trodAll_mk0), rfl, bel.frame _, fun h => by cases h⟩
theorem over : Rows.historyStopsRow.holds Try.pinned (OpenSpec.ofChange Rows.historyStopsSpec) :=
  OpenClaim.holds_of_wide 7 Try.f7 rfl rfl rfl rfl rfl rfl rfl ⟨rfl, rfl, rfl, rfl, rfl⟩ rfl rfl rfl rfl rfl (by kernel_rfl) Try.func7 (by kernel_rfl)
    (of_decide_eq_true (by kernel_rfl)) (by unfold Func.isWrapper; first | (rw [if_pos (by decide +kernel)]; kernel_rfl) | (rw [if_neg (by decide +kernel)]; exact ⟨rfl, rfl⟩))
    (fun os started H enc _ => lifted os started H enc)
theorem proved : Rows.HistoryStopsSaid := over
end Go.Proofs.Ythpgmefjgidkgaa.historyStops
namespace Go.Proofs.Ythpgmefjgidkgaa
theorem historyStops_holds : Rows.HistoryStopsSaid := historyStops.proved
#print axioms historyStops_holds
end Go.Proofs.Ythpgmefjgidkgaa

/- The row of millwheellaw07.HeapAny: for every input it returns true, and its arguments read as before. No condition. -/
import Derived.Test.YtkicofagjebnjaaRows
import Derived.Test.YtkicofagjebnjaaOp
import Derived.Test.YtkicofagjebnjaaU07f
import Derived.Test.YtkicofagjebnjaaOp7
namespace Go.Proofs.Ytkicofagjebnjaa.heapAny
open Go.ChangeShapes Go.WideShapes Go.ChangeAt Go.RowKit
open Go.ChangeMaps (open_string shut_string)
set_option linter.unusedVariables false
set_option linter.unusedSimpArgs false
theorem own : ownKnob Try.prog.godebug = none := by kernel_rfl
theorem laidOut : laidOutB Try.prog = true := by kernel_rfl
set_option maxRecDepth 100000 in
theorem lifted (os : Os) (started : os.Started) (H : Type) (enc : TypeId × Value → H) :
    ReturnsInHanded {} Try.checked os 5 .any (Rows.heapAnySpec.pre6 enc Try.prog Try.f5 Rows.heapAnyRow.domain false) (Rows.heapAnySpec.post enc Try.prog Try.f5 false true false false) := by
  refine returnsInHanded_of_change (C := Try.checked) own started (by kernel_rfl) Try.func5
    (ChangeSpec.witness6 (enc := enc) (C := Try.checked) false ⟨#[], #[.slice none 0 0, .slice none 0 0, .agg #[.int .i64 0, .int .i64 0]], []⟩ 8 (by kernel_rfl) (by kernel_rfl) (by kernel_rfl) (by kernel_rfl)) ?_
  intro W base args ds gs before hval0 hW hcnd _
  have hval : ∀ (j : Nat) t v, Try.f5.params[j]? = some t → args[j]? = some v → Value.okWide Try.prog W .any base t v := hval0
  have hW' := hW
  obtain ⟨p, q, hA0, hV, rfl, hfz, hnd⟩ := hW
  have hA : DataW.TrodAll enc Try.prog W 0 (fun _ => true) true Try.f5.params.toList args.toList ds p := hA0
  rw [Try.params5] at hA hval
  obtain ⟨v0, vs0, d0, ds0, p0, q0, hargs, rfl, rfl, h0, r0⟩ := trodAll_cons hA
  obtain ⟨v1, vs1, d1, ds1, p1, q1, rfl, rfl, rfl, h1, r1⟩ := trodAll_cons r0
  obtain ⟨v2, vs2, d2, ds2, p2, q2, rfl, rfl, rfl, h2, r2⟩ := trodAll_cons r1
  obtain ⟨rfl, rfl, rfl⟩ := trodAll_nil r2
  obtain rfl : args = #[v0, v1, v2] := by cases args; simp_all
  obtain ⟨rfl, rfl⟩ := trodVars_none hV
  have k0 := h0
  obtain ⟨a0, len0, cap0, rfl⟩ := okWide_slice Try.underlying22 (hval 0 22 v0 rfl rfl)
  have k1 := h1
  obtain ⟨a1, len1, cap1, rfl⟩ := okWide_slice Try.underlying44 (hval 1 44 v1 rfl rfl)
  have k2 := h2
  obtain ⟨cs2, rfl, o2⟩ := open_agg (n := 8) (L := [.int .i64, .int .i64]) (.inl ⟨_, Try.underlying29⟩) (by kernel_rfl) (by kernel_rfl) (hval 2 29 v2 rfl rfl) h2
  obtain ⟨c2_0, t2_0, rfl, ⟨a2_0, rfl, w2_0⟩, o2_0⟩ := allOk_cons o2
  obtain ⟨c2_1, t2_1, rfl, ⟨a2_1, rfl, w2_1⟩, o2_1⟩ := allOk_cons o2_0
  obtain rfl := allOk_nil o2_1
  clear o2 o2_0 o2_1
  clear hA0 hval0
  obtain ⟨m0, hm0⟩ := h0
  obtain ⟨s0, n0, cc0, f0, he0, hle0, hca0, hrw0, hal0⟩ := open_rows7 (c := .slice a0 len0 cap0) (nl := 8) (L := [.int .i64, .int .i64]) Try.underlying22 (by kernel_rfl) (by kernel_rfl) (by decide) (by simpa [Value.cells] using hm0)
  injection he0 with he0a he0b he0c
  subst he0a he0b he0c
  obtain ⟨l0, hl0, hr0⟩ := tmr_list hrw0 hal0
  subst hl0
  obtain ⟨m1, hm1⟩ := h1
  obtain ⟨s1, n1, cc1, f1, he1, hle1, hca1, hrw1, hal1⟩ := open_rows7 (c := .slice a1 len1 cap1) (nl := 8) (L := [.int .u8]) Try.underlying44 (by kernel_rfl) (by kernel_rfl) (by decide) (by simpa [Value.cells] using hm1)
  injection he1 with he1a he1b he1c
  subst he1a he1b he1c
  obtain ⟨l1, hl1, hr1, hu1⟩ := byt_list hrw1 hal1
  subst hl1
  refine (any_walk ⟨a2_0, a2_1⟩ _ _ _ _ l0 l1 W hr0 hle0 hca0 hr1 hle1 hca1 hu1).mono fun e W' ⟨he, bel⟩ => ?_
  subst he
  exact ⟨_, rfl, _, _, _, [], _, [], hW', trodAll_mk1 (shut_bool Try.underlying4 _), (trodAll_cons_mk (Below.trod laidOut (by kernel_rfl) (of_decide_eq_true (by kernel_rfl)) k0 bel (lt_of_Trod k0)) (trodAll_cons_mk (Below.trod laidOut (by kernel_rfl) (of_decide_eq_true (by kernel_rfl)) k1 bel (lt_of_Trod k1)) (trodAll_cons_mk (Below.trod laidOut (by kernel_rfl) (of_decide_eq_true (by kernel_rfl)) k2 bel (lt_of_Trod k2)) trodAll_mk0))), rfl, bel.frame _, fun h => by cases h⟩
theorem over : Rows.heapAnyRow.holds Try.pinned (OpenSpec.ofChange Rows.heapAnySpec) :=
  OpenClaim.holds_of_wide 5 Try.f5 rfl rfl rfl rfl rfl rfl rfl ⟨rfl, rfl, rfl, rfl, rfl⟩ rfl rfl rfl rfl rfl (by kernel_rfl) Try.func5 (by kernel_rfl)
    (of_decide_eq_true (by kernel_rfl)) (by unfold Func.isWrapper; first | (rw [if_pos (by decide +kernel)]; kernel_rfl) | (rw [if_neg (by decide +kernel)]; exact ⟨rfl, rfl⟩))
    (fun os started H enc _ => lifted os started H enc)
theorem proved : Rows.HeapAnySaid := over
end Go.Proofs.Ytkicofagjebnjaa.heapAny
namespace Go.Proofs.Ytkicofagjebnjaa
theorem heapAny_holds : Rows.HeapAnySaid := heapAny.proved
#print axioms heapAny_holds
end Go.Proofs.Ytkicofagjebnjaa

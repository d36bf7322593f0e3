/- The row of millwheellaw15.LimitsEach: for every input it returns true, and its arguments read as before. No condition. -/
import Derived.Test.YtnjagdhpiehlpaaRows
import Derived.Test.YtnjagdhpiehlpaaOp
import Derived.Test.YtnjagdhpiehlpaaL15E
namespace Go.Proofs.Ytnjagdhpiehlpaa.limitsEach
open Go.ChangeShapes Go.WideShapes Go.ChangeAt Go.RowKit
open Go.ChangeMaps (open_string shut_string)
set_option linter.unusedVariables false
theorem own : ownKnob Try.prog.godebug = none := by kernel_rfl
theorem laidOut : laidOutB Try.prog = true := by kernel_rfl
set_option maxRecDepth 100000 in
theorem lifted (os : Os) (started : os.Started) (H : Type) (enc : TypeId × Value → H) :
    ReturnsInHanded {} Try.checked os 10 .any (Rows.limitsEachSpec.pre6 enc Try.prog Try.f10 Rows.limitsEachRow.domain false) (Rows.limitsEachSpec.post enc Try.prog Try.f10 false true false false) := by
  refine returnsInHanded_of_change (C := Try.checked) own started (by kernel_rfl) Try.func10
    (ChangeSpec.witness6 (enc := enc) (C := Try.checked) false ⟨#[], #[.int .u8 0, .int .u32 0, .int .u32 0, .agg #[.int .i64 0, .int .i64 0, .int .i64 0, .int .i64 0]], []⟩ 8 (by kernel_rfl) (by kernel_rfl) (by kernel_rfl) (by kernel_rfl)) ?_
  intro W base args ds gs before hval0 hW hcnd _
  have hval : ∀ (j : Nat) t v, Try.f10.params[j]? = some t → args[j]? = some v → Value.okWide Try.prog W .any base t v := hval0
  have hW' := hW
  obtain ⟨p, q, hA0, hV, rfl, hfz, hnd⟩ := hW
  have hA : DataW.TrodAll enc Try.prog W 0 (fun _ => true) true Try.f10.params.toList args.toList ds p := hA0
  rw [Try.params10] at hA hval
  obtain ⟨v0, vs0, d0, ds0, p0, q0, hargs, rfl, rfl, h0, r0⟩ := trodAll_cons hA
  obtain ⟨v1, vs1, d1, ds1, p1, q1, rfl, rfl, rfl, h1, r1⟩ := trodAll_cons r0
  obtain ⟨v2, vs2, d2, ds2, p2, q2, rfl, rfl, rfl, h2, r2⟩ := trodAll_cons r1
  obtain ⟨v3, vs3, d3, ds3, p3, q3, rfl, rfl, rfl, h3, r3⟩ := trodAll_cons r2
  obtain ⟨rfl, rfl, rfl⟩ := trodAll_nil r3
  obtain rfl : args = #[v0, v1, v2, v3] := by cases args; simp_all
  obtain ⟨rfl, rfl⟩ := trodVars_none hV
  have k0 := h0
  obtain ⟨a0, rfl, _, _, w0⟩ := open_int Try.underlying5 (hval 0 5 v0 rfl rfl) h0
  have k1 := h1
  obtain ⟨a1, rfl, _, _, w1⟩ := open_int Try.underlying43 (hval 1 43 v1 rfl rfl) h1
  have k2 := h2
  obtain ⟨a2, rfl, _, _, w2⟩ := open_int Try.underlying43 (hval 2 43 v2 rfl rfl) h2
  have k3 := h3
  obtain ⟨cs3, rfl, o3⟩ := open_agg (n := 8) (L := [.int .i64, .int .i64, .int .i64, .int .i64]) (.inl ⟨_, Try.underlying36⟩) (by kernel_rfl) (by kernel_rfl) (hval 3 36 v3 rfl rfl) h3
  obtain ⟨c3_0, t3_0, rfl, ⟨a3_0, rfl, w3_0⟩, o3_0⟩ := allOk_cons o3
  obtain ⟨c3_1, t3_1, rfl, ⟨a3_1, rfl, w3_1⟩, o3_1⟩ := allOk_cons o3_0
  obtain ⟨c3_2, t3_2, rfl, ⟨a3_2, rfl, w3_2⟩, o3_2⟩ := allOk_cons o3_1
  obtain ⟨c3_3, t3_3, rfl, ⟨a3_3, rfl, w3_3⟩, o3_3⟩ := allOk_cons o3_2
  obtain rfl := allOk_nil o3_3
  clear o3 o3_0 o3_1 o3_2 o3_3
  clear hA0 hval0
  refine (each_walk a0 a1 a2 a3_0 a3_1 a3_2 a3_3 W (bounds_u8 w0).1 (bounds_u8 w0).2 (bounds_u32 w1).1 (bounds_u32 w1).2 (bounds_u32 w2).1 (bounds_u32 w2).2).mono fun e W' ⟨he, bel⟩ => ?_
  subst he
  exact ⟨_, rfl, _, _, _, [], _, [], hW', trodAll_mk1 (shut_bool Try.underlying4 _), (trodAll_cons_mk (Below.trod laidOut (by kernel_rfl) (of_decide_eq_true (by kernel_rfl)) k0 bel (lt_of_Trod k0)) (trodAll_cons_mk (Below.trod laidOut (by kernel_rfl) (of_decide_eq_true (by kernel_rfl)) k1 bel (lt_of_Trod k1)) (trodAll_cons_mk (Below.trod laidOut (by kernel_rfl) (of_decide_eq_true (by kernel_rfl)) k2 bel (lt_of_Trod k2)) (trodAll_cons_mk (Below.trod laidOut (by kernel_rfl) (of_decide_eq_true (by kernel_rfl)) k3 bel (lt_of_Trod k3)) trodAll_mk0)))), rfl, bel.frame _, fun h => by cases h⟩
theorem over : Rows.limitsEachRow.holds Try.pinned (OpenSpec.ofChange Rows.limitsEachSpec) :=
  OpenClaim.holds_of_wide 10 Try.f10 rfl rfl rfl rfl rfl rfl rfl ⟨rfl, rfl, rfl, rfl, rfl⟩ rfl rfl rfl rfl rfl (by kernel_rfl) Try.func10 (by kernel_rfl)
    (of_decide_eq_true (by kernel_rfl)) (by unfold Func.isWrapper; first | (rw [if_pos (by decide +kernel)]; kernel_rfl) | (rw [if_neg (by decide +kernel)]; exact ⟨rfl, rfl⟩))
    (fun os started H enc _ => lifted os started H enc)
theorem proved : Rows.LimitsEachSaid := over
end Go.Proofs.Ytnjagdhpiehlpaa.limitsEach
namespace Go.Proofs.Ytnjagdhpiehlpaa
theorem limitsEach_holds : Rows.LimitsEachSaid := limitsEach.proved
#print axioms limitsEach_holds
end Go.Proofs.Ytnjagdhpiehlpaa

/- The row of millwheellaw10.RunOrder: for every input it returns true, and its arguments read as before. No condition. -/
import Derived.Test.YtpfkpdimjljeaaaRows
import Derived.Test.YtpfkpdimjljeaaaOp
import Derived.Test.YtpfkpdimjljeaaaF10c
import Derived.Test.YtpfkpdimjljeaaaOp3
namespace Go.Proofs.Ytpfkpdimjljeaaa.runOrder
open Go.ChangeShapes Go.WideShapes Go.ChangeAt Go.RowKit
open Go.ChangeMaps (open_string shut_string)
set_option linter.unusedVariables false
theorem own : ownKnob Try.prog.godebug = none := by kernel_rfl
theorem laidOut : laidOutB Try.prog = true := by kernel_rfl
set_option maxRecDepth 100000 in
theorem lifted (os : Os) (started : os.Started) (H : Type) (enc : TypeId × Value → H) :
    ReturnsInHanded {} Try.checked os 6 .any (Rows.runOrderSpec.pre6 enc Try.prog Try.f6 Rows.runOrderRow.domain false) (Rows.runOrderSpec.post enc Try.prog Try.f6 false true false false) := by
  refine returnsInHanded_of_change (C := Try.checked) own started (by kernel_rfl) Try.func6
    (ChangeSpec.witness6 (enc := enc) (C := Try.checked) false ⟨#[], #[.agg #[.string ByteArray.empty, .int .i64 0, .slice none 0 0], .agg #[.int .i64 0, .slice none 0 0, .slice none 0 0, .int .i64 0], .int .i64 0], []⟩ 8 (by kernel_rfl) (by kernel_rfl) (by kernel_rfl) (by kernel_rfl)) ?_
  intro W base args ds gs before hval0 hW hcnd _
  have hval : ∀ (j : Nat) t v, Try.f6.params[j]? = some t → args[j]? = some v → Value.okWide Try.prog W .any base t v := hval0
  have hW' := hW
  obtain ⟨p, q, hA0, hV, rfl, hfz, hnd⟩ := hW
  have hA : DataW.TrodAll enc Try.prog W 0 (fun _ => true) true Try.f6.params.toList args.toList ds p := hA0
  rw [Try.params6] at hA hval
  obtain ⟨v0, vs0, d0, ds0, p0, q0, hargs, rfl, rfl, h0, r0⟩ := trodAll_cons hA
  obtain ⟨v1, vs1, d1, ds1, p1, q1, rfl, rfl, rfl, h1, r1⟩ := trodAll_cons r0
  obtain ⟨v2, vs2, d2, ds2, p2, q2, rfl, rfl, rfl, h2, r2⟩ := trodAll_cons r1
  obtain ⟨rfl, rfl, rfl⟩ := trodAll_nil r2
  obtain rfl : args = #[v0, v1, v2] := by cases args; simp_all
  obtain ⟨rfl, rfl⟩ := trodVars_none hV
  have k0 := h0
  obtain ⟨cs0, rfl, o0⟩ := open_agg (n := 8) (L := [.str, .int .i64, .sl 22]) (.inl ⟨_, Try.underlying24⟩) (by kernel_rfl) (by kernel_rfl) (hval 0 24 v0 rfl rfl) h0
  obtain ⟨c0_0, t0_0, rfl, ⟨a0_0, rfl, w0_0⟩, o0_0⟩ := allOk_cons o0
  obtain ⟨c0_1, t0_1, rfl, ⟨a0_1, rfl, w0_1⟩, o0_1⟩ := allOk_cons o0_0
  obtain ⟨c0_2, t0_2, rfl, u0_2, o0_2⟩ := allOk_cons o0_1
  obtain rfl := allOk_nil o0_2
  clear o0 o0_0 o0_1 o0_2
  have k1 := h1
  obtain ⟨cs1, rfl, o1⟩ := open_agg (n := 8) (L := [.int .i64, .sl 25, .sl 26, .int .i64]) (.inl ⟨_, Try.underlying28⟩) (by kernel_rfl) (by kernel_rfl) (hval 1 28 v1 rfl rfl) h1
  obtain ⟨c1_0, t1_0, rfl, ⟨a1_0, rfl, w1_0⟩, o1_0⟩ := allOk_cons o1
  obtain ⟨c1_1, t1_1, rfl, u1_1, o1_1⟩ := allOk_cons o1_0
  obtain ⟨c1_2, t1_2, rfl, u1_2, o1_2⟩ := allOk_cons o1_1
  obtain ⟨c1_3, t1_3, rfl, ⟨a1_3, rfl, w1_3⟩, o1_3⟩ := allOk_cons o1_2
  obtain rfl := allOk_nil o1_3
  clear o1 o1_0 o1_1 o1_2 o1_3
  have k2 := h2
  obtain ⟨a2, rfl, _, _, w2⟩ := open_int Try.underlying3 (hval 2 3 v2 rfl rfl) h2
  clear hA0 hval0
  obtain ⟨mp, yp, hmp⟩ := u0_2
  obtain ⟨sp, np, ccp, fp, rfl, hlep, hcap, hrwp, halp⟩ := open_rows2 (nl := 8) (L := [.int .u8, .int .i64, .int .i64, .int .i64, .int .i64, .str]) Try.underlying22 (by kernel_rfl) (by kernel_rfl) (by decide) hmp
  obtain ⟨Op, hOp⟩ := ins_of halp
  have hrp := rows_cong hrwp hOp
  obtain ⟨mk, yk, hmk⟩ := u1_1
  obtain ⟨sk, nk, cck, fk, rfl, hlek, hcak, hrwk, halk⟩ := open_rows2 (nl := 8) (L := [.int .i64, .int .i64, .int .i64]) Try.underlying25 (by kernel_rfl) (by kernel_rfl) (by decide) hmk
  obtain ⟨Ok, hOk⟩ := kno_of halk
  have hrk := rows_cong hrwk hOk
  obtain ⟨mg, yg, hmg⟩ := u1_2
  obtain ⟨sg, ng, ccg, fg, rfl, hleg, hcag, hrwg, halg⟩ := open_rows2 (nl := 8) (L := [.int .i64]) Try.underlying26 (by kernel_rfl) (by kernel_rfl) (by decide) hmg
  obtain ⟨Og, hOg⟩ := num_of halg
  have hrg := rows_cong hrwg hOg
  refine (order_walk a0_0 a0_1 a1_0 a1_3 _ _ _ _ _ _ _ _ _ Op Ok Og a2 W hrp hrk hrg hlek hleg).mono fun e W' ⟨he, bel⟩ => ?_
  subst he
  exact ⟨_, rfl, _, _, _, [], _, [], hW', trodAll_mk1 (shut_bool Try.underlying4 _), (trodAll_cons_mk (Below.trod laidOut (by kernel_rfl) (of_decide_eq_true (by kernel_rfl)) k0 bel (lt_of_Trod k0)) (trodAll_cons_mk (Below.trod laidOut (by kernel_rfl) (of_decide_eq_true (by kernel_rfl)) k1 bel (lt_of_Trod k1)) (trodAll_cons_mk (Below.trod laidOut (by kernel_rfl) (of_decide_eq_true (by kernel_rfl)) k2 bel (lt_of_Trod k2)) trodAll_mk0))), rfl, bel.frame _, fun h => by cases h⟩
theorem over : Rows.runOrderRow.holds Try.pinned (OpenSpec.ofChange Rows.runOrderSpec) :=
  OpenClaim.holds_of_wide 6 Try.f6 rfl rfl rfl rfl rfl rfl rfl ⟨rfl, rfl, rfl, rfl, rfl⟩ rfl rfl rfl rfl rfl (by kernel_rfl) Try.func6 (by kernel_rfl)
    (of_decide_eq_true (by kernel_rfl)) (by unfold Func.isWrapper; first | (rw [if_pos (by decide +kernel)]; kernel_rfl) | (rw [if_neg (by decide +kernel)]; exact ⟨rfl, rfl⟩))
    (fun os started H enc _ => lifted os started H enc)
theorem proved : Rows.RunOrderSaid := over
end Go.Proofs.Ytpfkpdimjljeaaa.runOrder
namespace Go.Proofs.Ytpfkpdimjljeaaa
theorem runOrder_holds : Rows.RunOrderSaid := runOrder.proved
#print axioms runOrder_holds
end Go.Proofs.Ytpfkpdimjljeaaa

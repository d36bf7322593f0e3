/- Pick. -/
import Derived.Test.YtkicofagjebnjaaR07
import Derived.Test.YtkicofagjebnjaaSp7b
namespace Go.Proofs.Ytkicofagjebnjaa
open Go.RowKit
set_option linter.unusedVariables false
set_option linter.unusedSimpArgs false

set_option maxRecDepth 100000 in
set_option maxHeartbeats 4000000 in
theorem pickL_calls (x n : Int) (w : World) (h0 : 0 < n) (h1 : n ≤ 1000000) : Calls Try.prog 32 #[.int .i64 x, .int .i64 n] w fun e w' => e = .returned (.int .i64 (x % n)) ∧ Ext w w' := by
  have hd : (0 ≤ x.tmod n ∧ x.tmod n = x % n) ∨ (x.tmod n < 0 ∧ -n < x.tmod n ∧ x.tmod n + n = x % n) := by
    have hb := Int.emod_nonneg x (show n ≠ 0 by omega)
    have hc := Int.emod_lt_of_pos x h0
    rw [Int.tmod_eq_emod]
    split
    · left; omega
    · have hna : (n.natAbs : Int) = n := by omega
      have hz : x % n ≠ 0 := by
        rename_i h
        intro h2
        exact h (.inr (Int.dvd_of_emod_eq_zero h2))
      right; omega
  have HD := Lib.hid hd
  have hn0 : ¬ (n = 0) := by omega
  have hm1 := Int.emod_nonneg x (show n ≠ 0 by omega)
  have hm2 := Int.emod_lt_of_pos x h0
  obtain ⟨r, hr⟩ : ∃ r, r = x % n := ⟨_, rfl⟩
  rw [← hr] at hm1 hm2 HD ⊢
  clear hr hd
  go_enter Try.func32, Try.ntmps32
  go_upto_region 4 with fail
  go_loopg [0] 2 (fun gk k0 wr => ∃ v : Int, k0 = .int .i64 v ∧ ((gk = 2 ∧ v = x.tmod n) ∨ (v = r ∧ 0 < gk)) ∧ Ext w wr)
  case atStart => exact ⟨_, rfl, .inl ⟨rfl, rfl⟩, by repeat (first | exact ext_refl _ | assumption | refine ext_more' ?_ _ _ | refine ext_drew ?_ | refine ext_drewN ?_ _ | refine ext_alloc ?_ _)⟩
  case round =>
    obtain ⟨v, rfl, hv, hx⟩ := hrel
    have HX := Lib.hid hx
    clear hx
    by_cases hneg : v < 0
    · have hvv : gk = 2 ∧ v + n = r := by
        rcases hv with ⟨h1, h2⟩ | ⟨h1, h2⟩
        · rcases HD.out with ⟨h3, h4⟩ | ⟨h3, h4, h5⟩
          · omega
          · exact ⟨h1, by rw [h2]; exact h5⟩
        · omega
      have HV := Lib.hid hvv
      have hlo : -1000000 ≤ v := by omega
      clear hvv hv
      go_wp2
      go_roundg 1
      case measure => have := HV.out.1; omega
      case rel => exact ⟨_, by rw [HV.out.2], .inr ⟨rfl, by decide⟩, HX.out⟩
    · have hvv : v = r := by
        rcases hv with ⟨h1, h2⟩ | ⟨h1, h2⟩
        · rcases HD.out with ⟨h3, h4⟩ | ⟨h3, h4, h5⟩
          · rw [h2, h4]
          · omega
        · exact h1
      subst hvv
      go_wp2
      go_ret
      exact ⟨rfl, HX.out⟩
end Go.Proofs.Ytkicofagjebnjaa

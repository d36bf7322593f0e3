/- run.Run, at every input, and what the commands' slice may hold. -/
import Derived.Test.YtpfkpdimjljeaaaU10qc
namespace Go.Proofs.Ytpfkpdimjljeaaa
open Go.RowKit
set_option linter.unusedVariables false
set_option linter.unusedSimpArgs false

set_option maxRecDepth 100000 in
set_option maxHeartbeats 8000000 in
theorem run_fuelC (p0 : ByteArray) (regs arg fuel : Int) (cs ks ss : Option Addr) (clen ccap klen kcap slen scap : Nat) (I : Nat → Ins) (K : Nat → Kno) (S : Nat → Int) (w : World) (hrows : Rows_ w cs clen 6 (fun i => insC (I i))) (hK : Rows_ w ks klen 3 (fun i => knoC (K i))) (hS : Rows_ w ss slen 1 (fun i => [.int .i64 (S i)])) (hkl : klen ≤ 1000000) (hc : checkN p0 regs clen I 20 = true) (hf : fuel < 0 ∨ 10000 < fuel) :
    Calls Try.prog 17 #[.agg #[.string p0, .int .i64 regs, .slice cs clen ccap], .int .i64 arg, .slice ks klen kcap, .slice ss slen scap, .int .i64 fuel] w (RunPostC w z0 2) := by
  have HC := Lib.hid (show checkE p0 regs clen I 20 = 0 by unfold checkE; rw [hc]; rfl)
  have HROWS := Lib.hid (show ∀ w', Ext w w' → Rows_ w' cs clen 6 (fun i => insC (I i)) from fun w' h => rows_on2 hrows h)
  clear hc hrows hK hS hkl
  rcases hf with hf | hf
  all_goals
    go_enter Try.func17, Try.ntmps17
    go_wp2_with (go_at_call 22; refine (check_calls _ _ _ _ _ I _ _ (HROWS.out _ (by repeat (first | exact ext_refl _ | assumption | refine ext_more' ?_ _ _ | refine ext_drew ?_ | refine ext_drewN ?_ _ | refine ext_alloc ?_ _)))).mono ?_; rw [HC.out]; rintro e w1 ⟨rfl, hb⟩; obtain ⟨r, d, rfl⟩ := ext_form hb; clear hb)
    refine bodyPost_ret (by simp [results, Try.results17, go_sem]; rfl) rfl ?_
    exact ⟨none, 0, rfl, by repeat (first | exact ext_refl _ | assumption | refine ext_more' ?_ _ _ | refine ext_drew ?_ | refine ext_drewN ?_ _ | refine ext_alloc ?_ _), fun h => absurd h (by decide), Nat.le_refl _, Nat.zero_le _⟩
theorem run_callsC (p0 : ByteArray) (regs arg fuel : Int) (cs ks ss : Option Addr) (clen ccap klen kcap slen scap : Nat) (I : Nat → Ins) (K : Nat → Kno) (S : Nat → Int) (w : World) (hrows : Rows_ w cs clen 6 (fun i => insC (I i))) (hK : Rows_ w ks klen 3 (fun i => knoC (K i))) (hS : Rows_ w ss slen 1 (fun i => [.int .i64 (S i)])) (hkl : klen ≤ 1000000) :
    Calls Try.prog 17 #[.agg #[.string p0, .int .i64 regs, .slice cs clen ccap], .int .i64 arg, .slice ks klen kcap, .slice ss slen scap, .int .i64 fuel] w (RunPostC w (runS p0 regs clen I (lookK K klen) (sgF S slen) arg fuel) (runE p0 regs clen I fuel)) := by
  by_cases hc : checkN p0 regs clen I 20 = true
  · by_cases hf : 0 ≤ fuel ∧ fuel ≤ 10000
    · have h1 : runS p0 regs clen I (lookK K klen) (sgF S slen) arg fuel = runP I (lookK K klen) (sgF S slen) fuel.toNat (x0 arg) := by unfold runS; rw [if_pos hc, if_pos hf]
      have h2 : runE p0 regs clen I fuel = 0 := by unfold runE; rw [if_pos hc, if_pos hf]
      rw [h1, h2]
      exact run_walkC p0 regs arg fuel cs ks ss clen ccap klen kcap slen scap I K S w hrows hK hS hkl hc hf.1 hf.2
    · have h1 : runS p0 regs clen I (lookK K klen) (sgF S slen) arg fuel = z0 := by unfold runS; rw [if_pos hc, if_neg hf]
      have h2 : runE p0 regs clen I fuel = 2 := by unfold runE; rw [if_pos hc, if_neg hf]
      rw [h1, h2]
      exact run_fuelC p0 regs arg fuel cs ks ss clen ccap klen kcap slen scap I K S w hrows hK hS hkl hc (by omega)
  · have h1 : runS p0 regs clen I (lookK K klen) (sgF S slen) arg fuel = z0 := by unfold runS; rw [if_neg hc]
    have h2 : runE p0 regs clen I fuel = 100 := by unfold runE; rw [if_neg hc]
    rw [h1, h2]
    exact run_badC p0 regs arg fuel cs ks ss clen ccap klen kcap slen scap I K S w hrows hK hS hkl (by simpa using hc)
end Go.Proofs.Ytpfkpdimjljeaaa

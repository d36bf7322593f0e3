/- What task's functions do: put together. -/
import Derived.Test.YtnfmgojloahfkaaG16
import Derived.Test.YtnfmgojloahfkaaH16
import Derived.Test.YtnfmgojloahfkaaI16
import Derived.Test.YtnfmgojloahfkaaJ16
import Derived.Test.YtnfmgojloahfkaaM16
namespace Go.Proofs.Ytnfmgojloahfkaa
open Go.RowKit
set_option linter.unusedVariables false
set_option linter.unusedSimpArgs false

theorem rightT_tries {p : Pol} {t : Tsk} (h : rightT p t = true) : 0 ≤ t.tries ∧ t.tries ≤ 100 := by
  simp only [rightT, Bool.and_eq_true, decide_eq_true_eq] at h
  have := ((rightB_iff p).1 h.1.1.1.1.1.1.1.1).most
  omega
theorem mayF_bad {p : Pol} {t : Tsk} {n : Int} (h : rightT p t = false) : mayF p t n = 112 := by unfold mayF; rw [if_neg (by simp [h])]
theorem mayF_late {p : Pol} {t : Tsk} {n : Int} (h : rightT p t = true) (k : n < mx (mx (mx t.put t.since) t.tried) t.beat ∨ 1099511627776 < n) : mayF p t n = 2 := by unfold mayF; rw [if_pos h, if_pos k]
theorem mayF_ok {p : Pol} {t : Tsk} {n : Int} (h : rightT p t = true) (k : mx (mx (mx t.put t.since) t.tried) t.beat ≤ n) (k' : n ≤ 1099511627776) : mayF p t n = 0 := by unfold mayF; rw [if_pos h, if_neg (by omega)]
theorem chgF_not {p : Pol} {t : Tsk} {n e : Int} {r : Tsk × Int} (h : mayF p t n = e) (he : e ≠ 0) : chgF p t n r = (t, e) := by unfold chgF; rw [h, if_pos he]
theorem chgF_ok {p : Pol} {t : Tsk} {n : Int} {r : Tsk × Int} (h : mayF p t n = 0) : chgF p t n r = if r.2 ≠ 0 then (t, r.2) else r := by unfold chgF; rw [h, if_neg (by simp)]

theorem ttake_calls (p0 p1 p2 p3 p4 p5 p6 p7 a0 a1 a2 a3 a4 a5 a6 a7 a8 a9 k n : Int) (w : World) (h0 : 0 ≤ a2) (h1 : a2 ≤ 255)  :
    Calls Try.prog 11 #[.agg #[.int .i64 p0, .int .i64 p1, .int .i64 p2, .int .i64 p3, .int .i64 p4, .int .i64 p5, .int .i64 p6, .int .i64 p7], .agg #[.int .i64 a0, .int .i64 a1, .int .u8 a2, .int .i64 a3, .int .i64 a4, .int .i64 a5, .int .i64 a6, .int .i64 a7, .int .i64 a8, .int .i64 a9], .int .i64 k, .int .i64 n] w fun e w' => e = .returned (.tuple #[.agg #[.int .i64 ((takeF ⟨p0, p1, p2, p3, p4, p5, p6, p7⟩ ⟨a0, a1, a2, a3, a4, a5, a6, a7, a8, a9⟩ k n).1).put, .int .i64 ((takeF ⟨p0, p1, p2, p3, p4, p5, p6, p7⟩ ⟨a0, a1, a2, a3, a4, a5, a6, a7, a8, a9⟩ k n).1).tries, .int .u8 ((takeF ⟨p0, p1, p2, p3, p4, p5, p6, p7⟩ ⟨a0, a1, a2, a3, a4, a5, a6, a7, a8, a9⟩ k n).1).state, .int .i64 ((takeF ⟨p0, p1, p2, p3, p4, p5, p6, p7⟩ ⟨a0, a1, a2, a3, a4, a5, a6, a7, a8, a9⟩ k n).1).ready, .int .i64 ((takeF ⟨p0, p1, p2, p3, p4, p5, p6, p7⟩ ⟨a0, a1, a2, a3, a4, a5, a6, a7, a8, a9⟩ k n).1).since, .int .i64 ((takeF ⟨p0, p1, p2, p3, p4, p5, p6, p7⟩ ⟨a0, a1, a2, a3, a4, a5, a6, a7, a8, a9⟩ k n).1).worker, .int .i64 ((takeF ⟨p0, p1, p2, p3, p4, p5, p6, p7⟩ ⟨a0, a1, a2, a3, a4, a5, a6, a7, a8, a9⟩ k n).1).tried, .int .i64 ((takeF ⟨p0, p1, p2, p3, p4, p5, p6, p7⟩ ⟨a0, a1, a2, a3, a4, a5, a6, a7, a8, a9⟩ k n).1).beat, .int .i64 ((takeF ⟨p0, p1, p2, p3, p4, p5, p6, p7⟩ ⟨a0, a1, a2, a3, a4, a5, a6, a7, a8, a9⟩ k n).1).os, .int .i64 ((takeF ⟨p0, p1, p2, p3, p4, p5, p6, p7⟩ ⟨a0, a1, a2, a3, a4, a5, a6, a7, a8, a9⟩ k n).1).ov], .int .i64 (takeF ⟨p0, p1, p2, p3, p4, p5, p6, p7⟩ ⟨a0, a1, a2, a3, a4, a5, a6, a7, a8, a9⟩ k n).2]) ∧ Ext w w' := by
  by_cases hr : rightT ⟨p0, p1, p2, p3, p4, p5, p6, p7⟩ ⟨a0, a1, a2, a3, a4, a5, a6, a7, a8, a9⟩ = true
  · have ⟨ht', ht⟩ := rightT_tries hr
    simp only at ht ht'
    by_cases hn : n < mx (mx (mx a0 a4) a6) a7
    · have H : takeF ⟨p0, p1, p2, p3, p4, p5, p6, p7⟩ ⟨a0, a1, a2, a3, a4, a5, a6, a7, a8, a9⟩ k n = (⟨a0, a1, a2, a3, a4, a5, a6, a7, a8, a9⟩, 2) := chgF_not (mayF_late hr (.inl hn)) (by decide)
      rw [H]; exact take_late p0 p1 p2 p3 p4 p5 p6 p7 a0 a1 a2 a3 a4 a5 a6 a7 a8 a9 k n w h0 h1 hr hn
    · by_cases hn' : 1099511627776 < n
      · have H : takeF ⟨p0, p1, p2, p3, p4, p5, p6, p7⟩ ⟨a0, a1, a2, a3, a4, a5, a6, a7, a8, a9⟩ k n = (⟨a0, a1, a2, a3, a4, a5, a6, a7, a8, a9⟩, 2) := chgF_not (mayF_late hr (.inr hn')) (by decide)
        rw [H]; exact take_end p0 p1 p2 p3 p4 p5 p6 p7 a0 a1 a2 a3 a4 a5 a6 a7 a8 a9 k n w h0 h1 hr (by omega) hn'
      · replace hn : mx (mx (mx a0 a4) a6) a7 ≤ n := by omega
        replace hn' : n ≤ 1099511627776 := by omega
        have H : takeF ⟨p0, p1, p2, p3, p4, p5, p6, p7⟩ ⟨a0, a1, a2, a3, a4, a5, a6, a7, a8, a9⟩ k n = if (takeR ⟨a0, a1, a2, a3, a4, a5, a6, a7, a8, a9⟩ k n).2 ≠ 0 then (⟨a0, a1, a2, a3, a4, a5, a6, a7, a8, a9⟩, (takeR ⟨a0, a1, a2, a3, a4, a5, a6, a7, a8, a9⟩ k n).2) else takeR ⟨a0, a1, a2, a3, a4, a5, a6, a7, a8, a9⟩ k n := chgF_ok (mayF_ok hr hn hn')
        by_cases hs : a2 = 2
        · by_cases hk : k < 1
          · have R : takeR ⟨a0, a1, a2, a3, a4, a5, a6, a7, a8, a9⟩ k n = (⟨a0, a1, a2, a3, a4, a5, a6, a7, a8, a9⟩, 110) := by unfold takeR; rw [if_neg (by simp [hs]), if_pos hk]
            rw [R, if_pos (by simp)] at H
            rw [H]; exact take_worker p0 p1 p2 p3 p4 p5 p6 p7 a0 a1 a2 a3 a4 a5 a6 a7 a8 a9 k n w h0 h1 hr hn hn' hs hk
          · have R : takeR ⟨a0, a1, a2, a3, a4, a5, a6, a7, a8, a9⟩ k n = (⟨a0, a1 + 1, 3, 0, 0, k, n, n, 0, 0⟩, 0) := by unfold takeR; rw [if_neg (by simp [hs]), if_neg hk]
            rw [R, if_neg (by simp)] at H
            rw [H]; exact take_ok p0 p1 p2 p3 p4 p5 p6 p7 a0 a1 a2 a3 a4 a5 a6 a7 a8 a9 k n w h0 h1 hr hn hn' hs (by omega) ht ht'
        · have R : takeR ⟨a0, a1, a2, a3, a4, a5, a6, a7, a8, a9⟩ k n = (⟨a0, a1, a2, a3, a4, a5, a6, a7, a8, a9⟩, 70) := by unfold takeR; rw [if_pos hs]
          rw [R, if_pos (by simp)] at H
          rw [H]; exact take_no p0 p1 p2 p3 p4 p5 p6 p7 a0 a1 a2 a3 a4 a5 a6 a7 a8 a9 k n w h0 h1 hr hn hn' (by simpa using hs) (by simpa using hs)
  · replace hr : rightT ⟨p0, p1, p2, p3, p4, p5, p6, p7⟩ ⟨a0, a1, a2, a3, a4, a5, a6, a7, a8, a9⟩ = false := by simpa using hr
    have H : takeF ⟨p0, p1, p2, p3, p4, p5, p6, p7⟩ ⟨a0, a1, a2, a3, a4, a5, a6, a7, a8, a9⟩ k n = (⟨a0, a1, a2, a3, a4, a5, a6, a7, a8, a9⟩, 112) := chgF_not (mayF_bad hr) (by decide)
    rw [H]; exact take_bad p0 p1 p2 p3 p4 p5 p6 p7 a0 a1 a2 a3 a4 a5 a6 a7 a8 a9 k n w h0 h1 hr

theorem tbeat_calls (p0 p1 p2 p3 p4 p5 p6 p7 a0 a1 a2 a3 a4 a5 a6 a7 a8 a9 y n : Int) (w : World) (h0 : 0 ≤ a2) (h1 : a2 ≤ 255)  :
    Calls Try.prog 26 #[.agg #[.int .i64 p0, .int .i64 p1, .int .i64 p2, .int .i64 p3, .int .i64 p4, .int .i64 p5, .int .i64 p6, .int .i64 p7], .agg #[.int .i64 a0, .int .i64 a1, .int .u8 a2, .int .i64 a3, .int .i64 a4, .int .i64 a5, .int .i64 a6, .int .i64 a7, .int .i64 a8, .int .i64 a9], .int .i64 y, .int .i64 n] w fun e w' => e = .returned (.tuple #[.agg #[.int .i64 ((beatF ⟨p0, p1, p2, p3, p4, p5, p6, p7⟩ ⟨a0, a1, a2, a3, a4, a5, a6, a7, a8, a9⟩ y n).1).put, .int .i64 ((beatF ⟨p0, p1, p2, p3, p4, p5, p6, p7⟩ ⟨a0, a1, a2, a3, a4, a5, a6, a7, a8, a9⟩ y n).1).tries, .int .u8 ((beatF ⟨p0, p1, p2, p3, p4, p5, p6, p7⟩ ⟨a0, a1, a2, a3, a4, a5, a6, a7, a8, a9⟩ y n).1).state, .int .i64 ((beatF ⟨p0, p1, p2, p3, p4, p5, p6, p7⟩ ⟨a0, a1, a2, a3, a4, a5, a6, a7, a8, a9⟩ y n).1).ready, .int .i64 ((beatF ⟨p0, p1, p2, p3, p4, p5, p6, p7⟩ ⟨a0, a1, a2, a3, a4, a5, a6, a7, a8, a9⟩ y n).1).since, .int .i64 ((beatF ⟨p0, p1, p2, p3, p4, p5, p6, p7⟩ ⟨a0, a1, a2, a3, a4, a5, a6, a7, a8, a9⟩ y n).1).worker, .int .i64 ((beatF ⟨p0, p1, p2, p3, p4, p5, p6, p7⟩ ⟨a0, a1, a2, a3, a4, a5, a6, a7, a8, a9⟩ y n).1).tried, .int .i64 ((beatF ⟨p0, p1, p2, p3, p4, p5, p6, p7⟩ ⟨a0, a1, a2, a3, a4, a5, a6, a7, a8, a9⟩ y n).1).beat, .int .i64 ((beatF ⟨p0, p1, p2, p3, p4, p5, p6, p7⟩ ⟨a0, a1, a2, a3, a4, a5, a6, a7, a8, a9⟩ y n).1).os, .int .i64 ((beatF ⟨p0, p1, p2, p3, p4, p5, p6, p7⟩ ⟨a0, a1, a2, a3, a4, a5, a6, a7, a8, a9⟩ y n).1).ov], .int .i64 (beatF ⟨p0, p1, p2, p3, p4, p5, p6, p7⟩ ⟨a0, a1, a2, a3, a4, a5, a6, a7, a8, a9⟩ y n).2]) ∧ Ext w w' := by
  by_cases hr : rightT ⟨p0, p1, p2, p3, p4, p5, p6, p7⟩ ⟨a0, a1, a2, a3, a4, a5, a6, a7, a8, a9⟩ = true
  · have ⟨ht', ht⟩ := rightT_tries hr
    simp only at ht ht'
    by_cases hn : n < mx (mx (mx a0 a4) a6) a7
    · have H : beatF ⟨p0, p1, p2, p3, p4, p5, p6, p7⟩ ⟨a0, a1, a2, a3, a4, a5, a6, a7, a8, a9⟩ y n = (⟨a0, a1, a2, a3, a4, a5, a6, a7, a8, a9⟩, 2) := chgF_not (mayF_late hr (.inl hn)) (by decide)
      rw [H]; exact beat_late p0 p1 p2 p3 p4 p5 p6 p7 a0 a1 a2 a3 a4 a5 a6 a7 a8 a9 y n w h0 h1 hr hn
    · by_cases hn' : 1099511627776 < n
      · have H : beatF ⟨p0, p1, p2, p3, p4, p5, p6, p7⟩ ⟨a0, a1, a2, a3, a4, a5, a6, a7, a8, a9⟩ y n = (⟨a0, a1, a2, a3, a4, a5, a6, a7, a8, a9⟩, 2) := chgF_not (mayF_late hr (.inr hn')) (by decide)
        rw [H]; exact beat_end p0 p1 p2 p3 p4 p5 p6 p7 a0 a1 a2 a3 a4 a5 a6 a7 a8 a9 y n w h0 h1 hr (by omega) hn'
      · replace hn : mx (mx (mx a0 a4) a6) a7 ≤ n := by omega
        replace hn' : n ≤ 1099511627776 := by omega
        have H : beatF ⟨p0, p1, p2, p3, p4, p5, p6, p7⟩ ⟨a0, a1, a2, a3, a4, a5, a6, a7, a8, a9⟩ y n = if (beatR ⟨a0, a1, a2, a3, a4, a5, a6, a7, a8, a9⟩ y n).2 ≠ 0 then (⟨a0, a1, a2, a3, a4, a5, a6, a7, a8, a9⟩, (beatR ⟨a0, a1, a2, a3, a4, a5, a6, a7, a8, a9⟩ y n).2) else beatR ⟨a0, a1, a2, a3, a4, a5, a6, a7, a8, a9⟩ y n := chgF_ok (mayF_ok hr hn hn')
        by_cases hs : a2 = 3
        · subst hs
          by_cases hy : a1 = y
          · subst hy
            have R : beatR ⟨a0, a1, 3, a3, a4, a5, a6, a7, a8, a9⟩ a1 n = (⟨a0, a1, 3, a3, a4, a5, a6, n, a8, a9⟩, 0) := by unfold beatR; rw [if_neg (by simp)]
            rw [R, if_neg (by simp)] at H
            rw [H]; exact beat_ok p0 p1 p2 p3 p4 p5 p6 p7 a0 a1 3 a3 a4 a5 a6 a7 a8 a9 n w h0 h1 hr hn hn' rfl
          · have R : beatR ⟨a0, a1, 3, a3, a4, a5, a6, a7, a8, a9⟩ y n = (⟨a0, a1, 3, a3, a4, a5, a6, a7, a8, a9⟩, 109) := by unfold beatR; rw [if_pos (.inr hy)]
            rw [R, if_pos (by simp)] at H
            rw [H]; exact beat_other p0 p1 p2 p3 p4 p5 p6 p7 a0 a1 3 a3 a4 a5 a6 a7 a8 a9 y n w h0 h1 hr hn hn' rfl (by simpa using hy)
        · have R : beatR ⟨a0, a1, a2, a3, a4, a5, a6, a7, a8, a9⟩ y n = (⟨a0, a1, a2, a3, a4, a5, a6, a7, a8, a9⟩, 109) := by unfold beatR; rw [if_pos (.inl hs)]
          rw [R, if_pos (by simp)] at H
          rw [H]; exact beat_no p0 p1 p2 p3 p4 p5 p6 p7 a0 a1 a2 a3 a4 a5 a6 a7 a8 a9 y n w h0 h1 hr hn hn' (by simpa using hs) (by simpa using hs)
  · replace hr : rightT ⟨p0, p1, p2, p3, p4, p5, p6, p7⟩ ⟨a0, a1, a2, a3, a4, a5, a6, a7, a8, a9⟩ = false := by simpa using hr
    have H : beatF ⟨p0, p1, p2, p3, p4, p5, p6, p7⟩ ⟨a0, a1, a2, a3, a4, a5, a6, a7, a8, a9⟩ y n = (⟨a0, a1, a2, a3, a4, a5, a6, a7, a8, a9⟩, 112) := chgF_not (mayF_bad hr) (by decide)
    rw [H]; exact beat_bad p0 p1 p2 p3 p4 p5 p6 p7 a0 a1 a2 a3 a4 a5 a6 a7 a8 a9 y n w h0 h1 hr

theorem tlost_calls (p0 p1 p2 p3 p4 p5 p6 p7 a0 a1 a2 a3 a4 a5 a6 a7 a8 a9 n : Int) (w : World) (h0 : 0 ≤ a2) (h1 : a2 ≤ 255)  :
    Calls Try.prog 37 #[.agg #[.int .i64 p0, .int .i64 p1, .int .i64 p2, .int .i64 p3, .int .i64 p4, .int .i64 p5, .int .i64 p6, .int .i64 p7], .agg #[.int .i64 a0, .int .i64 a1, .int .u8 a2, .int .i64 a3, .int .i64 a4, .int .i64 a5, .int .i64 a6, .int .i64 a7, .int .i64 a8, .int .i64 a9], .int .i64 n] w fun e w' => e = .returned (.tuple #[.agg #[.int .i64 ((lostF ⟨p0, p1, p2, p3, p4, p5, p6, p7⟩ ⟨a0, a1, a2, a3, a4, a5, a6, a7, a8, a9⟩ n).1).put, .int .i64 ((lostF ⟨p0, p1, p2, p3, p4, p5, p6, p7⟩ ⟨a0, a1, a2, a3, a4, a5, a6, a7, a8, a9⟩ n).1).tries, .int .u8 ((lostF ⟨p0, p1, p2, p3, p4, p5, p6, p7⟩ ⟨a0, a1, a2, a3, a4, a5, a6, a7, a8, a9⟩ n).1).state, .int .i64 ((lostF ⟨p0, p1, p2, p3, p4, p5, p6, p7⟩ ⟨a0, a1, a2, a3, a4, a5, a6, a7, a8, a9⟩ n).1).ready, .int .i64 ((lostF ⟨p0, p1, p2, p3, p4, p5, p6, p7⟩ ⟨a0, a1, a2, a3, a4, a5, a6, a7, a8, a9⟩ n).1).since, .int .i64 ((lostF ⟨p0, p1, p2, p3, p4, p5, p6, p7⟩ ⟨a0, a1, a2, a3, a4, a5, a6, a7, a8, a9⟩ n).1).worker, .int .i64 ((lostF ⟨p0, p1, p2, p3, p4, p5, p6, p7⟩ ⟨a0, a1, a2, a3, a4, a5, a6, a7, a8, a9⟩ n).1).tried, .int .i64 ((lostF ⟨p0, p1, p2, p3, p4, p5, p6, p7⟩ ⟨a0, a1, a2, a3, a4, a5, a6, a7, a8, a9⟩ n).1).beat, .int .i64 ((lostF ⟨p0, p1, p2, p3, p4, p5, p6, p7⟩ ⟨a0, a1, a2, a3, a4, a5, a6, a7, a8, a9⟩ n).1).os, .int .i64 ((lostF ⟨p0, p1, p2, p3, p4, p5, p6, p7⟩ ⟨a0, a1, a2, a3, a4, a5, a6, a7, a8, a9⟩ n).1).ov], .int .i64 (lostF ⟨p0, p1, p2, p3, p4, p5, p6, p7⟩ ⟨a0, a1, a2, a3, a4, a5, a6, a7, a8, a9⟩ n).2]) ∧ Ext w w' := by
  by_cases hr : rightT ⟨p0, p1, p2, p3, p4, p5, p6, p7⟩ ⟨a0, a1, a2, a3, a4, a5, a6, a7, a8, a9⟩ = true
  · have ⟨ht', ht⟩ := rightT_tries hr
    simp only at ht ht'
    by_cases hn : n < mx (mx (mx a0 a4) a6) a7
    · have H : lostF ⟨p0, p1, p2, p3, p4, p5, p6, p7⟩ ⟨a0, a1, a2, a3, a4, a5, a6, a7, a8, a9⟩ n = (⟨a0, a1, a2, a3, a4, a5, a6, a7, a8, a9⟩, 2) := chgF_not (mayF_late hr (.inl hn)) (by decide)
      rw [H]; exact lost_late p0 p1 p2 p3 p4 p5 p6 p7 a0 a1 a2 a3 a4 a5 a6 a7 a8 a9 n w h0 h1 hr hn
    · by_cases hn' : 1099511627776 < n
      · have H : lostF ⟨p0, p1, p2, p3, p4, p5, p6, p7⟩ ⟨a0, a1, a2, a3, a4, a5, a6, a7, a8, a9⟩ n = (⟨a0, a1, a2, a3, a4, a5, a6, a7, a8, a9⟩, 2) := chgF_not (mayF_late hr (.inr hn')) (by decide)
        rw [H]; exact lost_end p0 p1 p2 p3 p4 p5 p6 p7 a0 a1 a2 a3 a4 a5 a6 a7 a8 a9 n w h0 h1 hr (by omega) hn'
      · replace hn : mx (mx (mx a0 a4) a6) a7 ≤ n := by omega
        replace hn' : n ≤ 1099511627776 := by omega
        have H : lostF ⟨p0, p1, p2, p3, p4, p5, p6, p7⟩ ⟨a0, a1, a2, a3, a4, a5, a6, a7, a8, a9⟩ n = if (lostR ⟨p0, p1, p2, p3, p4, p5, p6, p7⟩ ⟨a0, a1, a2, a3, a4, a5, a6, a7, a8, a9⟩ n).2 ≠ 0 then (⟨a0, a1, a2, a3, a4, a5, a6, a7, a8, a9⟩, (lostR ⟨p0, p1, p2, p3, p4, p5, p6, p7⟩ ⟨a0, a1, a2, a3, a4, a5, a6, a7, a8, a9⟩ n).2) else lostR ⟨p0, p1, p2, p3, p4, p5, p6, p7⟩ ⟨a0, a1, a2, a3, a4, a5, a6, a7, a8, a9⟩ n := chgF_ok (mayF_ok hr hn hn')
        by_cases hs : a2 = 3
        · subst hs
          have R : lostR ⟨p0, p1, p2, p3, p4, p5, p6, p7⟩ ⟨a0, a1, 3, a3, a4, a5, a6, a7, a8, a9⟩ n = (againF ⟨p0, p1, p2, p3, p4, p5, p6, p7⟩ ⟨a0, a1, 3, a3, a4, a5, a6, a7, a8, a9⟩ 2 4 n 0, 0) := by unfold lostR; rw [if_neg (by simp)]
          rw [R, if_neg (by simp)] at H
          rw [H]; exact lost_ok p0 p1 p2 p3 p4 p5 p6 p7 a0 a1 3 a3 a4 a5 a6 a7 a8 a9 n w h0 h1 hr hn hn' rfl ht
        · have R : lostR ⟨p0, p1, p2, p3, p4, p5, p6, p7⟩ ⟨a0, a1, a2, a3, a4, a5, a6, a7, a8, a9⟩ n = (⟨a0, a1, a2, a3, a4, a5, a6, a7, a8, a9⟩, 70) := by unfold lostR; rw [if_pos hs]
          rw [R, if_pos (by simp)] at H
          rw [H]; exact lost_no p0 p1 p2 p3 p4 p5 p6 p7 a0 a1 a2 a3 a4 a5 a6 a7 a8 a9 n w h0 h1 hr hn hn' (by simpa using hs) (by simpa using hs)
  · replace hr : rightT ⟨p0, p1, p2, p3, p4, p5, p6, p7⟩ ⟨a0, a1, a2, a3, a4, a5, a6, a7, a8, a9⟩ = false := by simpa using hr
    have H : lostF ⟨p0, p1, p2, p3, p4, p5, p6, p7⟩ ⟨a0, a1, a2, a3, a4, a5, a6, a7, a8, a9⟩ n = (⟨a0, a1, a2, a3, a4, a5, a6, a7, a8, a9⟩, 112) := chgF_not (mayF_bad hr) (by decide)
    rw [H]; exact lost_bad p0 p1 p2 p3 p4 p5 p6 p7 a0 a1 a2 a3 a4 a5 a6 a7 a8 a9 n w h0 h1 hr

theorem ttick_calls (p0 p1 p2 p3 p4 p5 p6 p7 a0 a1 a2 a3 a4 a5 a6 a7 a8 a9 n : Int) (w : World) (h0 : 0 ≤ a2) (h1 : a2 ≤ 255)  :
    Calls Try.prog 13 #[.agg #[.int .i64 p0, .int .i64 p1, .int .i64 p2, .int .i64 p3, .int .i64 p4, .int .i64 p5, .int .i64 p6, .int .i64 p7], .agg #[.int .i64 a0, .int .i64 a1, .int .u8 a2, .int .i64 a3, .int .i64 a4, .int .i64 a5, .int .i64 a6, .int .i64 a7, .int .i64 a8, .int .i64 a9], .int .i64 n] w fun e w' => e = .returned (.tuple #[.agg #[.int .i64 ((tickF ⟨p0, p1, p2, p3, p4, p5, p6, p7⟩ ⟨a0, a1, a2, a3, a4, a5, a6, a7, a8, a9⟩ n).1).put, .int .i64 ((tickF ⟨p0, p1, p2, p3, p4, p5, p6, p7⟩ ⟨a0, a1, a2, a3, a4, a5, a6, a7, a8, a9⟩ n).1).tries, .int .u8 ((tickF ⟨p0, p1, p2, p3, p4, p5, p6, p7⟩ ⟨a0, a1, a2, a3, a4, a5, a6, a7, a8, a9⟩ n).1).state, .int .i64 ((tickF ⟨p0, p1, p2, p3, p4, p5, p6, p7⟩ ⟨a0, a1, a2, a3, a4, a5, a6, a7, a8, a9⟩ n).1).ready, .int .i64 ((tickF ⟨p0, p1, p2, p3, p4, p5, p6, p7⟩ ⟨a0, a1, a2, a3, a4, a5, a6, a7, a8, a9⟩ n).1).since, .int .i64 ((tickF ⟨p0, p1, p2, p3, p4, p5, p6, p7⟩ ⟨a0, a1, a2, a3, a4, a5, a6, a7, a8, a9⟩ n).1).worker, .int .i64 ((tickF ⟨p0, p1, p2, p3, p4, p5, p6, p7⟩ ⟨a0, a1, a2, a3, a4, a5, a6, a7, a8, a9⟩ n).1).tried, .int .i64 ((tickF ⟨p0, p1, p2, p3, p4, p5, p6, p7⟩ ⟨a0, a1, a2, a3, a4, a5, a6, a7, a8, a9⟩ n).1).beat, .int .i64 ((tickF ⟨p0, p1, p2, p3, p4, p5, p6, p7⟩ ⟨a0, a1, a2, a3, a4, a5, a6, a7, a8, a9⟩ n).1).os, .int .i64 ((tickF ⟨p0, p1, p2, p3, p4, p5, p6, p7⟩ ⟨a0, a1, a2, a3, a4, a5, a6, a7, a8, a9⟩ n).1).ov], .int .i64 (tickF ⟨p0, p1, p2, p3, p4, p5, p6, p7⟩ ⟨a0, a1, a2, a3, a4, a5, a6, a7, a8, a9⟩ n).2]) ∧ Ext w w' := by
  by_cases hr : rightT ⟨p0, p1, p2, p3, p4, p5, p6, p7⟩ ⟨a0, a1, a2, a3, a4, a5, a6, a7, a8, a9⟩ = true
  · have ⟨ht', ht⟩ := rightT_tries hr
    simp only at ht ht'
    by_cases hn : n < mx (mx (mx a0 a4) a6) a7
    · have H : tickF ⟨p0, p1, p2, p3, p4, p5, p6, p7⟩ ⟨a0, a1, a2, a3, a4, a5, a6, a7, a8, a9⟩ n = (⟨a0, a1, a2, a3, a4, a5, a6, a7, a8, a9⟩, 2) := chgF_not (mayF_late hr (.inl hn)) (by decide)
      rw [H]; exact tick_late p0 p1 p2 p3 p4 p5 p6 p7 a0 a1 a2 a3 a4 a5 a6 a7 a8 a9 n w h0 h1 hr hn
    · by_cases hn' : 1099511627776 < n
      · have H : tickF ⟨p0, p1, p2, p3, p4, p5, p6, p7⟩ ⟨a0, a1, a2, a3, a4, a5, a6, a7, a8, a9⟩ n = (⟨a0, a1, a2, a3, a4, a5, a6, a7, a8, a9⟩, 2) := chgF_not (mayF_late hr (.inr hn')) (by decide)
        rw [H]; exact tick_end p0 p1 p2 p3 p4 p5 p6 p7 a0 a1 a2 a3 a4 a5 a6 a7 a8 a9 n w h0 h1 hr (by omega) hn'
      · replace hn : mx (mx (mx a0 a4) a6) a7 ≤ n := by omega
        replace hn' : n ≤ 1099511627776 := by omega
        have H : tickF ⟨p0, p1, p2, p3, p4, p5, p6, p7⟩ ⟨a0, a1, a2, a3, a4, a5, a6, a7, a8, a9⟩ n = if ((tickE (tickS ⟨p0, p1, p2, p3, p4, p5, p6, p7⟩ (tickS ⟨p0, p1, p2, p3, p4, p5, p6, p7⟩ ⟨a0, a1, a2, a3, a4, a5, a6, a7, a8, a9⟩ n) n) n, 0)).2 ≠ 0 then (⟨a0, a1, a2, a3, a4, a5, a6, a7, a8, a9⟩, ((tickE (tickS ⟨p0, p1, p2, p3, p4, p5, p6, p7⟩ (tickS ⟨p0, p1, p2, p3, p4, p5, p6, p7⟩ ⟨a0, a1, a2, a3, a4, a5, a6, a7, a8, a9⟩ n) n) n, 0)).2) else (tickE (tickS ⟨p0, p1, p2, p3, p4, p5, p6, p7⟩ (tickS ⟨p0, p1, p2, p3, p4, p5, p6, p7⟩ ⟨a0, a1, a2, a3, a4, a5, a6, a7, a8, a9⟩ n) n) n, 0) := chgF_ok (mayF_ok hr hn hn')
        rw [if_neg (by simp)] at H
        rw [H]; exact tick_ok p0 p1 p2 p3 p4 p5 p6 p7 a0 a1 a2 a3 a4 a5 a6 a7 a8 a9 n w h0 h1 hr hn hn' ht
  · replace hr : rightT ⟨p0, p1, p2, p3, p4, p5, p6, p7⟩ ⟨a0, a1, a2, a3, a4, a5, a6, a7, a8, a9⟩ = false := by simpa using hr
    have H : tickF ⟨p0, p1, p2, p3, p4, p5, p6, p7⟩ ⟨a0, a1, a2, a3, a4, a5, a6, a7, a8, a9⟩ n = (⟨a0, a1, a2, a3, a4, a5, a6, a7, a8, a9⟩, 112) := chgF_not (mayF_bad hr) (by decide)
    rw [H]; exact tick_bad p0 p1 p2 p3 p4 p5 p6 p7 a0 a1 a2 a3 a4 a5 a6 a7 a8 a9 n w h0 h1 hr

theorem ttell_calls (p0 p1 p2 p3 p4 p5 p6 p7 a0 a1 a2 a3 a4 a5 a6 a7 a8 a9 y os ov n j : Int) (w : World) (h0 : 0 ≤ a2) (h1 : a2 ≤ 255)  :
    Calls Try.prog 12 #[.agg #[.int .i64 p0, .int .i64 p1, .int .i64 p2, .int .i64 p3, .int .i64 p4, .int .i64 p5, .int .i64 p6, .int .i64 p7], .agg #[.int .i64 a0, .int .i64 a1, .int .u8 a2, .int .i64 a3, .int .i64 a4, .int .i64 a5, .int .i64 a6, .int .i64 a7, .int .i64 a8, .int .i64 a9], .int .i64 y, .agg #[.int .i64 os, .int .i64 ov], .int .i64 n, .int .i64 j] w fun e w' => e = .returned (.tuple #[.agg #[.int .i64 ((tellF ⟨p0, p1, p2, p3, p4, p5, p6, p7⟩ ⟨a0, a1, a2, a3, a4, a5, a6, a7, a8, a9⟩ y os ov n j).1).put, .int .i64 ((tellF ⟨p0, p1, p2, p3, p4, p5, p6, p7⟩ ⟨a0, a1, a2, a3, a4, a5, a6, a7, a8, a9⟩ y os ov n j).1).tries, .int .u8 ((tellF ⟨p0, p1, p2, p3, p4, p5, p6, p7⟩ ⟨a0, a1, a2, a3, a4, a5, a6, a7, a8, a9⟩ y os ov n j).1).state, .int .i64 ((tellF ⟨p0, p1, p2, p3, p4, p5, p6, p7⟩ ⟨a0, a1, a2, a3, a4, a5, a6, a7, a8, a9⟩ y os ov n j).1).ready, .int .i64 ((tellF ⟨p0, p1, p2, p3, p4, p5, p6, p7⟩ ⟨a0, a1, a2, a3, a4, a5, a6, a7, a8, a9⟩ y os ov n j).1).since, .int .i64 ((tellF ⟨p0, p1, p2, p3, p4, p5, p6, p7⟩ ⟨a0, a1, a2, a3, a4, a5, a6, a7, a8, a9⟩ y os ov n j).1).worker, .int .i64 ((tellF ⟨p0, p1, p2, p3, p4, p5, p6, p7⟩ ⟨a0, a1, a2, a3, a4, a5, a6, a7, a8, a9⟩ y os ov n j).1).tried, .int .i64 ((tellF ⟨p0, p1, p2, p3, p4, p5, p6, p7⟩ ⟨a0, a1, a2, a3, a4, a5, a6, a7, a8, a9⟩ y os ov n j).1).beat, .int .i64 ((tellF ⟨p0, p1, p2, p3, p4, p5, p6, p7⟩ ⟨a0, a1, a2, a3, a4, a5, a6, a7, a8, a9⟩ y os ov n j).1).os, .int .i64 ((tellF ⟨p0, p1, p2, p3, p4, p5, p6, p7⟩ ⟨a0, a1, a2, a3, a4, a5, a6, a7, a8, a9⟩ y os ov n j).1).ov], .int .i64 (tellF ⟨p0, p1, p2, p3, p4, p5, p6, p7⟩ ⟨a0, a1, a2, a3, a4, a5, a6, a7, a8, a9⟩ y os ov n j).2]) ∧ Ext w w' := by
  by_cases hr : rightT ⟨p0, p1, p2, p3, p4, p5, p6, p7⟩ ⟨a0, a1, a2, a3, a4, a5, a6, a7, a8, a9⟩ = true
  · have ⟨ht', ht⟩ := rightT_tries hr
    simp only at ht ht'
    by_cases hn : n < mx (mx (mx a0 a4) a6) a7
    · have H : tellF ⟨p0, p1, p2, p3, p4, p5, p6, p7⟩ ⟨a0, a1, a2, a3, a4, a5, a6, a7, a8, a9⟩ y os ov n j = (⟨a0, a1, a2, a3, a4, a5, a6, a7, a8, a9⟩, 2) := chgF_not (mayF_late hr (.inl hn)) (by decide)
      rw [H]; exact tell_late p0 p1 p2 p3 p4 p5 p6 p7 a0 a1 a2 a3 a4 a5 a6 a7 a8 a9 y os ov n j w h0 h1 hr hn
    · by_cases hn' : 1099511627776 < n
      · have H : tellF ⟨p0, p1, p2, p3, p4, p5, p6, p7⟩ ⟨a0, a1, a2, a3, a4, a5, a6, a7, a8, a9⟩ y os ov n j = (⟨a0, a1, a2, a3, a4, a5, a6, a7, a8, a9⟩, 2) := chgF_not (mayF_late hr (.inr hn')) (by decide)
        rw [H]; exact tell_end p0 p1 p2 p3 p4 p5 p6 p7 a0 a1 a2 a3 a4 a5 a6 a7 a8 a9 y os ov n j w h0 h1 hr (by omega) hn'
      · replace hn : mx (mx (mx a0 a4) a6) a7 ≤ n := by omega
        replace hn' : n ≤ 1099511627776 := by omega
        have H : tellF ⟨p0, p1, p2, p3, p4, p5, p6, p7⟩ ⟨a0, a1, a2, a3, a4, a5, a6, a7, a8, a9⟩ y os ov n j = if (tellR ⟨p0, p1, p2, p3, p4, p5, p6, p7⟩ ⟨a0, a1, a2, a3, a4, a5, a6, a7, a8, a9⟩ y os ov n j).2 ≠ 0 then (⟨a0, a1, a2, a3, a4, a5, a6, a7, a8, a9⟩, (tellR ⟨p0, p1, p2, p3, p4, p5, p6, p7⟩ ⟨a0, a1, a2, a3, a4, a5, a6, a7, a8, a9⟩ y os ov n j).2) else tellR ⟨p0, p1, p2, p3, p4, p5, p6, p7⟩ ⟨a0, a1, a2, a3, a4, a5, a6, a7, a8, a9⟩ y os ov n j := chgF_ok (mayF_ok hr hn hn')
        by_cases hs : a2 = 3
        · subst hs
          by_cases hy : a1 = y
          · subst hy
            by_cases ho : os = 0
            · subst ho
              have R : tellR ⟨p0, p1, p2, p3, p4, p5, p6, p7⟩ ⟨a0, a1, 3, a3, a4, a5, a6, a7, a8, a9⟩ a1 0 ov n j = (overF ⟨a0, a1, 3, a3, a4, a5, a6, a7, a8, a9⟩ 0 ov, 0) := by unfold tellR; rw [if_neg (by simp), if_pos rfl]
              rw [R, if_neg (by simp)] at H
              rw [H]; exact tell_fine p0 p1 p2 p3 p4 p5 p6 p7 a0 a1 3 a3 a4 a5 a6 a7 a8 a9 0 ov n j w h0 h1 hr hn hn' rfl rfl
            · by_cases ho' : os = 1
              · subst ho'
                have R : tellR ⟨p0, p1, p2, p3, p4, p5, p6, p7⟩ ⟨a0, a1, 3, a3, a4, a5, a6, a7, a8, a9⟩ a1 1 ov n j = (againF ⟨p0, p1, p2, p3, p4, p5, p6, p7⟩ ⟨a0, a1, 3, a3, a4, a5, a6, a7, a8, a9⟩ 1 ov n j, 0) := by unfold tellR; rw [if_neg (by simp), if_neg (by decide), if_pos rfl]
                rw [R, if_neg (by simp)] at H
                rw [H]; exact tell_failed p0 p1 p2 p3 p4 p5 p6 p7 a0 a1 3 a3 a4 a5 a6 a7 a8 a9 1 ov n j w h0 h1 hr hn hn' rfl rfl ht
              · have R : tellR ⟨p0, p1, p2, p3, p4, p5, p6, p7⟩ ⟨a0, a1, 3, a3, a4, a5, a6, a7, a8, a9⟩ a1 os ov n j = (⟨a0, a1, 3, a3, a4, a5, a6, a7, a8, a9⟩, 2) := by unfold tellR; rw [if_neg (by simp), if_neg ho, if_neg ho']
                rw [R, if_pos (by simp)] at H
                rw [H]; exact tell_arg p0 p1 p2 p3 p4 p5 p6 p7 a0 a1 3 a3 a4 a5 a6 a7 a8 a9 os ov n j w h0 h1 hr hn hn' rfl (by simpa using ho) (by simpa using ho')
          · have R : tellR ⟨p0, p1, p2, p3, p4, p5, p6, p7⟩ ⟨a0, a1, 3, a3, a4, a5, a6, a7, a8, a9⟩ y os ov n j = (⟨a0, a1, 3, a3, a4, a5, a6, a7, a8, a9⟩, 109) := by unfold tellR; rw [if_pos (.inr hy)]
            rw [R, if_pos (by simp)] at H
            rw [H]; exact tell_other p0 p1 p2 p3 p4 p5 p6 p7 a0 a1 3 a3 a4 a5 a6 a7 a8 a9 y os ov n j w h0 h1 hr hn hn' rfl (by simpa using hy)
        · have R : tellR ⟨p0, p1, p2, p3, p4, p5, p6, p7⟩ ⟨a0, a1, a2, a3, a4, a5, a6, a7, a8, a9⟩ y os ov n j = (⟨a0, a1, a2, a3, a4, a5, a6, a7, a8, a9⟩, 109) := by unfold tellR; rw [if_pos (.inl hs)]
          rw [R, if_pos (by simp)] at H
          rw [H]; exact tell_no p0 p1 p2 p3 p4 p5 p6 p7 a0 a1 a2 a3 a4 a5 a6 a7 a8 a9 y os ov n j w h0 h1 hr hn hn' (by simpa using hs) (by simpa using hs)
  · replace hr : rightT ⟨p0, p1, p2, p3, p4, p5, p6, p7⟩ ⟨a0, a1, a2, a3, a4, a5, a6, a7, a8, a9⟩ = false := by simpa using hr
    have H : tellF ⟨p0, p1, p2, p3, p4, p5, p6, p7⟩ ⟨a0, a1, a2, a3, a4, a5, a6, a7, a8, a9⟩ y os ov n j = (⟨a0, a1, a2, a3, a4, a5, a6, a7, a8, a9⟩, 112) := chgF_not (mayF_bad hr) (by decide)
    rw [H]; exact tell_bad p0 p1 p2 p3 p4 p5 p6 p7 a0 a1 a2 a3 a4 a5 a6 a7 a8 a9 y os ov n j w h0 h1 hr

theorem tstop_calls (p0 p1 p2 p3 p4 p5 p6 p7 a0 a1 a2 a3 a4 a5 a6 a7 a8 a9 : Int) (w : World) (h0 : 0 ≤ a2) (h1 : a2 ≤ 255) :
    Calls Try.prog 38 #[.agg #[.int .i64 p0, .int .i64 p1, .int .i64 p2, .int .i64 p3, .int .i64 p4, .int .i64 p5, .int .i64 p6, .int .i64 p7], .agg #[.int .i64 a0, .int .i64 a1, .int .u8 a2, .int .i64 a3, .int .i64 a4, .int .i64 a5, .int .i64 a6, .int .i64 a7, .int .i64 a8, .int .i64 a9]] w fun e w' => e = .returned (.tuple #[.agg #[.int .i64 ((stopF ⟨p0, p1, p2, p3, p4, p5, p6, p7⟩ ⟨a0, a1, a2, a3, a4, a5, a6, a7, a8, a9⟩).1).put, .int .i64 ((stopF ⟨p0, p1, p2, p3, p4, p5, p6, p7⟩ ⟨a0, a1, a2, a3, a4, a5, a6, a7, a8, a9⟩).1).tries, .int .u8 ((stopF ⟨p0, p1, p2, p3, p4, p5, p6, p7⟩ ⟨a0, a1, a2, a3, a4, a5, a6, a7, a8, a9⟩).1).state, .int .i64 ((stopF ⟨p0, p1, p2, p3, p4, p5, p6, p7⟩ ⟨a0, a1, a2, a3, a4, a5, a6, a7, a8, a9⟩).1).ready, .int .i64 ((stopF ⟨p0, p1, p2, p3, p4, p5, p6, p7⟩ ⟨a0, a1, a2, a3, a4, a5, a6, a7, a8, a9⟩).1).since, .int .i64 ((stopF ⟨p0, p1, p2, p3, p4, p5, p6, p7⟩ ⟨a0, a1, a2, a3, a4, a5, a6, a7, a8, a9⟩).1).worker, .int .i64 ((stopF ⟨p0, p1, p2, p3, p4, p5, p6, p7⟩ ⟨a0, a1, a2, a3, a4, a5, a6, a7, a8, a9⟩).1).tried, .int .i64 ((stopF ⟨p0, p1, p2, p3, p4, p5, p6, p7⟩ ⟨a0, a1, a2, a3, a4, a5, a6, a7, a8, a9⟩).1).beat, .int .i64 ((stopF ⟨p0, p1, p2, p3, p4, p5, p6, p7⟩ ⟨a0, a1, a2, a3, a4, a5, a6, a7, a8, a9⟩).1).os, .int .i64 ((stopF ⟨p0, p1, p2, p3, p4, p5, p6, p7⟩ ⟨a0, a1, a2, a3, a4, a5, a6, a7, a8, a9⟩).1).ov], .int .i64 (stopF ⟨p0, p1, p2, p3, p4, p5, p6, p7⟩ ⟨a0, a1, a2, a3, a4, a5, a6, a7, a8, a9⟩).2]) ∧ Ext w w' := by
  by_cases hr : rightT ⟨p0, p1, p2, p3, p4, p5, p6, p7⟩ ⟨a0, a1, a2, a3, a4, a5, a6, a7, a8, a9⟩ = true
  · by_cases hs : a2 = 4
    · have H : stopF ⟨p0, p1, p2, p3, p4, p5, p6, p7⟩ ⟨a0, a1, a2, a3, a4, a5, a6, a7, a8, a9⟩ = (⟨a0, a1, a2, a3, a4, a5, a6, a7, a8, a9⟩, 0) := by unfold stopF; rw [if_pos hr, if_pos hs]
      rw [H]; exact stop_over p0 p1 p2 p3 p4 p5 p6 p7 a0 a1 a2 a3 a4 a5 a6 a7 a8 a9 w h0 h1 hr hs
    · have H : stopF ⟨p0, p1, p2, p3, p4, p5, p6, p7⟩ ⟨a0, a1, a2, a3, a4, a5, a6, a7, a8, a9⟩ = (overF ⟨a0, a1, a2, a3, a4, a5, a6, a7, a8, a9⟩ 3 0, 0) := by unfold stopF; rw [if_pos hr, if_neg hs]
      rw [H]; exact stop_ok p0 p1 p2 p3 p4 p5 p6 p7 a0 a1 a2 a3 a4 a5 a6 a7 a8 a9 w h0 h1 hr (by simpa using hs) (by simpa using hs)
  · have H : stopF ⟨p0, p1, p2, p3, p4, p5, p6, p7⟩ ⟨a0, a1, a2, a3, a4, a5, a6, a7, a8, a9⟩ = (⟨a0, a1, a2, a3, a4, a5, a6, a7, a8, a9⟩, 112) := by unfold stopF; rw [if_neg hr]
    rw [H]; exact stop_bad p0 p1 p2 p3 p4 p5 p6 p7 a0 a1 a2 a3 a4 a5 a6 a7 a8 a9 w h0 h1 (by simpa using hr)
end Go.Proofs.Ytnfmgojloahfkaa

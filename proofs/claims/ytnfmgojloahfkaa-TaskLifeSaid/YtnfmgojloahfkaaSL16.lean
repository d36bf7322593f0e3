/- TaskLife, in plain Lean. -/
import Derived.Test.YtnfmgojloahfkaaK16
namespace Go.Proofs.Ytnfmgojloahfkaa
set_option linter.unusedVariables false
set_option linter.unusedSimpArgs false
open Go.RowKit

theorem right_q {p0 p1 p2 p3 p4 p5 p6 p7 : Int} (h : rightB ⟨p0, p1, p2, p3, p4, p5, p6, p7⟩ = true) : rightB ⟨p0, p1, p2, 0, 0, 0, 0, p7⟩ = true := by
  have R := (rightB_iff _).1 h
  exact (rightB_iff _).2 ⟨R.init, R.cap, by simp, by simp, by simp, by simp, R.most, R.cost⟩
theorem moreB_iff (p : Pol) (n : Int) (h : rightB p = true) : moreB p n = (decide (0 ≤ n) && decide (n < p.most)) := by simp [moreB, h]
theorem due_noneq {p0 p1 p2 p7 : Int} (t : Tms) : dueOk ⟨p0, p1, p2, 0, 0, 0, 0, p7⟩ t = false := by
  unfold dueOk dueWhich
  split
  · simp [dueS, stepF]
  · simp
theorem life_take {p0 p1 p2 p7 j n : Int} (hr : rightB ⟨p0, p1, p2, 0, 0, 0, 0, p7⟩ = true) (hj : 0 ≤ j) (hj' : j < p0) (hn : 0 ≤ n) (hn' : n ≤ 1099511627776) :
    takeF ⟨p0, p1, p2, 0, 0, 0, 0, p7⟩ ⟨0, j, 2, 0, n, 0, 0, 0, 0, 0⟩ 3 n = (⟨0, j + 1, 3, 0, 0, 3, n, n, 0, 0⟩, 0) := by
  have h1 : rightT ⟨p0, p1, p2, 0, 0, 0, 0, p7⟩ ⟨0, j, 2, 0, n, 0, 0, 0, 0, 0⟩ = true := by simp [rightT, hr, tm, shapeT]; omega
  have h2 : mayF ⟨p0, p1, p2, 0, 0, 0, 0, p7⟩ ⟨0, j, 2, 0, n, 0, 0, 0, 0, 0⟩ n = 0 := by
    unfold mayF; rw [if_pos h1, if_neg]
    simp only [mx]; (repeat' split) <;> omega
  unfold takeF chgF; rw [h2]; simp [takeR]
theorem life_may {p0 p1 p2 p7 j n : Int} (hr : rightB ⟨p0, p1, p2, 0, 0, 0, 0, p7⟩ = true) (hj : 0 ≤ j) (hj' : j < p0) (hn : 0 ≤ n) (hn' : n ≤ 1099511627776) :
    mayF ⟨p0, p1, p2, 0, 0, 0, 0, p7⟩ ⟨0, j + 1, 3, 0, 0, 3, n, n, 0, 0⟩ n = 0 := by
  have h1 : rightT ⟨p0, p1, p2, 0, 0, 0, 0, p7⟩ ⟨0, j + 1, 3, 0, 0, 3, n, n, 0, 0⟩ = true := by simp [rightT, hr, tm, shapeT]; omega
  unfold mayF; rw [if_pos h1, if_neg]
  simp only [mx]; (repeat' split) <;> omega
theorem life_fine {p0 p1 p2 p7 j n : Int} (v : Int) (hr : rightB ⟨p0, p1, p2, 0, 0, 0, 0, p7⟩ = true) (hj : 0 ≤ j) (hj' : j < p0) (hn : 0 ≤ n) (hn' : n ≤ 1099511627776) :
    tellF ⟨p0, p1, p2, 0, 0, 0, 0, p7⟩ ⟨0, j + 1, 3, 0, 0, 3, n, n, 0, 0⟩ (j + 1) 0 v n 0 = (⟨0, j + 1, 4, 0, 0, 0, 0, 0, 0, v⟩, 0) := by
  unfold tellF chgF; rw [life_may hr hj hj' hn hn']; simp [tellR, overF]
theorem life_last {p0 p1 p2 p7 j n : Int} (v : Int) (hr : rightB ⟨p0, p1, p2, 0, 0, 0, 0, p7⟩ = true) (hj : 0 ≤ j) (hj' : j + 1 = p0) (hn : 0 ≤ n) (hn' : n ≤ 1099511627776) :
    tellF ⟨p0, p1, p2, 0, 0, 0, 0, p7⟩ ⟨0, j + 1, 3, 0, 0, 3, n, n, 0, 0⟩ (j + 1) 1 v n 0 = (⟨0, j + 1, 4, 0, 0, 0, 0, 0, 1, v⟩, 0) := by
  have hm : moreB ⟨p0, p1, p2, 0, 0, 0, 0, p7⟩ (j + 1) = false := by rw [moreB_iff _ _ hr]; simp; omega
  unfold tellF chgF; rw [life_may hr hj (by omega) hn hn']; simp [tellR, againF, overF, hm]
theorem life_again {p0 p1 p2 p7 j n : Int} (v : Int) (hr : rightB ⟨p0, p1, p2, 0, 0, 0, 0, p7⟩ = true) (hj : 0 ≤ j) (hj' : j + 1 < p0) (hn : 0 ≤ n) (hn' : n ≤ 1099511627776) :
    tellF ⟨p0, p1, p2, 0, 0, 0, 0, p7⟩ ⟨0, j + 1, 3, 0, 0, 3, n, n, 0, 0⟩ (j + 1) 1 v n 0 = (⟨0, j + 1, 1, plusF n (waitF ⟨p0, p1, p2, 0, 0, 0, 0, p7⟩ (j + 1) 0), 0, 0, 0, 0, 0, 0⟩, 0) := by
  have hm : moreB ⟨p0, p1, p2, 0, 0, 0, 0, p7⟩ (j + 1) = true := by rw [moreB_iff _ _ hr]; simp; omega
  unfold tellF chgF; rw [life_may hr hj (by omega) hn hn']; simp [tellR, againF, hm]
theorem life_tick {p0 p1 p2 p7 j m : Int} (hr : rightB ⟨p0, p1, p2, 0, 0, 0, 0, p7⟩ = true) (hj : 0 ≤ j) (hj' : j + 1 < p0) (hn : 0 ≤ m) (hn' : m ≤ 1099511627776) :
    tickF ⟨p0, p1, p2, 0, 0, 0, 0, p7⟩ ⟨0, j + 1, 1, m, 0, 0, 0, 0, 0, 0⟩ m = (⟨0, j + 1, 2, 0, m, 0, 0, 0, 0, 0⟩, 0) := by
  have h1 : rightT ⟨p0, p1, p2, 0, 0, 0, 0, p7⟩ ⟨0, j + 1, 1, m, 0, 0, 0, 0, 0, 0⟩ = true := by simp [rightT, hr, tm, shapeT]; omega
  have h2 : mayF ⟨p0, p1, p2, 0, 0, 0, 0, p7⟩ ⟨0, j + 1, 1, m, 0, 0, 0, 0, 0, 0⟩ m = 0 := by
    unfold mayF; rw [if_pos h1, if_neg]
    simp only [mx]; (repeat' split) <;> omega
  have h3 : ∀ t : Tsk, tickS ⟨p0, p1, p2, 0, 0, 0, 0, p7⟩ t m = t := fun t => by unfold tickS; rw [if_neg (by simp [due_noneq])]
  unfold tickF chgF; rw [h2, h3, h3]; simp [tickE]
theorem life_begin : beginF 0 = ⟨0, 0, 2, 0, 0, 0, 0, 0, 0, 0⟩ := by decide
end Go.Proofs.Ytnfmgojloahfkaa

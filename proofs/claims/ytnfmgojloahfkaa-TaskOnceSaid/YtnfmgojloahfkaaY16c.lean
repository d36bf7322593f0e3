/- TaskOnce's closure: put together. -/
import Derived.Test.YtnfmgojloahfkaaY16b
namespace Go.Proofs.Ytnfmgojloahfkaa
open Go.RowKit
set_option linter.unusedVariables false
set_option linter.unusedSimpArgs false

/-- What is noted: till when a task that waits has to wait; nobody begins ahead of it. -/
def KK (X : Tsk) (v n : Int) : Prop := (X.state = 1 → v = X.ready) ∧ ((X.state = 2 ∨ X.state = 3) → v ≤ n)
theorem conce_calls (p0 p1 p2 p3 p4 p5 p6 p7 : Int) (X Y : Tsk) (o0 o1 o2 o3 o4 o5 o6 n v e : Int) (bu bp : Nat) (w : World) (lp : bp < w.heap.size) (cp : ∀ i, w.cell? ⟨bp, i, none⟩ = #[.int .i64 p0, .int .i64 p1, .int .i64 p2, .int .i64 p3, .int .i64 p4, .int .i64 p5, .int .i64 p6, .int .i64 p7][i]?) (lu : bu < w.heap.size) (cu : ∀ i, w.cell? ⟨bu, i, none⟩ = #[.int .i64 v][i]?) (fu : w.frozen? ⟨bu, 0, none⟩ = false)
    (hr : rightB ⟨p0, p1, p2, p3, p4, p5, p6, p7⟩ = true) (hX : Sh ⟨p0, p1, p2, p3, p4, p5, p6, p7⟩ X) (hY : Sh ⟨p0, p1, p2, p3, p4, p5, p6, p7⟩ Y) (hm9 : p0 ≤ 100) (htr : Tr ⟨p0, p1, p2, p3, p4, p5, p6, p7⟩ o0 o6 n X Y e) (hK : KK X v n) :
    Calls Try.prog 22 #[.agg #[.int .i64 (X).put, .int .i64 (X).tries, .int .u8 (X).state, .int .i64 (X).ready, .int .i64 (X).since, .int .i64 (X).worker, .int .i64 (X).tried, .int .i64 (X).beat, .int .i64 (X).os, .int .i64 (X).ov], .agg #[.int .i64 (Y).put, .int .i64 (Y).tries, .int .u8 (Y).state, .int .i64 (Y).ready, .int .i64 (Y).since, .int .i64 (Y).worker, .int .i64 (Y).tried, .int .i64 (Y).beat, .int .i64 (Y).os, .int .i64 (Y).ov], .agg #[.int .i64 o0, .int .i64 o1, .int .i64 o2, .int .i64 o3, .int .i64 o4, .int .i64 o5, .int .i64 o6], .int .i64 n, .int .i64 e, .pointer (some ⟨bp, 0, none⟩), .pointer (some ⟨bu, 0, none⟩)] w fun r w' => r = .returned (.bool true) ∧ ∃ v', Ext (w.setCell ⟨bu, 0, none⟩ (.int .i64 v')) w' ∧ KK Y v' n := by
  have ht := right_of_sh hr hY
  have hk := sh_tries hY
  have hk0 := (sh_tries hX).1
  have hz := sh_state hY
  have hself : w.setCell ⟨bu, 0, none⟩ (.int .i64 v) = w := set_self (by rw [cu 0]; rfl)
  cases htr with
  | same =>
    refine (conce_same p0 p1 p2 p3 p4 p5 p6 p7 X.put X.tries X.state X.ready X.since X.worker X.tried X.beat X.os X.ov e o0 o1 o2 o3 o4 o5 o6 n v bu bp w lp cp lu cu fu ht hz.1 hz.2 hk.2).mono ?_
    rintro r w' ⟨rfl, hb⟩
    exact ⟨rfl, v, by rw [hself]; exact hb, hK⟩
  | take u k s q h0 hw hk' =>
    subst h0
    refine (conce_take p0 p1 p2 p3 p4 p5 p6 p7 u k s q o1 o2 o3 o4 o5 o6 n v bu bp w lp cp lu cu fu ht hk0 hk.2 hm9 (hK.2 (.inl rfl))).mono ?_
    rintro r w' ⟨rfl, hb⟩
    exact ⟨rfl, v, by rw [hself]; exact hb, fun h => by simp at h, fun _ => hK.2 (.inl rfl)⟩
  | beat u k q a b hb =>
    refine (conce_beat p0 p1 p2 p3 p4 p5 p6 p7 u k q a b o0 o1 o2 o3 o4 o5 o6 n v bu bp w lp cp lu cu fu ht hk.2).mono ?_
    rintro r w' ⟨rfl, hb⟩
    exact ⟨rfl, v, by rw [hself]; exact hb, fun h => by simp at h, fun _ => hK.2 (.inr rfl)⟩
  | wait u k q a b hk' =>
    by_cases h2 : o0 = 2
    · subst h2
      simp only [if_true] at ht hY hk ⊢
      refine (conce_waitT p0 p1 p2 p3 p4 p5 p6 p7 u k q a b o1 o2 o3 o4 o5 o6 n v bu bp w lp cp lu cu fu ht hk0 hk.2 hm9).mono ?_
      rintro r w' ⟨rfl, hb⟩
      exact ⟨rfl, _, hb, fun _ => rfl, fun h => by simp at h⟩
    · simp only [if_neg h2] at ht hY hk ⊢
      refine (conce_waitL p0 p1 p2 p3 p4 p5 p6 p7 u k q a b o0 o1 o2 o3 o4 o5 o6 n v bu bp w lp cp lu cu fu ht hk0 hk.2 hm9 (by simpa using h2)).mono ?_
      rintro r w' ⟨rfl, hb⟩
      exact ⟨rfl, _, hb, fun _ => rfl, fun h => by simp at h⟩
  | readyW u k y hy =>
    have hv : v = y := hK.1 rfl
    refine (conce_ready p0 p1 p2 p3 p4 p5 p6 p7 u k y 0 0 0 0 0 0 1 o0 o1 o2 o3 o4 o5 o6 n v bu bp w lp cp lu cu fu ht (.inl rfl) hk.2 (by omega)).mono ?_
    rintro r w' ⟨rfl, hb⟩
    exact ⟨rfl, v, by rw [hself]; exact hb, fun h => by simp at h, fun _ => by omega⟩
  | readyH u k q a b hk' =>
    refine (conce_ready p0 p1 p2 p3 p4 p5 p6 p7 u k 0 0 q a b 0 0 3 o0 o1 o2 o3 o4 o5 o6 n v bu bp w lp cp lu cu fu ht (.inr rfl) hk.2 (hK.2 (.inr rfl))).mono ?_
    rintro r w' ⟨rfl, hb⟩
    exact ⟨rfl, v, by rw [hself]; exact hb, fun h => by simp at h, fun _ => hK.2 (.inr rfl)⟩
  | over X os ov hs ho ho' =>
    refine (conce_over p0 p1 p2 p3 p4 p5 p6 p7 X.put X.tries X.ready X.since X.worker X.tried X.beat X.os X.ov X.state os ov o0 o1 o2 o3 o4 o5 o6 n v bu bp w lp cp lu cu fu ht hs hk.2).mono ?_
    rintro r w' ⟨rfl, hb⟩
    exact ⟨rfl, v, by rw [hself]; exact hb, fun h => by simp at h, fun h => by simp at h⟩
end Go.Proofs.Ytnfmgojloahfkaa

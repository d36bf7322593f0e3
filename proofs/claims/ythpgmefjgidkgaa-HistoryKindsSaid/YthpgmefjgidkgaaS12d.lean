/- The chapter's examples, plain. -/
import Derived.Test.YthpgmefjgidkgaaS12c
namespace Go.Proofs.Ythpgmefjgidkgaa
set_option linter.unusedVariables false
set_option linter.unusedSimpArgs false
def ex0 : Ev := ⟨1, 0, 0, 0, 5, 0, ⟨#[112]⟩⟩
def ex1 : Ev := ⟨2, 0, 1, 1, 0, 0, ⟨#[112, 97, 121]⟩⟩
def ex2 : Ev := ⟨3, 0, 1, 1, 0, 0, emp⟩
def ex3 : Ev := ⟨4, 0, 1, 0, 7, 0, emp⟩
def exL : List Ev := [ex0, ex1, ex2, ex3]
def exH3 : Hs := ⟨⟨#[112]⟩, 5, [⟨1, 1, ⟨#[112, 97, 121]⟩, 0, 0⟩], [1], [], [], false, false, ⟨0, 0⟩, 3, 0⟩
def exH4 : Hs := ⟨⟨#[112]⟩, 5, [⟨1, 1, ⟨#[112, 97, 121]⟩, 0, 0⟩], [1], [⟨1, ⟨0, 7⟩⟩], [], false, false, ⟨0, 0⟩, 4, 0⟩
def exC : Hs := ⟨⟨#[112]⟩, 5, [⟨1, 1, ⟨#[112, 97, 121]⟩, 0, 0⟩], [1], [⟨1, ⟨0, 7⟩⟩], [], false, true, ⟨0, 0⟩, 5, 0⟩
theorem ex_r0 : evR ex0 = true := rfl
theorem ex_r1 : evR ex1 = true := rfl
theorem ex_r2 : evR ex2 = true := by simp [evR, ex2, kindB, numB, plainB, noneB_emp]
theorem ex_r3 : evR ex3 = true := by simp [evR, ex3, kindB, numB, statB, plainB, noneB_emp]
theorem ex_f3 : fh exL 3 = exH3 := rfl
theorem ex_f4 : fh exL 4 = exH4 := rfl
theorem ex_ok : ∀ j, j < 4 → okAt exL j = true := by
  intro j hj
  have h : j = 0 ∨ j = 1 ∨ j = 2 ∨ j = 3 := by omega
  unfold okAt
  rcases h with rfl | rfl | rfl | rfl
  · rw [show exL.getD 0 default = ex0 from rfl, ex_r0]; rfl
  · rw [show exL.getD 1 default = ex1 from rfl, ex_r1]; rfl
  · rw [show exL.getD 2 default = ex2 from rfl, ex_r2]; rfl
  · rw [show exL.getD 3 default = ex3 from rfl, ex_r3]; rfl
theorem ex_n4 : foldN exL = 4 := foldN_eq (by decide) ex_ok (.inl rfl)
theorem ex_H4 : foldH exL = exH4 := by unfold foldH; rw [ex_n4]; exact ex_f4
theorem ex_ok3 : ∀ j, j < 3 → okAt [ex0, ex1, ex2] j = true := by
  intro j hj
  have h : j = 0 ∨ j = 1 ∨ j = 2 := by omega
  unfold okAt
  rcases h with rfl | rfl | rfl
  · rw [show ([ex0, ex1, ex2] : List Ev).getD 0 default = ex0 from rfl, ex_r0]; rfl
  · rw [show ([ex0, ex1, ex2] : List Ev).getD 1 default = ex1 from rfl, ex_r1]; rfl
  · rw [show ([ex0, ex1, ex2] : List Ev).getD 2 default = ex2 from rfl, ex_r2]; rfl
theorem ex_n3 : foldN [ex0, ex1, ex2] = 3 := foldN_eq (by decide) ex_ok3 (.inl rfl)
theorem ex_H3 : foldH [ex0, ex1, ex2] = exH3 := by unfold foldH; rw [ex_n3]; rfl
theorem ex_P4 : FhP exH4 4 := ex_f4 ▸ fh_P ex_ok
theorem ex_P3 : FhP exH3 3 := ex_f3 ▸ fh_P (fun j hj => ex_ok j (by omega))
def exE1 : Ev := ⟨3, 0, 1, 3, 0, 0, emp⟩
def exE2 : Ev := ⟨7, 0, 0, 0, 0, 0, emp⟩
def exE3 : Ev := ⟨5, 0, 0, 0, 0, 0, emp⟩
theorem ex_m2 : mayB exH4 exE2 = true := rfl
theorem ex_e2 : evR exE2 = true := by simp [evR, exE2, kindB, numB, statB, plainB, noneB_emp]
theorem ex_c : putH exH4 exE2 = exC := rfl
theorem ex_PC : FhP exC 5 := by rw [← ex_c]; exact fhP_put ex_P4 ex_e2 ex_m2
end Go.Proofs.Ythpgmefjgidkgaa

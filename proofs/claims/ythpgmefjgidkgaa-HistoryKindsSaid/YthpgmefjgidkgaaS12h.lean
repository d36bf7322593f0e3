/- The table of six small histories and eight events, plain. -/
import Derived.Test.YthpgmefjgidkgaaS12g
namespace Go.Proofs.Ythpgmefjgidkgaa
set_option linter.unusedVariables false
set_option linter.unusedSimpArgs false
def kst : Ev := ⟨1, 0, 0, 0, 0, 0, ⟨#[112]⟩⟩
def kac : Ev := ⟨2, 0, 1, 1, 0, 0, ⟨#[97]⟩⟩
def ksl : Ev := ⟨2, 0, 1, 2, 0, 0, emp⟩
def kov : Ev := ⟨4, 0, 1, 0, 0, 0, emp⟩
def kcl : Ev := ⟨7, 0, 0, 0, 0, 0, emp⟩
def kL (i : Nat) : List Ev := match i with
  | 0 => [] | 1 => [kst] | 2 => [kst, kac] | 3 => [kst, ksl] | 4 => [kst, kac, kov] | _ => [kst, kcl]
def kE (k : Nat) : Ev := match k with
  | 0 => kst | 1 => kac | 2 => ⟨2, 0, 2, 2, 0, 0, emp⟩ | 3 => ⟨3, 0, 1, 1, 0, 0, emp⟩ | 4 => kov | 5 => ⟨5, 0, 0, 0, 0, 0, emp⟩ | 6 => ⟨6, 0, 0, 0, 0, 0, emp⟩ | _ => kcl
def kY (i k : Nat) : Bool := match i with
  | 0 => decide (k = 0) | 1 => decide (k = 1) || decide (5 ≤ k) | 2 => decide (2 ≤ k) | 3 => decide (k = 2) || decide (4 ≤ k) | 4 => decide (k = 2) || decide (5 ≤ k) | _ => false
def kH (i : Nat) : Hs := match i with
  | 0 => ⟨emp, 0, [], [], [], [], false, false, ⟨0, 0⟩, 0, 0⟩
  | 1 => ⟨⟨#[112]⟩, 0, [], [], [], [], false, false, ⟨0, 0⟩, 1, 0⟩
  | 2 => ⟨⟨#[112]⟩, 0, [⟨1, 1, ⟨#[97]⟩, 0, 0⟩], [0], [], [], false, false, ⟨0, 0⟩, 2, 0⟩
  | 3 => ⟨⟨#[112]⟩, 0, [⟨1, 2, emp, 0, 0⟩], [0], [], [], false, false, ⟨0, 0⟩, 2, 0⟩
  | 4 => ⟨⟨#[112]⟩, 0, [⟨1, 1, ⟨#[97]⟩, 0, 0⟩], [0], [⟨1, ⟨0, 0⟩⟩], [], false, false, ⟨0, 0⟩, 3, 0⟩
  | _ => ⟨⟨#[112]⟩, 0, [], [], [], [], false, true, ⟨0, 0⟩, 2, 0⟩
def kWs (i : Nat) : ByteArray := match i with
  | 0 => ⟨#[121, 45, 45, 45, 45, 45, 45, 45]⟩
  | 1 => ⟨#[45, 121, 45, 45, 45, 121, 121, 121]⟩
  | 2 => ⟨#[45, 45, 121, 121, 121, 121, 121, 121]⟩
  | 3 => ⟨#[45, 45, 121, 45, 121, 121, 121, 121]⟩
  | 4 => ⟨#[45, 45, 121, 45, 45, 121, 121, 121]⟩
  | _ => ⟨#[45, 45, 45, 45, 45, 45, 45, 45]⟩
theorem six {i : Nat} (h : i < 6) : i = 0 ∨ i = 1 ∨ i = 2 ∨ i = 3 ∨ i = 4 ∨ i = 5 := by omega
theorem eight {i : Nat} (h : i < 8) : i = 0 ∨ i = 1 ∨ i = 2 ∨ i = 3 ∨ i = 4 ∨ i = 5 ∨ i = 6 ∨ i = 7 := by omega
theorem kE_r {k : Nat} (hk : k < 8) {t : Int} (h0 : 0 ≤ t) (h1 : t ≤ 255) : evR { kE k with at' := t } = true := by
  rcases eight hk with rfl | rfl | rfl | rfl | rfl | rfl | rfl | rfl
  all_goals
    refine evR_mk (by simp [kE, kst, kac, kov, kcl]) (by simp [kE, kst, kac, kov, kcl]) h0 (by simp only; omega) ?_
    simp [kindB, kE, kst, kac, kov, kcl, numB, statB, plainB, beginB, noneB_emp, nameB] <;> decide
theorem kst_r : evR kst = true := kE_r (k := 0) (by decide) (t := 0) (by decide) (by decide)
theorem kac_r : evR kac = true := kE_r (k := 1) (by decide) (t := 0) (by decide) (by decide)
theorem kov_r : evR kov = true := kE_r (k := 4) (by decide) (t := 0) (by decide) (by decide)
theorem kcl_r : evR kcl = true := kE_r (k := 7) (by decide) (t := 0) (by decide) (by decide)
theorem ksl_r : evR ksl = true := by
  refine evR_mk (by simp [ksl]) (by simp [ksl]) (by simp [ksl]) (by simp [ksl]) ?_
  simp [kindB, ksl, numB, beginB, noneB_emp]
theorem kL_ok {i : Nat} (hi : i < 6) : ∀ j, j < (kL i).length → okAt (kL i) j = true := by
  rcases six hi with rfl | rfl | rfl | rfl | rfl | rfl
  all_goals
    intro j hj
    simp only [kL, List.length_cons, List.length_nil] at hj
  · omega
  · obtain rfl : j = 0 := by omega
    unfold okAt; rw [show (kL 1).getD 0 default = kst from rfl, kst_r]; rfl
  · have h : j = 0 ∨ j = 1 := by omega
    rcases h with rfl | rfl
    · unfold okAt; rw [show (kL 2).getD 0 default = kst from rfl, kst_r]; rfl
    · unfold okAt; rw [show (kL 2).getD 1 default = kac from rfl, kac_r]; rfl
  · have h : j = 0 ∨ j = 1 := by omega
    rcases h with rfl | rfl
    · unfold okAt; rw [show (kL 3).getD 0 default = kst from rfl, kst_r]; rfl
    · unfold okAt; rw [show (kL 3).getD 1 default = ksl from rfl, ksl_r]; rfl
  · have h : j = 0 ∨ j = 1 ∨ j = 2 := by omega
    rcases h with rfl | rfl | rfl
    · unfold okAt; rw [show (kL 4).getD 0 default = kst from rfl, kst_r]; rfl
    · unfold okAt; rw [show (kL 4).getD 1 default = kac from rfl, kac_r]; rfl
    · unfold okAt; rw [show (kL 4).getD 2 default = kov from rfl, kov_r]; rfl
  · have h : j = 0 ∨ j = 1 := by omega
    rcases h with rfl | rfl
    · unfold okAt; rw [show (kL 5).getD 0 default = kst from rfl, kst_r]; rfl
    · unfold okAt; rw [show (kL 5).getD 1 default = kcl from rfl, kcl_r]; rfl
theorem kL_N {i : Nat} (hi : i < 6) : foldN (kL i) = (kL i).length := foldN_eq (Nat.le_refl _) (kL_ok hi) (.inl rfl)
theorem kL_H {i : Nat} (hi : i < 6) : foldH (kL i) = kH i := by
  unfold foldH; rw [kL_N hi]
  rcases six hi with rfl | rfl | rfl | rfl | rfl | rfl <;> rfl
theorem kL_P {i : Nat} (hi : i < 6) : FhP (kH i) (kL i).length := by
  rw [← kL_H hi]; unfold foldH; rw [kL_N hi]; exact fh_P (kL_ok hi)
theorem kH_last {i : Nat} (hi : i < 6) : (kH i).last = 0 := by
  rcases six hi with rfl | rfl | rfl | rfl | rfl | rfl <;> rfl
theorem kL_len {i : Nat} (hi : i < 6) : (kL i).length ≤ 3 := by
  rcases six hi with rfl | rfl | rfl | rfl | rfl | rfl <;> decide
theorem kM {i k : Nat} (hi : i < 6) (hk : k < 8) {t : Int} (h0 : 0 ≤ t) : mayB (kH i) { kE k with at' := t } = kY i k := by
  have hn : ¬ t < 0 := by omega
  rcases six hi with rfl | rfl | rfl | rfl | rfl | rfl <;> rcases eight hk with rfl | rfl | rfl | rfl | rfl | rfl | rfl | rfl
  all_goals simp [mayB, kH, kE, kY, kst, kac, kov, kcl, hn, tryB, leftB, knO]
/-- The table. -/
theorem kinds_next {i k : Nat} (hi : i < 6) (hk : k < 8) {t : Int} (h0 : 0 ≤ t) (h1 : t ≤ 255) : (nextH (kH i) { kE k with at' := t }).2 = if kY i k = true then 0 else 103 := by
  cases h : kY i k
  · rw [nextH_order (kE_r hk h0 h1) (by rw [kM hi hk h0, h])]; rfl
  · rw [nextH_ok (kE_r hk h0 h1) (by rw [kM hi hk h0, h])]; rfl
end Go.Proofs.Ythpgmefjgidkgaa

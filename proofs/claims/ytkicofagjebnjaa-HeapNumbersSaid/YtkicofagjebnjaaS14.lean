/- What retry computes, in plain Lean: which policies are right, sums of times, waits. -/
import Derived.IntWalk
namespace Go.Proofs.Ytkicofagjebnjaa
set_option linter.unusedVariables false
set_option linter.unusedSimpArgs false

def mx (a b : Int) : Int := if a < b then b else a
def mn (a b : Int) : Int := if b < a then b else a

/-- A policy. -/
structure Pol where
  most : Int
  init : Int
  cap : Int
  startIn : Int
  runIn : Int
  allIn : Int
  beatIn : Int
  cost : Int

def tm (n : Int) : Bool := decide (0 ≤ n) && decide (n ≤ 1099511627776)
def rightB (p : Pol) : Bool := tm p.init && tm p.cap && tm p.startIn && tm p.runIn && tm p.allIn && tm p.beatIn && decide (1 ≤ p.most) && decide (p.most ≤ 100) && decide (1 ≤ p.cost) && decide (p.cost ≤ 1000)
structure RightP (p : Pol) : Prop where
  init : 0 ≤ p.init ∧ p.init ≤ 1099511627776
  cap : 0 ≤ p.cap ∧ p.cap ≤ 1099511627776
  startIn : 0 ≤ p.startIn ∧ p.startIn ≤ 1099511627776
  runIn : 0 ≤ p.runIn ∧ p.runIn ≤ 1099511627776
  allIn : 0 ≤ p.allIn ∧ p.allIn ≤ 1099511627776
  beatIn : 0 ≤ p.beatIn ∧ p.beatIn ≤ 1099511627776
  most : 1 ≤ p.most ∧ p.most ≤ 100
  cost : 1 ≤ p.cost ∧ p.cost ≤ 1000
theorem rightB_iff (p : Pol) : rightB p = true ↔ RightP p := by
  simp only [rightB, tm, Bool.and_eq_true, decide_eq_true_eq]
  constructor
  · rintro ⟨⟨⟨⟨⟨⟨⟨⟨⟨h1, h2⟩, h3⟩, h4⟩, h5⟩, h6⟩, h7⟩, h8⟩, h9⟩, h10⟩
    exact ⟨h1, h2, h3, h4, h5, h6, ⟨h7, h8⟩, ⟨h9, h10⟩⟩
  · rintro ⟨h1, h2, h3, h4, h5, h6, ⟨h7, h8⟩, ⟨h9, h10⟩⟩
    exact ⟨⟨⟨⟨⟨⟨⟨⟨⟨h1, h2⟩, h3⟩, h4⟩, h5⟩, h6⟩, h7⟩, h8⟩, h9⟩, h10⟩

theorem ti_bd (a : Int) : 0 ≤ mn (mx a 0) 1099511627776 ∧ mn (mx a 0) 1099511627776 ≤ 1099511627776 := by unfold mn mx; split <;> split <;> omega
def plusF (a b : Int) : Int := mn (mn (mx a 0) 1099511627776 + mn (mx b 0) 1099511627776) 1099511627776
theorem plusF_bd (a b : Int) : 0 ≤ plusF a b ∧ plusF a b ≤ 1099511627776 := by
  have := ti_bd a; have := ti_bd b; unfold plusF; generalize mn (mx a 0) 1099511627776 = x at *; generalize mn (mx b 0) 1099511627776 = y at *; unfold mn; split <;> omega
def moreB (p : Pol) (n : Int) : Bool := rightB p && decide (0 ≤ n) && decide (n < p.most)
def waitW (i c : Int) : Nat → Int
  | 0 => mn i c
  | k + 1 => mn (2 * waitW i c k) c
theorem waitW_bd {i c : Int} (hi : 0 ≤ i) (hc : 0 ≤ c) (hc' : c ≤ 1099511627776) : ∀ k, 0 ≤ waitW i c k ∧ waitW i c k ≤ 1099511627776
  | 0 => by unfold waitW mn; split <;> omega
  | k + 1 => by have := waitW_bd hi hc hc' k; unfold waitW mn; split <;> omega
def waitF (p : Pol) (n j : Int) : Int := if rightB p = true ∧ 1 ≤ n then plusF (waitW p.init p.cap (mn (n - 1) 64).toNat) j else 0
theorem waitF_bd (p : Pol) (n j : Int) : 0 ≤ waitF p n j ∧ waitF p n j ≤ 1099511627776 := by
  unfold waitF; split
  · exact plusF_bd _ _
  · omega

/-! ### The waits -/
theorem waitW_succ_eq {i c : Int} (hi : 0 ≤ i) (hc : 0 ≤ c) (hc' : c ≤ 1099511627776) (k : Nat) : waitW i c (k + 1) = if 2 * waitW i c k ≤ c then 2 * waitW i c k else c := by
  have := waitW_bd hi hc hc' k
  show mn (2 * waitW i c k) c = _
  unfold mn; split <;> split <;> omega
theorem waitW_le_cap {i c : Int} (k : Nat) : waitW i c k ≤ c := by
  cases k with
  | zero => unfold waitW mn; split <;> omega
  | succ k => unfold waitW mn; split <;> omega
theorem waitW_mono {i c : Int} (hi : 0 ≤ i) (hc : 0 ≤ c) (hc' : c ≤ 1099511627776) (k : Nat) : waitW i c k ≤ waitW i c (k + 1) := by
  have h1 := waitW_bd hi hc hc' k; have h2 := waitW_le_cap (i := i) (c := c) k
  rw [waitW_succ_eq hi hc hc']; split <;> omega
theorem waitW_ge {i c : Int} (hi : 0 ≤ i) (hc : 0 ≤ c) (hc' : c ≤ 1099511627776) : ∀ k, mn i c ≤ waitW i c k
  | 0 => Int.le_refl _
  | k + 1 => Int.le_trans (waitW_ge hi hc hc' k) (waitW_mono hi hc hc' k)
theorem waitW_pow {i c : Int} (hi : 0 < i) (hc : 0 ≤ c) (hc' : c ≤ 1099511627776) : ∀ k, (2 : Int) ^ k ≤ waitW i c k ∨ waitW i c k = c
  | 0 => by unfold waitW mn; split <;> simp <;> omega
  | k + 1 => by
    rw [waitW_succ_eq (by omega) hc hc']
    rcases waitW_pow hi hc hc' k with h | h
    · split
      · left; rw [Int.pow_succ]; omega
      · right; rfl
    · rw [h]; split
      · right; omega
      · right; rfl
theorem waitW_end {i c : Int} (hi : 0 < i) (hc : 0 ≤ c) (hc' : c ≤ 1099511627776) {k : Nat} (hk : 41 ≤ k) : waitW i c k = c := by
  rcases waitW_pow hi hc hc' k with h | h
  · have h2 := waitW_le_cap (i := i) (c := c) k
    have : (2 : Int) ^ 41 ≤ 2 ^ k := by
      obtain ⟨d, rfl⟩ := Nat.exists_eq_add_of_le hk
      rw [Int.pow_add]
      have : (1 : Int) ≤ 2 ^ d := by
        clear h hk h2
        induction d with
        | zero => simp
        | succ d ih => rw [Int.pow_succ]; omega
      have h41 : (2 : Int) ^ 41 = 2199023255552 := by decide
      rw [h41]; omega
    have h41 : (2 : Int) ^ 41 = 2199023255552 := by decide
    omega
  · exact h

/-! ### Sums of times -/
theorem plusF_of {a b : Int} (ha : 0 ≤ a) (ha' : a ≤ 1099511627776) : plusF a b = if b ≤ 0 then a else if a + b ≤ 1099511627776 then a + b else 1099511627776 := by
  unfold plusF mx mn; (repeat' split) <;> omega
theorem plusF_comm (a b : Int) : plusF a b = plusF b a := by unfold plusF; rw [Int.add_comm]
theorem plusF_eq (a b : Int) : plusF a b = mn (mx a 0 + mx b 0) 1099511627776 := by
  unfold plusF mx mn; (repeat' split) <;> omega
theorem plusF_assoc (a b c : Int) : plusF (plusF a b) c = plusF a (plusF b c) := by
  simp only [plusF_eq]
  unfold mx mn; (repeat' split) <;> omega

theorem waitF_of {p : Pol} (hr : rightB p = true) {n : Int} (hn : 1 ≤ n) (j : Int) : waitF p n j = plusF (waitW p.init p.cap (mn (n - 1) 64).toNat) j := by
  unfold waitF; rw [if_pos ⟨hr, hn⟩]
theorem plusF_zero {a : Int} (ha : 0 ≤ a) (ha' : a ≤ 1099511627776) : plusF a 0 = a := by rw [plusF_of ha ha']; simp
theorem plusF_le {a b : Int} (ha : 0 ≤ a) (ha' : a ≤ 1099511627776) : a ≤ plusF a b := by rw [plusF_of ha ha']; (repeat' split) <;> omega
theorem mn64 {n : Int} (hn : 1 ≤ n) : (mn (n + 1 - 1) 64).toNat = (mn (n - 1) 64).toNat ∨ (mn (n + 1 - 1) 64).toNat = (mn (n - 1) 64).toNat + 1 := by
  unfold mn; split <;> split <;> omega
/-- What RetryWaits asks, of numbers. -/
theorem waits_pure (p : Pol) (n j : Int) (hn : 1 ≤ n) (hr : rightB p = true) :
    0 ≤ waitF p n 0 ∧ waitF p n 0 ≤ p.cap ∧ waitF p n 0 ≤ waitF p (n + 1) 0 ∧ waitF p n 0 ≤ waitF p n j ∧ waitF p n j ≤ 1099511627776 ∧
    (p.init ≤ p.cap → p.init ≤ waitF p n 0) ∧ (0 < p.init → 42 ≤ n → waitF p n 0 = p.cap) ∧ waitF p n j = plusF (waitF p n 0) j := by
  have R := (rightB_iff p).1 hr
  have ⟨i1, i2⟩ := R.init; have ⟨c1, c2⟩ := R.cap
  rw [waitF_of hr hn, waitF_of hr (by omega : 1 ≤ n + 1), waitF_of hr hn]
  have hb := waitW_bd i1 c1 c2 (mn (n - 1) 64).toNat
  have hb' := waitW_bd i1 c1 c2 (mn (n + 1 - 1) 64).toNat
  rw [plusF_zero hb.1 hb.2, plusF_zero hb'.1 hb'.2]
  refine ⟨hb.1, waitW_le_cap _, ?_, plusF_le hb.1 hb.2, (plusF_bd _ _).2, ?_, ?_, rfl⟩
  · rcases mn64 hn with h | h
    · rw [h]; exact Int.le_refl _
    · rw [h]; exact waitW_mono i1 c1 c2 _
  · intro h; have := waitW_ge i1 c1 c2 (mn (n - 1) 64).toNat; have h2 : mn p.init p.cap = p.init := by unfold mn; split <;> omega
    omega
  · intro h h2; exact waitW_end h c1 c2 (by unfold mn; split <;> omega)

/-- What RetryDoubles asks. -/
theorem doubles_pure (p : Pol) (n : Int) (hn : 1 ≤ n) (hn' : n ≤ 60) (hr : rightB p = true) :
    0 ≤ waitF p n 0 ∧ waitF p n 0 ≤ 1099511627776 ∧ waitF p (n + 1) 0 = if 2 * waitF p n 0 ≤ p.cap then 2 * waitF p n 0 else p.cap := by
  have R := (rightB_iff p).1 hr
  have ⟨i1, i2⟩ := R.init; have ⟨c1, c2⟩ := R.cap
  rw [waitF_of hr hn, waitF_of hr (by omega : 1 ≤ n + 1)]
  have hb := waitW_bd i1 c1 c2 (mn (n - 1) 64).toNat
  have hb' := waitW_bd i1 c1 c2 (mn (n + 1 - 1) 64).toNat
  rw [plusF_zero hb.1 hb.2, plusF_zero hb'.1 hb'.2]
  refine ⟨hb.1, hb.2, ?_⟩
  have : (mn (n + 1 - 1) 64).toNat = (mn (n - 1) 64).toNat + 1 := by unfold mn; split <;> split <;> omega
  rw [this, waitW_succ_eq i1 c1 c2]

/-- The first k waits together. -/
def sumW (p : Pol) : Nat → Int
  | 0 => 0
  | k + 1 => sumW p k + waitF p (k + 1) 0
theorem sumW_bd (p : Pol) (hr : rightB p = true) : ∀ k : Nat, k * mn p.init p.cap ≤ sumW p k ∧ sumW p k ≤ k * p.cap ∧ 0 ≤ sumW p k ∧ sumW p k ≤ k * 1099511627776
  | 0 => by simp [sumW]
  | k + 1 => by
    have R := (rightB_iff p).1 hr
    have ⟨i1, i2⟩ := R.init; have ⟨c1, c2⟩ := R.cap
    obtain ⟨a, b, c, d⟩ := sumW_bd p hr k
    have hw : waitF p (k + 1) 0 = waitW p.init p.cap (mn (k + 1 - 1) 64).toNat := by
      have hb := waitW_bd i1 c1 c2 (mn (k + 1 - 1) 64).toNat
      rw [waitF_of hr (by omega), plusF_zero hb.1 hb.2]
    have h1 := waitW_bd i1 c1 c2 (mn (k + 1 - 1) 64).toNat
    have h2 := waitW_le_cap (i := p.init) (c := p.cap) (mn ((k : Int) + 1 - 1) 64).toNat
    have h3 := waitW_ge i1 c1 c2 (mn (k + 1 - 1) 64).toNat
    unfold sumW; rw [hw]
    generalize waitW p.init p.cap (mn (↑k + 1 - 1) 64).toNat = x at *
    refine ⟨?_, ?_, by omega, ?_⟩
    · push_cast; rw [Int.add_mul]; omega
    · push_cast; rw [Int.add_mul]; omega
    · push_cast; rw [Int.add_mul]; omega
end Go.Proofs.Ytkicofagjebnjaa

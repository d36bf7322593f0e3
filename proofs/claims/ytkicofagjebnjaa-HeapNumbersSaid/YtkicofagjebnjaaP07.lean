/- The sort of timers. -/
import Derived.Test.YtkicofagjebnjaaK07
namespace Go.Proofs.Ytkicofagjebnjaa
open Go.RowKit
set_option linter.unusedVariables false
set_option linter.unusedSimpArgs false

open Go.Proofs Go.Shelf Go.Sort
shelf_lay_g SlLaysF0.n6 Slsf 6 at Try 37 as Try.sortT
theorem tmr_agg : ∀ w, (isAgg 29).run Try.prog w = .ok true w := fun w => by kernel_rfl
theorem tmr_size : ∀ w, (Go.sizeOf 29).run Try.prog w = .ok 2 w := fun w => by kernel_rfl
theorem swoT : Go.Sort.SWO (ltOf ordI) where
  irrefl x := by
    unfold ltOf
    simp only [decide_eq_false_iff_not, ordI_neg]
    exact fun h => h.irrefl
  trans x y z h1 h2 := by
    unfold ltOf at *
    simp only [decide_eq_true_eq, ordI_neg] at *
    exact h1.trans h2
  ntrans x y z h1 h2 := by
    unfold ltOf at *
    simp only [decide_eq_false_iff_not, ordI_neg] at *
    unfold Ahd at *
    omega
theorem cmpT (blk off size : Nat) (w : World) : CmpLays Try.prog 38 #[] tmrC 2 ordI blk off size w :=
  fun m os dk hs x y => (orderG_calls x y _).mono fun e w' h => h
theorem at_toArr (S : List Tmr) (i : Nat) : S.toArray[i]! = at_ S i := by
  unfold at_
  by_cases h : i < S.length
  · rw [getElem!_pos S.toArray i (by simpa using h)]; simp [List.getD, h]
  · rw [getElem!_neg S.toArray i (by simpa using h)]; simp [List.getD, h]
theorem flatK_get (S : List Tmr) (j : Nat) (hj : j < S.length * 2) : (S.flatMap tmrC)[j]? = some ((flatK tmrC 2 S.toArray)[j]!) := by
  rw [get_flatK tmrC 2 S.toArray j (by simpa using hj), at_toArr]
  have e : j = j / 2 * 2 + j % 2 := by omega
  have f := flat_get (g := tmrC) (n := 2) (fun _ => rfl) S (j / 2) (j % 2) (by omega) (by omega)
  rw [← e] at f
  rw [f]
  have h2 : j % 2 = 0 ∨ j % 2 = 1 := by omega
  rcases h2 with h2 | h2 <;> rw [h2] <;> rfl
theorem holdsT {w : World} {g cap base : Nat} {l : List Tmr} (ho : w.ownsRow base 29 2 (.slice (some ⟨g, 0, none⟩) l.length cap) l.length (l.flatMap tmrC)) : HoldsK tmrC 2 w g 0 l.toArray := by
  intro j hj
  have hj' : j < l.length * 2 := by simpa using hj
  rw [Nat.zero_add]
  exact ⟨by rw [ho.cellAt j hj', flatK_get l j hj']; rfl, ho.frozenAt j⟩
theorem sortedT {w : World} {g cap base n : Nat} {l S : List Tmr} {os : Array Obj} (ho : w.ownsRow base 29 2 (.slice (some ⟨g, 0, none⟩) l.length cap) l.length (l.flatMap tmrC)) (hS : S.length = l.length) :
    (sortWorldK tmrC 2 w g 0 n S.toArray os).ownsRow base 29 2 (.slice (some ⟨g, 0, none⟩) l.length cap) l.length (S.flatMap tmrC) ∧ Chg (fun q => q = g) w (sortWorldK tmrC 2 w g 0 n S.toArray os) := by
  have hSl : (S.flatMap tmrC).length = l.length * 2 := by rw [flat_len (g := tmrC) (n := 2) (fun _ => rfl), hS]
  have hgl : g < w.heap.size := own_lt ho
  constructor
  · refine ⟨hSl, ?_⟩
    rcases ho.2 with ⟨h', _⟩ | ⟨g', cap', cur, h', hb, hg, hn, hm, hs, ht⟩
    · simp at h'
    · simp only [Value.slice.injEq, Option.some.injEq, Addr.mk.injEq, and_true, true_and] at h'
      obtain ⟨rfl, rfl⟩ := h'
      refine .inr ⟨g, cap, putCells id 0 (flatK tmrC 2 S.toArray) cur, rfl, hb, ?_, hn, hm, by simpa [putCells] using hs, ?_⟩
      · simp only [sortWorldK, grow, putRowK, putRow, mapBlock, Go.Sort.ahead]
        rw [Array.getElem?_append_left (by simpa using hgl), Array.getElem?_modify, if_pos rfl, hg]
        rfl
      · apply List.ext_getElem?
        intro j
        by_cases hj : j < l.length * 2
        · rw [List.getElem?_take_of_lt hj, flatK_get S j (by omega)]
          have hjc : j < cur.size := by rw [hs]; have := Nat.mul_le_mul_right 2 hn; omega
          unfold putCells
          rw [Array.getElem?_toList, Array.getElem?_mapIdx, Array.getElem?_eq_getElem hjc]
          simp only [Option.map_some, Nat.zero_le, true_and, Nat.zero_add, Nat.sub_zero, id]
          rw [if_pos (by simp; omega)]
        · rw [List.getElem?_eq_none (by rw [List.length_take]; omega), List.getElem?_eq_none (by omega)]
  · refine ⟨rfl, rfl, rfl, by simp [sortWorldK, grow, putRowK, putRow, mapBlock, Go.Sort.ahead], fun k hk hne => ?_⟩
    simp only [sortWorldK, grow, putRowK, putRow, mapBlock, Go.Sort.ahead]
    rw [Array.getElem?_append_left (by simpa using hk), Array.getElem?_modify, if_neg (fun e => hne e.symm)]
theorem ltOf_iff (x y : Tmr) : ltOf ordI x y = true ↔ Ahd x y := by
  unfold ltOf
  simp only [decide_eq_true_eq, ordI_neg]
theorem sort_srt {l : List Tmr} (hi : Ids l) : Srt (l.mergeSort fun x y => !(ltOf ordI) y x) := by
  have hp := List.mergeSort_perm l (fun x y => !(ltOf ordI) y x)
  have hs : (l.mergeSort fun x y => !(ltOf ordI) y x).Pairwise fun x y => (!(ltOf ordI) y x) = true := by
    apply List.pairwise_mergeSort
    · intro a b c h1 h2
      simp only [Bool.not_eq_true', Bool.eq_false_iff, ne_eq, ltOf_iff] at *
      unfold Ahd at *; omega
    · intro a b
      simp only [Bool.or_eq_true, Bool.not_eq_true', Bool.eq_false_iff, ne_eq, ltOf_iff]
      unfold Ahd; omega
  have hi2 := hi.perm hp.symm
  unfold Srt
  rw [List.pairwise_iff_getElem] at hs ⊢
  intro i j h1 h2 hij
  have h3 := hs i j h1 h2 hij
  simp only [Bool.not_eq_true', Bool.eq_false_iff, ne_eq, ltOf_iff] at h3
  refine Ahd.of_not h3 ?_
  have := hi2.ne h2 h1 (by omega)
  rw [at_eq h1, at_eq h2] at this
  exact this
theorem sort_calls (g cap base : Nat) (l : List Tmr) (w : World) (ho : w.ownsRow base 29 2 (.slice (some ⟨g, 0, none⟩) l.length cap) l.length (l.flatMap tmrC)) (hl : l.length ≤ 1000000) :
    Calls Try.prog 37 #[.slice (some ⟨g, 0, none⟩) l.length cap, .func (.func 38) #[] #[]] w fun e w' => e = .returned (.tuple #[]) ∧ w'.ownsRow base 29 2 (.slice (some ⟨g, 0, none⟩) l.length cap) l.length ((l.mergeSort fun x y => !(ltOf ordI) y x).flatMap tmrC) ∧ Chg (fun q => q = g) w w' := by
  have eg : ∀ args w, (callFunc 38 args).run Try.prog w = .ok (.enter 38 args) w := enters_of Try.func38 (by kernel_rfl) rfl
  have hcon := AnyQ.slices_SortFunc_total Try.sortT 2 tmr_agg tmr_size tmrC (fun _ => rfl) (fun x v hv => oneCell_tmr x v hv) ordI swoT 38 #[] g 0 cap l.toArray w eg (cmpT g 0 l.toArray.size w) (holdsT ho) (own_lt ho) (by simp; omega) (fun x y h1 h2 => by
    rw [← Bool.not_eq_true, ltOf_iff] at h1 h2
    obtain ⟨a, b⟩ := x
    obtain ⟨c, d⟩ := y
    unfold Ahd at h1 h2
    simp only at h1 h2
    have e1 : a = c := by omega
    have e2 : b = d := by omega
    rw [e1, e2])
  refine Calls.mono hcon fun e w' ⟨he, n, os, hw⟩ => ⟨he, ?_⟩
  rw [hw]
  exact sortedT ho (List.length_mergeSort _)
end Go.Proofs.Ytkicofagjebnjaa

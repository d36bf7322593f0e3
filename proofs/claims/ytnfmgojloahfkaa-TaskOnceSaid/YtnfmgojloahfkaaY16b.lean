/- TaskOnce's closure: it notes till when is waited. -/
import Derived.Test.YtnfmgojloahfkaaSX16
import Derived.Test.YtnfmgojloahfkaaWg
import Derived.Test.YtnfmgojloahfkaaOp2
import Derived.Test.YtnfmgojloahfkaaY16a
namespace Go.Proofs.Ytnfmgojloahfkaa
open Go.RowKit
set_option linter.unusedVariables false
set_option linter.unusedSimpArgs false

theorem ext_setCell {A B : World} (h : Ext A B) {bu : Nat} (hp : bu < A.heap.size) (v : Value) : Ext (A.setCell ⟨bu, 0, none⟩ v) (B.setCell ⟨bu, 0, none⟩ v) := by
  refine ⟨h.os, h.tape, h.output, by simpa [World.setCell] using h.size, fun k hk => ?_⟩
  have hk' : k < A.heap.size := by simpa [World.setCell] using hk
  have := h.block k hk'
  simp only [World.setCell, Array.getElem?_modify]
  rw [this]
theorem cell_other {W : World} {b bu i : Nat} {v : Value} (h : b ≠ bu) : (W.setCell ⟨bu, 0, none⟩ v).cell? ⟨b, i, none⟩ = W.cell? ⟨b, i, none⟩ :=
  World.cell?_setCell_other _ _ _ _ (by intro h2; exact h (by injection h2 with h3; exact h3.symm))
theorem set_size (W : World) (p : Addr) (v : Value) : (W.setCell p v).heap.size = W.heap.size := by simp [World.setCell]
theorem set_on {W0 W3 : World} {b bu : Nat} {v : Value} {cs : Array Value} (h : Ext (W0.setCell ⟨bu, 0, none⟩ v) W3) (hne : b ≠ bu) (hl : b < W0.heap.size) (hc : ∀ i, W0.cell? ⟨b, i, none⟩ = cs[i]?) : b < W3.heap.size ∧ ∀ i, W3.cell? ⟨b, i, none⟩ = cs[i]? :=
  box_on h (by rw [set_size]; exact hl) (fun i => by rw [cell_other hne]; exact hc i)
theorem set_at {W0 W3 : World} {bu : Nat} {v u : Value} (h : Ext (W0.setCell ⟨bu, 0, none⟩ v) W3) (hc : ∀ i, W0.cell? ⟨bu, i, none⟩ = #[u][i]?) : ∀ i, W3.cell? ⟨bu, i, none⟩ = #[v][i]? := by
  have hl : bu < W0.heap.size := (cell_spot (by rw [hc 0]; rfl : W0.cell? ⟨bu, 0, none⟩ = some u)).2
  intro i
  rw [h.cell (p := ⟨bu, i, none⟩) (by rw [set_size]; exact hl)]
  cases i with
  | zero => rw [World.cell?_setCell_same' _ _ _ (by rw [hc 0]; rfl)]; rfl
  | succ i => rw [World.cell?_setCell_other _ _ _ _ (by intro h2; injection h2 with _ h3; cases h3), hc]; simp
theorem set_self {w : World} {b : Nat} {v : Value} (h : w.cell? ⟨b, 0, none⟩ = some v) : w.setCell ⟨b, 0, none⟩ v = w := by
  obtain ⟨heap, tape, drawn, os, output⟩ := w
  simp only [World.setCell, World.mk.injEq, and_true, true_and]
  simp only [World.cell?] at h
  refine Array.ext_getElem? fun k => ?_
  rw [Array.getElem?_modify]
  split
  · rename_i hk; subst hk
    split at h
    · rename_i c t f hb
      rw [hb]
      simp only [Option.isSome_none, Bool.false_eq_true, if_false] at h
      simp only [Option.map_some, Option.isSome_none, Bool.false_eq_true, if_false, Option.some.injEq, Obj.cells.injEq, and_true]
      refine Array.ext_getElem? fun j => ?_
      rw [Array.getElem?_setIfInBounds]
      split
      · rename_i hj; subst hj; split
        · exact h.symm
        · rename_i hj2; rw [Array.getElem?_eq_none (by omega)]
      · rfl
    · cases h
  · rfl

set_option maxRecDepth 100000 in
set_option maxHeartbeats 8000000 in
theorem conce_waitT (p0 p1 p2 p3 p4 p5 p6 p7 u k q a b o1 o2 o3 o4 o5 o6 n v : Int) (bu bp : Nat) (w : World) (lp : bp < w.heap.size) (cp : ∀ i, w.cell? ⟨bp, i, none⟩ = #[.int .i64 p0, .int .i64 p1, .int .i64 p2, .int .i64 p3, .int .i64 p4, .int .i64 p5, .int .i64 p6, .int .i64 p7][i]?) (lu : bu < w.heap.size) (cu : ∀ i, w.cell? ⟨bu, i, none⟩ = #[.int .i64 v][i]?) (fu : w.frozen? ⟨bu, 0, none⟩ = false)
    (ht : rightT ⟨p0, p1, p2, p3, p4, p5, p6, p7⟩ ⟨u, k, 1, (plusF n (waitF ⟨p0, p1, p2, p3, p4, p5, p6, p7⟩ k o6)), 0, 0, 0, 0, 0, 0⟩ = true) (hk0 : 0 ≤ k) (hm : k ≤ p0) (hm9 : p0 ≤ 100)  :
    Calls Try.prog 22 #[.agg #[.int .i64 u, .int .i64 k, .int .u8 3, .int .i64 0, .int .i64 0, .int .i64 q, .int .i64 a, .int .i64 b, .int .i64 0, .int .i64 0], .agg #[.int .i64 u, .int .i64 k, .int .u8 1, .int .i64 (plusF n (waitF ⟨p0, p1, p2, p3, p4, p5, p6, p7⟩ k o6)), .int .i64 0, .int .i64 0, .int .i64 0, .int .i64 0, .int .i64 0, .int .i64 0], .agg #[.int .i64 2, .int .i64 o1, .int .i64 o2, .int .i64 o3, .int .i64 o4, .int .i64 o5, .int .i64 o6], .int .i64 n, .int .i64 0, .pointer (some ⟨bp, 0, none⟩), .pointer (some ⟨bu, 0, none⟩)] w fun e w' => e = .returned (.bool true) ∧ Ext (w.setCell ⟨bu, 0, none⟩ (.int .i64 (plusF n (waitF ⟨p0, p1, p2, p3, p4, p5, p6, p7⟩ k o6)))) w' := by
  have HT := Lib.hid ht; clear ht
  all_goals
    go_enter Try.func22, Try.ntmps22
    go_upto_region 1 with fail
    refine wp_at ?_
    intro W0 hW
    have hx : Ext w W0 := by rw [hW]; repeat (first | exact ext_refl _ | assumption | refine ext_more' ?_ _ _ | refine ext_drew ?_ | refine ext_drewN ?_ _ | refine ext_alloc ?_ _)
    obtain ⟨lb, cb⟩ := box_facts (by rw [hW]; repeat (first | exact ext_refl _ | assumption | refine ext_more' ?_ _ _ | refine ext_drew ?_ | refine ext_drewN ?_ _ | refine ext_alloc ?_ _) : Ext (World.alloc w (.cells _ _)) W0)
    (try simp only [more_size, sz_alloc] at lb cb)
    obtain ⟨lt, ct⟩ := box_facts (by rw [hW]; repeat (first | exact ext_refl _ | assumption | refine ext_more' ?_ _ _ | refine ext_drew ?_ | refine ext_drewN ?_ _ | refine ext_alloc ?_ _) : Ext (World.alloc (World.alloc w _) (.cells _ _)) W0)
    (try simp only [more_size, sz_alloc] at lt ct)
    obtain ⟨lo, co⟩ := box_facts (by rw [hW]; repeat (first | exact ext_refl _ | assumption | refine ext_more' ?_ _ _ | refine ext_drew ?_ | refine ext_drewN ?_ _ | refine ext_alloc ?_ _) : Ext (World.alloc (World.alloc (World.alloc w _) _) (.cells _ _)) W0)
    (try simp only [more_size, sz_alloc] at lo co)
    obtain ⟨lp, cp⟩ := box_on hx lp cp
    obtain ⟨lu, cu⟩ := box_on hx lu cu
    clear hW
    have fu0 : W0.frozen? ⟨bu, 0, none⟩ = false := (hx.frozen (p := ⟨bu, 0, none⟩) (by assumption)).trans (by assumption)
    have hw := hx; clear hx
    have ne1 : w.heap.size ≠ bu := by omega
    have ne2 : w.heap.size + 1 ≠ bu := by omega
    go_upto_region 10 with (first | (go_at_call 16; refine (tright_calls _ _ _ _ _ _ _ _ _ _ _ _ _ _ _ _ _ _ _ (by first | assumption | decide) (by first | assumption | decide)).mono ?_; rw [HT.out]; rintro e w1 ⟨rfl, hb⟩; obtain ⟨r, d, rfl⟩ := ext_form hb; clear hb) | (go_at_call 24; refine (wait_calls _ _ _ _ _ _ _ _ _ _ _ (by omega)).mono ?_; rintro e w1 ⟨rfl, hb⟩; obtain ⟨r, d, rfl⟩ := ext_form hb; clear hb) | (go_at_call 23; refine (plus_calls _ _ _).mono ?_; rintro e w2 ⟨rfl, rfl⟩))
    refine wp_at ?_
    intro W3 hW
    have hx3 : Ext (W0.setCell ⟨bu, 0, none⟩ (.int .i64 (plusF n (waitF ⟨p0, p1, p2, p3, p4, p5, p6, p7⟩ k o6)))) W3 := by rw [hW]; repeat (first | exact ext_refl _ | assumption | refine ext_more' ?_ _ _ | refine ext_drew ?_ | refine ext_drewN ?_ _ | refine ext_alloc ?_ _)
    clear hW
    obtain ⟨lt, ct⟩ := set_on hx3 ne2 lt ct
    obtain ⟨lb, cb⟩ := set_on hx3 ne1 lb cb
    have cu3 := set_at hx3 cu
    have hw3 := ext_trans (ext_setCell hw (by assumption) (.int .i64 (plusF n (waitF ⟨p0, p1, p2, p3, p4, p5, p6, p7⟩ k o6)))) hx3
    clear hx3 cu
    go_wp2
    all_goals (go_ret; exact ⟨rfl, by repeat (first | exact ext_refl _ | assumption | refine ext_more' ?_ _ _ | refine ext_drew ?_ | refine ext_drewN ?_ _ | refine ext_alloc ?_ _)⟩)

set_option maxRecDepth 100000 in
set_option maxHeartbeats 8000000 in
theorem conce_waitL (p0 p1 p2 p3 p4 p5 p6 p7 u k q a b o0 o1 o2 o3 o4 o5 o6 n v : Int) (bu bp : Nat) (w : World) (lp : bp < w.heap.size) (cp : ∀ i, w.cell? ⟨bp, i, none⟩ = #[.int .i64 p0, .int .i64 p1, .int .i64 p2, .int .i64 p3, .int .i64 p4, .int .i64 p5, .int .i64 p6, .int .i64 p7][i]?) (lu : bu < w.heap.size) (cu : ∀ i, w.cell? ⟨bu, i, none⟩ = #[.int .i64 v][i]?) (fu : w.frozen? ⟨bu, 0, none⟩ = false)
    (ht : rightT ⟨p0, p1, p2, p3, p4, p5, p6, p7⟩ ⟨u, k, 1, (plusF n (waitF ⟨p0, p1, p2, p3, p4, p5, p6, p7⟩ k 0)), 0, 0, 0, 0, 0, 0⟩ = true) (hk0 : 0 ≤ k) (hm : k ≤ p0) (hm9 : p0 ≤ 100) (hc : (o0 == 2) = false) :
    Calls Try.prog 22 #[.agg #[.int .i64 u, .int .i64 k, .int .u8 3, .int .i64 0, .int .i64 0, .int .i64 q, .int .i64 a, .int .i64 b, .int .i64 0, .int .i64 0], .agg #[.int .i64 u, .int .i64 k, .int .u8 1, .int .i64 (plusF n (waitF ⟨p0, p1, p2, p3, p4, p5, p6, p7⟩ k 0)), .int .i64 0, .int .i64 0, .int .i64 0, .int .i64 0, .int .i64 0, .int .i64 0], .agg #[.int .i64 o0, .int .i64 o1, .int .i64 o2, .int .i64 o3, .int .i64 o4, .int .i64 o5, .int .i64 o6], .int .i64 n, .int .i64 0, .pointer (some ⟨bp, 0, none⟩), .pointer (some ⟨bu, 0, none⟩)] w fun e w' => e = .returned (.bool true) ∧ Ext (w.setCell ⟨bu, 0, none⟩ (.int .i64 (plusF n (waitF ⟨p0, p1, p2, p3, p4, p5, p6, p7⟩ k 0)))) w' := by
  have HT := Lib.hid ht; clear ht
  all_goals
    go_enter Try.func22, Try.ntmps22
    go_upto_region 1 with fail
    refine wp_at ?_
    intro W0 hW
    have hx : Ext w W0 := by rw [hW]; repeat (first | exact ext_refl _ | assumption | refine ext_more' ?_ _ _ | refine ext_drew ?_ | refine ext_drewN ?_ _ | refine ext_alloc ?_ _)
    obtain ⟨lb, cb⟩ := box_facts (by rw [hW]; repeat (first | exact ext_refl _ | assumption | refine ext_more' ?_ _ _ | refine ext_drew ?_ | refine ext_drewN ?_ _ | refine ext_alloc ?_ _) : Ext (World.alloc w (.cells _ _)) W0)
    (try simp only [more_size, sz_alloc] at lb cb)
    obtain ⟨lt, ct⟩ := box_facts (by rw [hW]; repeat (first | exact ext_refl _ | assumption | refine ext_more' ?_ _ _ | refine ext_drew ?_ | refine ext_drewN ?_ _ | refine ext_alloc ?_ _) : Ext (World.alloc (World.alloc w _) (.cells _ _)) W0)
    (try simp only [more_size, sz_alloc] at lt ct)
    obtain ⟨lo, co⟩ := box_facts (by rw [hW]; repeat (first | exact ext_refl _ | assumption | refine ext_more' ?_ _ _ | refine ext_drew ?_ | refine ext_drewN ?_ _ | refine ext_alloc ?_ _) : Ext (World.alloc (World.alloc (World.alloc w _) _) (.cells _ _)) W0)
    (try simp only [more_size, sz_alloc] at lo co)
    obtain ⟨lp, cp⟩ := box_on hx lp cp
    obtain ⟨lu, cu⟩ := box_on hx lu cu
    clear hW
    have fu0 : W0.frozen? ⟨bu, 0, none⟩ = false := (hx.frozen (p := ⟨bu, 0, none⟩) (by assumption)).trans (by assumption)
    have hw := hx; clear hx
    have ne1 : w.heap.size ≠ bu := by omega
    have ne2 : w.heap.size + 1 ≠ bu := by omega
    go_upto_region 10 with (first | (go_at_call 16; refine (tright_calls _ _ _ _ _ _ _ _ _ _ _ _ _ _ _ _ _ _ _ (by first | assumption | decide) (by first | assumption | decide)).mono ?_; rw [HT.out]; rintro e w1 ⟨rfl, hb⟩; obtain ⟨r, d, rfl⟩ := ext_form hb; clear hb) | (go_at_call 24; refine (wait_calls _ _ _ _ _ _ _ _ _ _ _ (by omega)).mono ?_; rintro e w1 ⟨rfl, hb⟩; obtain ⟨r, d, rfl⟩ := ext_form hb; clear hb) | (go_at_call 23; refine (plus_calls _ _ _).mono ?_; rintro e w2 ⟨rfl, rfl⟩))
    refine wp_at ?_
    intro W3 hW
    have hx3 : Ext (W0.setCell ⟨bu, 0, none⟩ (.int .i64 (plusF n (waitF ⟨p0, p1, p2, p3, p4, p5, p6, p7⟩ k 0)))) W3 := by rw [hW]; repeat (first | exact ext_refl _ | assumption | refine ext_more' ?_ _ _ | refine ext_drew ?_ | refine ext_drewN ?_ _ | refine ext_alloc ?_ _)
    clear hW
    obtain ⟨lt, ct⟩ := set_on hx3 ne2 lt ct
    obtain ⟨lb, cb⟩ := set_on hx3 ne1 lb cb
    have cu3 := set_at hx3 cu
    have hw3 := ext_trans (ext_setCell hw (by assumption) (.int .i64 (plusF n (waitF ⟨p0, p1, p2, p3, p4, p5, p6, p7⟩ k 0)))) hx3
    clear hx3 cu
    go_wp2
    all_goals (go_ret; exact ⟨rfl, by repeat (first | exact ext_refl _ | assumption | refine ext_more' ?_ _ _ | refine ext_drew ?_ | refine ext_drewN ?_ _ | refine ext_alloc ?_ _)⟩)
end Go.Proofs.Ytnfmgojloahfkaa

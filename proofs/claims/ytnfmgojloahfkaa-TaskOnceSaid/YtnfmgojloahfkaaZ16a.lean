/- TaskOnce: played. -/
import Derived.Test.YtnfmgojloahfkaaY16c
import Derived.Test.YtnfmgojloahfkaaOpD
import Derived.Test.YtnfmgojloahfkaaU16
namespace Go.Proofs.Ytnfmgojloahfkaa
open Go.RowKit
set_option linter.unusedVariables false
set_option linter.unusedSimpArgs false

theorem set_set (W : World) (p : Addr) (a b : Value) : (W.setCell p a).setCell p b = W.setCell p b := by
  obtain ⟨heap, tape, drawn, os, output⟩ := W
  simp only [World.setCell, World.mk.injEq, and_true, true_and]
  refine Array.ext_getElem? fun k => ?_
  simp only [Array.getElem?_modify]
  split
  · cases heap[k]? with
    | none => rfl
    | some o =>
      cases o <;> simp
      split <;> simp
  · rfl
theorem chg_cell2 {S : Nat → Prop} {W W' : World} (h : Chg S W W') {b i : Nat} {c : Option Value} (hb : b < W.heap.size) (hs : ¬ S b) (hc : W.cell? ⟨b, i, none⟩ = c) : W'.cell? ⟨b, i, none⟩ = c := by
  rw [← hc]; unfold World.cell?; dsimp only; rw [h.block b hb hs]
theorem chg_of {W2 w1 : World} {bu : Nat} {v : Value} (h : Ext (W2.drew.setCell ⟨bu, 0, none⟩ v) w1) : Chg (fun b => b = bu) W2 w1 := by
  refine ⟨h.os, h.tape, h.output, by have := h.size; rw [set_size] at this; exact this, fun k hk hne => ?_⟩
  rw [h.block k (by rw [set_size]; exact hk)]
  exact Below.heap_setCell _ _ _ _ hne
theorem once_base {Wv W2 w1 : World} {o : Obj} {bu : Nat} {v : Value} (hx2 : Ext (Wv.alloc o) W2) (hl : bu < Wv.heap.size) (hb : Ext (W2.drew.setCell ⟨bu, 0, none⟩ v) w1) : Ext ((Wv.setCell ⟨bu, 0, none⟩ v).alloc o) w1 := by
  have h1 : Ext (W2.setCell ⟨bu, 0, none⟩ v) w1 := ⟨hb.os, hb.tape, hb.output, hb.size, hb.block⟩
  have h2 := ext_setCell hx2 (by simp; omega : bu < (Wv.alloc o).heap.size) v
  rw [setCell_alloc_lt _ _ _ _ _ hl] at h2
  exact ext_trans h2 h1

set_option maxRecDepth 100000 in
set_option maxHeartbeats 8000000 in
theorem ponce_calls (p0 p1 p2 p3 p4 p5 p6 p7 v0 : Int) (bu bp : Nat) (s : Option Addr) (len cap : Nat) (O : Nat → OpD) (w : World) (hr : rightB ⟨p0, p1, p2, p3, p4, p5, p6, p7⟩ = true) (hrows : Rows_ w s len 7 (fun i => opC (O i)))
    (lp : bp < w.heap.size) (cp : ∀ i, w.cell? ⟨bp, i, none⟩ = #[.int .i64 p0, .int .i64 p1, .int .i64 p2, .int .i64 p3, .int .i64 p4, .int .i64 p5, .int .i64 p6, .int .i64 p7][i]?) (lu : bu < w.heap.size) (cu : ∀ i, w.cell? ⟨bu, i, none⟩ = #[.int .i64 v0][i]?) (fu : w.frozen? ⟨bu, 0, none⟩ = false) (hpu : bp ≠ bu) (hsu : 0 < len → ∀ b o, s = some ⟨b, o, none⟩ → b ≠ bu) (hv0 : v0 ≤ 3) :
    Calls Try.prog 21 #[.agg #[.int .i64 p0, .int .i64 p1, .int .i64 p2, .int .i64 p3, .int .i64 p4, .int .i64 p5, .int .i64 p6, .int .i64 p7], .slice s len cap, (.func (.func 22) #[] #[.pointer (some ⟨bp, 0, none⟩), .pointer (some ⟨bu, 0, none⟩)])] w fun e w' => e = .returned (.bool true) ∧ ∃ v', Ext (w.setCell ⟨bu, 0, none⟩ (.int .i64 v')) w' := by
  have e0 := Lib.hid (show beginF 3 = ⟨3, 0, 2, 0, 3, 0, 0, 0, 0, 0⟩ from by decide)
  have R := ((rightB_iff _).1 hr).most
  simp only at R
  have HR := Lib.hid hr; clear hr
  have HROWS := Lib.hid hrows; clear hrows
  have HSU := Lib.hid hsu; clear hsu
  go_enter Try.func21, Try.ntmps21
  go_wp2_with (go_at_call 10; refine (begin_calls _ _).mono ?_; rw [e0.out]; rintro e w1 ⟨rfl, hb⟩; obtain ⟨r, d, rfl⟩ := ext_form hb; clear hb)
  refine wp_at ?_
  intro W2 hW
  obtain ⟨W1, r, d, hX, hz, hW'⟩ := box_split (W1 := w.alloc (.cells #[.int .i64 p0, .int .i64 p1, .int .i64 p2, .int .i64 p3, .int .i64 p4, .int .i64 p5, .int .i64 p6, .int .i64 p7] 23)) (by rw [hW]; repeat (first | exact ext_refl _ | assumption | refine ext_more' ?_ _ _ | refine ext_drew ?_ | refine ext_drewN ?_ _ | refine ext_alloc ?_ _) : Ext (World.alloc _ (.cells _ _)) W2) (by repeat (first | exact ext_refl _ | assumption | refine ext_more' ?_ _ _ | refine ext_drew ?_ | refine ext_drewN ?_ _ | refine ext_alloc ?_ _))
  clear hW
  (try simp only [more_size, drew_sz, sz_alloc] at hz)
  obtain ⟨lq, cq⟩ := box_facts hX
  have hw := ext_trans (ext_alloc (ext_refl w) _) hX
  rw [← hz]
  subst hW'
  clear hz hX e0
  obtain ⟨lp, cp⟩ := box_on hw lp cp
  obtain ⟨lu1, cu⟩ := box_on hw lu cu
  have fu1 : W1.frozen? ⟨bu, 0, none⟩ = false := (hw.frozen (p := ⟨bu, 0, none⟩) lu).trans fu
  have HW := Lib.hid hw
  have hsz := hw.size
  obtain ⟨bt, hbt⟩ : ∃ bt, W1.heap.size = bt := ⟨_, rfl⟩
  rw [hbt]
  go_loopg [8, 9] 60 (fun g sn si wr => ∃ (i : Nat) (n v x0 x1 x2 x3 x4 x5 x6 x7 x8 x9 : Int) (r : Array Obj) (d : Nat), wr = more ((W1.setCell ⟨bu, 0, none⟩ (.int .i64 v)).alloc (.cells #[.int .i64 x0, .int .i64 x1, .int .u8 x2, .int .i64 x3, .int .i64 x4, .int .i64 x5, .int .i64 x6, .int .i64 x7, .int .i64 x8, .int .i64 x9] 30)) r d ∧ sn = .int .i64 n ∧ si = .int .i64 i ∧ g + i = 60 ∧ Sh ⟨p0, p1, p2, p3, p4, p5, p6, p7⟩ ⟨x0, x1, x2, x3, x4, x5, x6, x7, x8, x9⟩ ∧ late ⟨x0, x1, x2, x3, x4, x5, x6, x7, x8, x9⟩ ≤ n ∧ 3 ≤ n ∧ n ≤ 3 + 1048576 * (i : Int) ∧ KK ⟨x0, x1, x2, x3, x4, x5, x6, x7, x8, x9⟩ v n)
  case atStart => exact ⟨0, 3, v0, 3, 0, 2, 0, 3, 0, 0, 0, 0, 0, r, d, by rw [set_self (by rw [cu 0]; rfl)], rfl, rfl, rfl, .ready _ _ _ (by omega) (by show (0 : Int) < p0; omega) (by omega) (by omega) (by omega), by decide, by omega, by omega, fun h => by simp at h, fun _ => hv0⟩
  case round =>
    obtain ⟨i, n, v, x0, x1, x2, x3, x4, x5, x6, x7, x8, x9, r, d, rfl, rfl, rfl, hgi, hsh, hla, hn3, hn, hKK⟩ := hrel
    by_cases hi : i < len ∧ i < 60
    · obtain ⟨hi1, hi2⟩ := hi
      obtain ⟨b, o, hs, hb, c0, c1, c2, c3, c4, c5, c6⟩ := op_cells HROWS.out hw hi1
      have hbu := HSU.out (by omega) b o hs
      subst hs
      obtain ⟨lq, cq⟩ := set_on (v := .int .i64 v) (ext_refl (W1.setCell ⟨bu, 0, none⟩ (.int .i64 v))) (by omega) lq cq
      obtain ⟨lp1, cp1⟩ := set_on (v := .int .i64 v) (ext_refl (W1.setCell ⟨bu, 0, none⟩ (.int .i64 v))) hpu lp cp
      have cu1 := set_at (ext_refl (W1.setCell ⟨bu, 0, none⟩ (.int .i64 v))) cu
      replace fu1 : (W1.setCell ⟨bu, 0, none⟩ (.int .i64 v)).frozen? ⟨bu, 0, none⟩ = false := by rw [World.frozen?_setCell]; exact fu1
      replace c0 := (cell_other (v := .int .i64 v) hbu).trans c0
      replace c1 := (cell_other (v := .int .i64 v) hbu).trans c1
      replace c2 := (cell_other (v := .int .i64 v) hbu).trans c2
      replace c3 := (cell_other (v := .int .i64 v) hbu).trans c3
      replace c4 := (cell_other (v := .int .i64 v) hbu).trans c4
      replace c5 := (cell_other (v := .int .i64 v) hbu).trans c5
      replace c6 := (cell_other (v := .int .i64 v) hbu).trans c6
      have hzv : (W1.setCell ⟨bu, 0, none⟩ (.int .i64 v)).heap.size = bt := by rw [set_size, hbt]
      replace hb : b < (W1.setCell ⟨bu, 0, none⟩ (.int .i64 v)).heap.size := by rw [set_size]; exact hb
      replace lu1 : bu < (W1.setCell ⟨bu, 0, none⟩ (.int .i64 v)).heap.size := by rw [set_size]; exact lu1
      obtain ⟨Wv, hWv⟩ : ∃ Wv, W1.setCell ⟨bu, 0, none⟩ (.int .i64 v) = Wv := ⟨_, rfl⟩
      rw [hWv] at lq cq lp1 cp1 cu1 fu1 c0 c1 c2 c3 c4 c5 c6 hzv hb lu1 ⊢
      rw [← hzv]
      have HZV := Lib.hid hzv; clear hzv hbt
      have hb1 : b < Wv.heap.size + 1 := by omega
      have hii : (i : Int) < len ∧ (i : Int) < 60 := by omega
      obtain ⟨hi3, hi4⟩ := hii
      have hx2 : 0 ≤ x2 ∧ x2 ≤ 255 := sh_state hsh
      obtain ⟨hx20, hx21⟩ := hx2
      have ⟨m1, m2⟩ := mx_mn_bd (O i).o5
      have hadd : 0 ≤ n + mx (mn (O i).o5 1048576) 0 ∧ n + mx (mn (O i).o5 1048576) 0 ≤ 9223372036854775806 := by omega
      obtain ⟨n', hn'⟩ : ∃ n', n' = mn (n + mx (mn (O i).o5 1048576) 0) 1099511627776 := ⟨_, rfl⟩
      have hn1 : n ≤ n' ∧ n' ≤ 3 + 1048576 * ((i : Int) + 1) ∧ n' < 1099511627776 := by rw [hn']; generalize mx (mn (O i).o5 1048576) 0 = z at m1 m2 hadd ⊢; unfold mn; split <;> omega
      obtain ⟨hn4, hn5, hn6⟩ := hn1
      have htr := do_tr (n := n') (O i).o0 (O i).o1 (O i).o2 (O i).o3 (O i).o4 (O i).o5 (O i).o6 HR.out hsh (by omega) (by omega)
      rcases hR : doF ⟨p0, p1, p2, p3, p4, p5, p6, p7⟩ ⟨x0, x1, x2, x3, x4, x5, x6, x7, x8, x9⟩ (O i).o0 (O i).o1 (O i).o2 (O i).o3 (O i).o4 (O i).o5 (O i).o6 n' with ⟨⟨y0, y1, y2, y3, y4, y5, y6, y7, y8, y9⟩, e⟩
      rw [hR] at htr
      obtain ⟨hshY, hlaY⟩ := tr_sh htr hsh (by omega) (by omega)
      have hy2 : 0 ≤ y2 ∧ y2 ≤ 255 := sh_state hshY
      obtain ⟨hy20, hy21⟩ := hy2
      have HN := Lib.hid hn'.symm; have HRR := Lib.hid hR
      have HS := Lib.hid (And.intro hshY hlaY)
      have HSX := Lib.hid hsh; have HTR := Lib.hid htr
      have HKK := Lib.hid (show KK ⟨x0, x1, x2, x3, x4, x5, x6, x7, x8, x9⟩ v n' from ⟨hKK.1, fun h => Int.le_trans (hKK.2 h) hn4⟩)
      clear hR htr hshY hlaY hsh hla hKK hw
      go_upto_region 6 with fail
      have aq : ∀ w', Ext (Wv.alloc (.cells #[.int .i64 x0, .int .i64 x1, .int .u8 x2, .int .i64 x3, .int .i64 x4, .int .i64 x5, .int .i64 x6, .int .i64 x7, .int .i64 x8, .int .i64 x9] 30)) w' → ∀ i, w'.cell? ⟨w.heap.size, i, none⟩ = #[.int .i64 p0, .int .i64 p1, .int .i64 p2, .int .i64 p3, .int .i64 p4, .int .i64 p5, .int .i64 p6, .int .i64 p7][i]? := fun w' h i => on_all h lq (cq i)
      have at' : ∀ w', Ext (Wv.alloc (.cells #[.int .i64 x0, .int .i64 x1, .int .u8 x2, .int .i64 x3, .int .i64 x4, .int .i64 x5, .int .i64 x6, .int .i64 x7, .int .i64 x8, .int .i64 x9] 30)) w' → ∀ i, w'.cell? ⟨Wv.heap.size, i, none⟩ = #[.int .i64 x0, .int .i64 x1, .int .u8 x2, .int .i64 x3, .int .i64 x4, .int .i64 x5, .int .i64 x6, .int .i64 x7, .int .i64 x8, .int .i64 x9][i]? := fun w' h => (box_facts h).2
      have d0 := fun w' (h : Ext (Wv.alloc (.cells #[.int .i64 x0, .int .i64 x1, .int .u8 x2, .int .i64 x3, .int .i64 x4, .int .i64 x5, .int .i64 x6, .int .i64 x7, .int .i64 x8, .int .i64 x9] 30)) w') => on_all h hb c0
      have d1 := fun w' (h : Ext (Wv.alloc (.cells #[.int .i64 x0, .int .i64 x1, .int .u8 x2, .int .i64 x3, .int .i64 x4, .int .i64 x5, .int .i64 x6, .int .i64 x7, .int .i64 x8, .int .i64 x9] 30)) w') => on_all h hb c1
      have d2 := fun w' (h : Ext (Wv.alloc (.cells #[.int .i64 x0, .int .i64 x1, .int .u8 x2, .int .i64 x3, .int .i64 x4, .int .i64 x5, .int .i64 x6, .int .i64 x7, .int .i64 x8, .int .i64 x9] 30)) w') => on_all h hb c2
      have d3 := fun w' (h : Ext (Wv.alloc (.cells #[.int .i64 x0, .int .i64 x1, .int .u8 x2, .int .i64 x3, .int .i64 x4, .int .i64 x5, .int .i64 x6, .int .i64 x7, .int .i64 x8, .int .i64 x9] 30)) w') => on_all h hb c3
      have d4 := fun w' (h : Ext (Wv.alloc (.cells #[.int .i64 x0, .int .i64 x1, .int .u8 x2, .int .i64 x3, .int .i64 x4, .int .i64 x5, .int .i64 x6, .int .i64 x7, .int .i64 x8, .int .i64 x9] 30)) w') => on_all h hb c4
      have d5 := fun w' (h : Ext (Wv.alloc (.cells #[.int .i64 x0, .int .i64 x1, .int .u8 x2, .int .i64 x3, .int .i64 x4, .int .i64 x5, .int .i64 x6, .int .i64 x7, .int .i64 x8, .int .i64 x9] 30)) w') => on_all h hb c5
      have d6 := fun w' (h : Ext (Wv.alloc (.cells #[.int .i64 x0, .int .i64 x1, .int .u8 x2, .int .i64 x3, .int .i64 x4, .int .i64 x5, .int .i64 x6, .int .i64 x7, .int .i64 x8, .int .i64 x9] 30)) w') => on_all h hb c6
      clear c0 c1 c2 c3 c4 c5 c6
      go_region_held3 (fun w' => Ext (Wv.alloc (.cells #[.int .i64 x0, .int .i64 x1, .int .u8 x2, .int .i64 x3, .int .i64 x4, .int .i64 x5, .int .i64 x6, .int .i64 x7, .int .i64 x8, .int .i64 x9] 30)) w') (repeat (first | exact ext_refl _ | assumption | refine ext_more' ?_ _ _ | refine ext_drew ?_ | refine ext_drewN ?_ _ | refine ext_alloc ?_ _)) (first | (go_at_call 14; refine (do16_calls _ _ _ _ _ _ _ _ _ _ _ _ _ _ _ _ _ _ _ _ _ _ _ _ _ _ _ (by assumption) (by assumption)).mono ?_; rw [HN.out, HRR.out]; rintro e w1 ⟨rfl, hb⟩; obtain ⟨r, d, rfl⟩ := ext_form hb; clear hb))
      all_goals
        refine then_at ?_
        intro W2 hW
        have hx2 : Ext (Wv.alloc (.cells #[.int .i64 x0, .int .i64 x1, .int .u8 x2, .int .i64 x3, .int .i64 x4, .int .i64 x5, .int .i64 x6, .int .i64 x7, .int .i64 x8, .int .i64 x9] 30)) W2 := by rw [hW]; repeat (first | exact ext_refl _ | assumption | refine ext_more' ?_ _ _ | refine ext_drew ?_ | refine ext_drewN ?_ _ | refine ext_alloc ?_ _)
        obtain ⟨lx, cx⟩ := box_facts (by rw [hW]; repeat (first | exact ext_refl _ | assumption | refine ext_more' ?_ _ _ | refine ext_drew ?_ | refine ext_drewN ?_ _ | refine ext_alloc ?_ _) : Ext (World.alloc (more _ _ _) (.cells _ _)) W2)
        clear hW
        (try simp only [more_size, sz_alloc] at lx cx)
        have ax := box_all lx cx
        replace aq := fun w' (h : Ext W2 w') => aq w' (ext_trans hx2 h)
        replace at' := fun w' (h : Ext W2 w') => at' w' (ext_trans hx2 h)
        replace d0 := fun w' (h : Ext W2 w') => d0 w' (ext_trans hx2 h)
        replace d1 := fun w' (h : Ext W2 w') => d1 w' (ext_trans hx2 h)
        replace d2 := fun w' (h : Ext W2 w') => d2 w' (ext_trans hx2 h)
        replace d3 := fun w' (h : Ext W2 w') => d3 w' (ext_trans hx2 h)
        replace d4 := fun w' (h : Ext W2 w') => d4 w' (ext_trans hx2 h)
        replace d5 := fun w' (h : Ext W2 w') => d5 w' (ext_trans hx2 h)
        replace d6 := fun w' (h : Ext W2 w') => d6 w' (ext_trans hx2 h)

        have hz2 : Wv.heap.size < W2.heap.size := (box_facts hx2).1
        have lq2 : w.heap.size < W2.heap.size := by omega
        have lb2 : b < W2.heap.size := by omega
        have nq : ¬ w.heap.size = bu := by omega
        have nt : ¬ Wv.heap.size = bu := by omega
        have nx := lx
        obtain ⟨lp2, cp2⟩ := box_on (ext_trans (ext_alloc (ext_refl _) _) hx2) lp1 cp1
        obtain ⟨lu2, cu2⟩ := box_on (ext_trans (ext_alloc (ext_refl _) _) hx2) lu1 cu1
        have fu2 : W2.frozen? ⟨bu, 0, none⟩ = false := ((ext_trans (ext_alloc (ext_refl _) _) hx2).frozen (p := ⟨bu, 0, none⟩) lu1).trans fu1
        replace aq := fun w' (h : Chg (fun b => b = bu) W2 w') i => chg_cell2 h lq2 nq (aq W2 (ext_refl _) i)
        replace at' := fun w' (h : Chg (fun b => b = bu) W2 w') i => chg_cell2 h hz2 nt (at' W2 (ext_refl _) i)
        replace ax := fun w' (h : Chg (fun b => b = bu) W2 w') i => chg_cell2 h lx (by omega) (ax W2 (ext_refl _) i)
        replace d0 := fun w' (h : Chg (fun b => b = bu) W2 w') => chg_cell2 h lb2 hbu (d0 W2 (ext_refl _))
        replace d1 := fun w' (h : Chg (fun b => b = bu) W2 w') => chg_cell2 h lb2 hbu (d1 W2 (ext_refl _))
        replace d2 := fun w' (h : Chg (fun b => b = bu) W2 w') => chg_cell2 h lb2 hbu (d2 W2 (ext_refl _))
        replace d3 := fun w' (h : Chg (fun b => b = bu) W2 w') => chg_cell2 h lb2 hbu (d3 W2 (ext_refl _))
        replace d4 := fun w' (h : Chg (fun b => b = bu) W2 w') => chg_cell2 h lb2 hbu (d4 W2 (ext_refl _))
        replace d5 := fun w' (h : Chg (fun b => b = bu) W2 w') => chg_cell2 h lb2 hbu (d5 W2 (ext_refl _))
        replace d6 := fun w' (h : Chg (fun b => b = bu) W2 w') => chg_cell2 h lb2 hbu (d6 W2 (ext_refl _))
        go_upto_region 7 with fail
        go_region_held3 (fun w' => Chg (fun b => b = bu) W2 w') (first | exact Chg.drew (Chg.refl _ _) | assumption | exact chg_of (by assumption)) (first | (go_at_call 22; rw [HN.out]; refine (conce_calls _ _ _ _ _ _ _ _ ⟨x0, x1, x2, x3, x4, x5, x6, x7, x8, x9⟩ ⟨y0, y1, y2, y3, y4, y5, y6, y7, y8, y9⟩ _ _ _ _ _ _ _ _ _ _ bu bp W2.drew lp2 cp2 lu2 cu2 fu2 HR.out HSX.out HS.out.1 R.2 HTR.out HKK.out).mono ?_; rintro r w1 ⟨rfl, v', hb1, hk1⟩))
        all_goals
          have hx3 := once_base hx2 lu1 hb1
          have ⟨lx3, cx3⟩ := set_on hb1 (by omega) lx cx
          have HKN := Lib.hid hk1
          obtain ⟨Wn, hWn⟩ : ∃ Wn, Wv.setCell ⟨bu, 0, none⟩ (.int .i64 v') = Wn := ⟨_, rfl⟩
          rw [hWn] at hx3
          have hzn : Wv.heap.size = Wn.heap.size := by rw [← hWn, set_size]
          have hWn2 : Wn = W1.setCell ⟨bu, 0, none⟩ (.int .i64 v') := by rw [← hWn, ← hWv, set_set]
          have HWN := Lib.hid hWn2
          rw [hzn] at lx3 cx3 ⊢
          obtain ⟨r, d, rfl⟩ := ext_form hx3
          (try simp only [more_size, sz_alloc] at lx3 cx3)
          have HZN := Lib.hid (hzn.symm.trans HZV.out)
          clear aq at' d0 d1 d2 d3 d4 d5 d6 ax hx2 hx3 hb1 hk1 hWn hWn2 hzn lp2 cp2 lu2 cu2 fu2 lx cx nx lq2 lb2 nq nt hz2
          go_wp2
          rw [HZN.out]
          go_roundg (gk - 1)
          case measure => omega
          case rel => exact ⟨i + 1, n', v', y0, y1, y2, y3, y4, y5, y6, y7, y8, y9, _, _, by rw [← HWN.out], by rw [HN.out], by go_num, by omega, HS.out.1, HS.out.2, by omega, by omega, HKN.out⟩

    · have hj : ((i : Int) < len) = False ∨ ((i : Int) < len ∧ ¬ ((i : Int) < 60)) := by
        by_cases h : (i : Int) < len
        · exact .inr ⟨h, by omega⟩
        · left; simp; omega
      clear hi
      rcases hj with hj | ⟨hj, hj'⟩
      all_goals
        go_wp2
        go_ret
        exact ⟨rfl, v, ext_more' (ext_alloc (ext_setCell HW.out lu _) _) _ _⟩
end Go.Proofs.Ytnfmgojloahfkaa

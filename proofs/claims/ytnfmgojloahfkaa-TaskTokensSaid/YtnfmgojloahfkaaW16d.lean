/- TaskTokens: played. -/
import Derived.Test.YtnfmgojloahfkaaW16b
import Derived.Test.YtnfmgojloahfkaaOpD
import Derived.Test.YtnfmgojloahfkaaU16
namespace Go.Proofs.Ytnfmgojloahfkaa
open Go.RowKit
set_option linter.unusedVariables false
set_option linter.unusedSimpArgs false

set_option maxRecDepth 100000 in
set_option maxHeartbeats 8000000 in
theorem ptokens_calls (p0 p1 p2 p3 p4 p5 p6 p7 k: Int) (bk bp : Nat) (s : Option Addr) (len cap : Nat) (O : Nat → OpD) (w : World) (hr : rightB ⟨p0, p1, p2, p3, p4, p5, p6, p7⟩ = true) (hlen : len ≤ 9223372036854775807) (hrows : Rows_ w s len 7 (fun i => opC (O i))) (lp : bp < w.heap.size) (cp : ∀ i, w.cell? ⟨bp, i, none⟩ = #[.int .i64 p0, .int .i64 p1, .int .i64 p2, .int .i64 p3, .int .i64 p4, .int .i64 p5, .int .i64 p6, .int .i64 p7][i]?) (lk : bk < w.heap.size) (ck : ∀ i, w.cell? ⟨bk, i, none⟩ = #[.int .i64 k][i]?) :
    Calls Try.prog 21 #[.agg #[.int .i64 p0, .int .i64 p1, .int .i64 p2, .int .i64 p3, .int .i64 p4, .int .i64 p5, .int .i64 p6, .int .i64 p7], .slice s len cap, (.func (.func 25) #[] #[.pointer (some ⟨bk, 0, none⟩), .pointer (some ⟨bp, 0, none⟩)])] w fun e w' => e = .returned (.bool true) ∧ Ext w w' := by
  have e0 := Lib.hid (show beginF 3 = ⟨3, 0, 2, 0, 3, 0, 0, 0, 0, 0⟩ from by decide)
  have R := ((rightB_iff _).1 hr).most
  simp only at R
  have HR := Lib.hid hr; clear hr
  have HROWS := Lib.hid hrows; clear hrows
  go_enter Try.func21, Try.ntmps21
  go_wp2_with (go_at_call 10; refine (begin_calls _ _).mono ?_; rw [e0.out]; rintro e w1 ⟨rfl, hb⟩; obtain ⟨r, d, rfl⟩ := ext_form hb; clear hb)
  refine wp_at ?_
  intro W2 hW
  obtain ⟨W1, r, d, hX, hz, hW'⟩ := box_split (W1 := w.alloc (.cells #[.int .i64 p0, .int .i64 p1, .int .i64 p2, .int .i64 p3, .int .i64 p4, .int .i64 p5, .int .i64 p6, .int .i64 p7] 23)) (by rw [hW]; repeat (first | exact ext_refl _ | assumption | refine ext_more' ?_ _ _ | refine ext_drew ?_ | refine ext_drewN ?_ _ | refine ext_alloc ?_ _) : Ext (World.alloc _ (.cells _ _)) W2) (by repeat (first | exact ext_refl _ | assumption | refine ext_more' ?_ _ _ | refine ext_drew ?_ | refine ext_drewN ?_ _ | refine ext_alloc ?_ _))
  clear hW
  (try simp only [more_size, drew_sz, sz_alloc] at hz)
  obtain ⟨lq, cq⟩ := box_facts hX
  have hw := ext_trans (ext_alloc (ext_refl w) _) hX
  rw [← hz]
  subst hW'
  clear hz hX e0
  have AP := Lib.hid (fun w' (h : Ext w w') => box_on h lp cp)
  have AK := Lib.hid (fun w' (h : Ext w w') => box_on h lk ck)
  clear lp cp lk ck
  go_loopg [8, 9] 60 (fun g sn si wr => ∃ (i : Nat) (n x0 x1 x2 x3 x4 x5 x6 x7 x8 x9 : Int) (r : Array Obj) (d : Nat), wr = more (W1.alloc (.cells #[.int .i64 x0, .int .i64 x1, .int .u8 x2, .int .i64 x3, .int .i64 x4, .int .i64 x5, .int .i64 x6, .int .i64 x7, .int .i64 x8, .int .i64 x9] 30)) r d ∧ sn = .int .i64 n ∧ si = .int .i64 i ∧ g + i = 60 ∧ Sh ⟨p0, p1, p2, p3, p4, p5, p6, p7⟩ ⟨x0, x1, x2, x3, x4, x5, x6, x7, x8, x9⟩ ∧ late ⟨x0, x1, x2, x3, x4, x5, x6, x7, x8, x9⟩ ≤ n ∧ 3 ≤ n ∧ n ≤ 3 + 1048576 * (i : Int))
  case atStart => exact ⟨0, 3, 3, 0, 2, 0, 3, 0, 0, 0, 0, 0, r, d, rfl, rfl, rfl, rfl, .ready _ _ _ (by omega) (by show (0 : Int) < p0; omega) (by omega) (by omega) (by omega), by decide, by omega, by omega⟩
  case round =>
    obtain ⟨i, n, x0, x1, x2, x3, x4, x5, x6, x7, x8, x9, r, d, rfl, rfl, rfl, hgi, hsh, hla, hn3, hn⟩ := hrel
    by_cases hi : i < len ∧ i < 60
    · obtain ⟨hi1, hi2⟩ := hi
      obtain ⟨b, o, rfl, hb, c0, c1, c2, c3, c4, c5, c6⟩ := op_cells HROWS.out hw hi1
      have hb1 : b < W1.heap.size + 1 := by omega
      have hii : (i : Int) < len ∧ (i : Int) < 60 := by omega
      obtain ⟨hi3, hi4⟩ := hii
      have hx2 : 0 ≤ x2 ∧ x2 ≤ 255 := sh_state hsh
      obtain ⟨hx20, hx21⟩ := hx2
      have ⟨m1, m2⟩ := mx_mn_bd (O i).o5
      have hadd : 0 ≤ n + mx (mn (O i).o5 1048576) 0 ∧ n + mx (mn (O i).o5 1048576) 0 ≤ 9223372036854775806 := by omega
      obtain ⟨n', hn'⟩ : ∃ n', n' = mn (n + mx (mn (O i).o5 1048576) 0) 1099511627776 := ⟨_, rfl⟩
      have hn1 : n ≤ n' ∧ n' ≤ 3 + 1048576 * ((i : Int) + 1) ∧ n' < 1099511627776 := by rw [hn']; generalize mx (mn (O i).o5 1048576) 0 = z at m1 m2 hadd ⊢; unfold mn; split <;> omega
      obtain ⟨hn4, hn5, hn6⟩ := hn1
      have htr := do_tr (n := n') (O i).o0 (O i).o1 (O i).o2 (O i).o3 (O i).o4 (O i).o5 (O i).o6 HR.out hsh (by omega) (by omega)
      rcases hR : doF ⟨p0, p1, p2, p3, p4, p5, p6, p7⟩ ⟨x0, x1, x2, x3, x4, x5, x6, x7, x8, x9⟩ (O i).o0 (O i).o1 (O i).o2 (O i).o3 (O i).o4 (O i).o5 (O i).o6 n' with ⟨⟨y0, y1, y2, y3, y4, y5, y6, y7, y8, y9⟩, e⟩
      rw [hR] at htr
      obtain ⟨hshY, hlaY⟩ := tr_sh htr hsh (by omega) (by omega)
      have hy2 : 0 ≤ y2 ∧ y2 ≤ 255 := sh_state hshY
      obtain ⟨hy20, hy21⟩ := hy2
      have e12 := fun hk => tokens_pure (k := k) HR.out hshY hlaY (by omega) hk
      have hq := do_token (n := n') (O i).o0 (O i).o1 (O i).o2 (O i).o3 (O i).o4 (O i).o5 (O i).o6 HR.out hsh (by omega) (by omega)
      rw [hR] at hq
      simp only at e12 hq
      have E12 := Lib.hid e12; have HQ := Lib.hid hq
      have HN := Lib.hid hn'.symm; have HRR := Lib.hid hR
      have HS := Lib.hid (And.intro hshY hlaY)
      clear e12 hq hR htr hshY hlaY hsh hla
      go_upto_region 6 with fail
      have aq : ∀ w', Ext (W1.alloc (.cells #[.int .i64 x0, .int .i64 x1, .int .u8 x2, .int .i64 x3, .int .i64 x4, .int .i64 x5, .int .i64 x6, .int .i64 x7, .int .i64 x8, .int .i64 x9] 30)) w' → ∀ i, w'.cell? ⟨w.heap.size, i, none⟩ = #[.int .i64 p0, .int .i64 p1, .int .i64 p2, .int .i64 p3, .int .i64 p4, .int .i64 p5, .int .i64 p6, .int .i64 p7][i]? := fun w' h i => on_all h lq (cq i)
      have at' : ∀ w', Ext (W1.alloc (.cells #[.int .i64 x0, .int .i64 x1, .int .u8 x2, .int .i64 x3, .int .i64 x4, .int .i64 x5, .int .i64 x6, .int .i64 x7, .int .i64 x8, .int .i64 x9] 30)) w' → ∀ i, w'.cell? ⟨W1.heap.size, i, none⟩ = #[.int .i64 x0, .int .i64 x1, .int .u8 x2, .int .i64 x3, .int .i64 x4, .int .i64 x5, .int .i64 x6, .int .i64 x7, .int .i64 x8, .int .i64 x9][i]? := fun w' h => (box_facts h).2
      have d0 := fun w' (h : Ext (W1.alloc (.cells #[.int .i64 x0, .int .i64 x1, .int .u8 x2, .int .i64 x3, .int .i64 x4, .int .i64 x5, .int .i64 x6, .int .i64 x7, .int .i64 x8, .int .i64 x9] 30)) w') => on_all h hb c0
      have d1 := fun w' (h : Ext (W1.alloc (.cells #[.int .i64 x0, .int .i64 x1, .int .u8 x2, .int .i64 x3, .int .i64 x4, .int .i64 x5, .int .i64 x6, .int .i64 x7, .int .i64 x8, .int .i64 x9] 30)) w') => on_all h hb c1
      have d2 := fun w' (h : Ext (W1.alloc (.cells #[.int .i64 x0, .int .i64 x1, .int .u8 x2, .int .i64 x3, .int .i64 x4, .int .i64 x5, .int .i64 x6, .int .i64 x7, .int .i64 x8, .int .i64 x9] 30)) w') => on_all h hb c2
      have d3 := fun w' (h : Ext (W1.alloc (.cells #[.int .i64 x0, .int .i64 x1, .int .u8 x2, .int .i64 x3, .int .i64 x4, .int .i64 x5, .int .i64 x6, .int .i64 x7, .int .i64 x8, .int .i64 x9] 30)) w') => on_all h hb c3
      have d4 := fun w' (h : Ext (W1.alloc (.cells #[.int .i64 x0, .int .i64 x1, .int .u8 x2, .int .i64 x3, .int .i64 x4, .int .i64 x5, .int .i64 x6, .int .i64 x7, .int .i64 x8, .int .i64 x9] 30)) w') => on_all h hb c4
      have d5 := fun w' (h : Ext (W1.alloc (.cells #[.int .i64 x0, .int .i64 x1, .int .u8 x2, .int .i64 x3, .int .i64 x4, .int .i64 x5, .int .i64 x6, .int .i64 x7, .int .i64 x8, .int .i64 x9] 30)) w') => on_all h hb c5
      have d6 := fun w' (h : Ext (W1.alloc (.cells #[.int .i64 x0, .int .i64 x1, .int .u8 x2, .int .i64 x3, .int .i64 x4, .int .i64 x5, .int .i64 x6, .int .i64 x7, .int .i64 x8, .int .i64 x9] 30)) w') => on_all h hb c6
      clear c0 c1 c2 c3 c4 c5 c6
      go_region_held3 (fun w' => Ext (W1.alloc (.cells #[.int .i64 x0, .int .i64 x1, .int .u8 x2, .int .i64 x3, .int .i64 x4, .int .i64 x5, .int .i64 x6, .int .i64 x7, .int .i64 x8, .int .i64 x9] 30)) w') (repeat (first | exact ext_refl _ | assumption | refine ext_more' ?_ _ _ | refine ext_drew ?_ | refine ext_drewN ?_ _ | refine ext_alloc ?_ _)) (first | (go_at_call 14; refine (do16_calls _ _ _ _ _ _ _ _ _ _ _ _ _ _ _ _ _ _ _ _ _ _ _ _ _ _ _ (by assumption) (by assumption)).mono ?_; rw [HN.out, HRR.out]; rintro e w1 ⟨rfl, hb⟩; obtain ⟨r, d, rfl⟩ := ext_form hb; clear hb))
      all_goals
        refine then_at ?_
        intro W2 hW
        have hx2 : Ext (W1.alloc (.cells #[.int .i64 x0, .int .i64 x1, .int .u8 x2, .int .i64 x3, .int .i64 x4, .int .i64 x5, .int .i64 x6, .int .i64 x7, .int .i64 x8, .int .i64 x9] 30)) W2 := by rw [hW]; repeat (first | exact ext_refl _ | assumption | refine ext_more' ?_ _ _ | refine ext_drew ?_ | refine ext_drewN ?_ _ | refine ext_alloc ?_ _)
        obtain ⟨lx, cx⟩ := box_facts (by rw [hW]; repeat (first | exact ext_refl _ | assumption | refine ext_more' ?_ _ _ | refine ext_drew ?_ | refine ext_drewN ?_ _ | refine ext_alloc ?_ _) : Ext (World.alloc (more _ _ _) (.cells _ _)) W2)
        clear hW
        (try simp only [more_size, sz_alloc] at lx cx)
        have ax := box_all lx cx
        replace aq := fun w' (h : Ext W2 w') => aq w' (ext_trans hx2 h)
        replace at' := fun w' (h : Ext W2 w') => at' w' (ext_trans hx2 h)
        replace d0 := fun w' (h : Ext W2 w') => d0 w' (ext_trans hx2 h)
        replace d1 := fun w' (h : Ext W2 w') => d1 w' (ext_trans hx2 h)
        replace d2 := fun w' (h : Ext W2 w') => d2 w' (ext_trans hx2 h)
        replace d3 := fun w' (h : Ext W2 w') => d3 w' (ext_trans hx2 h)
        replace d4 := fun w' (h : Ext W2 w') => d4 w' (ext_trans hx2 h)
        replace d5 := fun w' (h : Ext W2 w') => d5 w' (ext_trans hx2 h)
        replace d6 := fun w' (h : Ext W2 w') => d6 w' (ext_trans hx2 h)
        have hw2 : Ext w W2 := ext_trans hw (ext_trans (ext_alloc (ext_refl _) _) hx2)
        go_upto_region 7 with fail
        go_region_held3 (fun w' => Ext W2 w') (repeat (first | exact ext_refl _ | assumption | refine ext_more' ?_ _ _ | refine ext_drew ?_ | refine ext_drewN ?_ _ | refine ext_alloc ?_ _)) (first | (go_at_call 25; rw [HN.out]; refine (ctokens_calls _ _ _ _ _ _ _ _ _ _ _ _ _ _ _ _ _ _ _ _ _ _ _ _ _ _ _ _ _ _ _ _ _ _ _ _ _ _ _ _ _ (by assumption) (by assumption) ?lpx ?cpx ?lkx ?ckx E12.out HQ.out).mono ?_; (case lpx => exact (AP.out _ (by repeat (first | exact ext_refl _ | assumption | refine ext_more' ?_ _ _ | refine ext_drew ?_ | refine ext_drewN ?_ _ | refine ext_alloc ?_ _))).1); (case lkx => exact (AK.out _ (by repeat (first | exact ext_refl _ | assumption | refine ext_more' ?_ _ _ | refine ext_drew ?_ | refine ext_drewN ?_ _ | refine ext_alloc ?_ _))).1); (case ckx => exact (AK.out _ (by repeat (first | exact ext_refl _ | assumption | refine ext_more' ?_ _ _ | refine ext_drew ?_ | refine ext_drewN ?_ _ | refine ext_alloc ?_ _))).2); (case cpx => exact (AP.out _ (by repeat (first | exact ext_refl _ | assumption | refine ext_more' ?_ _ _ | refine ext_drew ?_ | refine ext_drewN ?_ _ | refine ext_alloc ?_ _))).2); rintro e w1 ⟨rfl, hb⟩; obtain ⟨r, d, rfl⟩ := ext_form hb; clear hb))
        all_goals
          refine then_at ?_
          intro W3 hW3
          have hx3 : Ext W2 W3 := by rw [hW3]; repeat (first | exact ext_refl _ | assumption | refine ext_more' ?_ _ _ | refine ext_drew ?_ | refine ext_drewN ?_ _ | refine ext_alloc ?_ _)
          clear hW3
          obtain ⟨lx, cx⟩ := box_on hx3 lx cx
          obtain ⟨r, d, rfl⟩ := ext_form (ext_trans hx2 hx3)
          (try simp only [more_size, sz_alloc] at lx cx)
          clear aq at' d0 d1 d2 d3 d4 d5 d6 ax hx2 hx3 hw2
          go_wp2
          go_roundg (gk - 1)
          case measure => omega
          case rel => exact ⟨i + 1, n', y0, y1, y2, y3, y4, y5, y6, y7, y8, y9, _, _, rfl, by rw [HN.out], by go_num, by omega, HS.out.1, HS.out.2, by omega, by omega⟩
    · have hj : ((i : Int) < len) = False ∨ ((i : Int) < len ∧ ¬ ((i : Int) < 60)) := by
        by_cases h : (i : Int) < len
        · exact .inr ⟨h, by omega⟩
        · left; simp; omega
      clear hi
      rcases hj with hj | ⟨hj, hj'⟩
      all_goals
        go_wp2
        go_ret
        exact ⟨rfl, by repeat (first | exact ext_refl _ | assumption | refine ext_more' ?_ _ _ | refine ext_drew ?_ | refine ext_drewN ?_ _ | refine ext_alloc ?_ _)⟩
end Go.Proofs.Ytnfmgojloahfkaa

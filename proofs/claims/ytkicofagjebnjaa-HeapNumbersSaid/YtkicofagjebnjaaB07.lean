/- Two places of a heap changed about. -/
import Derived.Test.YtkicofagjebnjaaA07
namespace Go.Proofs.Ytkicofagjebnjaa
open Go.RowKit
set_option linter.unusedVariables false
set_option linter.unusedSimpArgs false

theorem oneCell_tmr (x : Tmr) : ∀ u ∈ tmrC x, u.oneCell' = true := by
  intro u hu
  simp only [tmrC, List.mem_cons, List.not_mem_nil, or_false] at hu
  rcases hu with rfl | rfl <;> rfl
theorem own_lt {w : World} {base g n sz cap m : Nat} {T : TypeId} {xs : List Value} (h : w.ownsRow base T sz (.slice (some ⟨g, 0, none⟩) n cap) m xs) : g < w.heap.size := by
  rcases h.2 with ⟨h', _⟩ | ⟨g', cap', cur, h', _, hg, _⟩
  · simp at h'
  · simp only [Value.slice.injEq, Option.some.injEq, Addr.mk.injEq, and_true, true_and] at h'
    obtain ⟨rfl, _⟩ := h'
    exact (Array.getElem?_eq_some_iff.1 hg).1
theorem row_cells {w : World} {base g cap nn j : Nat} {T : TypeId} {l : List Tmr} (hl : l.length = nn) (h : w.ownsRow base T 2 (.slice (some ⟨g, 0, none⟩) nn cap) nn (l.flatMap tmrC)) (hj : j < l.length) :
    w.cell? ⟨g, j * 2, none⟩ = some (.int .i64 (at_ l j).due) ∧ w.cell? ⟨g, j * 2 + 1, none⟩ = some (.int .i64 (at_ l j).id) := by
  have h0 := h.cellAt (j * 2) (by omega)
  have h1 := h.cellAt (j * 2 + 1) (by omega)
  have f0 := flat_get (g := tmrC) (n := 2) (fun _ => rfl) l j 0 hj (by decide)
  have f1 := flat_get (g := tmrC) (n := 2) (fun _ => rfl) l j 1 hj (by decide)
  exact ⟨by rw [h0]; exact f0, by rw [h1]; exact f1⟩
theorem setCells_own {w : World} {base g cap n m sz : Nat} {T : TypeId} : ∀ (vs : List Value) (o : Nat) (xs : List Value) (w : World), w.ownsRow base T sz (.slice (some ⟨g, 0, none⟩) n cap) n xs →
    ∃ ys, (w.setCells g o vs).ownsRow base T sz (.slice (some ⟨g, 0, none⟩) n cap) n ys ∧ ys.length = xs.length ∧ ∀ j, ys[j]? = if o ≤ j ∧ j < o + vs.length ∧ j < xs.length then vs[j - o]? else xs[j]?
  | [], o, xs, w, h => ⟨xs, h, rfl, fun j => by rw [if_neg]; simp; omega⟩
  | v :: vs, o, xs, w, h => by
    obtain ⟨ys, h1, h2, h3⟩ := setCells_own (w := w) (m := m) vs (o + 1) (xs.set o v) _ (h.stored o v).1
    refine ⟨ys, h1, by rw [h2]; simp, fun j => ?_⟩
    rw [h3 j, List.length_set]
    by_cases e : j = o
    · subst e
      rw [if_neg (by omega)]
      by_cases hj : j < xs.length
      · rw [if_pos ⟨by omega, by simp, hj⟩]; simp [hj]
      · rw [if_neg (by omega)]; simp [hj]
    · have h4 : (xs.set o v)[j]? = xs[j]? := by rw [List.getElem?_set_ne (Ne.symm e)]
      by_cases hq : o + 1 ≤ j ∧ j < o + 1 + vs.length ∧ j < xs.length
      · rw [if_pos hq, if_pos ⟨by omega, by simp; omega, hq.2.2⟩]
        have : j - o = (j - (o + 1)) + 1 := by omega
        rw [this, List.getElem?_cons_succ]
      · rw [if_neg hq, if_neg (by simp; omega)]
        exact h4
theorem flat_set {α : Type} [Inhabited α] {gf : α → List Value} {n : Nat} (hg : ∀ x, (gf x).length = n) (l : List α) (i : Nat) (x : α) (hi : i < l.length) (ys : List Value) (hl : ys.length = (l.flatMap gf).length)
    (h : ∀ j, ys[j]? = if i * n ≤ j ∧ j < i * n + (gf x).length ∧ j < (l.flatMap gf).length then (gf x)[j - i * n]? else (l.flatMap gf)[j]?) : ys = (l.set i x).flatMap gf := by
  apply List.ext_getElem?
  intro j
  rw [h j, flat_len hg, hg]
  rcases Nat.eq_zero_or_pos n with h0 | h0
  · rw [if_neg (by omega)]
    rw [List.getElem?_eq_none (by rw [flat_len hg, h0]; omega), List.getElem?_eq_none (by rw [flat_len hg, h0]; omega)]
  by_cases hj : j < l.length * n
  · have hq : j / n < l.length := by rw [Nat.div_lt_iff_lt_mul h0]; exact hj
    have hr : j % n < n := Nat.mod_lt _ h0
    have e : j = j / n * n + j % n := by rw [Nat.mul_comm]; exact (Nat.div_add_mod j n).symm
    have f1 := flat_get hg (l.set i x) (j / n) (j % n) (by simpa using hq) hr
    have f2 := flat_get hg l (j / n) (j % n) hq hr
    rw [← e] at f1 f2
    rw [f1, f2]
    by_cases e2 : j / n = i
    · have e3 : j - i * n = j % n := by rw [← e2]; omega
      have hlt : i * n + n ≤ l.length * n := by rw [← Nat.succ_mul]; exact Nat.mul_le_mul_right n hi
      rw [if_pos ⟨by rw [← e2]; omega, by rw [← e2]; omega, hj⟩, e3, e2]
      congr 2
      simp [List.getD_eq_getElem?_getD, hi]
    · have hne : ¬ (i * n ≤ j ∧ j < i * n + n ∧ j < l.length * n) := by
        rintro ⟨h1, h2, _⟩
        apply e2
        exact Nat.div_eq_of_lt_le (by omega) (by rw [Nat.succ_mul]; omega)
      rw [if_neg hne]
      congr 2
      simp only [List.getD_eq_getElem?_getD, List.getElem?_set_ne (Ne.symm e2)]
  · rw [if_neg (by omega), List.getElem?_eq_none (by rw [flat_len hg]; omega), List.getElem?_eq_none (by rw [flat_len hg]; simp; omega)]
/-- An element of a row of one's own is stored. -/
theorem wp_storeR {α : Type} [Inhabited α] {gf : α → List Value} {l : List α} {base g cap nn sz : Nat} {T : TypeId} {P : Program} {op : Oper} {a : Act} {w : World} {K : Act → World → Prop} {Q : Exit → Act → World → Prop} (ty : TypeId) (xo yo : Operand) (ho : op.op = .store ty xo yo) (i : Nat) (x : α)
    (hx : a.eval xo = .pointer (some ⟨g, i * sz, none⟩)) (hy : a.eval yo = .agg (gf x).toArray) (hown : w.ownsRow base T sz (.slice (some ⟨g, 0, none⟩) nn cap) nn (l.flatMap gf)) (hl : l.length = nn) (hi : i < l.length) (hg : ∀ x, (gf x).length = sz)
    (hin : (P.info? ty).map (·.size) = some sz) (h1 : ∀ u ∈ gf x, u.oneCell' = true)
    (h : ∀ w', w'.ownsRow base T sz (.slice (some ⟨g, 0, none⟩) nn cap) nn ((l.set i x).flatMap gf) → Chg (fun q => q = g) w w' → K (a.put op.dst undef) w') : op.wp P a w K Q := by
  have hlen : i * sz + sz ≤ nn * sz := by rw [← Nat.succ_mul, ← hl]; exact Nat.mul_le_mul_right sz hi
  have hth : w.there g (i * sz) (gf x).toArray.size := fun j hj => by
    have hj' : j < sz := by simpa [hg] using hj
    refine ⟨?_, hown.frozenAt _⟩
    rw [hown.cellAt (i * sz + j) (by omega), List.getElem?_eq_getElem (by rw [flat_len hg, hl]; omega)]; rfl
  refine wp_store_mid ty xo yo ho g (i * sz) (gf x).toArray hx hy hth (by rw [hin]; simp [hg]) (by simp only [List.all_toArray, List.all_eq_true]; exact h1) ?_
  obtain ⟨ys, h3, h4, h5⟩ := setCells_own (w := w) (m := 0) (gf x) (i * sz) _ w hown
  have e := flat_set hg l i x hi ys h4 h5
  rw [e] at h3
  exact h _ h3 (chg_setCells g _ _ w)
set_option maxRecDepth 100000 in
set_option maxHeartbeats 8000000 in
theorem swap_calls (l : List Tmr) (M : List (Int × Value)) (i k bc hb mb g cap : Nat) (most : Int) (w : World)
    (hc : At w bc #[.pointer (some ⟨hb, 0, none⟩)]) (hh : At w hb #[.slice (some ⟨g, 0, none⟩) l.length cap, .map (some mb), .int .i64 most]) (ho : w.ownsRow 0 29 2 (.slice (some ⟨g, 0, none⟩) l.length cap) l.length (l.flatMap tmrC)) (hm : MpS w mb .i64 M) (hf : Fits l M) (hids : Ids l) (hil : i < l.length) (hkl : k < l.length) (hln : l.length ≤ 100000)
    (hd1 : g ≠ hb) (hd2 : mb ≠ hb) (hd3 : g ≠ bc) (hd4 : mb ≠ bc) (hd5 : g ≠ mb) :
    Calls Try.prog 46 #[.int .i64 i, .int .i64 k, .pointer (some ⟨bc, 0, none⟩)] w fun e w' => e = .returned (.tuple #[]) ∧ Chg (fun q => q = g ∨ q = mb) w w' ∧ At w' hb #[.slice (some ⟨g, 0, none⟩) l.length cap, .map (some mb), .int .i64 most] ∧
      w'.ownsRow 0 29 2 (.slice (some ⟨g, 0, none⟩) l.length cap) l.length ((swp l i k).flatMap tmrC) ∧ MpS w' mb .i64 (mput (at_ l i).id (.int .i64 k) (mput (at_ l k).id (.int .i64 i) M)) := by
  obtain ⟨x, hx⟩ : ∃ x, x = at_ l i := ⟨_, rfl⟩
  obtain ⟨y, hy⟩ : ∃ y, y = at_ l k := ⟨_, rfl⟩
  have hsw : swp l i k = (l.set i y).set k x := by rw [hx, hy]; rfl
  have LY := Lib.hid (show mlook y.id M ≠ none by rw [hy, hf.1 k hkl]; simp)
  have LX := Lib.hid (show mlook x.id (mput y.id (.int .i64 (i : Nat)) M) ≠ none by
    rw [mlook_put]
    split
    · simp
    · rw [hx, hf.1 i hil]; simp)
  have HSI := Lib.hid (show at_ (swp l i k) i = y by
    rw [at_swp hil hkl, ← hx, ← hy]
    by_cases e : i = k
    · rw [if_pos e, hx, hy, e]
    · rw [if_neg e, if_pos rfl])
  have HSK := Lib.hid (show at_ (swp l i k) k = x by rw [at_swp hil hkl, if_pos rfl, hx])
  have HI := Lib.hid hx; have HK := Lib.hid hy
  have HC := Lib.hid hc; have HH := Lib.hid hh; have HO := Lib.hid ho; have HM := Lib.hid hm
  have i1 : (0 : Int) ≤ (i : Int) := by omega
  have i2 : (i : Int) < l.length := by omega
  have k1 : (0 : Int) ≤ (k : Int) := by omega
  have k2 : (k : Int) < l.length := by omega
  rw [← hx, ← hy]
  clear hx hy hc hh ho hm hf hids
  go_enter Try.func46, Try.ntmps46
  go_upto_region 0 with fail
  refine wp_region_held_drew (S := fun w' => Chg (fun q => q = g) w w') (by kernel_rfl) (Chg.drew (Chg.refl _ _)) (fun hHeld => ?_)
  refine wpAnyH_take' (i := 0) (v := ?av0) (some 5) rfl rfl (by kernel_rfl) (by kernel_rfl) (by kernel_rfl) (fun _ _ _ h => h) (Or.inl ⟨by rfl, ?ay0⟩) hHeld ?_
  case ay0 =>
    intro w' hSw
    have kc := (at_chg HC.out (by simp) hSw (show ¬ (bc = g) by omega)).1
    have kh := (at_chg HH.out (by simp) hSw (show ¬ (hb = g) by omega)).1
    go_simp
    try with_reducible rfl
  refine wpAnyH_take' (i := 1) (v := ?av1) (some 6) rfl rfl (by kernel_rfl) (by kernel_rfl) (by kernel_rfl) (fun _ _ _ h => h) (Or.inl ⟨by rfl, ?ay1⟩) hHeld ?_
  case ay1 =>
    intro w' hSw
    go_simp
    try with_reducible rfl
  refine wpAnyH_take' (i := 2) (v := ?av2) (some 7) rfl rfl (by kernel_rfl) (by kernel_rfl) (by kernel_rfl) (fun _ _ _ h => h) (Or.inl ⟨by rfl, ?ay2⟩) hHeld ?_
  case ay2 =>
    intro w' hSw
    go_simp
    try with_reducible rfl
  refine wpAnyH_take' (i := 3) (v := ?av3) (some 8) rfl rfl (by kernel_rfl) (by kernel_rfl) (by kernel_rfl) (fun _ _ _ h => h) (Or.inl ⟨by rfl, ?ay3⟩) hHeld ?_
  case ay3 =>
    intro w' hSw
    have kc := (at_chg HC.out (by simp) hSw (show ¬ (bc = g) by omega)).1
    have kh := (at_chg HH.out (by simp) hSw (show ¬ (hb = g) by omega)).1
    go_simp
    try with_reducible rfl
  refine wpAnyH_take' (i := 4) (v := ?av4) (some 9) rfl rfl (by kernel_rfl) (by kernel_rfl) (by kernel_rfl) (fun _ _ _ h => h) (Or.inl ⟨by rfl, ?ay4⟩) hHeld ?_
  case ay4 =>
    intro w' hSw
    go_simp
    try with_reducible rfl
  refine wpAnyH_take' (i := 5) (v := ?av5) (some 10) rfl rfl (by kernel_rfl) (by kernel_rfl) (by kernel_rfl) (fun _ _ _ h => h) (Or.inl ⟨by rfl, ?ay5⟩) hHeld ?_
  case ay5 =>
    intro w' hSw
    have kc := (at_chg HC.out (by simp) hSw (show ¬ (bc = g) by omega)).1
    have kh := (at_chg HH.out (by simp) hSw (show ¬ (hb = g) by omega)).1
    go_simp
    try with_reducible rfl
  refine wpAnyH_take' (i := 6) (v := ?av6) (some 11) rfl rfl (by kernel_rfl) (by kernel_rfl) (by kernel_rfl) (fun _ _ _ h => h) (Or.inl ⟨by rfl, ?ay6⟩) hHeld ?_
  case ay6 =>
    intro w' hSw
    go_simp
    try with_reducible rfl
  refine wpAnyH_take' (i := 7) (v := ?av7) (some 12) rfl rfl (by kernel_rfl) (by kernel_rfl) (by kernel_rfl) (fun _ _ _ h => h) (Or.inl ⟨by rfl, ?ay7⟩) hHeld ?_
  case ay7 =>
    intro w' hSw
    go_simp
    try with_reducible rfl
  refine wpAnyH_take' (i := 8) (v := ?av8) (some 13) rfl rfl (by kernel_rfl) (by kernel_rfl) (by kernel_rfl) (fun _ _ _ h => h) (Or.inl ⟨by rfl, ?ay8⟩) hHeld ?_
  case ay8 =>
    intro w' hSw
    have kc := (at_chg HC.out (by simp) hSw (show ¬ (bc = g) by omega)).1
    have kh := (at_chg HH.out (by simp) hSw (show ¬ (hb = g) by omega)).1
    go_simp
    try with_reducible rfl
  refine wpAnyH_take' (i := 9) (v := ?av9) (some 14) rfl rfl (by kernel_rfl) (by kernel_rfl) (by kernel_rfl) (fun _ _ _ h => h) (Or.inl ⟨by rfl, ?ay9⟩) hHeld ?_
  case ay9 =>
    intro w' hSw
    go_simp
    try with_reducible rfl
  refine wpAnyH_take' (i := 10) (v := ?av10) (some 15) rfl rfl (by kernel_rfl) (by kernel_rfl) (by kernel_rfl) (fun _ _ _ h => h) (Or.inl ⟨by rfl, ?ay10⟩) hHeld ?_
  case ay10 =>
    intro w' hSw
    have kc := (at_chg HC.out (by simp) hSw (show ¬ (bc = g) by omega)).1
    have kh := (at_chg HH.out (by simp) hSw (show ¬ (hb = g) by omega)).1
    go_simp
    try with_reducible rfl
  refine wpAnyH_take' (i := 11) (v := ?av11) (some 16) rfl rfl (by kernel_rfl) (by kernel_rfl) (by kernel_rfl) (fun _ _ _ h => h) (Or.inl ⟨by rfl, ?ay11⟩) hHeld ?_
  case ay11 =>
    intro w' hSw
    go_simp
    try with_reducible rfl
  refine wpAnyH_take' (i := 12) (v := ?av12) (some 17) rfl rfl (by kernel_rfl) (by kernel_rfl) (by kernel_rfl) (fun _ _ _ h => h) (Or.inl ⟨by rfl, ?ay12⟩) hHeld ?_
  case ay12 =>
    intro w' hSw
    go_simp
    try with_reducible rfl
  refine wpAnyH_take' (i := 13) (v := ?av13) (some 18) rfl rfl (by kernel_rfl) (by kernel_rfl) (by kernel_rfl) (fun _ _ _ h => h) (Or.inl ⟨by rfl, ?ay13⟩) hHeld ?_
  case ay13 =>
    intro w' hSw
    have kc := (at_chg HC.out (by simp) hSw (show ¬ (bc = g) by omega)).1
    have kh := (at_chg HH.out (by simp) hSw (show ¬ (hb = g) by omega)).1
    go_simp
    try with_reducible rfl
  refine wpAnyH_take' (i := 14) (v := ?av14) (some 19) rfl rfl (by kernel_rfl) (by kernel_rfl) (by kernel_rfl) (fun _ _ _ h => h) (Or.inl ⟨by rfl, ?ay14⟩) hHeld ?_
  case ay14 =>
    intro w' hSw
    go_simp
    try with_reducible rfl
  refine wpAnyH_take' (i := 15) (v := ?av15) (some 20) rfl rfl (by kernel_rfl) (by kernel_rfl) (by kernel_rfl) (fun _ _ _ h => h) (Or.inl ⟨by rfl, ?ay15⟩) hHeld ?_
  case ay15 =>
    intro w' hSw
    go_simp
    try with_reducible rfl
  refine wpAnyH_take' (i := 17) (v := ?av17) (some 22) rfl rfl (by kernel_rfl) (by kernel_rfl) (by kernel_rfl) (fun _ _ _ h => h) (Or.inl ⟨by rfl, ?ay17⟩) hHeld ?_
  case ay17 =>
    intro w' hSw
    have kc := (at_chg HC.out (by simp) hSw (show ¬ (bc = g) by omega)).1
    have kh := (at_chg HH.out (by simp) hSw (show ¬ (hb = g) by omega)).1
    go_simp
    try with_reducible rfl
  refine wpAnyH_take' (i := 18) (v := ?av18) (some 23) rfl rfl (by kernel_rfl) (by kernel_rfl) (by kernel_rfl) (fun _ _ _ h => h) (Or.inl ⟨by rfl, ?ay18⟩) hHeld ?_
  case ay18 =>
    intro w' hSw
    go_simp
    try with_reducible rfl
  refine wpAnyH_take' (i := 19) (v := ?av19) (some 24) rfl rfl (by kernel_rfl) (by kernel_rfl) (by kernel_rfl) (fun _ _ _ h => h) (Or.inl ⟨by rfl, ?ay19⟩) hHeld ?_
  case ay19 =>
    intro w' hSw
    go_simp
    try with_reducible rfl
  refine wpAnyH_take' (i := 20) (v := ?av20) (some 25) rfl rfl (by kernel_rfl) (by kernel_rfl) (by kernel_rfl) (fun _ _ _ h => h) (Or.inl ⟨by rfl, ?ay20⟩) hHeld ?_
  case ay20 =>
    intro w' hSw
    have kc := (at_chg HC.out (by simp) hSw (show ¬ (bc = g) by omega)).1
    have kh := (at_chg HH.out (by simp) hSw (show ¬ (hb = g) by omega)).1
    go_simp
    try with_reducible rfl
  refine wpAnyH_take' (i := 21) (v := ?av21) (some 26) rfl rfl (by kernel_rfl) (by kernel_rfl) (by kernel_rfl) (fun _ _ _ h => h) (Or.inl ⟨by rfl, ?ay21⟩) hHeld ?_
  case ay21 =>
    intro w' hSw
    go_simp
    try with_reducible rfl
  refine wpAnyH_take' (i := 22) (v := ?av22) (some 27) rfl rfl (by kernel_rfl) (by kernel_rfl) (by kernel_rfl) (fun _ _ _ h => h) (Or.inl ⟨by rfl, ?ay22⟩) hHeld ?_
  case ay22 =>
    intro w' hSw
    go_simp
    try with_reducible rfl
  refine wpAnyH_at 28 (fun a0 W0 L' a' w' => ∃ u21 u28 u29 u30 : Value, a' = frm [(21, u21), (28, u28), (29, u29), (30, u30)] a0 ∧ Chg (fun q => q = g) w w' ∧ w'.ownsRow 0 29 2 (.slice (some ⟨g, 0, none⟩) l.length cap) l.length (bif L' 27 then (((l.set i y).set k x).flatMap tmrC) else bif L' 25 then ((l.set i y).flatMap tmrC) else (l.flatMap tmrC)) ∧ Aft (L' 16) (u21 = .agg #[.int .i64 y.due, .int .i64 y.id]) ∧ Aft (L' 23) (u28 = .agg #[.int .i64 x.due, .int .i64 x.id]) ∧ Aft (L' 24) (u29 = .pointer (some ⟨g, i * 2, none⟩)) ∧ Aft (L' 26) (u30 = .pointer (some ⟨g, k * 2, none⟩))) [16, 23, 24, 25, 26, 27] [0, 1, 2, 3, 4, 5, 6, 7, 8, 9, 10, 11, 12, 13, 14, 15, 16, 17, 18, 19, 20, 21, 22, 23, 24, 25, 26, 27] (by kernel_rfl) (by kernel_rfl) (by kernel_rfl) (fun _ _ _ h => by obtain ⟨_, _, _, _, _, hC, _⟩ := h; exact hC) ?ai0 ?ast ?aen
  case ai0 => exact ⟨_, _, _, _, (frm_rd [21, 28, 29, 30] _).symm, (Chg.drew (Chg.refl _ _)), (own_chgS HO.out (Chg.drew (Chg.refl (fun _ => False) _)) (fun _ _ h => h)), (Aft.no (by kernel_rfl)), (Aft.no (by kernel_rfl)), (Aft.no (by kernel_rfl)), (Aft.no (by kernel_rfl))⟩
  case ast =>
    refine StepsI.cons [] [24, 25, 26, 27] 28 rfl (by kernel_rfl) (by kernel_rfl) ?as16 ?_
    case as16 =>
      rintro L' a' w' K' hi hp hn ⟨u21, u28, u29, u30, rfl, hC, hO, h16, h23, h24, h26⟩ hK
      have n25 := hn 25 (by simp)
      have n27 := hn 27 (by simp)
      have ho := hO
      simp only [n25, n27, cond_false] at ho
      obtain ⟨d0, d1⟩ := row_cells rfl ho hkl
      rw [← HK.out] at d0 d1
      have lg := own_lt ho
      refine Stp.mk ?_
      rw [if_pos (by rfl)]
      go_simp
      exact hK.out _ _ ⟨(.agg #[.int .i64 y.due, .int .i64 y.id]), u28, u29, u30, by kernel_rfl, hC, hO, (Aft.new rfl), h23, h24, h26⟩
    refine StepsI.cons [] [24, 25, 26, 27] 28 rfl (by kernel_rfl) (by kernel_rfl) ?as23 ?_
    case as23 =>
      rintro L' a' w' K' hi hp hn ⟨u21, u28, u29, u30, rfl, hC, hO, h16, h23, h24, h26⟩ hK
      have n25 := hn 25 (by simp)
      have n27 := hn 27 (by simp)
      have ho := hO
      simp only [n25, n27, cond_false] at ho
      obtain ⟨d0, d1⟩ := row_cells rfl ho hil
      rw [← HI.out] at d0 d1
      have lg := own_lt ho
      refine Stp.mk ?_
      rw [if_pos (by rfl)]
      go_simp
      exact hK.out _ _ ⟨u21, (.agg #[.int .i64 x.due, .int .i64 x.id]), u29, u30, by kernel_rfl, hC, hO, h16, (Aft.new rfl), h24, h26⟩
    refine StepsI.cons [16, 23] [25, 26, 27] 28 rfl (by kernel_rfl) (by kernel_rfl) ?as24 ?_
    case as24 =>
      rintro L' a' w' K' hi hp hn ⟨u21, u28, u29, u30, rfl, hC, hO, h16, h23, h24, h26⟩ hK
      refine Stp.mk ?_
      rw [if_pos (by rfl)]
      go_simp
      exact hK.out _ _ ⟨u21, u28, (.pointer (some ⟨g, i * 2, none⟩)), u30, by kernel_rfl, hC, hO, h16, h23, (Aft.new rfl), h26⟩
    refine StepsI.cons [16, 23, 24] [26, 27] 28 rfl (by kernel_rfl) (by kernel_rfl) ?as25 ?_
    case as25 =>
      rintro L' a' w' K' hi hp hn ⟨u21, u28, u29, u30, rfl, hC, hO, h16, h23, h24, h26⟩ hK
      have n27 := hn 27 (by simp)
      have ho := hO
      simp only [hi, n27, cond_false] at ho
      have e1 := h24.get (hp 24 (by simp))
      have e2 := h16.get (hp 16 (by simp))
      refine Stp.mk ?_
      rw [if_pos (by rfl)]
      with_reducible refine wp_storeR 29 (.tmp 29) (.tmp 21) ?sa25 (gf := tmrC) (l := l) i y ?sb25 ?sc25 ho ?sd25 ?se25 ?sf25 ?sg25 ?sh25 ?si25
      case sa25 => rfl
      case sb25 => exact Eq.trans (by kernel_rfl) e1
      case sc25 => exact Eq.trans (by kernel_rfl) e2
      case sd25 => simp
      case se25 => simpa using hil
      case sf25 => exact fun _ => rfl
      case sg25 => kernel_rfl
      case sh25 => exact oneCell_tmr _
      intro w1 ho1 hc1
      exact hK.out _ _ ⟨u21, u28, u29, u30, by kernel_rfl, (hC.trans hc1), (by simp only [show upd L' 25 27 = false from n27, upd_self, cond_true, cond_false]; exact ho1), h16, h23, h24, h26⟩
    refine StepsI.cons [16, 23, 24, 25] [27] 28 rfl (by kernel_rfl) (by kernel_rfl) ?as26 ?_
    case as26 =>
      rintro L' a' w' K' hi hp hn ⟨u21, u28, u29, u30, rfl, hC, hO, h16, h23, h24, h26⟩ hK
      refine Stp.mk ?_
      rw [if_pos (by rfl)]
      go_simp
      exact hK.out _ _ ⟨u21, u28, u29, (.pointer (some ⟨g, k * 2, none⟩)), by kernel_rfl, hC, hO, h16, h23, h24, (Aft.new rfl)⟩
    refine StepsI.cons [16, 23, 24, 25, 26] [] 28 rfl (by kernel_rfl) (by kernel_rfl) ?as27 ?_
    case as27 =>
      rintro L' a' w' K' hi hp hn ⟨u21, u28, u29, u30, rfl, hC, hO, h16, h23, h24, h26⟩ hK
      have p25 := hp 25 (by simp)
      have ho := hO
      simp only [hi, p25, cond_true, cond_false] at ho
      have e1 := h26.get (hp 26 (by simp))
      have e2 := h23.get (hp 23 (by simp))
      refine Stp.mk ?_
      rw [if_pos (by rfl)]
      with_reducible refine wp_storeR 29 (.tmp 30) (.tmp 28) ?sa27 (gf := tmrC) (l := (l.set i y)) k x ?sb27 ?sc27 ho ?sd27 ?se27 ?sf27 ?sg27 ?sh27 ?si27
      case sa27 => rfl
      case sb27 => exact Eq.trans (by kernel_rfl) e1
      case sc27 => exact Eq.trans (by kernel_rfl) e2
      case sd27 => simp
      case se27 => simpa using hkl
      case sf27 => exact fun _ => rfl
      case sg27 => kernel_rfl
      case sh27 => exact oneCell_tmr _
      intro w1 ho1 hc1
      exact hK.out _ _ ⟨u21, u28, u29, u30, by kernel_rfl, (hC.trans hc1), (by simp only [upd_self, cond_true]; exact ho1), h16, h23, h24, h26⟩
    exact StepsI.nil
  rintro L' a' W1 hL ⟨u21, u28, u29, u30, rfl, hC, hO, h16, h23, h24, h26⟩
  have l27 := hL 27 (by decide)
  simp only [l27, cond_true] at hO
  rw [← hsw] at hO
  have HC1 := Lib.hid hC
  have HO1 := Lib.hid hO
  have HH1 := Lib.hid (at_chg HH.out (by simp) hC (show ¬ (hb = g) by omega))
  have HCC1 := Lib.hid (at_chg HC.out (by simp) hC (show ¬ (bc = g) by omega))
  have HM1 := Lib.hid (HM.out.chg hC (show ¬ (mb = g) by omega))
  clear hC hO h16 h23 h24 h26 l27 hL hHeld HH HC HO HM hsw
  simp only [frm_cons, frm_nil]
  obtain ⟨W1', hw1⟩ : ∃ W1', W1' = W1 := ⟨_, rfl⟩
  clear hw1
  go_upto_region 1 with fail
  refine wp_at ?_
  intro W2 hW
  obtain rfl : W1 = W2 := hW.symm
  refine wp_region_held_drew (S := fun w' => Chg (fun q => q = mb) W1 w') (by kernel_rfl) (Chg.drew (Chg.refl _ _)) (fun hHeld => ?_)
  refine wpAnyH_take' (i := 0) (v := ?bv0) (some 31) rfl rfl (by kernel_rfl) (by kernel_rfl) (by kernel_rfl) (fun _ _ _ h => h) (Or.inl ⟨by rfl, ?by0⟩) hHeld ?_
  case by0 =>
    intro w' hSw
    have kc := (at_chg HCC1.out (by simp) hSw (show ¬ (bc = mb) by omega)).1
    have kh := (at_chg HH1.out (by simp) hSw (show ¬ (hb = mb) by omega)).1
    go_simp
    try with_reducible rfl
  refine wpAnyH_take' (i := 1) (v := ?bv1) (some 32) rfl rfl (by kernel_rfl) (by kernel_rfl) (by kernel_rfl) (fun _ _ _ h => h) (Or.inl ⟨by rfl, ?by1⟩) hHeld ?_
  case by1 =>
    intro w' hSw
    go_simp
    try with_reducible rfl
  refine wpAnyH_take' (i := 2) (v := ?bv2) (some 33) rfl rfl (by kernel_rfl) (by kernel_rfl) (by kernel_rfl) (fun _ _ _ h => h) (Or.inl ⟨by rfl, ?by2⟩) hHeld ?_
  case by2 =>
    intro w' hSw
    go_simp
    try with_reducible rfl
  refine wpAnyH_take' (i := 3) (v := ?bv3) (some 34) rfl rfl (by kernel_rfl) (by kernel_rfl) (by kernel_rfl) (fun _ _ _ h => h) (Or.inl ⟨by rfl, ?by3⟩) hHeld ?_
  case by3 =>
    intro w' hSw
    have kc := (at_chg HCC1.out (by simp) hSw (show ¬ (bc = mb) by omega)).1
    have kh := (at_chg HH1.out (by simp) hSw (show ¬ (hb = mb) by omega)).1
    go_simp
    try with_reducible rfl
  refine wpAnyH_take' (i := 4) (v := ?bv4) (some 35) rfl rfl (by kernel_rfl) (by kernel_rfl) (by kernel_rfl) (fun _ _ _ h => h) (Or.inl ⟨by rfl, ?by4⟩) hHeld ?_
  case by4 =>
    intro w' hSw
    have kc := (at_chg HCC1.out (by simp) hSw (show ¬ (bc = mb) by omega)).1
    have kh := (at_chg HH1.out (by simp) hSw (show ¬ (hb = mb) by omega)).1
    go_simp
    try with_reducible rfl
  refine wpAnyH_take' (i := 5) (v := ?bv5) (some 36) rfl rfl (by kernel_rfl) (by kernel_rfl) (by kernel_rfl) (fun _ _ _ h => h) (Or.inl ⟨by rfl, ?by5⟩) hHeld ?_
  case by5 =>
    intro w' hSw
    go_simp
    try with_reducible rfl
  refine wpAnyH_take' (i := 6) (v := ?bv6) (some 37) rfl rfl (by kernel_rfl) (by kernel_rfl) (by kernel_rfl) (fun _ _ _ h => h) (Or.inl ⟨by rfl, ?by6⟩) hHeld ?_
  case by6 =>
    intro w' hSw
    go_simp
    try with_reducible rfl
  refine wpAnyH_take' (i := 7) (v := ?bv7) (some 38) rfl rfl (by kernel_rfl) (by kernel_rfl) (by kernel_rfl) (fun _ _ _ h => h) (Or.inl ⟨by rfl, ?by7⟩) hHeld ?_
  case by7 =>
    intro w' hSw
    have kc := (at_chg HCC1.out (by simp) hSw (show ¬ (bc = mb) by omega)).1
    have kh := (at_chg HH1.out (by simp) hSw (show ¬ (hb = mb) by omega)).1
    go_simp
    try with_reducible rfl
  refine wpAnyH_take' (i := 8) (v := ?bv8) (some 39) rfl rfl (by kernel_rfl) (by kernel_rfl) (by kernel_rfl) (fun _ _ _ h => h) (Or.inl ⟨by rfl, ?by8⟩) hHeld ?_
  case by8 =>
    intro w' hSw
    go_simp
    try with_reducible rfl
  refine wpAnyH_take' (i := 9) (v := ?bv9) (some 40) rfl rfl (by kernel_rfl) (by kernel_rfl) (by kernel_rfl) (fun _ _ _ h => h) (Or.inl ⟨by rfl, ?by9⟩) hHeld ?_
  case by9 =>
    intro w' hSw
    go_simp
    try with_reducible rfl
  refine wpAnyH_take' (i := 10) (v := ?bv10) (some 41) rfl rfl (by kernel_rfl) (by kernel_rfl) (by kernel_rfl) (fun _ _ _ h => h) (Or.inl ⟨by rfl, ?by10⟩) hHeld ?_
  case by10 =>
    intro w' hSw
    go_simp
    try with_reducible rfl
  refine wpAnyH_take' (i := 11) (v := ?bv11) (some 42) rfl rfl (by kernel_rfl) (by kernel_rfl) (by kernel_rfl) (fun _ _ _ h => h) (Or.inl ⟨by rfl, ?by11⟩) hHeld ?_
  case by11 =>
    intro w' hSw
    have ho := own_chgS HO1.out hSw (fun q e (h : q = mb) => by simp [Value.ownBlock] at e; omega)
    obtain ⟨d0, d1⟩ := row_cells (swp_length l i k) ho (show i < (swp l i k).length by rw [swp_length]; exact hil)
    rw [HSI.out] at d0 d1
    have lg := own_lt ho
    go_simp
    try with_reducible rfl
  refine wpAnyH_take' (i := 12) (v := ?bv12) (some 43) rfl rfl (by kernel_rfl) (by kernel_rfl) (by kernel_rfl) (fun _ _ _ h => h) (Or.inl ⟨by rfl, ?by12⟩) hHeld ?_
  case by12 =>
    intro w' hSw
    have kc := (at_chg HCC1.out (by simp) hSw (show ¬ (bc = mb) by omega)).1
    have kh := (at_chg HH1.out (by simp) hSw (show ¬ (hb = mb) by omega)).1
    go_simp
    try with_reducible rfl
  refine wpAnyH_take' (i := 13) (v := ?bv13) (some 44) rfl rfl (by kernel_rfl) (by kernel_rfl) (by kernel_rfl) (fun _ _ _ h => h) (Or.inl ⟨by rfl, ?by13⟩) hHeld ?_
  case by13 =>
    intro w' hSw
    go_simp
    try with_reducible rfl
  refine wpAnyH_take' (i := 14) (v := ?bv14) (some 45) rfl rfl (by kernel_rfl) (by kernel_rfl) (by kernel_rfl) (fun _ _ _ h => h) (Or.inl ⟨by rfl, ?by14⟩) hHeld ?_
  case by14 =>
    intro w' hSw
    go_simp
    try with_reducible rfl
  refine wpAnyH_take' (i := 15) (v := ?bv15) (some 46) rfl rfl (by kernel_rfl) (by kernel_rfl) (by kernel_rfl) (fun _ _ _ h => h) (Or.inl ⟨by rfl, ?by15⟩) hHeld ?_
  case by15 =>
    intro w' hSw
    have kc := (at_chg HCC1.out (by simp) hSw (show ¬ (bc = mb) by omega)).1
    have kh := (at_chg HH1.out (by simp) hSw (show ¬ (hb = mb) by omega)).1
    go_simp
    try with_reducible rfl
  refine wpAnyH_take' (i := 16) (v := ?bv16) (some 47) rfl rfl (by kernel_rfl) (by kernel_rfl) (by kernel_rfl) (fun _ _ _ h => h) (Or.inl ⟨by rfl, ?by16⟩) hHeld ?_
  case by16 =>
    intro w' hSw
    have kc := (at_chg HCC1.out (by simp) hSw (show ¬ (bc = mb) by omega)).1
    have kh := (at_chg HH1.out (by simp) hSw (show ¬ (hb = mb) by omega)).1
    go_simp
    try with_reducible rfl
  refine wpAnyH_take' (i := 17) (v := ?bv17) (some 48) rfl rfl (by kernel_rfl) (by kernel_rfl) (by kernel_rfl) (fun _ _ _ h => h) (Or.inl ⟨by rfl, ?by17⟩) hHeld ?_
  case by17 =>
    intro w' hSw
    go_simp
    try with_reducible rfl
  refine wpAnyH_take' (i := 18) (v := ?bv18) (some 49) rfl rfl (by kernel_rfl) (by kernel_rfl) (by kernel_rfl) (fun _ _ _ h => h) (Or.inl ⟨by rfl, ?by18⟩) hHeld ?_
  case by18 =>
    intro w' hSw
    go_simp
    try with_reducible rfl
  refine wpAnyH_take' (i := 19) (v := ?bv19) (some 50) rfl rfl (by kernel_rfl) (by kernel_rfl) (by kernel_rfl) (fun _ _ _ h => h) (Or.inl ⟨by rfl, ?by19⟩) hHeld ?_
  case by19 =>
    intro w' hSw
    have kc := (at_chg HCC1.out (by simp) hSw (show ¬ (bc = mb) by omega)).1
    have kh := (at_chg HH1.out (by simp) hSw (show ¬ (hb = mb) by omega)).1
    go_simp
    try with_reducible rfl
  refine wpAnyH_take' (i := 20) (v := ?bv20) (some 51) rfl rfl (by kernel_rfl) (by kernel_rfl) (by kernel_rfl) (fun _ _ _ h => h) (Or.inl ⟨by rfl, ?by20⟩) hHeld ?_
  case by20 =>
    intro w' hSw
    go_simp
    try with_reducible rfl
  refine wpAnyH_take' (i := 21) (v := ?bv21) (some 52) rfl rfl (by kernel_rfl) (by kernel_rfl) (by kernel_rfl) (fun _ _ _ h => h) (Or.inl ⟨by rfl, ?by21⟩) hHeld ?_
  case by21 =>
    intro w' hSw
    go_simp
    try with_reducible rfl
  refine wpAnyH_take' (i := 22) (v := ?bv22) (some 53) rfl rfl (by kernel_rfl) (by kernel_rfl) (by kernel_rfl) (fun _ _ _ h => h) (Or.inl ⟨by rfl, ?by22⟩) hHeld ?_
  case by22 =>
    intro w' hSw
    go_simp
    try with_reducible rfl
  refine wpAnyH_take' (i := 23) (v := ?bv23) (some 54) rfl rfl (by kernel_rfl) (by kernel_rfl) (by kernel_rfl) (fun _ _ _ h => h) (Or.inl ⟨by rfl, ?by23⟩) hHeld ?_
  case by23 =>
    intro w' hSw
    have ho := own_chgS HO1.out hSw (fun q e (h : q = mb) => by simp [Value.ownBlock] at e; omega)
    obtain ⟨d0, d1⟩ := row_cells (swp_length l i k) ho (show k < (swp l i k).length by rw [swp_length]; exact hkl)
    rw [HSK.out] at d0 d1
    have lg := own_lt ho
    go_simp
    try with_reducible rfl
  refine wpAnyH_take' (i := 24) (v := ?bv24) (some 55) rfl rfl (by kernel_rfl) (by kernel_rfl) (by kernel_rfl) (fun _ _ _ h => h) (Or.inl ⟨by rfl, ?by24⟩) hHeld ?_
  case by24 =>
    intro w' hSw
    go_simp
    try with_reducible rfl
  refine wpAnyH_take' (i := 25) (v := ?bv25) (some 56) rfl rfl (by kernel_rfl) (by kernel_rfl) (by kernel_rfl) (fun _ _ _ h => h) (Or.inl ⟨by rfl, ?by25⟩) hHeld ?_
  case by25 =>
    intro w' hSw
    go_simp
    try with_reducible rfl
  refine wpAnyH_at 32 (fun a0 W0 L' a' w' => ∃ u57 u58 u59 u60 : Value, a' = frm [(57, u57), (58, u58), (59, u59), (60, u60)] a0 ∧ Chg (fun q => q = mb) W1 w' ∧ MpS w' mb .i64 (bif L' 31 then (mput x.id (.int .i64 (k : Nat)) (mput y.id (.int .i64 (i : Nat)) M)) else bif L' 28 then (mput y.id (.int .i64 (i : Nat)) M) else M) ∧ Aft (L' 26) (∃ v st, u57 = .tuple #[v, .int .i64 st] ∧ Bef (L' 28) (∀ (w2 : World) (v : Value), w2.heap[mb]? = w'.heap[mb]? → ∃ w3, (Instr.entryStore 49 (.map (some mb)) (.int .i64 st) v).run Try.prog w2 = .ok () w3 ∧ MpS w3 mb .i64 (mput y.id v M) ∧ Chg (fun q => q = mb) w2 w3 ∧ w3.heap.size = w2.heap.size)) ∧ Aft (L' 27) (∃ st, u58 = .int .i64 st ∧ Bef (L' 28) (∀ (w2 : World) (v : Value), w2.heap[mb]? = w'.heap[mb]? → ∃ w3, (Instr.entryStore 49 (.map (some mb)) (.int .i64 st) v).run Try.prog w2 = .ok () w3 ∧ MpS w3 mb .i64 (mput y.id v M) ∧ Chg (fun q => q = mb) w2 w3 ∧ w3.heap.size = w2.heap.size)) ∧ Aft (L' 29) (∃ v st, u59 = .tuple #[v, .int .i64 st] ∧ Bef (L' 31) (∀ (w2 : World) (v : Value), w2.heap[mb]? = w'.heap[mb]? → ∃ w3, (Instr.entryStore 49 (.map (some mb)) (.int .i64 st) v).run Try.prog w2 = .ok () w3 ∧ MpS w3 mb .i64 (mput x.id v (mput y.id (.int .i64 (i : Nat)) M)) ∧ Chg (fun q => q = mb) w2 w3 ∧ w3.heap.size = w2.heap.size)) ∧ Aft (L' 30) (∃ st, u60 = .int .i64 st ∧ Bef (L' 31) (∀ (w2 : World) (v : Value), w2.heap[mb]? = w'.heap[mb]? → ∃ w3, (Instr.entryStore 49 (.map (some mb)) (.int .i64 st) v).run Try.prog w2 = .ok () w3 ∧ MpS w3 mb .i64 (mput x.id v (mput y.id (.int .i64 (i : Nat)) M)) ∧ Chg (fun q => q = mb) w2 w3 ∧ w3.heap.size = w2.heap.size))) [26, 27, 28, 29, 30, 31] [0, 1, 2, 3, 4, 5, 6, 7, 8, 9, 10, 11, 12, 13, 14, 15, 16, 17, 18, 19, 20, 21, 22, 23, 24, 25, 26, 27, 28, 29, 30, 31] (by kernel_rfl) (by kernel_rfl) (by kernel_rfl) (fun _ _ _ h => by obtain ⟨_, _, _, _, _, hC, _⟩ := h; exact hC) ?bi0 ?bst ?ben
  case bi0 => exact ⟨_, _, _, _, (frm_rd [57, 58, 59, 60] _).symm, (Chg.drew (Chg.refl _ _)), (HM1.out.chg (Chg.drew (Chg.refl (fun _ => False) _)) (fun h => h)), (Aft.no (by kernel_rfl)), (Aft.no (by kernel_rfl)), (Aft.no (by kernel_rfl)), (Aft.no (by kernel_rfl))⟩
  case bst =>
    refine StepsI.cons [] [27, 28, 29, 30, 31] 32 rfl (by kernel_rfl) (by kernel_rfl) ?bs26 ?_
    case bs26 =>
      rintro L' a' w' K' hi hp hn ⟨u57, u58, u59, u60, rfl, hC, hM, h26, h27, h29, h30⟩ hK
      have n28 := hn 28 (by simp)
      have n31 := hn 31 (by simp)
      have hm := hM
      simp only [n28, n31, cond_false] at hm
      obtain ⟨v0, st0, hrun, hst⟩ := run_sentry (P := Try.prog) Try.underlying49 Try.underlying3 hm y.id LY.out
      refine Stp.mk ?_
      rw [if_pos (by rfl)]
      go_simp
      exact hK.out _ _ ⟨(.tuple #[v0, .int .i64 st0]), u58, u59, u60, by kernel_rfl, hC, hM, (Aft.new ⟨v0, st0, rfl, Bef.new hst⟩), h27, h29, h30⟩
    refine StepsI.cons [26] [28, 29, 30, 31] 32 rfl (by kernel_rfl) (by kernel_rfl) ?bs27 ?_
    case bs27 =>
      rintro L' a' w' K' hi hp hn ⟨u57, u58, u59, u60, rfl, hC, hM, h26, h27, h29, h30⟩ hK
      obtain ⟨v0, st0, e1, hst⟩ := h26.get (hp 26 (by simp))
      refine Stp.mk ?_
      rw [if_pos (by rfl)]
      go_simp
      exact hK.out _ _ ⟨(.tuple #[v0, .int .i64 st0]), (.int .i64 st0), u59, u60, by kernel_rfl, hC, hM, (Aft.new ⟨v0, st0, rfl, hst⟩), (Aft.new ⟨st0, rfl, hst⟩), h29, h30⟩
    refine StepsI.cons [26, 27] [29, 30, 31] 32 rfl (by kernel_rfl) (by kernel_rfl) ?bs28 ?_
    case bs28 =>
      rintro L' a' w' K' hi hp hn ⟨u57, u58, u59, u60, rfl, hC, hM, h26, h27, h29, h30⟩ hK
      have n31 := hn 31 (by simp)
      obtain ⟨st0, e1, hst⟩ := h27.get (hp 27 (by simp))
      obtain ⟨w1, hrun, hm1, hc1, hz1⟩ := hst.get hi w' (.int .i64 (i : Nat)) rfl
      refine Stp.mk ?_
      rw [if_pos (by rfl)]
      go_simp
      exact hK.out _ _ ⟨u57, (.int .i64 st0), u59, u60, by kernel_rfl, (hC.trans hc1), (by simp only [show upd L' 28 31 = false from n31, upd_self, cond_true, cond_false]; exact hm1), (h26.map fun ⟨v, st, e, h⟩ => ⟨v, st, e, Bef.no rfl⟩), (Aft.new ⟨st0, rfl, Bef.no rfl⟩), (Aft.no (hn 29 (by simp))), (Aft.no (hn 30 (by simp)))⟩
    refine StepsI.cons [26, 27, 28] [30, 31] 32 rfl (by kernel_rfl) (by kernel_rfl) ?bs29 ?_
    case bs29 =>
      rintro L' a' w' K' hi hp hn ⟨u57, u58, u59, u60, rfl, hC, hM, h26, h27, h29, h30⟩ hK
      have p28 := hp 28 (by simp)
      have n31 := hn 31 (by simp)
      have hm := hM
      simp only [p28, n31, cond_true, cond_false] at hm
      obtain ⟨v0, st0, hrun, hst⟩ := run_sentry (P := Try.prog) Try.underlying49 Try.underlying3 hm x.id LX.out
      refine Stp.mk ?_
      rw [if_pos (by rfl)]
      go_simp
      exact hK.out _ _ ⟨u57, u58, (.tuple #[v0, .int .i64 st0]), u60, by kernel_rfl, hC, hM, h26, h27, (Aft.new ⟨v0, st0, rfl, Bef.new hst⟩), h30⟩
    refine StepsI.cons [26, 27, 28, 29] [31] 32 rfl (by kernel_rfl) (by kernel_rfl) ?bs30 ?_
    case bs30 =>
      rintro L' a' w' K' hi hp hn ⟨u57, u58, u59, u60, rfl, hC, hM, h26, h27, h29, h30⟩ hK
      obtain ⟨v0, st0, e1, hst⟩ := h29.get (hp 29 (by simp))
      refine Stp.mk ?_
      rw [if_pos (by rfl)]
      go_simp
      exact hK.out _ _ ⟨u57, u58, (.tuple #[v0, .int .i64 st0]), (.int .i64 st0), by kernel_rfl, hC, hM, h26, h27, (Aft.new ⟨v0, st0, rfl, hst⟩), (Aft.new ⟨st0, rfl, hst⟩)⟩
    refine StepsI.cons [26, 27, 28, 29, 30] [] 32 rfl (by kernel_rfl) (by kernel_rfl) ?bs31 ?_
    case bs31 =>
      rintro L' a' w' K' hi hp hn ⟨u57, u58, u59, u60, rfl, hC, hM, h26, h27, h29, h30⟩ hK
      obtain ⟨st0, e1, hst⟩ := h30.get (hp 30 (by simp))
      obtain ⟨w1, hrun, hm1, hc1, hz1⟩ := hst.get hi w' (.int .i64 (k : Nat)) rfl
      refine Stp.mk ?_
      rw [if_pos (by rfl)]
      go_simp
      exact hK.out _ _ ⟨u57, u58, u59, (.int .i64 st0), by kernel_rfl, (hC.trans hc1), (by simp only [upd_self, cond_true]; exact hm1), (h26.map fun ⟨v, st, e, h⟩ => ⟨v, st, e, Bef.no (hp 28 (by simp))⟩), (h27.map fun ⟨st, e, h⟩ => ⟨st, e, Bef.no (hp 28 (by simp))⟩), (h29.map fun ⟨v, st, e, h⟩ => ⟨v, st, e, Bef.no rfl⟩), (Aft.new ⟨st0, rfl, Bef.no rfl⟩)⟩
    exact StepsI.nil
  rintro L' a' W3 hL ⟨u57, u58, u59, u60, rfl, hC, hM, h26, h27, h29, h30⟩
  have l31 := hL 31 (by decide)
  simp only [l31, cond_true] at hM
  have HF1 := Lib.hid (show Chg (fun q => q = g ∨ q = mb) w W3 from (HC1.out.mono (fun _ _ h => .inl h)).trans (hC.mono (fun _ _ h => .inr h)))
  have HO3 := Lib.hid (own_chgS HO1.out hC (fun q e (h : q = mb) => by simp [Value.ownBlock] at e; omega))
  have HH3 := Lib.hid (at_chg HH1.out (by simp) hC (show ¬ (hb = mb) by omega))
  have HM3 := Lib.hid hM
  clear hC hM h26 h27 h29 h30 l31 hL hHeld
  simp only [frm_cons, frm_nil]
  go_wp2
  go_end0
  exact ⟨rfl, HF1.out, HH3.out, HO3.out, HM3.out⟩
end Go.Proofs.Ytkicofagjebnjaa

/- What program's functions do: has an instruction what its Op has. -/
import Derived.Test.YtpfkpdimjljeaaaA10
import Derived.Test.YtpfkpdimjljeaaaB10
import Derived.Test.YtpfkpdimjljeaaaWn
namespace Go.Proofs.Ytpfkpdimjljeaaa
open Go.RowKit
set_option linter.unusedVariables false
set_option linter.unusedSimpArgs false

theorem ba_empty (s : ByteArray) : s.toList.isEmpty = decide (s.size = 0) := by
  rw [ByteArray.toList_eq]
  obtain ⟨d⟩ := s
  show d.toList.isEmpty = decide (d.size = 0)
  obtain ⟨l⟩ := d
  cases l <;> simp
theorem ret_bool {a b : Bool} (h : a = b) : Ending.returned (.bool a) = .returned (.bool b) := by rw [h]
theorem with_R {P : Program} {md : Region.Mode} {ops : Array Oper} {Q : Exit → Act → World → Prop} {S : World → Prop} {f0 : Nat} {l0 : Array Bool} {a0 : Act} {w0 : World}
    (h : ∀ R : Nat → Array Bool → Act → World → Prop, (∀ f l a w, wpAnyH P md ops Q S f l a w → R f l a w) → (∀ f l a w, R f l a w → wpAnyH P md ops Q S f l a w) → R f0 l0 a0 w0) : wpAnyH P md ops Q S f0 l0 a0 w0 := h _ (fun _ _ _ _ h => h) (fun _ _ _ _ h => h)
theorem cell_spot2 {w : World} {a : Addr} {v : Value} (h : w.cell? a = some v) : a.block < w.heap.size := World.block_lt_of_cell? w a h
theorem cell_keep {w w' : World} (hx : Ext w w') {b i : Nat} {u : Value} (h : w.cell? ⟨b, i, none⟩ = some u) : w'.cell? ⟨b, i, none⟩ = some u := by
  rw [hx.cell (p := ⟨b, i, none⟩) (cell_spot2 h)]; exact h
theorem shStr_none {o : Int} (h : ¬ (1 ≤ o ∧ o ≤ 16)) : shStr o = ⟨#[]⟩ := by
  unfold shStr
  rw [if_neg (by omega : ¬ o = 1)]; rw [if_neg (by omega : ¬ o = 2)]; rw [if_neg (by omega : ¬ o = 3)]; rw [if_neg (by omega : ¬ o = 4)]; rw [if_neg (by omega : ¬ o = 5)]; rw [if_neg (by omega : ¬ o = 6)]; rw [if_neg (by omega : ¬ o = 7)]; rw [if_neg (by omega : ¬ o = 8)]; rw [if_neg (by omega : ¬ o = 9)]; rw [if_neg (by omega : ¬ o = 10)]; rw [if_neg (by omega : ¬ o = 11)]; rw [if_neg (by omega : ¬ o = 12)]; rw [if_neg (by omega : ¬ o = 13)]; rw [if_neg (by omega : ¬ o = 14)]; rw [if_neg (by omega : ¬ o = 15)]; rw [if_neg (by omega : ¬ o = 16)]
theorem put5_1 (b c d e : Option Value) (v : Value) : ∀ k, (match pick5 none b c d e k with | some x => some x | none => if k = 114 then some v else none) = pick5 (some v) b c d e k := by
  intro k; by_cases hk : k = 114
  · subst hk; simp [pick5]
  · simp only [pick5, if_neg hk]; (repeat' split) <;> simp_all
theorem put5_2 (a c d e : Option Value) (v : Value) : ∀ k, (match pick5 a none c d e k with | some x => some x | none => if k = 106 then some v else none) = pick5 a (some v) c d e k := by
  intro k; by_cases hk : k = 106
  · subst hk; simp [pick5]
  · simp only [pick5, if_neg hk]; (repeat' split) <;> simp_all
theorem put5_3 (a b d e : Option Value) (v : Value) : ∀ k, (match pick5 a b none d e k with | some x => some x | none => if k = 112 then some v else none) = pick5 a b (some v) d e k := by
  intro k; by_cases hk : k = 112
  · subst hk; simp [pick5]
  · simp only [pick5, if_neg hk]; (repeat' split) <;> simp_all
theorem put5_4 (a b c e : Option Value) (v : Value) : ∀ k, (match pick5 a b c none e k with | some x => some x | none => if k = 110 then some v else none) = pick5 a b c (some v) e k := by
  intro k; by_cases hk : k = 110
  · subst hk; simp [pick5]
  · simp only [pick5, if_neg hk]; (repeat' split) <;> simp_all
theorem put5_5 (a b c d : Option Value) (v : Value) : ∀ k, (match pick5 a b c d none k with | some x => some x | none => if k = 45 then some v else none) = pick5 a b c d (some v) k := by
  intro k; by_cases hk : k = 45
  · subst hk; simp [pick5]
  · simp only [pick5, if_neg hk]; (repeat' split) <;> simp_all
@[reducible] def fA (x0 x1 sl : Value) (n regs nc : Int) (b3 b4 : Nat) (m v16 v21 v24 v26 v27 v8 : Value) : Act := ⟨#[x0, x1, .int .i64 n, .pointer (some ⟨b3, 0, none⟩), .pointer (some ⟨b4, 0, none⟩), undef, .bool false, .func (.func 35) #[] #[], v8, undef, undef, undef, m, .func (.func 35) #[] #[], .pointer (some ⟨b3, 1, none⟩), .int .i64 regs, v16, .func (.func 35) #[] #[], .pointer (some ⟨b3, 2, none⟩), sl, .int .i64 nc, v21, .func (.func 35) #[] #[], .int .i64 n, v24, .func (.func 35) #[] #[], v26, v27, undef, undef, undef, undef, undef, undef, undef, undef, undef, undef, undef, undef, undef, undef, undef, undef, undef, undef, undef, undef, undef, undef, undef, undef, undef, undef, undef, undef, undef, undef, undef, undef, undef, undef, undef, undef, undef, undef, undef, undef, undef, undef, undef, undef, undef], []⟩
def fB (b : Nat) : Value := .func (.func 36) #[] #[.pointer (some ⟨b, 0, none⟩)]
def fAny : Value := .func (.func 37) #[] #[]

theorem wpAnyH_of_eq {P : Program} {md : Region.Mode} {ops : Array Oper} {Q : Exit → Act → World → Prop} {S : World → Prop} {f f' : Nat} {l l' : Array Bool} {a a' : Act} {w : World} (hf : f = f') (hl : l = l') (ha : a = a') (h : wpAnyH P md ops Q S f' l' a' w) : wpAnyH P md ops Q S f l a w := by
  rw [hf, hl, ha]; exact h
theorem with_RQ {P : Program} {md : Region.Mode} {ops : Array Oper} {Q : Exit → Act → World → Prop} {S : World → Prop} {f0 : Nat} {l0 : Array Bool} {a0 : Act} {w0 : World} (F : Nat → Nat → Nat → Nat → Nat → World → Prop) (A : Nat → Nat → Nat → Nat → Nat → Act)
    (hQ : ∀ M B1 B2 B3 B4 w, F M B1 B2 B3 B4 w → Q .normal (A M B1 B2 B3 B4) w)
    (h : ∀ R : Nat → Array Bool → Act → World → Prop, (∀ f l a w, wpAnyH P md ops Q S f l a w → R f l a w) → (∀ f l a w, R f l a w → wpAnyH P md ops Q S f l a w) → (∀ M B1 B2 B3 B4 w, F M B1 B2 B3 B4 w → Q .normal (A M B1 B2 B3 B4) w) → R f0 l0 a0 w0) : wpAnyH P md ops Q S f0 l0 a0 w0 := h _ (fun _ _ _ _ h => h) (fun _ _ _ _ h => h) hQ

set_option maxRecDepth 100000 in
set_option maxHeartbeats 8000000 in
theorem fits_calls (p0 : ByteArray) (regs : Int) (s : Option Addr) (len cap : Nat) (i0 i1 i2 i3 i4 : Int) (i5 : ByteArray) (n : Int) (w : World) :
    Calls Try.prog 28 #[.agg #[.string p0, .int .i64 regs, .slice s len cap], .agg #[.int .u8 i0, .int .i64 i1, .int .i64 i2, .int .i64 i3, .int .i64 i4, .string i5], .int .i64 n] w fun e w' => e = .returned (.bool (fitsB regs len n ⟨i0, i1, i2, i3, i4, i5⟩)) ∧ Ext w w' := by
  go_enter Try.func28, Try.ntmps28
  obtain ⟨w0, hw0⟩ : ∃ w0, w0 = w := ⟨_, rfl⟩
  go_upto_region 2 with fail
  obtain ⟨W0, hW0, hx0, hP, hI⟩ := box2 w #[.string p0, .int .i64 regs, .slice s len cap] 24 #[.int .u8 i0, .int .i64 i1, .int .i64 i2, .int .i64 i3, .int .i64 i4, .string i5] 52
  rw [← hW0]
  clear hW0
  refine wp_region_held_drew (S := fun w' => Ext W0 w') (by kernel_rfl) (ext_drew (ext_refl _)) (fun hHeld => ?_)
  refine wpAnyH_take (i := 1) (v := .func (.func 35) #[] #[]) rfl (by kernel_rfl) (by kernel_rfl) (by kernel_rfl) (fun _ _ _ h => h) (Or.inl ⟨by rfl, ?_⟩) (by assumption) ?_
  · intro w' hSw
    go_simp
  refine wpAnyH_take (i := 2) (v := .pointer (some ⟨w.heap.size, 1, none⟩)) rfl (by kernel_rfl) (by kernel_rfl) (by kernel_rfl) (fun _ _ _ h => h) (Or.inl ⟨by rfl, ?_⟩) (by assumption) ?_
  · intro w' hSw
    go_simp
  refine wpAnyH_take (i := 3) (v := .int .i64 regs) rfl (by kernel_rfl) (by kernel_rfl) (by kernel_rfl) (fun _ _ _ h => h) (Or.inl ⟨by rfl, ?_⟩) (by assumption) ?_
  · intro w' hSw
    go_simp
  refine wpAnyH_take (i := 6) (v := .func (.func 35) #[] #[]) rfl (by kernel_rfl) (by kernel_rfl) (by kernel_rfl) (fun _ _ _ h => h) (Or.inl ⟨by rfl, ?_⟩) (by assumption) ?_
  · intro w' hSw
    go_simp
  refine wpAnyH_take (i := 7) (v := .pointer (some ⟨w.heap.size, 2, none⟩)) rfl (by kernel_rfl) (by kernel_rfl) (by kernel_rfl) (fun _ _ _ h => h) (Or.inl ⟨by rfl, ?_⟩) (by assumption) ?_
  · intro w' hSw
    go_simp
  refine wpAnyH_take (i := 8) (v := .slice s len cap) rfl (by kernel_rfl) (by kernel_rfl) (by kernel_rfl) (fun _ _ _ h => h) (Or.inl ⟨by rfl, ?_⟩) (by assumption) ?_
  · intro w' hSw
    go_simp
  refine wpAnyH_take (i := 9) (v := .int .i64 len) rfl (by kernel_rfl) (by kernel_rfl) (by kernel_rfl) (fun _ _ _ h => h) (Or.inl ⟨by rfl, ?_⟩) (by assumption) ?_
  · intro w' hSw
    go_simp
  refine wpAnyH_take (i := 12) (v := .func (.func 35) #[] #[]) rfl (by kernel_rfl) (by kernel_rfl) (by kernel_rfl) (fun _ _ _ h => h) (Or.inl ⟨by rfl, ?_⟩) (by assumption) ?_
  · intro w' hSw
    go_simp
  refine wpAnyH_take (i := 13) (v := .int .i64 n) rfl (by kernel_rfl) (by kernel_rfl) (by kernel_rfl) (fun _ _ _ h => h) (Or.inl ⟨by rfl, ?_⟩) (by assumption) ?_
  · intro w' hSw
    go_simp
  refine wpAnyH_take (i := 17) (v := .func (.func 35) #[] #[]) rfl (by kernel_rfl) (by kernel_rfl) (by kernel_rfl) (fun _ _ _ h => h) (Or.inl ⟨by rfl, ?_⟩) (by assumption) ?_
  · intro w' hSw
    go_simp
  refine wpAnyH_of_eq (f' := 12) (l' := #[false, true, true, true, false, false, true, true, true, true, false, false, true, true, false, false, false, true, false, false, false, false]) (a' := (fA (.agg #[.string p0, .int .i64 regs, .slice s len cap]) (.agg #[.int .u8 i0, .int .i64 i1, .int .i64 i2, .int .i64 i3, .int .i64 i4, .string i5]) (.slice s len cap) n regs len w.heap.size (w.heap.size + 1) undef undef undef undef undef undef undef)) (by kernel_rfl) (by kernel_rfl) (by kernel_rfl) ?_
  refine with_RQ (F := fun M B1 B2 B3 B4 w => Ext W0 w ∧ MapAt W0 w M (some (fB B1)) (some (fB B2)) (some (fB B3)) (some fAny) (some (fB B4)) ∧ w.cell? ⟨B1, 0, none⟩ = some (.int .i64 regs) ∧ w.cell? ⟨B2, 0, none⟩ = some (.int .i64 len) ∧ w.cell? ⟨B3, 0, none⟩ = some (.int .i64 n) ∧ w.cell? ⟨B4, 0, none⟩ = some (.int .i64 1)) (A := fun M B1 B2 B3 B4 => (fA (.agg #[.string p0, .int .i64 regs, .slice s len cap]) (.agg #[.int .u8 i0, .int .i64 i1, .int .i64 i2, .int .i64 i3, .int .i64 i4, .string i5]) (.slice s len cap) n regs len w.heap.size (w.heap.size + 1) (.map (some M)) (fB B1) (fB B2) (fB B3) (fB B4) (.map (some M)) (.map (some M)))) ?_ (fun R toR0 ofR0 hQ0 => ?_)
  · intro M B1 B2 B3 B4 w2 ⟨hS, hM, h1, h2, h3, h4⟩
    have lk114 := fun w' (hx : Ext w2 w') => map_look (P := Try.prog) Try.underlying78 Try.underlying5 114 (fB B1) (map_keep hM hx) rfl (z := .nilFunc) (by kernel_rfl)
    have lk106 := fun w' (hx : Ext w2 w') => map_look (P := Try.prog) Try.underlying78 Try.underlying5 106 (fB B2) (map_keep hM hx) rfl (z := .nilFunc) (by kernel_rfl)
    have lk112 := fun w' (hx : Ext w2 w') => map_look (P := Try.prog) Try.underlying78 Try.underlying5 112 (fB B3) (map_keep hM hx) rfl (z := .nilFunc) (by kernel_rfl)
    have lk110 := fun w' (hx : Ext w2 w') => map_look (P := Try.prog) Try.underlying78 Try.underlying5 110 fAny (map_keep hM hx) rfl (z := .nilFunc) (by kernel_rfl)
    have lk45 := fun w' (hx : Ext w2 w') => map_look (P := Try.prog) Try.underlying78 Try.underlying5 45 (fB B4) (map_keep hM hx) rfl (z := .nilFunc) (by kernel_rfl)
    simp only [fB, fAny] at lk114 lk106 lk112 lk110 lk45
    have x0 : ∀ w, (Instr.index 80 (.agg #[.int .i64 i1, .int .i64 i2, .int .i64 i3, .int .i64 i4]) (.int .i64 0)).run Try.prog w = .ok (.int .i64 i1) w := fun _ => by kernel_rfl
    have x1 : ∀ w, (Instr.index 80 (.agg #[.int .i64 i1, .int .i64 i2, .int .i64 i3, .int .i64 i4]) (.int .i64 1)).run Try.prog w = .ok (.int .i64 i2) w := fun _ => by kernel_rfl
    have x2 : ∀ w, (Instr.index 80 (.agg #[.int .i64 i1, .int .i64 i2, .int .i64 i3, .int .i64 i4]) (.int .i64 2)).run Try.prog w = .ok (.int .i64 i3) w := fun _ => by kernel_rfl
    have x3 : ∀ w, (Instr.index 80 (.agg #[.int .i64 i1, .int .i64 i2, .int .i64 i3, .int .i64 i4]) (.int .i64 3)).run Try.prog w = .ok (.int .i64 i4) w := fun _ => by kernel_rfl
    have hI2 := fun i => hI w2 hS i
    have hl2 : w.heap.size + 1 < w2.heap.size := by
      obtain ⟨v, hv⟩ : ∃ v, w2.cell? ⟨w.heap.size + 1, 0, none⟩ = some v := ⟨_, hI2 0⟩
      exact cell_spot2 hv
    have hw2 := ext_trans hx0 hS
    clear hP hI hHeld hM hS
    by_cases hk1 : i0 = 1
    · have hs : shStr i0 = ⟨#[114, 45, 45, 110, 45]⟩ := by subst hk1; rfl
      have HSH := Lib.hid hs; clear hs
      have HSP := Lib.hid (show fitsB regs len n ⟨i0, i1, i2, i3, i4, i5⟩ = fitsB regs len n ⟨1, i1, i2, i3, i4, i5⟩ from by rw [hk1])
      clear hk1

      have y0 : ∀ w, (Instr.index 9 (.string ⟨#[114, 45, 45, 110, 45]⟩) (.int .i64 0)).run Try.prog w = .ok (.int .u8 114) w := fun _ => by kernel_rfl
      have y1 : ∀ w, (Instr.index 9 (.string ⟨#[114, 45, 45, 110, 45]⟩) (.int .i64 1)).run Try.prog w = .ok (.int .u8 45) w := fun _ => by kernel_rfl
      have y2 : ∀ w, (Instr.index 9 (.string ⟨#[114, 45, 45, 110, 45]⟩) (.int .i64 2)).run Try.prog w = .ok (.int .u8 45) w := fun _ => by kernel_rfl
      have y3 : ∀ w, (Instr.index 9 (.string ⟨#[114, 45, 45, 110, 45]⟩) (.int .i64 3)).run Try.prog w = .ok (.int .u8 110) w := fun _ => by kernel_rfl
      have y4 : ∀ w, (Instr.index 9 (.string ⟨#[114, 45, 45, 110, 45]⟩) (.int .i64 4)).run Try.prog w = .ok (.int .u8 45) w := fun _ => by kernel_rfl
      go_wp2_with (go_at_call 38; refine (shape_calls _ _).mono ?_; rw [HSH.out]; rintro e w1 ⟨rfl, hb⟩; replace lk114 := lk114 _ hb; replace lk106 := lk106 _ hb; replace lk112 := lk112 _ hb; replace lk110 := lk110 _ hb; replace lk45 := lk45 _ hb; replace h1 := cell_keep hb h1; replace h2 := cell_keep hb h2; replace h3 := cell_keep hb h3; replace h4 := cell_keep hb h4; replace hI2 := (box_on hb hl2 hI2).2; have hw1 := ext_trans hw2 hb)
      refine wp_loop_rounds 5 ?_
      all_goals (rw [rounds_succ]; go_wp2_with (first | (go_at_call 36; refine (below1_calls _ _ _ _ (by assumption)).mono ?_; rintro e w1 ⟨rfl, rfl⟩) | (go_at_call 37; refine (any_calls _ _).mono ?_; rintro e w1 ⟨rfl, rfl⟩)))
      all_goals try (rw [rounds_succ]; go_wp2_with (first | (go_at_call 36; refine (below1_calls _ _ _ _ (by assumption)).mono ?_; rintro e w1 ⟨rfl, rfl⟩) | (go_at_call 37; refine (any_calls _ _).mono ?_; rintro e w1 ⟨rfl, rfl⟩)))
      all_goals try (rw [rounds_succ]; go_wp2_with (first | (go_at_call 36; refine (below1_calls _ _ _ _ (by assumption)).mono ?_; rintro e w1 ⟨rfl, rfl⟩) | (go_at_call 37; refine (any_calls _ _).mono ?_; rintro e w1 ⟨rfl, rfl⟩)))
      all_goals try (rw [rounds_succ]; go_wp2_with (first | (go_at_call 36; refine (below1_calls _ _ _ _ (by assumption)).mono ?_; rintro e w1 ⟨rfl, rfl⟩) | (go_at_call 37; refine (any_calls _ _).mono ?_; rintro e w1 ⟨rfl, rfl⟩)))
      all_goals try (rw [rounds_succ]; go_wp2_with (first | (go_at_call 36; refine (below1_calls _ _ _ _ (by assumption)).mono ?_; rintro e w1 ⟨rfl, rfl⟩) | (go_at_call 37; refine (any_calls _ _).mono ?_; rintro e w1 ⟨rfl, rfl⟩) | (go_at_call 27; refine (named_calls _ _).mono ?_; rintro e w1 ⟨rfl, rfl⟩)))
      all_goals (go_ret; refine ⟨?_, by repeat (first | exact ext_refl _ | assumption | refine ext_more' ?_ _ _ | refine ext_drew ?_ | refine ext_drewN ?_ _ | refine ext_alloc ?_ _)⟩; rw [HSP.out]; clear HSP HSH lk114 lk106 lk112 lk110 lk45 h1 h2 h3 h4 hI2 hl2 hw2 hw1 hb x0 x1 x2 x3 y0 y1 y2 y3 y4; refine ret_bool ?_)
      all_goals (try simp only [Bool.not_eq_true', Bool.not_eq_false', Bool.and_eq_true, Bool.and_eq_false_imp, decide_eq_true_eq, decide_eq_false_iff_not, Bool.not_eq_true] at *)
      all_goals first | (simp [fitsB, shapeL, letB, ba_empty, *]; done) | (simp [fitsB, shapeL, letB, *]; intros; omega)
    by_cases hk2 : i0 = 2
    · have hs : shStr i0 = ⟨#[114, 114, 45, 45, 45]⟩ := by subst hk2; rfl
      have HSH := Lib.hid hs; clear hs
      have HSP := Lib.hid (show fitsB regs len n ⟨i0, i1, i2, i3, i4, i5⟩ = fitsB regs len n ⟨2, i1, i2, i3, i4, i5⟩ from by rw [hk2])
      clear hk2

      have y0 : ∀ w, (Instr.index 9 (.string ⟨#[114, 114, 45, 45, 45]⟩) (.int .i64 0)).run Try.prog w = .ok (.int .u8 114) w := fun _ => by kernel_rfl
      have y1 : ∀ w, (Instr.index 9 (.string ⟨#[114, 114, 45, 45, 45]⟩) (.int .i64 1)).run Try.prog w = .ok (.int .u8 114) w := fun _ => by kernel_rfl
      have y2 : ∀ w, (Instr.index 9 (.string ⟨#[114, 114, 45, 45, 45]⟩) (.int .i64 2)).run Try.prog w = .ok (.int .u8 45) w := fun _ => by kernel_rfl
      have y3 : ∀ w, (Instr.index 9 (.string ⟨#[114, 114, 45, 45, 45]⟩) (.int .i64 3)).run Try.prog w = .ok (.int .u8 45) w := fun _ => by kernel_rfl
      have y4 : ∀ w, (Instr.index 9 (.string ⟨#[114, 114, 45, 45, 45]⟩) (.int .i64 4)).run Try.prog w = .ok (.int .u8 45) w := fun _ => by kernel_rfl
      go_wp2_with (go_at_call 38; refine (shape_calls _ _).mono ?_; rw [HSH.out]; rintro e w1 ⟨rfl, hb⟩; replace lk114 := lk114 _ hb; replace lk106 := lk106 _ hb; replace lk112 := lk112 _ hb; replace lk110 := lk110 _ hb; replace lk45 := lk45 _ hb; replace h1 := cell_keep hb h1; replace h2 := cell_keep hb h2; replace h3 := cell_keep hb h3; replace h4 := cell_keep hb h4; replace hI2 := (box_on hb hl2 hI2).2; have hw1 := ext_trans hw2 hb)
      refine wp_loop_rounds 5 ?_
      all_goals (rw [rounds_succ]; go_wp2_with (first | (go_at_call 36; refine (below1_calls _ _ _ _ (by assumption)).mono ?_; rintro e w1 ⟨rfl, rfl⟩) | (go_at_call 37; refine (any_calls _ _).mono ?_; rintro e w1 ⟨rfl, rfl⟩)))
      all_goals try (rw [rounds_succ]; go_wp2_with (first | (go_at_call 36; refine (below1_calls _ _ _ _ (by assumption)).mono ?_; rintro e w1 ⟨rfl, rfl⟩) | (go_at_call 37; refine (any_calls _ _).mono ?_; rintro e w1 ⟨rfl, rfl⟩)))
      all_goals try (rw [rounds_succ]; go_wp2_with (first | (go_at_call 36; refine (below1_calls _ _ _ _ (by assumption)).mono ?_; rintro e w1 ⟨rfl, rfl⟩) | (go_at_call 37; refine (any_calls _ _).mono ?_; rintro e w1 ⟨rfl, rfl⟩)))
      all_goals try (rw [rounds_succ]; go_wp2_with (first | (go_at_call 36; refine (below1_calls _ _ _ _ (by assumption)).mono ?_; rintro e w1 ⟨rfl, rfl⟩) | (go_at_call 37; refine (any_calls _ _).mono ?_; rintro e w1 ⟨rfl, rfl⟩)))
      all_goals try (rw [rounds_succ]; go_wp2_with (first | (go_at_call 36; refine (below1_calls _ _ _ _ (by assumption)).mono ?_; rintro e w1 ⟨rfl, rfl⟩) | (go_at_call 37; refine (any_calls _ _).mono ?_; rintro e w1 ⟨rfl, rfl⟩) | (go_at_call 27; refine (named_calls _ _).mono ?_; rintro e w1 ⟨rfl, rfl⟩)))
      all_goals (go_ret; refine ⟨?_, by repeat (first | exact ext_refl _ | assumption | refine ext_more' ?_ _ _ | refine ext_drew ?_ | refine ext_drewN ?_ _ | refine ext_alloc ?_ _)⟩; rw [HSP.out]; clear HSP HSH lk114 lk106 lk112 lk110 lk45 h1 h2 h3 h4 hI2 hl2 hw2 hw1 hb x0 x1 x2 x3 y0 y1 y2 y3 y4; refine ret_bool ?_)
      all_goals (try simp only [Bool.not_eq_true', Bool.not_eq_false', Bool.and_eq_true, Bool.and_eq_false_imp, decide_eq_true_eq, decide_eq_false_iff_not, Bool.not_eq_true] at *)
      all_goals first | (simp [fitsB, shapeL, letB, ba_empty, *]; done) | (simp [fitsB, shapeL, letB, *]; intros; omega)
    by_cases hk3 : i0 = 3
    · have hs : shStr i0 = ⟨#[114, 114, 114, 45, 45]⟩ := by subst hk3; rfl
      have HSH := Lib.hid hs; clear hs
      have HSP := Lib.hid (show fitsB regs len n ⟨i0, i1, i2, i3, i4, i5⟩ = fitsB regs len n ⟨3, i1, i2, i3, i4, i5⟩ from by rw [hk3])
      clear hk3

      have y0 : ∀ w, (Instr.index 9 (.string ⟨#[114, 114, 114, 45, 45]⟩) (.int .i64 0)).run Try.prog w = .ok (.int .u8 114) w := fun _ => by kernel_rfl
      have y1 : ∀ w, (Instr.index 9 (.string ⟨#[114, 114, 114, 45, 45]⟩) (.int .i64 1)).run Try.prog w = .ok (.int .u8 114) w := fun _ => by kernel_rfl
      have y2 : ∀ w, (Instr.index 9 (.string ⟨#[114, 114, 114, 45, 45]⟩) (.int .i64 2)).run Try.prog w = .ok (.int .u8 114) w := fun _ => by kernel_rfl
      have y3 : ∀ w, (Instr.index 9 (.string ⟨#[114, 114, 114, 45, 45]⟩) (.int .i64 3)).run Try.prog w = .ok (.int .u8 45) w := fun _ => by kernel_rfl
      have y4 : ∀ w, (Instr.index 9 (.string ⟨#[114, 114, 114, 45, 45]⟩) (.int .i64 4)).run Try.prog w = .ok (.int .u8 45) w := fun _ => by kernel_rfl
      go_wp2_with (go_at_call 38; refine (shape_calls _ _).mono ?_; rw [HSH.out]; rintro e w1 ⟨rfl, hb⟩; replace lk114 := lk114 _ hb; replace lk106 := lk106 _ hb; replace lk112 := lk112 _ hb; replace lk110 := lk110 _ hb; replace lk45 := lk45 _ hb; replace h1 := cell_keep hb h1; replace h2 := cell_keep hb h2; replace h3 := cell_keep hb h3; replace h4 := cell_keep hb h4; replace hI2 := (box_on hb hl2 hI2).2; have hw1 := ext_trans hw2 hb)
      refine wp_loop_rounds 5 ?_
      all_goals (rw [rounds_succ]; go_wp2_with (first | (go_at_call 36; refine (below1_calls _ _ _ _ (by assumption)).mono ?_; rintro e w1 ⟨rfl, rfl⟩) | (go_at_call 37; refine (any_calls _ _).mono ?_; rintro e w1 ⟨rfl, rfl⟩)))
      all_goals try (rw [rounds_succ]; go_wp2_with (first | (go_at_call 36; refine (below1_calls _ _ _ _ (by assumption)).mono ?_; rintro e w1 ⟨rfl, rfl⟩) | (go_at_call 37; refine (any_calls _ _).mono ?_; rintro e w1 ⟨rfl, rfl⟩)))
      all_goals try (rw [rounds_succ]; go_wp2_with (first | (go_at_call 36; refine (below1_calls _ _ _ _ (by assumption)).mono ?_; rintro e w1 ⟨rfl, rfl⟩) | (go_at_call 37; refine (any_calls _ _).mono ?_; rintro e w1 ⟨rfl, rfl⟩)))
      all_goals try (rw [rounds_succ]; go_wp2_with (first | (go_at_call 36; refine (below1_calls _ _ _ _ (by assumption)).mono ?_; rintro e w1 ⟨rfl, rfl⟩) | (go_at_call 37; refine (any_calls _ _).mono ?_; rintro e w1 ⟨rfl, rfl⟩)))
      all_goals try (rw [rounds_succ]; go_wp2_with (first | (go_at_call 36; refine (below1_calls _ _ _ _ (by assumption)).mono ?_; rintro e w1 ⟨rfl, rfl⟩) | (go_at_call 37; refine (any_calls _ _).mono ?_; rintro e w1 ⟨rfl, rfl⟩) | (go_at_call 27; refine (named_calls _ _).mono ?_; rintro e w1 ⟨rfl, rfl⟩)))
      all_goals (go_ret; refine ⟨?_, by repeat (first | exact ext_refl _ | assumption | refine ext_more' ?_ _ _ | refine ext_drew ?_ | refine ext_drewN ?_ _ | refine ext_alloc ?_ _)⟩; rw [HSP.out]; clear HSP HSH lk114 lk106 lk112 lk110 lk45 h1 h2 h3 h4 hI2 hl2 hw2 hw1 hb x0 x1 x2 x3 y0 y1 y2 y3 y4; refine ret_bool ?_)
      all_goals (try simp only [Bool.not_eq_true', Bool.not_eq_false', Bool.and_eq_true, Bool.and_eq_false_imp, decide_eq_true_eq, decide_eq_false_iff_not, Bool.not_eq_true] at *)
      all_goals first | (simp [fitsB, shapeL, letB, ba_empty, *]; done) | (simp [fitsB, shapeL, letB, *]; intros; omega)
    by_cases hk4 : i0 = 4
    · have hs : shStr i0 = ⟨#[114, 114, 114, 45, 45]⟩ := by subst hk4; rfl
      have HSH := Lib.hid hs; clear hs
      have HSP := Lib.hid (show fitsB regs len n ⟨i0, i1, i2, i3, i4, i5⟩ = fitsB regs len n ⟨4, i1, i2, i3, i4, i5⟩ from by rw [hk4])
      clear hk4

      have y0 : ∀ w, (Instr.index 9 (.string ⟨#[114, 114, 114, 45, 45]⟩) (.int .i64 0)).run Try.prog w = .ok (.int .u8 114) w := fun _ => by kernel_rfl
      have y1 : ∀ w, (Instr.index 9 (.string ⟨#[114, 114, 114, 45, 45]⟩) (.int .i64 1)).run Try.prog w = .ok (.int .u8 114) w := fun _ => by kernel_rfl
      have y2 : ∀ w, (Instr.index 9 (.string ⟨#[114, 114, 114, 45, 45]⟩) (.int .i64 2)).run Try.prog w = .ok (.int .u8 114) w := fun _ => by kernel_rfl
      have y3 : ∀ w, (Instr.index 9 (.string ⟨#[114, 114, 114, 45, 45]⟩) (.int .i64 3)).run Try.prog w = .ok (.int .u8 45) w := fun _ => by kernel_rfl
      have y4 : ∀ w, (Instr.index 9 (.string ⟨#[114, 114, 114, 45, 45]⟩) (.int .i64 4)).run Try.prog w = .ok (.int .u8 45) w := fun _ => by kernel_rfl
      go_wp2_with (go_at_call 38; refine (shape_calls _ _).mono ?_; rw [HSH.out]; rintro e w1 ⟨rfl, hb⟩; replace lk114 := lk114 _ hb; replace lk106 := lk106 _ hb; replace lk112 := lk112 _ hb; replace lk110 := lk110 _ hb; replace lk45 := lk45 _ hb; replace h1 := cell_keep hb h1; replace h2 := cell_keep hb h2; replace h3 := cell_keep hb h3; replace h4 := cell_keep hb h4; replace hI2 := (box_on hb hl2 hI2).2; have hw1 := ext_trans hw2 hb)
      refine wp_loop_rounds 5 ?_
      all_goals (rw [rounds_succ]; go_wp2_with (first | (go_at_call 36; refine (below1_calls _ _ _ _ (by assumption)).mono ?_; rintro e w1 ⟨rfl, rfl⟩) | (go_at_call 37; refine (any_calls _ _).mono ?_; rintro e w1 ⟨rfl, rfl⟩)))
      all_goals try (rw [rounds_succ]; go_wp2_with (first | (go_at_call 36; refine (below1_calls _ _ _ _ (by assumption)).mono ?_; rintro e w1 ⟨rfl, rfl⟩) | (go_at_call 37; refine (any_calls _ _).mono ?_; rintro e w1 ⟨rfl, rfl⟩)))
      all_goals try (rw [rounds_succ]; go_wp2_with (first | (go_at_call 36; refine (below1_calls _ _ _ _ (by assumption)).mono ?_; rintro e w1 ⟨rfl, rfl⟩) | (go_at_call 37; refine (any_calls _ _).mono ?_; rintro e w1 ⟨rfl, rfl⟩)))
      all_goals try (rw [rounds_succ]; go_wp2_with (first | (go_at_call 36; refine (below1_calls _ _ _ _ (by assumption)).mono ?_; rintro e w1 ⟨rfl, rfl⟩) | (go_at_call 37; refine (any_calls _ _).mono ?_; rintro e w1 ⟨rfl, rfl⟩)))
      all_goals try (rw [rounds_succ]; go_wp2_with (first | (go_at_call 36; refine (below1_calls _ _ _ _ (by assumption)).mono ?_; rintro e w1 ⟨rfl, rfl⟩) | (go_at_call 37; refine (any_calls _ _).mono ?_; rintro e w1 ⟨rfl, rfl⟩) | (go_at_call 27; refine (named_calls _ _).mono ?_; rintro e w1 ⟨rfl, rfl⟩)))
      all_goals (go_ret; refine ⟨?_, by repeat (first | exact ext_refl _ | assumption | refine ext_more' ?_ _ _ | refine ext_drew ?_ | refine ext_drewN ?_ _ | refine ext_alloc ?_ _)⟩; rw [HSP.out]; clear HSP HSH lk114 lk106 lk112 lk110 lk45 h1 h2 h3 h4 hI2 hl2 hw2 hw1 hb x0 x1 x2 x3 y0 y1 y2 y3 y4; refine ret_bool ?_)
      all_goals (try simp only [Bool.not_eq_true', Bool.not_eq_false', Bool.and_eq_true, Bool.and_eq_false_imp, decide_eq_true_eq, decide_eq_false_iff_not, Bool.not_eq_true] at *)
      all_goals first | (simp [fitsB, shapeL, letB, ba_empty, *]; done) | (simp [fitsB, shapeL, letB, *]; intros; omega)
    by_cases hk5 : i0 = 5
    · have hs : shStr i0 = ⟨#[114, 114, 114, 45, 45]⟩ := by subst hk5; rfl
      have HSH := Lib.hid hs; clear hs
      have HSP := Lib.hid (show fitsB regs len n ⟨i0, i1, i2, i3, i4, i5⟩ = fitsB regs len n ⟨5, i1, i2, i3, i4, i5⟩ from by rw [hk5])
      clear hk5

      have y0 : ∀ w, (Instr.index 9 (.string ⟨#[114, 114, 114, 45, 45]⟩) (.int .i64 0)).run Try.prog w = .ok (.int .u8 114) w := fun _ => by kernel_rfl
      have y1 : ∀ w, (Instr.index 9 (.string ⟨#[114, 114, 114, 45, 45]⟩) (.int .i64 1)).run Try.prog w = .ok (.int .u8 114) w := fun _ => by kernel_rfl
      have y2 : ∀ w, (Instr.index 9 (.string ⟨#[114, 114, 114, 45, 45]⟩) (.int .i64 2)).run Try.prog w = .ok (.int .u8 114) w := fun _ => by kernel_rfl
      have y3 : ∀ w, (Instr.index 9 (.string ⟨#[114, 114, 114, 45, 45]⟩) (.int .i64 3)).run Try.prog w = .ok (.int .u8 45) w := fun _ => by kernel_rfl
      have y4 : ∀ w, (Instr.index 9 (.string ⟨#[114, 114, 114, 45, 45]⟩) (.int .i64 4)).run Try.prog w = .ok (.int .u8 45) w := fun _ => by kernel_rfl
      go_wp2_with (go_at_call 38; refine (shape_calls _ _).mono ?_; rw [HSH.out]; rintro e w1 ⟨rfl, hb⟩; replace lk114 := lk114 _ hb; replace lk106 := lk106 _ hb; replace lk112 := lk112 _ hb; replace lk110 := lk110 _ hb; replace lk45 := lk45 _ hb; replace h1 := cell_keep hb h1; replace h2 := cell_keep hb h2; replace h3 := cell_keep hb h3; replace h4 := cell_keep hb h4; replace hI2 := (box_on hb hl2 hI2).2; have hw1 := ext_trans hw2 hb)
      refine wp_loop_rounds 5 ?_
      all_goals (rw [rounds_succ]; go_wp2_with (first | (go_at_call 36; refine (below1_calls _ _ _ _ (by assumption)).mono ?_; rintro e w1 ⟨rfl, rfl⟩) | (go_at_call 37; refine (any_calls _ _).mono ?_; rintro e w1 ⟨rfl, rfl⟩)))
      all_goals try (rw [rounds_succ]; go_wp2_with (first | (go_at_call 36; refine (below1_calls _ _ _ _ (by assumption)).mono ?_; rintro e w1 ⟨rfl, rfl⟩) | (go_at_call 37; refine (any_calls _ _).mono ?_; rintro e w1 ⟨rfl, rfl⟩)))
      all_goals try (rw [rounds_succ]; go_wp2_with (first | (go_at_call 36; refine (below1_calls _ _ _ _ (by assumption)).mono ?_; rintro e w1 ⟨rfl, rfl⟩) | (go_at_call 37; refine (any_calls _ _).mono ?_; rintro e w1 ⟨rfl, rfl⟩)))
      all_goals try (rw [rounds_succ]; go_wp2_with (first | (go_at_call 36; refine (below1_calls _ _ _ _ (by assumption)).mono ?_; rintro e w1 ⟨rfl, rfl⟩) | (go_at_call 37; refine (any_calls _ _).mono ?_; rintro e w1 ⟨rfl, rfl⟩)))
      all_goals try (rw [rounds_succ]; go_wp2_with (first | (go_at_call 36; refine (below1_calls _ _ _ _ (by assumption)).mono ?_; rintro e w1 ⟨rfl, rfl⟩) | (go_at_call 37; refine (any_calls _ _).mono ?_; rintro e w1 ⟨rfl, rfl⟩) | (go_at_call 27; refine (named_calls _ _).mono ?_; rintro e w1 ⟨rfl, rfl⟩)))
      all_goals (go_ret; refine ⟨?_, by repeat (first | exact ext_refl _ | assumption | refine ext_more' ?_ _ _ | refine ext_drew ?_ | refine ext_drewN ?_ _ | refine ext_alloc ?_ _)⟩; rw [HSP.out]; clear HSP HSH lk114 lk106 lk112 lk110 lk45 h1 h2 h3 h4 hI2 hl2 hw2 hw1 hb x0 x1 x2 x3 y0 y1 y2 y3 y4; refine ret_bool ?_)
      all_goals (try simp only [Bool.not_eq_true', Bool.not_eq_false', Bool.and_eq_true, Bool.and_eq_false_imp, decide_eq_true_eq, decide_eq_false_iff_not, Bool.not_eq_true] at *)
      all_goals first | (simp [fitsB, shapeL, letB, ba_empty, *]; done) | (simp [fitsB, shapeL, letB, *]; intros; omega)
    by_cases hk6 : i0 = 6
    · have hs : shStr i0 = ⟨#[114, 114, 114, 45, 45]⟩ := by subst hk6; rfl
      have HSH := Lib.hid hs; clear hs
      have HSP := Lib.hid (show fitsB regs len n ⟨i0, i1, i2, i3, i4, i5⟩ = fitsB regs len n ⟨6, i1, i2, i3, i4, i5⟩ from by rw [hk6])
      clear hk6

      have y0 : ∀ w, (Instr.index 9 (.string ⟨#[114, 114, 114, 45, 45]⟩) (.int .i64 0)).run Try.prog w = .ok (.int .u8 114) w := fun _ => by kernel_rfl
      have y1 : ∀ w, (Instr.index 9 (.string ⟨#[114, 114, 114, 45, 45]⟩) (.int .i64 1)).run Try.prog w = .ok (.int .u8 114) w := fun _ => by kernel_rfl
      have y2 : ∀ w, (Instr.index 9 (.string ⟨#[114, 114, 114, 45, 45]⟩) (.int .i64 2)).run Try.prog w = .ok (.int .u8 114) w := fun _ => by kernel_rfl
      have y3 : ∀ w, (Instr.index 9 (.string ⟨#[114, 114, 114, 45, 45]⟩) (.int .i64 3)).run Try.prog w = .ok (.int .u8 45) w := fun _ => by kernel_rfl
      have y4 : ∀ w, (Instr.index 9 (.string ⟨#[114, 114, 114, 45, 45]⟩) (.int .i64 4)).run Try.prog w = .ok (.int .u8 45) w := fun _ => by kernel_rfl
      go_wp2_with (go_at_call 38; refine (shape_calls _ _).mono ?_; rw [HSH.out]; rintro e w1 ⟨rfl, hb⟩; replace lk114 := lk114 _ hb; replace lk106 := lk106 _ hb; replace lk112 := lk112 _ hb; replace lk110 := lk110 _ hb; replace lk45 := lk45 _ hb; replace h1 := cell_keep hb h1; replace h2 := cell_keep hb h2; replace h3 := cell_keep hb h3; replace h4 := cell_keep hb h4; replace hI2 := (box_on hb hl2 hI2).2; have hw1 := ext_trans hw2 hb)
      refine wp_loop_rounds 5 ?_
      all_goals (rw [rounds_succ]; go_wp2_with (first | (go_at_call 36; refine (below1_calls _ _ _ _ (by assumption)).mono ?_; rintro e w1 ⟨rfl, rfl⟩) | (go_at_call 37; refine (any_calls _ _).mono ?_; rintro e w1 ⟨rfl, rfl⟩)))
      all_goals try (rw [rounds_succ]; go_wp2_with (first | (go_at_call 36; refine (below1_calls _ _ _ _ (by assumption)).mono ?_; rintro e w1 ⟨rfl, rfl⟩) | (go_at_call 37; refine (any_calls _ _).mono ?_; rintro e w1 ⟨rfl, rfl⟩)))
      all_goals try (rw [rounds_succ]; go_wp2_with (first | (go_at_call 36; refine (below1_calls _ _ _ _ (by assumption)).mono ?_; rintro e w1 ⟨rfl, rfl⟩) | (go_at_call 37; refine (any_calls _ _).mono ?_; rintro e w1 ⟨rfl, rfl⟩)))
      all_goals try (rw [rounds_succ]; go_wp2_with (first | (go_at_call 36; refine (below1_calls _ _ _ _ (by assumption)).mono ?_; rintro e w1 ⟨rfl, rfl⟩) | (go_at_call 37; refine (any_calls _ _).mono ?_; rintro e w1 ⟨rfl, rfl⟩)))
      all_goals try (rw [rounds_succ]; go_wp2_with (first | (go_at_call 36; refine (below1_calls _ _ _ _ (by assumption)).mono ?_; rintro e w1 ⟨rfl, rfl⟩) | (go_at_call 37; refine (any_calls _ _).mono ?_; rintro e w1 ⟨rfl, rfl⟩) | (go_at_call 27; refine (named_calls _ _).mono ?_; rintro e w1 ⟨rfl, rfl⟩)))
      all_goals (go_ret; refine ⟨?_, by repeat (first | exact ext_refl _ | assumption | refine ext_more' ?_ _ _ | refine ext_drew ?_ | refine ext_drewN ?_ _ | refine ext_alloc ?_ _)⟩; rw [HSP.out]; clear HSP HSH lk114 lk106 lk112 lk110 lk45 h1 h2 h3 h4 hI2 hl2 hw2 hw1 hb x0 x1 x2 x3 y0 y1 y2 y3 y4; refine ret_bool ?_)
      all_goals (try simp only [Bool.not_eq_true', Bool.not_eq_false', Bool.and_eq_true, Bool.and_eq_false_imp, decide_eq_true_eq, decide_eq_false_iff_not, Bool.not_eq_true] at *)
      all_goals first | (simp [fitsB, shapeL, letB, ba_empty, *]; done) | (simp [fitsB, shapeL, letB, *]; intros; omega)
    by_cases hk7 : i0 = 7
    · have hs : shStr i0 = ⟨#[114, 114, 114, 45, 45]⟩ := by subst hk7; rfl
      have HSH := Lib.hid hs; clear hs
      have HSP := Lib.hid (show fitsB regs len n ⟨i0, i1, i2, i3, i4, i5⟩ = fitsB regs len n ⟨7, i1, i2, i3, i4, i5⟩ from by rw [hk7])
      clear hk7

      have y0 : ∀ w, (Instr.index 9 (.string ⟨#[114, 114, 114, 45, 45]⟩) (.int .i64 0)).run Try.prog w = .ok (.int .u8 114) w := fun _ => by kernel_rfl
      have y1 : ∀ w, (Instr.index 9 (.string ⟨#[114, 114, 114, 45, 45]⟩) (.int .i64 1)).run Try.prog w = .ok (.int .u8 114) w := fun _ => by kernel_rfl
      have y2 : ∀ w, (Instr.index 9 (.string ⟨#[114, 114, 114, 45, 45]⟩) (.int .i64 2)).run Try.prog w = .ok (.int .u8 114) w := fun _ => by kernel_rfl
      have y3 : ∀ w, (Instr.index 9 (.string ⟨#[114, 114, 114, 45, 45]⟩) (.int .i64 3)).run Try.prog w = .ok (.int .u8 45) w := fun _ => by kernel_rfl
      have y4 : ∀ w, (Instr.index 9 (.string ⟨#[114, 114, 114, 45, 45]⟩) (.int .i64 4)).run Try.prog w = .ok (.int .u8 45) w := fun _ => by kernel_rfl
      go_wp2_with (go_at_call 38; refine (shape_calls _ _).mono ?_; rw [HSH.out]; rintro e w1 ⟨rfl, hb⟩; replace lk114 := lk114 _ hb; replace lk106 := lk106 _ hb; replace lk112 := lk112 _ hb; replace lk110 := lk110 _ hb; replace lk45 := lk45 _ hb; replace h1 := cell_keep hb h1; replace h2 := cell_keep hb h2; replace h3 := cell_keep hb h3; replace h4 := cell_keep hb h4; replace hI2 := (box_on hb hl2 hI2).2; have hw1 := ext_trans hw2 hb)
      refine wp_loop_rounds 5 ?_
      all_goals (rw [rounds_succ]; go_wp2_with (first | (go_at_call 36; refine (below1_calls _ _ _ _ (by assumption)).mono ?_; rintro e w1 ⟨rfl, rfl⟩) | (go_at_call 37; refine (any_calls _ _).mono ?_; rintro e w1 ⟨rfl, rfl⟩)))
      all_goals try (rw [rounds_succ]; go_wp2_with (first | (go_at_call 36; refine (below1_calls _ _ _ _ (by assumption)).mono ?_; rintro e w1 ⟨rfl, rfl⟩) | (go_at_call 37; refine (any_calls _ _).mono ?_; rintro e w1 ⟨rfl, rfl⟩)))
      all_goals try (rw [rounds_succ]; go_wp2_with (first | (go_at_call 36; refine (below1_calls _ _ _ _ (by assumption)).mono ?_; rintro e w1 ⟨rfl, rfl⟩) | (go_at_call 37; refine (any_calls _ _).mono ?_; rintro e w1 ⟨rfl, rfl⟩)))
      all_goals try (rw [rounds_succ]; go_wp2_with (first | (go_at_call 36; refine (below1_calls _ _ _ _ (by assumption)).mono ?_; rintro e w1 ⟨rfl, rfl⟩) | (go_at_call 37; refine (any_calls _ _).mono ?_; rintro e w1 ⟨rfl, rfl⟩)))
      all_goals try (rw [rounds_succ]; go_wp2_with (first | (go_at_call 36; refine (below1_calls _ _ _ _ (by assumption)).mono ?_; rintro e w1 ⟨rfl, rfl⟩) | (go_at_call 37; refine (any_calls _ _).mono ?_; rintro e w1 ⟨rfl, rfl⟩) | (go_at_call 27; refine (named_calls _ _).mono ?_; rintro e w1 ⟨rfl, rfl⟩)))
      all_goals (go_ret; refine ⟨?_, by repeat (first | exact ext_refl _ | assumption | refine ext_more' ?_ _ _ | refine ext_drew ?_ | refine ext_drewN ?_ _ | refine ext_alloc ?_ _)⟩; rw [HSP.out]; clear HSP HSH lk114 lk106 lk112 lk110 lk45 h1 h2 h3 h4 hI2 hl2 hw2 hw1 hb x0 x1 x2 x3 y0 y1 y2 y3 y4; refine ret_bool ?_)
      all_goals (try simp only [Bool.not_eq_true', Bool.not_eq_false', Bool.and_eq_true, Bool.and_eq_false_imp, decide_eq_true_eq, decide_eq_false_iff_not, Bool.not_eq_true] at *)
      all_goals first | (simp [fitsB, shapeL, letB, ba_empty, *]; done) | (simp [fitsB, shapeL, letB, *]; intros; omega)
    by_cases hk8 : i0 = 8
    · have hs : shStr i0 = ⟨#[45, 45, 45, 106, 45]⟩ := by subst hk8; rfl
      have HSH := Lib.hid hs; clear hs
      have HSP := Lib.hid (show fitsB regs len n ⟨i0, i1, i2, i3, i4, i5⟩ = fitsB regs len n ⟨8, i1, i2, i3, i4, i5⟩ from by rw [hk8])
      clear hk8

      have y0 : ∀ w, (Instr.index 9 (.string ⟨#[45, 45, 45, 106, 45]⟩) (.int .i64 0)).run Try.prog w = .ok (.int .u8 45) w := fun _ => by kernel_rfl
      have y1 : ∀ w, (Instr.index 9 (.string ⟨#[45, 45, 45, 106, 45]⟩) (.int .i64 1)).run Try.prog w = .ok (.int .u8 45) w := fun _ => by kernel_rfl
      have y2 : ∀ w, (Instr.index 9 (.string ⟨#[45, 45, 45, 106, 45]⟩) (.int .i64 2)).run Try.prog w = .ok (.int .u8 45) w := fun _ => by kernel_rfl
      have y3 : ∀ w, (Instr.index 9 (.string ⟨#[45, 45, 45, 106, 45]⟩) (.int .i64 3)).run Try.prog w = .ok (.int .u8 106) w := fun _ => by kernel_rfl
      have y4 : ∀ w, (Instr.index 9 (.string ⟨#[45, 45, 45, 106, 45]⟩) (.int .i64 4)).run Try.prog w = .ok (.int .u8 45) w := fun _ => by kernel_rfl
      go_wp2_with (go_at_call 38; refine (shape_calls _ _).mono ?_; rw [HSH.out]; rintro e w1 ⟨rfl, hb⟩; replace lk114 := lk114 _ hb; replace lk106 := lk106 _ hb; replace lk112 := lk112 _ hb; replace lk110 := lk110 _ hb; replace lk45 := lk45 _ hb; replace h1 := cell_keep hb h1; replace h2 := cell_keep hb h2; replace h3 := cell_keep hb h3; replace h4 := cell_keep hb h4; replace hI2 := (box_on hb hl2 hI2).2; have hw1 := ext_trans hw2 hb)
      refine wp_loop_rounds 5 ?_
      all_goals (rw [rounds_succ]; go_wp2_with (first | (go_at_call 36; refine (below1_calls _ _ _ _ (by assumption)).mono ?_; rintro e w1 ⟨rfl, rfl⟩) | (go_at_call 37; refine (any_calls _ _).mono ?_; rintro e w1 ⟨rfl, rfl⟩)))
      all_goals try (rw [rounds_succ]; go_wp2_with (first | (go_at_call 36; refine (below1_calls _ _ _ _ (by assumption)).mono ?_; rintro e w1 ⟨rfl, rfl⟩) | (go_at_call 37; refine (any_calls _ _).mono ?_; rintro e w1 ⟨rfl, rfl⟩)))
      all_goals try (rw [rounds_succ]; go_wp2_with (first | (go_at_call 36; refine (below1_calls _ _ _ _ (by assumption)).mono ?_; rintro e w1 ⟨rfl, rfl⟩) | (go_at_call 37; refine (any_calls _ _).mono ?_; rintro e w1 ⟨rfl, rfl⟩)))
      all_goals try (rw [rounds_succ]; go_wp2_with (first | (go_at_call 36; refine (below1_calls _ _ _ _ (by assumption)).mono ?_; rintro e w1 ⟨rfl, rfl⟩) | (go_at_call 37; refine (any_calls _ _).mono ?_; rintro e w1 ⟨rfl, rfl⟩)))
      all_goals try (rw [rounds_succ]; go_wp2_with (first | (go_at_call 36; refine (below1_calls _ _ _ _ (by assumption)).mono ?_; rintro e w1 ⟨rfl, rfl⟩) | (go_at_call 37; refine (any_calls _ _).mono ?_; rintro e w1 ⟨rfl, rfl⟩) | (go_at_call 27; refine (named_calls _ _).mono ?_; rintro e w1 ⟨rfl, rfl⟩)))
      all_goals (go_ret; refine ⟨?_, by repeat (first | exact ext_refl _ | assumption | refine ext_more' ?_ _ _ | refine ext_drew ?_ | refine ext_drewN ?_ _ | refine ext_alloc ?_ _)⟩; rw [HSP.out]; clear HSP HSH lk114 lk106 lk112 lk110 lk45 h1 h2 h3 h4 hI2 hl2 hw2 hw1 hb x0 x1 x2 x3 y0 y1 y2 y3 y4; refine ret_bool ?_)
      all_goals (try simp only [Bool.not_eq_true', Bool.not_eq_false', Bool.and_eq_true, Bool.and_eq_false_imp, decide_eq_true_eq, decide_eq_false_iff_not, Bool.not_eq_true] at *)
      all_goals first | (simp [fitsB, shapeL, letB, ba_empty, *]; done) | (simp [fitsB, shapeL, letB, *]; intros; omega)
    by_cases hk9 : i0 = 9
    · have hs : shStr i0 = ⟨#[114, 45, 45, 106, 45]⟩ := by subst hk9; rfl
      have HSH := Lib.hid hs; clear hs
      have HSP := Lib.hid (show fitsB regs len n ⟨i0, i1, i2, i3, i4, i5⟩ = fitsB regs len n ⟨9, i1, i2, i3, i4, i5⟩ from by rw [hk9])
      clear hk9

      have y0 : ∀ w, (Instr.index 9 (.string ⟨#[114, 45, 45, 106, 45]⟩) (.int .i64 0)).run Try.prog w = .ok (.int .u8 114) w := fun _ => by kernel_rfl
      have y1 : ∀ w, (Instr.index 9 (.string ⟨#[114, 45, 45, 106, 45]⟩) (.int .i64 1)).run Try.prog w = .ok (.int .u8 45) w := fun _ => by kernel_rfl
      have y2 : ∀ w, (Instr.index 9 (.string ⟨#[114, 45, 45, 106, 45]⟩) (.int .i64 2)).run Try.prog w = .ok (.int .u8 45) w := fun _ => by kernel_rfl
      have y3 : ∀ w, (Instr.index 9 (.string ⟨#[114, 45, 45, 106, 45]⟩) (.int .i64 3)).run Try.prog w = .ok (.int .u8 106) w := fun _ => by kernel_rfl
      have y4 : ∀ w, (Instr.index 9 (.string ⟨#[114, 45, 45, 106, 45]⟩) (.int .i64 4)).run Try.prog w = .ok (.int .u8 45) w := fun _ => by kernel_rfl
      go_wp2_with (go_at_call 38; refine (shape_calls _ _).mono ?_; rw [HSH.out]; rintro e w1 ⟨rfl, hb⟩; replace lk114 := lk114 _ hb; replace lk106 := lk106 _ hb; replace lk112 := lk112 _ hb; replace lk110 := lk110 _ hb; replace lk45 := lk45 _ hb; replace h1 := cell_keep hb h1; replace h2 := cell_keep hb h2; replace h3 := cell_keep hb h3; replace h4 := cell_keep hb h4; replace hI2 := (box_on hb hl2 hI2).2; have hw1 := ext_trans hw2 hb)
      refine wp_loop_rounds 5 ?_
      all_goals (rw [rounds_succ]; go_wp2_with (first | (go_at_call 36; refine (below1_calls _ _ _ _ (by assumption)).mono ?_; rintro e w1 ⟨rfl, rfl⟩) | (go_at_call 37; refine (any_calls _ _).mono ?_; rintro e w1 ⟨rfl, rfl⟩)))
      all_goals try (rw [rounds_succ]; go_wp2_with (first | (go_at_call 36; refine (below1_calls _ _ _ _ (by assumption)).mono ?_; rintro e w1 ⟨rfl, rfl⟩) | (go_at_call 37; refine (any_calls _ _).mono ?_; rintro e w1 ⟨rfl, rfl⟩)))
      all_goals try (rw [rounds_succ]; go_wp2_with (first | (go_at_call 36; refine (below1_calls _ _ _ _ (by assumption)).mono ?_; rintro e w1 ⟨rfl, rfl⟩) | (go_at_call 37; refine (any_calls _ _).mono ?_; rintro e w1 ⟨rfl, rfl⟩)))
      all_goals try (rw [rounds_succ]; go_wp2_with (first | (go_at_call 36; refine (below1_calls _ _ _ _ (by assumption)).mono ?_; rintro e w1 ⟨rfl, rfl⟩) | (go_at_call 37; refine (any_calls _ _).mono ?_; rintro e w1 ⟨rfl, rfl⟩)))
      all_goals try (rw [rounds_succ]; go_wp2_with (first | (go_at_call 36; refine (below1_calls _ _ _ _ (by assumption)).mono ?_; rintro e w1 ⟨rfl, rfl⟩) | (go_at_call 37; refine (any_calls _ _).mono ?_; rintro e w1 ⟨rfl, rfl⟩) | (go_at_call 27; refine (named_calls _ _).mono ?_; rintro e w1 ⟨rfl, rfl⟩)))
      all_goals (go_ret; refine ⟨?_, by repeat (first | exact ext_refl _ | assumption | refine ext_more' ?_ _ _ | refine ext_drew ?_ | refine ext_drewN ?_ _ | refine ext_alloc ?_ _)⟩; rw [HSP.out]; clear HSP HSH lk114 lk106 lk112 lk110 lk45 h1 h2 h3 h4 hI2 hl2 hw2 hw1 hb x0 x1 x2 x3 y0 y1 y2 y3 y4; refine ret_bool ?_)
      all_goals (try simp only [Bool.not_eq_true', Bool.not_eq_false', Bool.and_eq_true, Bool.and_eq_false_imp, decide_eq_true_eq, decide_eq_false_iff_not, Bool.not_eq_true] at *)
      all_goals first | (simp [fitsB, shapeL, letB, ba_empty, *]; done) | (simp [fitsB, shapeL, letB, *]; intros; omega)
    by_cases hk10 : i0 = 10
    · have hs : shStr i0 = ⟨#[114, 114, 112, 45, 115]⟩ := by subst hk10; rfl
      have HSH := Lib.hid hs; clear hs
      have HSP := Lib.hid (show fitsB regs len n ⟨i0, i1, i2, i3, i4, i5⟩ = fitsB regs len n ⟨10, i1, i2, i3, i4, i5⟩ from by rw [hk10])
      clear hk10

      have y0 : ∀ w, (Instr.index 9 (.string ⟨#[114, 114, 112, 45, 115]⟩) (.int .i64 0)).run Try.prog w = .ok (.int .u8 114) w := fun _ => by kernel_rfl
      have y1 : ∀ w, (Instr.index 9 (.string ⟨#[114, 114, 112, 45, 115]⟩) (.int .i64 1)).run Try.prog w = .ok (.int .u8 114) w := fun _ => by kernel_rfl
      have y2 : ∀ w, (Instr.index 9 (.string ⟨#[114, 114, 112, 45, 115]⟩) (.int .i64 2)).run Try.prog w = .ok (.int .u8 112) w := fun _ => by kernel_rfl
      have y3 : ∀ w, (Instr.index 9 (.string ⟨#[114, 114, 112, 45, 115]⟩) (.int .i64 3)).run Try.prog w = .ok (.int .u8 45) w := fun _ => by kernel_rfl
      have y4 : ∀ w, (Instr.index 9 (.string ⟨#[114, 114, 112, 45, 115]⟩) (.int .i64 4)).run Try.prog w = .ok (.int .u8 115) w := fun _ => by kernel_rfl
      go_wp2_with (go_at_call 38; refine (shape_calls _ _).mono ?_; rw [HSH.out]; rintro e w1 ⟨rfl, hb⟩; replace lk114 := lk114 _ hb; replace lk106 := lk106 _ hb; replace lk112 := lk112 _ hb; replace lk110 := lk110 _ hb; replace lk45 := lk45 _ hb; replace h1 := cell_keep hb h1; replace h2 := cell_keep hb h2; replace h3 := cell_keep hb h3; replace h4 := cell_keep hb h4; replace hI2 := (box_on hb hl2 hI2).2; have hw1 := ext_trans hw2 hb)
      refine wp_loop_rounds 5 ?_
      all_goals (rw [rounds_succ]; go_wp2_with (first | (go_at_call 36; refine (below1_calls _ _ _ _ (by assumption)).mono ?_; rintro e w1 ⟨rfl, rfl⟩) | (go_at_call 37; refine (any_calls _ _).mono ?_; rintro e w1 ⟨rfl, rfl⟩)))
      all_goals try (rw [rounds_succ]; go_wp2_with (first | (go_at_call 36; refine (below1_calls _ _ _ _ (by assumption)).mono ?_; rintro e w1 ⟨rfl, rfl⟩) | (go_at_call 37; refine (any_calls _ _).mono ?_; rintro e w1 ⟨rfl, rfl⟩)))
      all_goals try (rw [rounds_succ]; go_wp2_with (first | (go_at_call 36; refine (below1_calls _ _ _ _ (by assumption)).mono ?_; rintro e w1 ⟨rfl, rfl⟩) | (go_at_call 37; refine (any_calls _ _).mono ?_; rintro e w1 ⟨rfl, rfl⟩)))
      all_goals try (rw [rounds_succ]; go_wp2_with (first | (go_at_call 36; refine (below1_calls _ _ _ _ (by assumption)).mono ?_; rintro e w1 ⟨rfl, rfl⟩) | (go_at_call 37; refine (any_calls _ _).mono ?_; rintro e w1 ⟨rfl, rfl⟩)))
      all_goals try (rw [rounds_succ]; go_wp2_with (first | (go_at_call 36; refine (below1_calls _ _ _ _ (by assumption)).mono ?_; rintro e w1 ⟨rfl, rfl⟩) | (go_at_call 37; refine (any_calls _ _).mono ?_; rintro e w1 ⟨rfl, rfl⟩) | (go_at_call 27; refine (named_calls _ _).mono ?_; rintro e w1 ⟨rfl, rfl⟩)))
      all_goals (go_ret; refine ⟨?_, by repeat (first | exact ext_refl _ | assumption | refine ext_more' ?_ _ _ | refine ext_drew ?_ | refine ext_drewN ?_ _ | refine ext_alloc ?_ _)⟩; rw [HSP.out]; clear HSP HSH lk114 lk106 lk112 lk110 lk45 h1 h2 h3 h4 hI2 hl2 hw2 hw1 hb x0 x1 x2 x3 y0 y1 y2 y3 y4; refine ret_bool ?_)
      all_goals (try simp only [Bool.not_eq_true', Bool.not_eq_false', Bool.and_eq_true, Bool.and_eq_false_imp, decide_eq_true_eq, decide_eq_false_iff_not, Bool.not_eq_true] at *)
      all_goals first | (simp [fitsB, shapeL, letB, ba_empty, *]; done) | (simp [fitsB, shapeL, letB, *]; intros; omega)
    by_cases hk11 : i0 = 11
    · have hs : shStr i0 = ⟨#[114, 114, 45, 45, 45]⟩ := by subst hk11; rfl
      have HSH := Lib.hid hs; clear hs
      have HSP := Lib.hid (show fitsB regs len n ⟨i0, i1, i2, i3, i4, i5⟩ = fitsB regs len n ⟨11, i1, i2, i3, i4, i5⟩ from by rw [hk11])
      clear hk11

      have y0 : ∀ w, (Instr.index 9 (.string ⟨#[114, 114, 45, 45, 45]⟩) (.int .i64 0)).run Try.prog w = .ok (.int .u8 114) w := fun _ => by kernel_rfl
      have y1 : ∀ w, (Instr.index 9 (.string ⟨#[114, 114, 45, 45, 45]⟩) (.int .i64 1)).run Try.prog w = .ok (.int .u8 114) w := fun _ => by kernel_rfl
      have y2 : ∀ w, (Instr.index 9 (.string ⟨#[114, 114, 45, 45, 45]⟩) (.int .i64 2)).run Try.prog w = .ok (.int .u8 45) w := fun _ => by kernel_rfl
      have y3 : ∀ w, (Instr.index 9 (.string ⟨#[114, 114, 45, 45, 45]⟩) (.int .i64 3)).run Try.prog w = .ok (.int .u8 45) w := fun _ => by kernel_rfl
      have y4 : ∀ w, (Instr.index 9 (.string ⟨#[114, 114, 45, 45, 45]⟩) (.int .i64 4)).run Try.prog w = .ok (.int .u8 45) w := fun _ => by kernel_rfl
      go_wp2_with (go_at_call 38; refine (shape_calls _ _).mono ?_; rw [HSH.out]; rintro e w1 ⟨rfl, hb⟩; replace lk114 := lk114 _ hb; replace lk106 := lk106 _ hb; replace lk112 := lk112 _ hb; replace lk110 := lk110 _ hb; replace lk45 := lk45 _ hb; replace h1 := cell_keep hb h1; replace h2 := cell_keep hb h2; replace h3 := cell_keep hb h3; replace h4 := cell_keep hb h4; replace hI2 := (box_on hb hl2 hI2).2; have hw1 := ext_trans hw2 hb)
      refine wp_loop_rounds 5 ?_
      all_goals (rw [rounds_succ]; go_wp2_with (first | (go_at_call 36; refine (below1_calls _ _ _ _ (by assumption)).mono ?_; rintro e w1 ⟨rfl, rfl⟩) | (go_at_call 37; refine (any_calls _ _).mono ?_; rintro e w1 ⟨rfl, rfl⟩)))
      all_goals try (rw [rounds_succ]; go_wp2_with (first | (go_at_call 36; refine (below1_calls _ _ _ _ (by assumption)).mono ?_; rintro e w1 ⟨rfl, rfl⟩) | (go_at_call 37; refine (any_calls _ _).mono ?_; rintro e w1 ⟨rfl, rfl⟩)))
      all_goals try (rw [rounds_succ]; go_wp2_with (first | (go_at_call 36; refine (below1_calls _ _ _ _ (by assumption)).mono ?_; rintro e w1 ⟨rfl, rfl⟩) | (go_at_call 37; refine (any_calls _ _).mono ?_; rintro e w1 ⟨rfl, rfl⟩)))
      all_goals try (rw [rounds_succ]; go_wp2_with (first | (go_at_call 36; refine (below1_calls _ _ _ _ (by assumption)).mono ?_; rintro e w1 ⟨rfl, rfl⟩) | (go_at_call 37; refine (any_calls _ _).mono ?_; rintro e w1 ⟨rfl, rfl⟩)))
      all_goals try (rw [rounds_succ]; go_wp2_with (first | (go_at_call 36; refine (below1_calls _ _ _ _ (by assumption)).mono ?_; rintro e w1 ⟨rfl, rfl⟩) | (go_at_call 37; refine (any_calls _ _).mono ?_; rintro e w1 ⟨rfl, rfl⟩) | (go_at_call 27; refine (named_calls _ _).mono ?_; rintro e w1 ⟨rfl, rfl⟩)))
      all_goals (go_ret; refine ⟨?_, by repeat (first | exact ext_refl _ | assumption | refine ext_more' ?_ _ _ | refine ext_drew ?_ | refine ext_drewN ?_ _ | refine ext_alloc ?_ _)⟩; rw [HSP.out]; clear HSP HSH lk114 lk106 lk112 lk110 lk45 h1 h2 h3 h4 hI2 hl2 hw2 hw1 hb x0 x1 x2 x3 y0 y1 y2 y3 y4; refine ret_bool ?_)
      all_goals (try simp only [Bool.not_eq_true', Bool.not_eq_false', Bool.and_eq_true, Bool.and_eq_false_imp, decide_eq_true_eq, decide_eq_false_iff_not, Bool.not_eq_true] at *)
      all_goals first | (simp [fitsB, shapeL, letB, ba_empty, *]; done) | (simp [fitsB, shapeL, letB, *]; intros; omega)
    by_cases hk12 : i0 = 12
    · have hs : shStr i0 = ⟨#[114, 114, 45, 45, 115]⟩ := by subst hk12; rfl
      have HSH := Lib.hid hs; clear hs
      have HSP := Lib.hid (show fitsB regs len n ⟨i0, i1, i2, i3, i4, i5⟩ = fitsB regs len n ⟨12, i1, i2, i3, i4, i5⟩ from by rw [hk12])
      clear hk12

      have y0 : ∀ w, (Instr.index 9 (.string ⟨#[114, 114, 45, 45, 115]⟩) (.int .i64 0)).run Try.prog w = .ok (.int .u8 114) w := fun _ => by kernel_rfl
      have y1 : ∀ w, (Instr.index 9 (.string ⟨#[114, 114, 45, 45, 115]⟩) (.int .i64 1)).run Try.prog w = .ok (.int .u8 114) w := fun _ => by kernel_rfl
      have y2 : ∀ w, (Instr.index 9 (.string ⟨#[114, 114, 45, 45, 115]⟩) (.int .i64 2)).run Try.prog w = .ok (.int .u8 45) w := fun _ => by kernel_rfl
      have y3 : ∀ w, (Instr.index 9 (.string ⟨#[114, 114, 45, 45, 115]⟩) (.int .i64 3)).run Try.prog w = .ok (.int .u8 45) w := fun _ => by kernel_rfl
      have y4 : ∀ w, (Instr.index 9 (.string ⟨#[114, 114, 45, 45, 115]⟩) (.int .i64 4)).run Try.prog w = .ok (.int .u8 115) w := fun _ => by kernel_rfl
      go_wp2_with (go_at_call 38; refine (shape_calls _ _).mono ?_; rw [HSH.out]; rintro e w1 ⟨rfl, hb⟩; replace lk114 := lk114 _ hb; replace lk106 := lk106 _ hb; replace lk112 := lk112 _ hb; replace lk110 := lk110 _ hb; replace lk45 := lk45 _ hb; replace h1 := cell_keep hb h1; replace h2 := cell_keep hb h2; replace h3 := cell_keep hb h3; replace h4 := cell_keep hb h4; replace hI2 := (box_on hb hl2 hI2).2; have hw1 := ext_trans hw2 hb)
      refine wp_loop_rounds 5 ?_
      all_goals (rw [rounds_succ]; go_wp2_with (first | (go_at_call 36; refine (below1_calls _ _ _ _ (by assumption)).mono ?_; rintro e w1 ⟨rfl, rfl⟩) | (go_at_call 37; refine (any_calls _ _).mono ?_; rintro e w1 ⟨rfl, rfl⟩)))
      all_goals try (rw [rounds_succ]; go_wp2_with (first | (go_at_call 36; refine (below1_calls _ _ _ _ (by assumption)).mono ?_; rintro e w1 ⟨rfl, rfl⟩) | (go_at_call 37; refine (any_calls _ _).mono ?_; rintro e w1 ⟨rfl, rfl⟩)))
      all_goals try (rw [rounds_succ]; go_wp2_with (first | (go_at_call 36; refine (below1_calls _ _ _ _ (by assumption)).mono ?_; rintro e w1 ⟨rfl, rfl⟩) | (go_at_call 37; refine (any_calls _ _).mono ?_; rintro e w1 ⟨rfl, rfl⟩)))
      all_goals try (rw [rounds_succ]; go_wp2_with (first | (go_at_call 36; refine (below1_calls _ _ _ _ (by assumption)).mono ?_; rintro e w1 ⟨rfl, rfl⟩) | (go_at_call 37; refine (any_calls _ _).mono ?_; rintro e w1 ⟨rfl, rfl⟩)))
      all_goals try (rw [rounds_succ]; go_wp2_with (first | (go_at_call 36; refine (below1_calls _ _ _ _ (by assumption)).mono ?_; rintro e w1 ⟨rfl, rfl⟩) | (go_at_call 37; refine (any_calls _ _).mono ?_; rintro e w1 ⟨rfl, rfl⟩) | (go_at_call 27; refine (named_calls _ _).mono ?_; rintro e w1 ⟨rfl, rfl⟩)))
      all_goals (go_ret; refine ⟨?_, by repeat (first | exact ext_refl _ | assumption | refine ext_more' ?_ _ _ | refine ext_drew ?_ | refine ext_drewN ?_ _ | refine ext_alloc ?_ _)⟩; rw [HSP.out]; clear HSP HSH lk114 lk106 lk112 lk110 lk45 h1 h2 h3 h4 hI2 hl2 hw2 hw1 hb x0 x1 x2 x3 y0 y1 y2 y3 y4; refine ret_bool ?_)
      all_goals (try simp only [Bool.not_eq_true', Bool.not_eq_false', Bool.and_eq_true, Bool.and_eq_false_imp, decide_eq_true_eq, decide_eq_false_iff_not, Bool.not_eq_true] at *)
      all_goals first | (simp [fitsB, shapeL, letB, ba_empty, *]; done) | (simp [fitsB, shapeL, letB, *]; intros; omega)
    by_cases hk13 : i0 = 13
    · have hs : shStr i0 = ⟨#[114, 114, 114, 45, 45]⟩ := by subst hk13; rfl
      have HSH := Lib.hid hs; clear hs
      have HSP := Lib.hid (show fitsB regs len n ⟨i0, i1, i2, i3, i4, i5⟩ = fitsB regs len n ⟨13, i1, i2, i3, i4, i5⟩ from by rw [hk13])
      clear hk13

      have y0 : ∀ w, (Instr.index 9 (.string ⟨#[114, 114, 114, 45, 45]⟩) (.int .i64 0)).run Try.prog w = .ok (.int .u8 114) w := fun _ => by kernel_rfl
      have y1 : ∀ w, (Instr.index 9 (.string ⟨#[114, 114, 114, 45, 45]⟩) (.int .i64 1)).run Try.prog w = .ok (.int .u8 114) w := fun _ => by kernel_rfl
      have y2 : ∀ w, (Instr.index 9 (.string ⟨#[114, 114, 114, 45, 45]⟩) (.int .i64 2)).run Try.prog w = .ok (.int .u8 114) w := fun _ => by kernel_rfl
      have y3 : ∀ w, (Instr.index 9 (.string ⟨#[114, 114, 114, 45, 45]⟩) (.int .i64 3)).run Try.prog w = .ok (.int .u8 45) w := fun _ => by kernel_rfl
      have y4 : ∀ w, (Instr.index 9 (.string ⟨#[114, 114, 114, 45, 45]⟩) (.int .i64 4)).run Try.prog w = .ok (.int .u8 45) w := fun _ => by kernel_rfl
      go_wp2_with (go_at_call 38; refine (shape_calls _ _).mono ?_; rw [HSH.out]; rintro e w1 ⟨rfl, hb⟩; replace lk114 := lk114 _ hb; replace lk106 := lk106 _ hb; replace lk112 := lk112 _ hb; replace lk110 := lk110 _ hb; replace lk45 := lk45 _ hb; replace h1 := cell_keep hb h1; replace h2 := cell_keep hb h2; replace h3 := cell_keep hb h3; replace h4 := cell_keep hb h4; replace hI2 := (box_on hb hl2 hI2).2; have hw1 := ext_trans hw2 hb)
      refine wp_loop_rounds 5 ?_
      all_goals (rw [rounds_succ]; go_wp2_with (first | (go_at_call 36; refine (below1_calls _ _ _ _ (by assumption)).mono ?_; rintro e w1 ⟨rfl, rfl⟩) | (go_at_call 37; refine (any_calls _ _).mono ?_; rintro e w1 ⟨rfl, rfl⟩)))
      all_goals try (rw [rounds_succ]; go_wp2_with (first | (go_at_call 36; refine (below1_calls _ _ _ _ (by assumption)).mono ?_; rintro e w1 ⟨rfl, rfl⟩) | (go_at_call 37; refine (any_calls _ _).mono ?_; rintro e w1 ⟨rfl, rfl⟩)))
      all_goals try (rw [rounds_succ]; go_wp2_with (first | (go_at_call 36; refine (below1_calls _ _ _ _ (by assumption)).mono ?_; rintro e w1 ⟨rfl, rfl⟩) | (go_at_call 37; refine (any_calls _ _).mono ?_; rintro e w1 ⟨rfl, rfl⟩)))
      all_goals try (rw [rounds_succ]; go_wp2_with (first | (go_at_call 36; refine (below1_calls _ _ _ _ (by assumption)).mono ?_; rintro e w1 ⟨rfl, rfl⟩) | (go_at_call 37; refine (any_calls _ _).mono ?_; rintro e w1 ⟨rfl, rfl⟩)))
      all_goals try (rw [rounds_succ]; go_wp2_with (first | (go_at_call 36; refine (below1_calls _ _ _ _ (by assumption)).mono ?_; rintro e w1 ⟨rfl, rfl⟩) | (go_at_call 37; refine (any_calls _ _).mono ?_; rintro e w1 ⟨rfl, rfl⟩) | (go_at_call 27; refine (named_calls _ _).mono ?_; rintro e w1 ⟨rfl, rfl⟩)))
      all_goals (go_ret; refine ⟨?_, by repeat (first | exact ext_refl _ | assumption | refine ext_more' ?_ _ _ | refine ext_drew ?_ | refine ext_drewN ?_ _ | refine ext_alloc ?_ _)⟩; rw [HSP.out]; clear HSP HSH lk114 lk106 lk112 lk110 lk45 h1 h2 h3 h4 hI2 hl2 hw2 hw1 hb x0 x1 x2 x3 y0 y1 y2 y3 y4; refine ret_bool ?_)
      all_goals (try simp only [Bool.not_eq_true', Bool.not_eq_false', Bool.and_eq_true, Bool.and_eq_false_imp, decide_eq_true_eq, decide_eq_false_iff_not, Bool.not_eq_true] at *)
      all_goals first | (simp [fitsB, shapeL, letB, ba_empty, *]; done) | (simp [fitsB, shapeL, letB, *]; intros; omega)
    by_cases hk14 : i0 = 14
    · have hs : shStr i0 = ⟨#[114, 45, 45, 45, 45]⟩ := by subst hk14; rfl
      have HSH := Lib.hid hs; clear hs
      have HSP := Lib.hid (show fitsB regs len n ⟨i0, i1, i2, i3, i4, i5⟩ = fitsB regs len n ⟨14, i1, i2, i3, i4, i5⟩ from by rw [hk14])
      clear hk14

      have y0 : ∀ w, (Instr.index 9 (.string ⟨#[114, 45, 45, 45, 45]⟩) (.int .i64 0)).run Try.prog w = .ok (.int .u8 114) w := fun _ => by kernel_rfl
      have y1 : ∀ w, (Instr.index 9 (.string ⟨#[114, 45, 45, 45, 45]⟩) (.int .i64 1)).run Try.prog w = .ok (.int .u8 45) w := fun _ => by kernel_rfl
      have y2 : ∀ w, (Instr.index 9 (.string ⟨#[114, 45, 45, 45, 45]⟩) (.int .i64 2)).run Try.prog w = .ok (.int .u8 45) w := fun _ => by kernel_rfl
      have y3 : ∀ w, (Instr.index 9 (.string ⟨#[114, 45, 45, 45, 45]⟩) (.int .i64 3)).run Try.prog w = .ok (.int .u8 45) w := fun _ => by kernel_rfl
      have y4 : ∀ w, (Instr.index 9 (.string ⟨#[114, 45, 45, 45, 45]⟩) (.int .i64 4)).run Try.prog w = .ok (.int .u8 45) w := fun _ => by kernel_rfl
      go_wp2_with (go_at_call 38; refine (shape_calls _ _).mono ?_; rw [HSH.out]; rintro e w1 ⟨rfl, hb⟩; replace lk114 := lk114 _ hb; replace lk106 := lk106 _ hb; replace lk112 := lk112 _ hb; replace lk110 := lk110 _ hb; replace lk45 := lk45 _ hb; replace h1 := cell_keep hb h1; replace h2 := cell_keep hb h2; replace h3 := cell_keep hb h3; replace h4 := cell_keep hb h4; replace hI2 := (box_on hb hl2 hI2).2; have hw1 := ext_trans hw2 hb)
      refine wp_loop_rounds 5 ?_
      all_goals (rw [rounds_succ]; go_wp2_with (first | (go_at_call 36; refine (below1_calls _ _ _ _ (by assumption)).mono ?_; rintro e w1 ⟨rfl, rfl⟩) | (go_at_call 37; refine (any_calls _ _).mono ?_; rintro e w1 ⟨rfl, rfl⟩)))
      all_goals try (rw [rounds_succ]; go_wp2_with (first | (go_at_call 36; refine (below1_calls _ _ _ _ (by assumption)).mono ?_; rintro e w1 ⟨rfl, rfl⟩) | (go_at_call 37; refine (any_calls _ _).mono ?_; rintro e w1 ⟨rfl, rfl⟩)))
      all_goals try (rw [rounds_succ]; go_wp2_with (first | (go_at_call 36; refine (below1_calls _ _ _ _ (by assumption)).mono ?_; rintro e w1 ⟨rfl, rfl⟩) | (go_at_call 37; refine (any_calls _ _).mono ?_; rintro e w1 ⟨rfl, rfl⟩)))
      all_goals try (rw [rounds_succ]; go_wp2_with (first | (go_at_call 36; refine (below1_calls _ _ _ _ (by assumption)).mono ?_; rintro e w1 ⟨rfl, rfl⟩) | (go_at_call 37; refine (any_calls _ _).mono ?_; rintro e w1 ⟨rfl, rfl⟩)))
      all_goals try (rw [rounds_succ]; go_wp2_with (first | (go_at_call 36; refine (below1_calls _ _ _ _ (by assumption)).mono ?_; rintro e w1 ⟨rfl, rfl⟩) | (go_at_call 37; refine (any_calls _ _).mono ?_; rintro e w1 ⟨rfl, rfl⟩) | (go_at_call 27; refine (named_calls _ _).mono ?_; rintro e w1 ⟨rfl, rfl⟩)))
      all_goals (go_ret; refine ⟨?_, by repeat (first | exact ext_refl _ | assumption | refine ext_more' ?_ _ _ | refine ext_drew ?_ | refine ext_drewN ?_ _ | refine ext_alloc ?_ _)⟩; rw [HSP.out]; clear HSP HSH lk114 lk106 lk112 lk110 lk45 h1 h2 h3 h4 hI2 hl2 hw2 hw1 hb x0 x1 x2 x3 y0 y1 y2 y3 y4; refine ret_bool ?_)
      all_goals (try simp only [Bool.not_eq_true', Bool.not_eq_false', Bool.and_eq_true, Bool.and_eq_false_imp, decide_eq_true_eq, decide_eq_false_iff_not, Bool.not_eq_true] at *)
      all_goals first | (simp [fitsB, shapeL, letB, ba_empty, *]; done) | (simp [fitsB, shapeL, letB, *]; intros; omega)
    by_cases hk15 : i0 = 15
    · have hs : shStr i0 = ⟨#[114, 45, 45, 45, 45]⟩ := by subst hk15; rfl
      have HSH := Lib.hid hs; clear hs
      have HSP := Lib.hid (show fitsB regs len n ⟨i0, i1, i2, i3, i4, i5⟩ = fitsB regs len n ⟨15, i1, i2, i3, i4, i5⟩ from by rw [hk15])
      clear hk15

      have y0 : ∀ w, (Instr.index 9 (.string ⟨#[114, 45, 45, 45, 45]⟩) (.int .i64 0)).run Try.prog w = .ok (.int .u8 114) w := fun _ => by kernel_rfl
      have y1 : ∀ w, (Instr.index 9 (.string ⟨#[114, 45, 45, 45, 45]⟩) (.int .i64 1)).run Try.prog w = .ok (.int .u8 45) w := fun _ => by kernel_rfl
      have y2 : ∀ w, (Instr.index 9 (.string ⟨#[114, 45, 45, 45, 45]⟩) (.int .i64 2)).run Try.prog w = .ok (.int .u8 45) w := fun _ => by kernel_rfl
      have y3 : ∀ w, (Instr.index 9 (.string ⟨#[114, 45, 45, 45, 45]⟩) (.int .i64 3)).run Try.prog w = .ok (.int .u8 45) w := fun _ => by kernel_rfl
      have y4 : ∀ w, (Instr.index 9 (.string ⟨#[114, 45, 45, 45, 45]⟩) (.int .i64 4)).run Try.prog w = .ok (.int .u8 45) w := fun _ => by kernel_rfl
      go_wp2_with (go_at_call 38; refine (shape_calls _ _).mono ?_; rw [HSH.out]; rintro e w1 ⟨rfl, hb⟩; replace lk114 := lk114 _ hb; replace lk106 := lk106 _ hb; replace lk112 := lk112 _ hb; replace lk110 := lk110 _ hb; replace lk45 := lk45 _ hb; replace h1 := cell_keep hb h1; replace h2 := cell_keep hb h2; replace h3 := cell_keep hb h3; replace h4 := cell_keep hb h4; replace hI2 := (box_on hb hl2 hI2).2; have hw1 := ext_trans hw2 hb)
      refine wp_loop_rounds 5 ?_
      all_goals (rw [rounds_succ]; go_wp2_with (first | (go_at_call 36; refine (below1_calls _ _ _ _ (by assumption)).mono ?_; rintro e w1 ⟨rfl, rfl⟩) | (go_at_call 37; refine (any_calls _ _).mono ?_; rintro e w1 ⟨rfl, rfl⟩)))
      all_goals try (rw [rounds_succ]; go_wp2_with (first | (go_at_call 36; refine (below1_calls _ _ _ _ (by assumption)).mono ?_; rintro e w1 ⟨rfl, rfl⟩) | (go_at_call 37; refine (any_calls _ _).mono ?_; rintro e w1 ⟨rfl, rfl⟩)))
      all_goals try (rw [rounds_succ]; go_wp2_with (first | (go_at_call 36; refine (below1_calls _ _ _ _ (by assumption)).mono ?_; rintro e w1 ⟨rfl, rfl⟩) | (go_at_call 37; refine (any_calls _ _).mono ?_; rintro e w1 ⟨rfl, rfl⟩)))
      all_goals try (rw [rounds_succ]; go_wp2_with (first | (go_at_call 36; refine (below1_calls _ _ _ _ (by assumption)).mono ?_; rintro e w1 ⟨rfl, rfl⟩) | (go_at_call 37; refine (any_calls _ _).mono ?_; rintro e w1 ⟨rfl, rfl⟩)))
      all_goals try (rw [rounds_succ]; go_wp2_with (first | (go_at_call 36; refine (below1_calls _ _ _ _ (by assumption)).mono ?_; rintro e w1 ⟨rfl, rfl⟩) | (go_at_call 37; refine (any_calls _ _).mono ?_; rintro e w1 ⟨rfl, rfl⟩) | (go_at_call 27; refine (named_calls _ _).mono ?_; rintro e w1 ⟨rfl, rfl⟩)))
      all_goals (go_ret; refine ⟨?_, by repeat (first | exact ext_refl _ | assumption | refine ext_more' ?_ _ _ | refine ext_drew ?_ | refine ext_drewN ?_ _ | refine ext_alloc ?_ _)⟩; rw [HSP.out]; clear HSP HSH lk114 lk106 lk112 lk110 lk45 h1 h2 h3 h4 hI2 hl2 hw2 hw1 hb x0 x1 x2 x3 y0 y1 y2 y3 y4; refine ret_bool ?_)
      all_goals (try simp only [Bool.not_eq_true', Bool.not_eq_false', Bool.and_eq_true, Bool.and_eq_false_imp, decide_eq_true_eq, decide_eq_false_iff_not, Bool.not_eq_true] at *)
      all_goals first | (simp [fitsB, shapeL, letB, ba_empty, *]; done) | (simp [fitsB, shapeL, letB, *]; intros; omega)
    by_cases hk16 : i0 = 16
    · have hs : shStr i0 = ⟨#[114, 45, 45, 45, 45]⟩ := by subst hk16; rfl
      have HSH := Lib.hid hs; clear hs
      have HSP := Lib.hid (show fitsB regs len n ⟨i0, i1, i2, i3, i4, i5⟩ = fitsB regs len n ⟨16, i1, i2, i3, i4, i5⟩ from by rw [hk16])
      clear hk16

      have y0 : ∀ w, (Instr.index 9 (.string ⟨#[114, 45, 45, 45, 45]⟩) (.int .i64 0)).run Try.prog w = .ok (.int .u8 114) w := fun _ => by kernel_rfl
      have y1 : ∀ w, (Instr.index 9 (.string ⟨#[114, 45, 45, 45, 45]⟩) (.int .i64 1)).run Try.prog w = .ok (.int .u8 45) w := fun _ => by kernel_rfl
      have y2 : ∀ w, (Instr.index 9 (.string ⟨#[114, 45, 45, 45, 45]⟩) (.int .i64 2)).run Try.prog w = .ok (.int .u8 45) w := fun _ => by kernel_rfl
      have y3 : ∀ w, (Instr.index 9 (.string ⟨#[114, 45, 45, 45, 45]⟩) (.int .i64 3)).run Try.prog w = .ok (.int .u8 45) w := fun _ => by kernel_rfl
      have y4 : ∀ w, (Instr.index 9 (.string ⟨#[114, 45, 45, 45, 45]⟩) (.int .i64 4)).run Try.prog w = .ok (.int .u8 45) w := fun _ => by kernel_rfl
      go_wp2_with (go_at_call 38; refine (shape_calls _ _).mono ?_; rw [HSH.out]; rintro e w1 ⟨rfl, hb⟩; replace lk114 := lk114 _ hb; replace lk106 := lk106 _ hb; replace lk112 := lk112 _ hb; replace lk110 := lk110 _ hb; replace lk45 := lk45 _ hb; replace h1 := cell_keep hb h1; replace h2 := cell_keep hb h2; replace h3 := cell_keep hb h3; replace h4 := cell_keep hb h4; replace hI2 := (box_on hb hl2 hI2).2; have hw1 := ext_trans hw2 hb)
      refine wp_loop_rounds 5 ?_
      all_goals (rw [rounds_succ]; go_wp2_with (first | (go_at_call 36; refine (below1_calls _ _ _ _ (by assumption)).mono ?_; rintro e w1 ⟨rfl, rfl⟩) | (go_at_call 37; refine (any_calls _ _).mono ?_; rintro e w1 ⟨rfl, rfl⟩)))
      all_goals try (rw [rounds_succ]; go_wp2_with (first | (go_at_call 36; refine (below1_calls _ _ _ _ (by assumption)).mono ?_; rintro e w1 ⟨rfl, rfl⟩) | (go_at_call 37; refine (any_calls _ _).mono ?_; rintro e w1 ⟨rfl, rfl⟩)))
      all_goals try (rw [rounds_succ]; go_wp2_with (first | (go_at_call 36; refine (below1_calls _ _ _ _ (by assumption)).mono ?_; rintro e w1 ⟨rfl, rfl⟩) | (go_at_call 37; refine (any_calls _ _).mono ?_; rintro e w1 ⟨rfl, rfl⟩)))
      all_goals try (rw [rounds_succ]; go_wp2_with (first | (go_at_call 36; refine (below1_calls _ _ _ _ (by assumption)).mono ?_; rintro e w1 ⟨rfl, rfl⟩) | (go_at_call 37; refine (any_calls _ _).mono ?_; rintro e w1 ⟨rfl, rfl⟩)))
      all_goals try (rw [rounds_succ]; go_wp2_with (first | (go_at_call 36; refine (below1_calls _ _ _ _ (by assumption)).mono ?_; rintro e w1 ⟨rfl, rfl⟩) | (go_at_call 37; refine (any_calls _ _).mono ?_; rintro e w1 ⟨rfl, rfl⟩) | (go_at_call 27; refine (named_calls _ _).mono ?_; rintro e w1 ⟨rfl, rfl⟩)))
      all_goals (go_ret; refine ⟨?_, by repeat (first | exact ext_refl _ | assumption | refine ext_more' ?_ _ _ | refine ext_drew ?_ | refine ext_drewN ?_ _ | refine ext_alloc ?_ _)⟩; rw [HSP.out]; clear HSP HSH lk114 lk106 lk112 lk110 lk45 h1 h2 h3 h4 hI2 hl2 hw2 hw1 hb x0 x1 x2 x3 y0 y1 y2 y3 y4; refine ret_bool ?_)
      all_goals (try simp only [Bool.not_eq_true', Bool.not_eq_false', Bool.and_eq_true, Bool.and_eq_false_imp, decide_eq_true_eq, decide_eq_false_iff_not, Bool.not_eq_true] at *)
      all_goals first | (simp [fitsB, shapeL, letB, ba_empty, *]; done) | (simp [fitsB, shapeL, letB, *]; intros; omega)
    have hno : ¬ (1 ≤ i0 ∧ i0 ≤ 16) := by omega
    have HSP := Lib.hid (show fitsB regs len n ⟨i0, i1, i2, i3, i4, i5⟩ = false from by
      have : shapeL i0 = [] := by
        unfold shapeL
        rw [if_neg hk1]; rw [if_neg hk2]; rw [if_neg hk3]; rw [if_neg hk4]; rw [if_neg hk5]; rw [if_neg hk6]; rw [if_neg hk7]; rw [if_neg hk8]; rw [if_neg hk9]; rw [if_neg hk10]; rw [if_neg hk11]; rw [if_neg hk12]; rw [if_neg hk13]; rw [if_neg hk14]; rw [if_neg hk15]; rw [if_neg hk16]
      simp [fitsB, this])
    have HSH := Lib.hid (shStr_none hno)
    clear hk1 hk2 hk3 hk4 hk5 hk6 hk7 hk8 hk9 hk10 hk11 hk12 hk13 hk14 hk15 hk16 hno
    go_wp2_with (go_at_call 38; refine (shape_calls _ _).mono ?_; rw [HSH.out]; rintro e w1 ⟨rfl, hb⟩; have hw1 := ext_trans hw2 hb)
    go_ret
    refine ⟨?_, by repeat (first | exact ext_refl _ | assumption | refine ext_more' ?_ _ _ | refine ext_drew ?_ | refine ext_drewN ?_ _ | refine ext_alloc ?_ _)⟩
    rw [HSP.out]
    rfl
  · subst hw0
    have toR := Lib.hid toR0
    have ofR := Lib.hid ofR0
    have hQ := Lib.hid hQ0
    clear toR0 ofR0 hQ0 hHeld hP hI
    have st4112345c_ : ∀ (M B1 B2 B3 B4 : Nat) (w : World), Ext W0 w → MapAt W0 w M (some (fB B1)) (some (fB B2)) (some (fB B3)) (some fAny) (some (fB B4)) → w.cell? ⟨B1, 0, none⟩ = some (.int .i64 regs) → w.cell? ⟨B2, 0, none⟩ = some (.int .i64 len) → w.cell? ⟨B3, 0, none⟩ = some (.int .i64 n) → w.cell? ⟨B4, 0, none⟩ = some (.int .i64 1) → R 0 #[true, true, true, true, true, true, true, true, true, true, true, true, true, true, true, true, true, true, true, true, true, true] (fA (.agg #[.string p0, .int .i64 regs, .slice s len cap]) (.agg #[.int .u8 i0, .int .i64 i1, .int .i64 i2, .int .i64 i3, .int .i64 i4, .string i5]) (.slice s len cap) n regs len w0.heap.size (w0.heap.size + 1) (.map (some M)) (fB B1) (fB B2) (fB B3) (fB B4) (.map (some M)) (.map (some M))) w := by
      intro M B1 B2 B3 B4 w hS hM h1 h2 h3 h4
      refine toR.out _ _ _ _ ?_
      refine wpAnyH_done (by kernel_rfl) ?_ _
      exact hQ.out M B1 B2 B3 B4 w ⟨hS, hM, h1, h2, h3, h4⟩
    have st4112345c := Lib.hid st4112345c_; clear st4112345c_
    have st4112345b_ : ∀ (M B1 B2 B3 B4 : Nat) (w : World), Ext W0 w → MapAt W0 w M (some (fB B1)) (some (fB B2)) (some (fB B3)) (some fAny) (some (fB B4)) → w.cell? ⟨B1, 0, none⟩ = some (.int .i64 regs) → w.cell? ⟨B2, 0, none⟩ = some (.int .i64 len) → w.cell? ⟨B3, 0, none⟩ = some (.int .i64 n) → w.cell? ⟨B4, 0, none⟩ = some (.int .i64 1) → R 1 #[true, true, true, true, true, true, true, true, true, true, true, true, true, true, true, true, true, true, true, true, true, false] (fA (.agg #[.string p0, .int .i64 regs, .slice s len cap]) (.agg #[.int .u8 i0, .int .i64 i1, .int .i64 i2, .int .i64 i3, .int .i64 i4, .string i5]) (.slice s len cap) n regs len w0.heap.size (w0.heap.size + 1) (.map (some M)) (fB B1) (fB B2) (fB B3) (fB B4) (.map (some M)) undef) w := by
      intro M B1 B2 B3 B4 w hS hM h1 h2 h3 h4
      refine toR.out _ _ _ _ ?_
      refine wpAnyH_ready (rs := [21]) (by kernel_rfl) (by simp) ?_
      refine AllReadyH.cons rfl (fun K hK => ?_) ?_
      · rw [if_pos (by kernel_rfl)]
        go_simp
        refine hK.out _ _ hS (fun _ => ?_)
        exact ofR.out _ _ _ _ (st4112345c.out M B1 B2 B3 B4 w hS hM h1 h2 h3 h4)
      exact AllReadyH.nil
    have st4112345b := Lib.hid st4112345b_; clear st4112345b_
    have st4112345a_ : ∀ (M B1 B2 B3 B4 : Nat) (w : World), Ext W0 w → MapAt W0 w M (some (fB B1)) (some (fB B2)) (some (fB B3)) (some fAny) (some (fB B4)) → w.cell? ⟨B1, 0, none⟩ = some (.int .i64 regs) → w.cell? ⟨B2, 0, none⟩ = some (.int .i64 len) → w.cell? ⟨B3, 0, none⟩ = some (.int .i64 n) → w.cell? ⟨B4, 0, none⟩ = some (.int .i64 1) → R 2 #[true, true, true, true, true, true, true, true, true, true, true, true, true, true, true, true, true, true, true, true, false, false] (fA (.agg #[.string p0, .int .i64 regs, .slice s len cap]) (.agg #[.int .u8 i0, .int .i64 i1, .int .i64 i2, .int .i64 i3, .int .i64 i4, .string i5]) (.slice s len cap) n regs len w0.heap.size (w0.heap.size + 1) (.map (some M)) (fB B1) (fB B2) (fB B3) (fB B4) undef undef) w := by
      intro M B1 B2 B3 B4 w hS hM h1 h2 h3 h4
      refine toR.out _ _ _ _ ?_
      refine wpAnyH_ready (rs := [20]) (by kernel_rfl) (by simp) ?_
      refine AllReadyH.cons rfl (fun K hK => ?_) ?_
      · rw [if_pos (by kernel_rfl)]
        go_simp
        refine hK.out _ _ hS (fun _ => ?_)
        exact ofR.out _ _ _ _ (st4112345b.out M B1 B2 B3 B4 w hS hM h1 h2 h3 h4)
      exact AllReadyH.nil
    have st4112345a := Lib.hid st4112345a_; clear st4112345a_
    have st411234_ : ∀ (M B1 B2 B3 B4 : Nat) (w : World), Ext W0 w → MapAt W0 w M (some (fB B1)) (some (fB B2)) (some (fB B3)) (some fAny) none → w.cell? ⟨B1, 0, none⟩ = some (.int .i64 regs) → w.cell? ⟨B2, 0, none⟩ = some (.int .i64 len) → w.cell? ⟨B3, 0, none⟩ = some (.int .i64 n) → w.cell? ⟨B4, 0, none⟩ = some (.int .i64 1) → R 3 #[true, true, true, true, true, true, true, true, true, true, true, true, true, true, true, true, true, true, true, false, false, false] (fA (.agg #[.string p0, .int .i64 regs, .slice s len cap]) (.agg #[.int .u8 i0, .int .i64 i1, .int .i64 i2, .int .i64 i3, .int .i64 i4, .string i5]) (.slice s len cap) n regs len w0.heap.size (w0.heap.size + 1) (.map (some M)) (fB B1) (fB B2) (fB B3) (fB B4) undef undef) w := by
      intro M B1 B2 B3 B4 w hS hM h1 h2 h3 h4
      refine toR.out _ _ _ _ ?_
      refine wpAnyH_ready (rs := [19]) (by kernel_rfl) (by simp) ?_
      refine AllReadyH.cons rfl (fun K hK => ?_) ?_
      · rw [if_pos (by kernel_rfl)]
        obtain ⟨w', heq, hM', hS', hk'⟩ := map_put (P := Try.prog) Try.underlying78 Try.underlying5 45 (fB B4) hM hS rfl (put5_5 _ _ _ _ _)
        try simp only [fAny] at heq
        go_simp
        refine hK.out _ _ hS' (fun _ => ?_)
        exact ofR.out _ _ _ _ (st4112345a.out M B1 B2 B3 B4 w' hS' hM' (hk' _ _ _ h1) (hk' _ _ _ h2) (hk' _ _ _ h3) (hk' _ _ _ h4))
      exact AllReadyH.nil
    have st411234 := Lib.hid st411234_; clear st411234_
    have st411235_ : ∀ (M B1 B2 B3 B4 : Nat) (w : World), Ext W0 w → MapAt W0 w M (some (fB B1)) (some (fB B2)) (some (fB B3)) none (some (fB B4)) → w.cell? ⟨B1, 0, none⟩ = some (.int .i64 regs) → w.cell? ⟨B2, 0, none⟩ = some (.int .i64 len) → w.cell? ⟨B3, 0, none⟩ = some (.int .i64 n) → w.cell? ⟨B4, 0, none⟩ = some (.int .i64 1) → R 3 #[true, true, true, true, true, true, true, true, true, true, true, true, true, true, true, true, false, true, true, true, false, false] (fA (.agg #[.string p0, .int .i64 regs, .slice s len cap]) (.agg #[.int .u8 i0, .int .i64 i1, .int .i64 i2, .int .i64 i3, .int .i64 i4, .string i5]) (.slice s len cap) n regs len w0.heap.size (w0.heap.size + 1) (.map (some M)) (fB B1) (fB B2) (fB B3) (fB B4) undef undef) w := by
      intro M B1 B2 B3 B4 w hS hM h1 h2 h3 h4
      refine toR.out _ _ _ _ ?_
      refine wpAnyH_ready (rs := [16]) (by kernel_rfl) (by simp) ?_
      refine AllReadyH.cons rfl (fun K hK => ?_) ?_
      · rw [if_pos (by kernel_rfl)]
        obtain ⟨w', heq, hM', hS', hk'⟩ := map_put (P := Try.prog) Try.underlying78 Try.underlying5 110 fAny hM hS rfl (put5_4 _ _ _ _ _)
        try simp only [fAny] at heq
        go_simp
        refine hK.out _ _ hS' (fun _ => ?_)
        exact ofR.out _ _ _ _ (st4112345a.out M B1 B2 B3 B4 w' hS' hM' (hk' _ _ _ h1) (hk' _ _ _ h2) (hk' _ _ _ h3) (hk' _ _ _ h4))
      exact AllReadyH.nil
    have st411235 := Lib.hid st411235_; clear st411235_
    have st411245_ : ∀ (M B1 B2 B3 B4 : Nat) (w : World), Ext W0 w → MapAt W0 w M (some (fB B1)) (some (fB B2)) none (some fAny) (some (fB B4)) → w.cell? ⟨B1, 0, none⟩ = some (.int .i64 regs) → w.cell? ⟨B2, 0, none⟩ = some (.int .i64 len) → w.cell? ⟨B3, 0, none⟩ = some (.int .i64 n) → w.cell? ⟨B4, 0, none⟩ = some (.int .i64 1) → R 3 #[true, true, true, true, true, true, true, true, true, true, true, true, true, true, true, false, true, true, true, true, false, false] (fA (.agg #[.string p0, .int .i64 regs, .slice s len cap]) (.agg #[.int .u8 i0, .int .i64 i1, .int .i64 i2, .int .i64 i3, .int .i64 i4, .string i5]) (.slice s len cap) n regs len w0.heap.size (w0.heap.size + 1) (.map (some M)) (fB B1) (fB B2) (fB B3) (fB B4) undef undef) w := by
      intro M B1 B2 B3 B4 w hS hM h1 h2 h3 h4
      refine toR.out _ _ _ _ ?_
      refine wpAnyH_ready (rs := [15]) (by kernel_rfl) (by simp) ?_
      refine AllReadyH.cons rfl (fun K hK => ?_) ?_
      · rw [if_pos (by kernel_rfl)]
        obtain ⟨w', heq, hM', hS', hk'⟩ := map_put (P := Try.prog) Try.underlying78 Try.underlying5 112 (fB B3) hM hS rfl (put5_3 _ _ _ _ _)
        try simp only [fAny] at heq
        go_simp
        refine hK.out _ _ hS' (fun _ => ?_)
        exact ofR.out _ _ _ _ (st4112345a.out M B1 B2 B3 B4 w' hS' hM' (hk' _ _ _ h1) (hk' _ _ _ h2) (hk' _ _ _ h3) (hk' _ _ _ h4))
      exact AllReadyH.nil
    have st411245 := Lib.hid st411245_; clear st411245_
    have st411345_ : ∀ (M B1 B2 B3 B4 : Nat) (w : World), Ext W0 w → MapAt W0 w M (some (fB B1)) none (some (fB B3)) (some fAny) (some (fB B4)) → w.cell? ⟨B1, 0, none⟩ = some (.int .i64 regs) → w.cell? ⟨B2, 0, none⟩ = some (.int .i64 len) → w.cell? ⟨B3, 0, none⟩ = some (.int .i64 n) → w.cell? ⟨B4, 0, none⟩ = some (.int .i64 1) → R 3 #[true, true, true, true, true, true, true, true, true, true, true, false, true, true, true, true, true, true, true, true, false, false] (fA (.agg #[.string p0, .int .i64 regs, .slice s len cap]) (.agg #[.int .u8 i0, .int .i64 i1, .int .i64 i2, .int .i64 i3, .int .i64 i4, .string i5]) (.slice s len cap) n regs len w0.heap.size (w0.heap.size + 1) (.map (some M)) (fB B1) (fB B2) (fB B3) (fB B4) undef undef) w := by
      intro M B1 B2 B3 B4 w hS hM h1 h2 h3 h4
      refine toR.out _ _ _ _ ?_
      refine wpAnyH_ready (rs := [11]) (by kernel_rfl) (by simp) ?_
      refine AllReadyH.cons rfl (fun K hK => ?_) ?_
      · rw [if_pos (by kernel_rfl)]
        obtain ⟨w', heq, hM', hS', hk'⟩ := map_put (P := Try.prog) Try.underlying78 Try.underlying5 106 (fB B2) hM hS rfl (put5_2 _ _ _ _ _)
        try simp only [fAny] at heq
        go_simp
        refine hK.out _ _ hS' (fun _ => ?_)
        exact ofR.out _ _ _ _ (st4112345a.out M B1 B2 B3 B4 w' hS' hM' (hk' _ _ _ h1) (hk' _ _ _ h2) (hk' _ _ _ h3) (hk' _ _ _ h4))
      exact AllReadyH.nil
    have st411345 := Lib.hid st411345_; clear st411345_
    have st412345_ : ∀ (M B1 B2 B3 B4 : Nat) (w : World), Ext W0 w → MapAt W0 w M none (some (fB B2)) (some (fB B3)) (some fAny) (some (fB B4)) → w.cell? ⟨B1, 0, none⟩ = some (.int .i64 regs) → w.cell? ⟨B2, 0, none⟩ = some (.int .i64 len) → w.cell? ⟨B3, 0, none⟩ = some (.int .i64 n) → w.cell? ⟨B4, 0, none⟩ = some (.int .i64 1) → R 3 #[true, true, true, true, true, false, true, true, true, true, true, true, true, true, true, true, true, true, true, true, false, false] (fA (.agg #[.string p0, .int .i64 regs, .slice s len cap]) (.agg #[.int .u8 i0, .int .i64 i1, .int .i64 i2, .int .i64 i3, .int .i64 i4, .string i5]) (.slice s len cap) n regs len w0.heap.size (w0.heap.size + 1) (.map (some M)) (fB B1) (fB B2) (fB B3) (fB B4) undef undef) w := by
      intro M B1 B2 B3 B4 w hS hM h1 h2 h3 h4
      refine toR.out _ _ _ _ ?_
      refine wpAnyH_ready (rs := [5]) (by kernel_rfl) (by simp) ?_
      refine AllReadyH.cons rfl (fun K hK => ?_) ?_
      · rw [if_pos (by kernel_rfl)]
        obtain ⟨w', heq, hM', hS', hk'⟩ := map_put (P := Try.prog) Try.underlying78 Try.underlying5 114 (fB B1) hM hS rfl (put5_1 _ _ _ _ _)
        try simp only [fAny] at heq
        go_simp
        refine hK.out _ _ hS' (fun _ => ?_)
        exact ofR.out _ _ _ _ (st4112345a.out M B1 B2 B3 B4 w' hS' hM' (hk' _ _ _ h1) (hk' _ _ _ h2) (hk' _ _ _ h3) (hk' _ _ _ h4))
      exact AllReadyH.nil
    have st412345 := Lib.hid st412345_; clear st412345_
    have st311234_ : ∀ (M B1 B2 B3 : Nat) (w : World), Ext W0 w → MapAt W0 w M (some (fB B1)) (some (fB B2)) (some (fB B3)) (some fAny) none → w.cell? ⟨B1, 0, none⟩ = some (.int .i64 regs) → w.cell? ⟨B2, 0, none⟩ = some (.int .i64 len) → w.cell? ⟨B3, 0, none⟩ = some (.int .i64 n) → R 4 #[true, true, true, true, true, true, true, true, true, true, true, true, true, true, true, true, true, true, false, false, false, false] (fA (.agg #[.string p0, .int .i64 regs, .slice s len cap]) (.agg #[.int .u8 i0, .int .i64 i1, .int .i64 i2, .int .i64 i3, .int .i64 i4, .string i5]) (.slice s len cap) n regs len w0.heap.size (w0.heap.size + 1) (.map (some M)) (fB B1) (fB B2) (fB B3) undef undef undef) w := by
      intro M B1 B2 B3 w hS hM h1 h2 h3
      refine toR.out _ _ _ _ ?_
      refine wpAnyH_ready (rs := [18]) (by kernel_rfl) (by simp) ?_
      refine AllReadyH.cons rfl (fun K hK => ?_) ?_
      · rw [if_pos (by kernel_rfl)]
        go_simp
        go_wp2_with (go_at_call 35; refine (below_calls _ _).mono ?_; rintro e w1 ⟨rfl, rfl⟩)
        refine hK.out _ _ (ext_alloc hS _) (fun _ => ?_)
        exact ofR.out _ _ _ _ (st411234.out M B1 B2 B3 w.heap.size _ (ext_alloc hS _) (map_keep hM (ext_alloc (ext_refl w) _)) (cell_keep (ext_alloc (ext_refl w) _) h1) (cell_keep (ext_alloc (ext_refl w) _) h2) (cell_keep (ext_alloc (ext_refl w) _) h3) (cell_alloc_new _ _ _ 0))
      exact AllReadyH.nil
    have st311234 := Lib.hid st311234_; clear st311234_
    have st41123_ : ∀ (M B1 B2 B3 B4 : Nat) (w : World), Ext W0 w → MapAt W0 w M (some (fB B1)) (some (fB B2)) (some (fB B3)) none none → w.cell? ⟨B1, 0, none⟩ = some (.int .i64 regs) → w.cell? ⟨B2, 0, none⟩ = some (.int .i64 len) → w.cell? ⟨B3, 0, none⟩ = some (.int .i64 n) → w.cell? ⟨B4, 0, none⟩ = some (.int .i64 1) → R 4 #[true, true, true, true, true, true, true, true, true, true, true, true, true, true, true, true, false, true, true, false, false, false] (fA (.agg #[.string p0, .int .i64 regs, .slice s len cap]) (.agg #[.int .u8 i0, .int .i64 i1, .int .i64 i2, .int .i64 i3, .int .i64 i4, .string i5]) (.slice s len cap) n regs len w0.heap.size (w0.heap.size + 1) (.map (some M)) (fB B1) (fB B2) (fB B3) (fB B4) undef undef) w := by
      intro M B1 B2 B3 B4 w hS hM h1 h2 h3 h4
      refine toR.out _ _ _ _ ?_
      refine wpAnyH_ready (rs := [16, 19]) (by kernel_rfl) (by simp) ?_
      refine AllReadyH.cons rfl (fun K hK => ?_) ?_
      · rw [if_pos (by kernel_rfl)]
        obtain ⟨w', heq, hM', hS', hk'⟩ := map_put (P := Try.prog) Try.underlying78 Try.underlying5 110 fAny hM hS rfl (put5_4 _ _ _ _ _)
        try simp only [fAny] at heq
        go_simp
        refine hK.out _ _ hS' (fun _ => ?_)
        exact ofR.out _ _ _ _ (st411234.out M B1 B2 B3 B4 w' hS' hM' (hk' _ _ _ h1) (hk' _ _ _ h2) (hk' _ _ _ h3) (hk' _ _ _ h4))
      refine AllReadyH.cons rfl (fun K hK => ?_) ?_
      · rw [if_pos (by kernel_rfl)]
        obtain ⟨w', heq, hM', hS', hk'⟩ := map_put (P := Try.prog) Try.underlying78 Try.underlying5 45 (fB B4) hM hS rfl (put5_5 _ _ _ _ _)
        try simp only [fAny] at heq
        go_simp
        refine hK.out _ _ hS' (fun _ => ?_)
        exact ofR.out _ _ _ _ (st411235.out M B1 B2 B3 B4 w' hS' hM' (hk' _ _ _ h1) (hk' _ _ _ h2) (hk' _ _ _ h3) (hk' _ _ _ h4))
      exact AllReadyH.nil
    have st41123 := Lib.hid st41123_; clear st41123_
    have st41124_ : ∀ (M B1 B2 B3 B4 : Nat) (w : World), Ext W0 w → MapAt W0 w M (some (fB B1)) (some (fB B2)) none (some fAny) none → w.cell? ⟨B1, 0, none⟩ = some (.int .i64 regs) → w.cell? ⟨B2, 0, none⟩ = some (.int .i64 len) → w.cell? ⟨B3, 0, none⟩ = some (.int .i64 n) → w.cell? ⟨B4, 0, none⟩ = some (.int .i64 1) → R 4 #[true, true, true, true, true, true, true, true, true, true, true, true, true, true, true, false, true, true, true, false, false, false] (fA (.agg #[.string p0, .int .i64 regs, .slice s len cap]) (.agg #[.int .u8 i0, .int .i64 i1, .int .i64 i2, .int .i64 i3, .int .i64 i4, .string i5]) (.slice s len cap) n regs len w0.heap.size (w0.heap.size + 1) (.map (some M)) (fB B1) (fB B2) (fB B3) (fB B4) undef undef) w := by
      intro M B1 B2 B3 B4 w hS hM h1 h2 h3 h4
      refine toR.out _ _ _ _ ?_
      refine wpAnyH_ready (rs := [15, 19]) (by kernel_rfl) (by simp) ?_
      refine AllReadyH.cons rfl (fun K hK => ?_) ?_
      · rw [if_pos (by kernel_rfl)]
        obtain ⟨w', heq, hM', hS', hk'⟩ := map_put (P := Try.prog) Try.underlying78 Try.underlying5 112 (fB B3) hM hS rfl (put5_3 _ _ _ _ _)
        try simp only [fAny] at heq
        go_simp
        refine hK.out _ _ hS' (fun _ => ?_)
        exact ofR.out _ _ _ _ (st411234.out M B1 B2 B3 B4 w' hS' hM' (hk' _ _ _ h1) (hk' _ _ _ h2) (hk' _ _ _ h3) (hk' _ _ _ h4))
      refine AllReadyH.cons rfl (fun K hK => ?_) ?_
      · rw [if_pos (by kernel_rfl)]
        obtain ⟨w', heq, hM', hS', hk'⟩ := map_put (P := Try.prog) Try.underlying78 Try.underlying5 45 (fB B4) hM hS rfl (put5_5 _ _ _ _ _)
        try simp only [fAny] at heq
        go_simp
        refine hK.out _ _ hS' (fun _ => ?_)
        exact ofR.out _ _ _ _ (st411245.out M B1 B2 B3 B4 w' hS' hM' (hk' _ _ _ h1) (hk' _ _ _ h2) (hk' _ _ _ h3) (hk' _ _ _ h4))
      exact AllReadyH.nil
    have st41124 := Lib.hid st41124_; clear st41124_
    have st41125_ : ∀ (M B1 B2 B3 B4 : Nat) (w : World), Ext W0 w → MapAt W0 w M (some (fB B1)) (some (fB B2)) none none (some (fB B4)) → w.cell? ⟨B1, 0, none⟩ = some (.int .i64 regs) → w.cell? ⟨B2, 0, none⟩ = some (.int .i64 len) → w.cell? ⟨B3, 0, none⟩ = some (.int .i64 n) → w.cell? ⟨B4, 0, none⟩ = some (.int .i64 1) → R 4 #[true, true, true, true, true, true, true, true, true, true, true, true, true, true, true, false, false, true, true, true, false, false] (fA (.agg #[.string p0, .int .i64 regs, .slice s len cap]) (.agg #[.int .u8 i0, .int .i64 i1, .int .i64 i2, .int .i64 i3, .int .i64 i4, .string i5]) (.slice s len cap) n regs len w0.heap.size (w0.heap.size + 1) (.map (some M)) (fB B1) (fB B2) (fB B3) (fB B4) undef undef) w := by
      intro M B1 B2 B3 B4 w hS hM h1 h2 h3 h4
      refine toR.out _ _ _ _ ?_
      refine wpAnyH_ready (rs := [15, 16]) (by kernel_rfl) (by simp) ?_
      refine AllReadyH.cons rfl (fun K hK => ?_) ?_
      · rw [if_pos (by kernel_rfl)]
        obtain ⟨w', heq, hM', hS', hk'⟩ := map_put (P := Try.prog) Try.underlying78 Try.underlying5 112 (fB B3) hM hS rfl (put5_3 _ _ _ _ _)
        try simp only [fAny] at heq
        go_simp
        refine hK.out _ _ hS' (fun _ => ?_)
        exact ofR.out _ _ _ _ (st411235.out M B1 B2 B3 B4 w' hS' hM' (hk' _ _ _ h1) (hk' _ _ _ h2) (hk' _ _ _ h3) (hk' _ _ _ h4))
      refine AllReadyH.cons rfl (fun K hK => ?_) ?_
      · rw [if_pos (by kernel_rfl)]
        obtain ⟨w', heq, hM', hS', hk'⟩ := map_put (P := Try.prog) Try.underlying78 Try.underlying5 110 fAny hM hS rfl (put5_4 _ _ _ _ _)
        try simp only [fAny] at heq
        go_simp
        refine hK.out _ _ hS' (fun _ => ?_)
        exact ofR.out _ _ _ _ (st411245.out M B1 B2 B3 B4 w' hS' hM' (hk' _ _ _ h1) (hk' _ _ _ h2) (hk' _ _ _ h3) (hk' _ _ _ h4))
      exact AllReadyH.nil
    have st41125 := Lib.hid st41125_; clear st41125_
    have st41134_ : ∀ (M B1 B2 B3 B4 : Nat) (w : World), Ext W0 w → MapAt W0 w M (some (fB B1)) none (some (fB B3)) (some fAny) none → w.cell? ⟨B1, 0, none⟩ = some (.int .i64 regs) → w.cell? ⟨B2, 0, none⟩ = some (.int .i64 len) → w.cell? ⟨B3, 0, none⟩ = some (.int .i64 n) → w.cell? ⟨B4, 0, none⟩ = some (.int .i64 1) → R 4 #[true, true, true, true, true, true, true, true, true, true, true, false, true, true, true, true, true, true, true, false, false, false] (fA (.agg #[.string p0, .int .i64 regs, .slice s len cap]) (.agg #[.int .u8 i0, .int .i64 i1, .int .i64 i2, .int .i64 i3, .int .i64 i4, .string i5]) (.slice s len cap) n regs len w0.heap.size (w0.heap.size + 1) (.map (some M)) (fB B1) (fB B2) (fB B3) (fB B4) undef undef) w := by
      intro M B1 B2 B3 B4 w hS hM h1 h2 h3 h4
      refine toR.out _ _ _ _ ?_
      refine wpAnyH_ready (rs := [11, 19]) (by kernel_rfl) (by simp) ?_
      refine AllReadyH.cons rfl (fun K hK => ?_) ?_
      · rw [if_pos (by kernel_rfl)]
        obtain ⟨w', heq, hM', hS', hk'⟩ := map_put (P := Try.prog) Try.underlying78 Try.underlying5 106 (fB B2) hM hS rfl (put5_2 _ _ _ _ _)
        try simp only [fAny] at heq
        go_simp
        refine hK.out _ _ hS' (fun _ => ?_)
        exact ofR.out _ _ _ _ (st411234.out M B1 B2 B3 B4 w' hS' hM' (hk' _ _ _ h1) (hk' _ _ _ h2) (hk' _ _ _ h3) (hk' _ _ _ h4))
      refine AllReadyH.cons rfl (fun K hK => ?_) ?_
      · rw [if_pos (by kernel_rfl)]
        obtain ⟨w', heq, hM', hS', hk'⟩ := map_put (P := Try.prog) Try.underlying78 Try.underlying5 45 (fB B4) hM hS rfl (put5_5 _ _ _ _ _)
        try simp only [fAny] at heq
        go_simp
        refine hK.out _ _ hS' (fun _ => ?_)
        exact ofR.out _ _ _ _ (st411345.out M B1 B2 B3 B4 w' hS' hM' (hk' _ _ _ h1) (hk' _ _ _ h2) (hk' _ _ _ h3) (hk' _ _ _ h4))
      exact AllReadyH.nil
    have st41134 := Lib.hid st41134_; clear st41134_
    have st41135_ : ∀ (M B1 B2 B3 B4 : Nat) (w : World), Ext W0 w → MapAt W0 w M (some (fB B1)) none (some (fB B3)) none (some (fB B4)) → w.cell? ⟨B1, 0, none⟩ = some (.int .i64 regs) → w.cell? ⟨B2, 0, none⟩ = some (.int .i64 len) → w.cell? ⟨B3, 0, none⟩ = some (.int .i64 n) → w.cell? ⟨B4, 0, none⟩ = some (.int .i64 1) → R 4 #[true, true, true, true, true, true, true, true, true, true, true, false, true, true, true, true, false, true, true, true, false, false] (fA (.agg #[.string p0, .int .i64 regs, .slice s len cap]) (.agg #[.int .u8 i0, .int .i64 i1, .int .i64 i2, .int .i64 i3, .int .i64 i4, .string i5]) (.slice s len cap) n regs len w0.heap.size (w0.heap.size + 1) (.map (some M)) (fB B1) (fB B2) (fB B3) (fB B4) undef undef) w := by
      intro M B1 B2 B3 B4 w hS hM h1 h2 h3 h4
      refine toR.out _ _ _ _ ?_
      refine wpAnyH_ready (rs := [11, 16]) (by kernel_rfl) (by simp) ?_
      refine AllReadyH.cons rfl (fun K hK => ?_) ?_
      · rw [if_pos (by kernel_rfl)]
        obtain ⟨w', heq, hM', hS', hk'⟩ := map_put (P := Try.prog) Try.underlying78 Try.underlying5 106 (fB B2) hM hS rfl (put5_2 _ _ _ _ _)
        try simp only [fAny] at heq
        go_simp
        refine hK.out _ _ hS' (fun _ => ?_)
        exact ofR.out _ _ _ _ (st411235.out M B1 B2 B3 B4 w' hS' hM' (hk' _ _ _ h1) (hk' _ _ _ h2) (hk' _ _ _ h3) (hk' _ _ _ h4))
      refine AllReadyH.cons rfl (fun K hK => ?_) ?_
      · rw [if_pos (by kernel_rfl)]
        obtain ⟨w', heq, hM', hS', hk'⟩ := map_put (P := Try.prog) Try.underlying78 Try.underlying5 110 fAny hM hS rfl (put5_4 _ _ _ _ _)
        try simp only [fAny] at heq
        go_simp
        refine hK.out _ _ hS' (fun _ => ?_)
        exact ofR.out _ _ _ _ (st411345.out M B1 B2 B3 B4 w' hS' hM' (hk' _ _ _ h1) (hk' _ _ _ h2) (hk' _ _ _ h3) (hk' _ _ _ h4))
      exact AllReadyH.nil
    have st41135 := Lib.hid st41135_; clear st41135_
    have st41145_ : ∀ (M B1 B2 B3 B4 : Nat) (w : World), Ext W0 w → MapAt W0 w M (some (fB B1)) none none (some fAny) (some (fB B4)) → w.cell? ⟨B1, 0, none⟩ = some (.int .i64 regs) → w.cell? ⟨B2, 0, none⟩ = some (.int .i64 len) → w.cell? ⟨B3, 0, none⟩ = some (.int .i64 n) → w.cell? ⟨B4, 0, none⟩ = some (.int .i64 1) → R 4 #[true, true, true, true, true, true, true, true, true, true, true, false, true, true, true, false, true, true, true, true, false, false] (fA (.agg #[.string p0, .int .i64 regs, .slice s len cap]) (.agg #[.int .u8 i0, .int .i64 i1, .int .i64 i2, .int .i64 i3, .int .i64 i4, .string i5]) (.slice s len cap) n regs len w0.heap.size (w0.heap.size + 1) (.map (some M)) (fB B1) (fB B2) (fB B3) (fB B4) undef undef) w := by
      intro M B1 B2 B3 B4 w hS hM h1 h2 h3 h4
      refine toR.out _ _ _ _ ?_
      refine wpAnyH_ready (rs := [11, 15]) (by kernel_rfl) (by simp) ?_
      refine AllReadyH.cons rfl (fun K hK => ?_) ?_
      · rw [if_pos (by kernel_rfl)]
        obtain ⟨w', heq, hM', hS', hk'⟩ := map_put (P := Try.prog) Try.underlying78 Try.underlying5 106 (fB B2) hM hS rfl (put5_2 _ _ _ _ _)
        try simp only [fAny] at heq
        go_simp
        refine hK.out _ _ hS' (fun _ => ?_)
        exact ofR.out _ _ _ _ (st411245.out M B1 B2 B3 B4 w' hS' hM' (hk' _ _ _ h1) (hk' _ _ _ h2) (hk' _ _ _ h3) (hk' _ _ _ h4))
      refine AllReadyH.cons rfl (fun K hK => ?_) ?_
      · rw [if_pos (by kernel_rfl)]
        obtain ⟨w', heq, hM', hS', hk'⟩ := map_put (P := Try.prog) Try.underlying78 Try.underlying5 112 (fB B3) hM hS rfl (put5_3 _ _ _ _ _)
        try simp only [fAny] at heq
        go_simp
        refine hK.out _ _ hS' (fun _ => ?_)
        exact ofR.out _ _ _ _ (st411345.out M B1 B2 B3 B4 w' hS' hM' (hk' _ _ _ h1) (hk' _ _ _ h2) (hk' _ _ _ h3) (hk' _ _ _ h4))
      exact AllReadyH.nil
    have st41145 := Lib.hid st41145_; clear st41145_
    have st41234_ : ∀ (M B1 B2 B3 B4 : Nat) (w : World), Ext W0 w → MapAt W0 w M none (some (fB B2)) (some (fB B3)) (some fAny) none → w.cell? ⟨B1, 0, none⟩ = some (.int .i64 regs) → w.cell? ⟨B2, 0, none⟩ = some (.int .i64 len) → w.cell? ⟨B3, 0, none⟩ = some (.int .i64 n) → w.cell? ⟨B4, 0, none⟩ = some (.int .i64 1) → R 4 #[true, true, true, true, true, false, true, true, true, true, true, true, true, true, true, true, true, true, true, false, false, false] (fA (.agg #[.string p0, .int .i64 regs, .slice s len cap]) (.agg #[.int .u8 i0, .int .i64 i1, .int .i64 i2, .int .i64 i3, .int .i64 i4, .string i5]) (.slice s len cap) n regs len w0.heap.size (w0.heap.size + 1) (.map (some M)) (fB B1) (fB B2) (fB B3) (fB B4) undef undef) w := by
      intro M B1 B2 B3 B4 w hS hM h1 h2 h3 h4
      refine toR.out _ _ _ _ ?_
      refine wpAnyH_ready (rs := [5, 19]) (by kernel_rfl) (by simp) ?_
      refine AllReadyH.cons rfl (fun K hK => ?_) ?_
      · rw [if_pos (by kernel_rfl)]
        obtain ⟨w', heq, hM', hS', hk'⟩ := map_put (P := Try.prog) Try.underlying78 Try.underlying5 114 (fB B1) hM hS rfl (put5_1 _ _ _ _ _)
        try simp only [fAny] at heq
        go_simp
        refine hK.out _ _ hS' (fun _ => ?_)
        exact ofR.out _ _ _ _ (st411234.out M B1 B2 B3 B4 w' hS' hM' (hk' _ _ _ h1) (hk' _ _ _ h2) (hk' _ _ _ h3) (hk' _ _ _ h4))
      refine AllReadyH.cons rfl (fun K hK => ?_) ?_
      · rw [if_pos (by kernel_rfl)]
        obtain ⟨w', heq, hM', hS', hk'⟩ := map_put (P := Try.prog) Try.underlying78 Try.underlying5 45 (fB B4) hM hS rfl (put5_5 _ _ _ _ _)
        try simp only [fAny] at heq
        go_simp
        refine hK.out _ _ hS' (fun _ => ?_)
        exact ofR.out _ _ _ _ (st412345.out M B1 B2 B3 B4 w' hS' hM' (hk' _ _ _ h1) (hk' _ _ _ h2) (hk' _ _ _ h3) (hk' _ _ _ h4))
      exact AllReadyH.nil
    have st41234 := Lib.hid st41234_; clear st41234_
    have st41235_ : ∀ (M B1 B2 B3 B4 : Nat) (w : World), Ext W0 w → MapAt W0 w M none (some (fB B2)) (some (fB B3)) none (some (fB B4)) → w.cell? ⟨B1, 0, none⟩ = some (.int .i64 regs) → w.cell? ⟨B2, 0, none⟩ = some (.int .i64 len) → w.cell? ⟨B3, 0, none⟩ = some (.int .i64 n) → w.cell? ⟨B4, 0, none⟩ = some (.int .i64 1) → R 4 #[true, true, true, true, true, false, true, true, true, true, true, true, true, true, true, true, false, true, true, true, false, false] (fA (.agg #[.string p0, .int .i64 regs, .slice s len cap]) (.agg #[.int .u8 i0, .int .i64 i1, .int .i64 i2, .int .i64 i3, .int .i64 i4, .string i5]) (.slice s len cap) n regs len w0.heap.size (w0.heap.size + 1) (.map (some M)) (fB B1) (fB B2) (fB B3) (fB B4) undef undef) w := by
      intro M B1 B2 B3 B4 w hS hM h1 h2 h3 h4
      refine toR.out _ _ _ _ ?_
      refine wpAnyH_ready (rs := [5, 16]) (by kernel_rfl) (by simp) ?_
      refine AllReadyH.cons rfl (fun K hK => ?_) ?_
      · rw [if_pos (by kernel_rfl)]
        obtain ⟨w', heq, hM', hS', hk'⟩ := map_put (P := Try.prog) Try.underlying78 Try.underlying5 114 (fB B1) hM hS rfl (put5_1 _ _ _ _ _)
        try simp only [fAny] at heq
        go_simp
        refine hK.out _ _ hS' (fun _ => ?_)
        exact ofR.out _ _ _ _ (st411235.out M B1 B2 B3 B4 w' hS' hM' (hk' _ _ _ h1) (hk' _ _ _ h2) (hk' _ _ _ h3) (hk' _ _ _ h4))
      refine AllReadyH.cons rfl (fun K hK => ?_) ?_
      · rw [if_pos (by kernel_rfl)]
        obtain ⟨w', heq, hM', hS', hk'⟩ := map_put (P := Try.prog) Try.underlying78 Try.underlying5 110 fAny hM hS rfl (put5_4 _ _ _ _ _)
        try simp only [fAny] at heq
        go_simp
        refine hK.out _ _ hS' (fun _ => ?_)
        exact ofR.out _ _ _ _ (st412345.out M B1 B2 B3 B4 w' hS' hM' (hk' _ _ _ h1) (hk' _ _ _ h2) (hk' _ _ _ h3) (hk' _ _ _ h4))
      exact AllReadyH.nil
    have st41235 := Lib.hid st41235_; clear st41235_
    have st41245_ : ∀ (M B1 B2 B3 B4 : Nat) (w : World), Ext W0 w → MapAt W0 w M none (some (fB B2)) none (some fAny) (some (fB B4)) → w.cell? ⟨B1, 0, none⟩ = some (.int .i64 regs) → w.cell? ⟨B2, 0, none⟩ = some (.int .i64 len) → w.cell? ⟨B3, 0, none⟩ = some (.int .i64 n) → w.cell? ⟨B4, 0, none⟩ = some (.int .i64 1) → R 4 #[true, true, true, true, true, false, true, true, true, true, true, true, true, true, true, false, true, true, true, true, false, false] (fA (.agg #[.string p0, .int .i64 regs, .slice s len cap]) (.agg #[.int .u8 i0, .int .i64 i1, .int .i64 i2, .int .i64 i3, .int .i64 i4, .string i5]) (.slice s len cap) n regs len w0.heap.size (w0.heap.size + 1) (.map (some M)) (fB B1) (fB B2) (fB B3) (fB B4) undef undef) w := by
      intro M B1 B2 B3 B4 w hS hM h1 h2 h3 h4
      refine toR.out _ _ _ _ ?_
      refine wpAnyH_ready (rs := [5, 15]) (by kernel_rfl) (by simp) ?_
      refine AllReadyH.cons rfl (fun K hK => ?_) ?_
      · rw [if_pos (by kernel_rfl)]
        obtain ⟨w', heq, hM', hS', hk'⟩ := map_put (P := Try.prog) Try.underlying78 Try.underlying5 114 (fB B1) hM hS rfl (put5_1 _ _ _ _ _)
        try simp only [fAny] at heq
        go_simp
        refine hK.out _ _ hS' (fun _ => ?_)
        exact ofR.out _ _ _ _ (st411245.out M B1 B2 B3 B4 w' hS' hM' (hk' _ _ _ h1) (hk' _ _ _ h2) (hk' _ _ _ h3) (hk' _ _ _ h4))
      refine AllReadyH.cons rfl (fun K hK => ?_) ?_
      · rw [if_pos (by kernel_rfl)]
        obtain ⟨w', heq, hM', hS', hk'⟩ := map_put (P := Try.prog) Try.underlying78 Try.underlying5 112 (fB B3) hM hS rfl (put5_3 _ _ _ _ _)
        try simp only [fAny] at heq
        go_simp
        refine hK.out _ _ hS' (fun _ => ?_)
        exact ofR.out _ _ _ _ (st412345.out M B1 B2 B3 B4 w' hS' hM' (hk' _ _ _ h1) (hk' _ _ _ h2) (hk' _ _ _ h3) (hk' _ _ _ h4))
      exact AllReadyH.nil
    have st41245 := Lib.hid st41245_; clear st41245_
    have st41345_ : ∀ (M B1 B2 B3 B4 : Nat) (w : World), Ext W0 w → MapAt W0 w M none none (some (fB B3)) (some fAny) (some (fB B4)) → w.cell? ⟨B1, 0, none⟩ = some (.int .i64 regs) → w.cell? ⟨B2, 0, none⟩ = some (.int .i64 len) → w.cell? ⟨B3, 0, none⟩ = some (.int .i64 n) → w.cell? ⟨B4, 0, none⟩ = some (.int .i64 1) → R 4 #[true, true, true, true, true, false, true, true, true, true, true, false, true, true, true, true, true, true, true, true, false, false] (fA (.agg #[.string p0, .int .i64 regs, .slice s len cap]) (.agg #[.int .u8 i0, .int .i64 i1, .int .i64 i2, .int .i64 i3, .int .i64 i4, .string i5]) (.slice s len cap) n regs len w0.heap.size (w0.heap.size + 1) (.map (some M)) (fB B1) (fB B2) (fB B3) (fB B4) undef undef) w := by
      intro M B1 B2 B3 B4 w hS hM h1 h2 h3 h4
      refine toR.out _ _ _ _ ?_
      refine wpAnyH_ready (rs := [5, 11]) (by kernel_rfl) (by simp) ?_
      refine AllReadyH.cons rfl (fun K hK => ?_) ?_
      · rw [if_pos (by kernel_rfl)]
        obtain ⟨w', heq, hM', hS', hk'⟩ := map_put (P := Try.prog) Try.underlying78 Try.underlying5 114 (fB B1) hM hS rfl (put5_1 _ _ _ _ _)
        try simp only [fAny] at heq
        go_simp
        refine hK.out _ _ hS' (fun _ => ?_)
        exact ofR.out _ _ _ _ (st411345.out M B1 B2 B3 B4 w' hS' hM' (hk' _ _ _ h1) (hk' _ _ _ h2) (hk' _ _ _ h3) (hk' _ _ _ h4))
      refine AllReadyH.cons rfl (fun K hK => ?_) ?_
      · rw [if_pos (by kernel_rfl)]
        obtain ⟨w', heq, hM', hS', hk'⟩ := map_put (P := Try.prog) Try.underlying78 Try.underlying5 106 (fB B2) hM hS rfl (put5_2 _ _ _ _ _)
        try simp only [fAny] at heq
        go_simp
        refine hK.out _ _ hS' (fun _ => ?_)
        exact ofR.out _ _ _ _ (st412345.out M B1 B2 B3 B4 w' hS' hM' (hk' _ _ _ h1) (hk' _ _ _ h2) (hk' _ _ _ h3) (hk' _ _ _ h4))
      exact AllReadyH.nil
    have st41345 := Lib.hid st41345_; clear st41345_
    have st31123_ : ∀ (M B1 B2 B3 : Nat) (w : World), Ext W0 w → MapAt W0 w M (some (fB B1)) (some (fB B2)) (some (fB B3)) none none → w.cell? ⟨B1, 0, none⟩ = some (.int .i64 regs) → w.cell? ⟨B2, 0, none⟩ = some (.int .i64 len) → w.cell? ⟨B3, 0, none⟩ = some (.int .i64 n) → R 5 #[true, true, true, true, true, true, true, true, true, true, true, true, true, true, true, true, false, true, false, false, false, false] (fA (.agg #[.string p0, .int .i64 regs, .slice s len cap]) (.agg #[.int .u8 i0, .int .i64 i1, .int .i64 i2, .int .i64 i3, .int .i64 i4, .string i5]) (.slice s len cap) n regs len w0.heap.size (w0.heap.size + 1) (.map (some M)) (fB B1) (fB B2) (fB B3) undef undef undef) w := by
      intro M B1 B2 B3 w hS hM h1 h2 h3
      refine toR.out _ _ _ _ ?_
      refine wpAnyH_ready (rs := [16, 18]) (by kernel_rfl) (by simp) ?_
      refine AllReadyH.cons rfl (fun K hK => ?_) ?_
      · rw [if_pos (by kernel_rfl)]
        obtain ⟨w', heq, hM', hS', hk'⟩ := map_put (P := Try.prog) Try.underlying78 Try.underlying5 110 fAny hM hS rfl (put5_4 _ _ _ _ _)
        try simp only [fAny] at heq
        go_simp
        refine hK.out _ _ hS' (fun _ => ?_)
        exact ofR.out _ _ _ _ (st311234.out M B1 B2 B3 w' hS' hM' (hk' _ _ _ h1) (hk' _ _ _ h2) (hk' _ _ _ h3))
      refine AllReadyH.cons rfl (fun K hK => ?_) ?_
      · rw [if_pos (by kernel_rfl)]
        go_simp
        go_wp2_with (go_at_call 35; refine (below_calls _ _).mono ?_; rintro e w1 ⟨rfl, rfl⟩)
        refine hK.out _ _ (ext_alloc hS _) (fun _ => ?_)
        exact ofR.out _ _ _ _ (st41123.out M B1 B2 B3 w.heap.size _ (ext_alloc hS _) (map_keep hM (ext_alloc (ext_refl w) _)) (cell_keep (ext_alloc (ext_refl w) _) h1) (cell_keep (ext_alloc (ext_refl w) _) h2) (cell_keep (ext_alloc (ext_refl w) _) h3) (cell_alloc_new _ _ _ 0))
      exact AllReadyH.nil
    have st31123 := Lib.hid st31123_; clear st31123_
    have st31124_ : ∀ (M B1 B2 B3 : Nat) (w : World), Ext W0 w → MapAt W0 w M (some (fB B1)) (some (fB B2)) none (some fAny) none → w.cell? ⟨B1, 0, none⟩ = some (.int .i64 regs) → w.cell? ⟨B2, 0, none⟩ = some (.int .i64 len) → w.cell? ⟨B3, 0, none⟩ = some (.int .i64 n) → R 5 #[true, true, true, true, true, true, true, true, true, true, true, true, true, true, true, false, true, true, false, false, false, false] (fA (.agg #[.string p0, .int .i64 regs, .slice s len cap]) (.agg #[.int .u8 i0, .int .i64 i1, .int .i64 i2, .int .i64 i3, .int .i64 i4, .string i5]) (.slice s len cap) n regs len w0.heap.size (w0.heap.size + 1) (.map (some M)) (fB B1) (fB B2) (fB B3) undef undef undef) w := by
      intro M B1 B2 B3 w hS hM h1 h2 h3
      refine toR.out _ _ _ _ ?_
      refine wpAnyH_ready (rs := [15, 18]) (by kernel_rfl) (by simp) ?_
      refine AllReadyH.cons rfl (fun K hK => ?_) ?_
      · rw [if_pos (by kernel_rfl)]
        obtain ⟨w', heq, hM', hS', hk'⟩ := map_put (P := Try.prog) Try.underlying78 Try.underlying5 112 (fB B3) hM hS rfl (put5_3 _ _ _ _ _)
        try simp only [fAny] at heq
        go_simp
        refine hK.out _ _ hS' (fun _ => ?_)
        exact ofR.out _ _ _ _ (st311234.out M B1 B2 B3 w' hS' hM' (hk' _ _ _ h1) (hk' _ _ _ h2) (hk' _ _ _ h3))
      refine AllReadyH.cons rfl (fun K hK => ?_) ?_
      · rw [if_pos (by kernel_rfl)]
        go_simp
        go_wp2_with (go_at_call 35; refine (below_calls _ _).mono ?_; rintro e w1 ⟨rfl, rfl⟩)
        refine hK.out _ _ (ext_alloc hS _) (fun _ => ?_)
        exact ofR.out _ _ _ _ (st41124.out M B1 B2 B3 w.heap.size _ (ext_alloc hS _) (map_keep hM (ext_alloc (ext_refl w) _)) (cell_keep (ext_alloc (ext_refl w) _) h1) (cell_keep (ext_alloc (ext_refl w) _) h2) (cell_keep (ext_alloc (ext_refl w) _) h3) (cell_alloc_new _ _ _ 0))
      exact AllReadyH.nil
    have st31124 := Lib.hid st31124_; clear st31124_
    have st31134_ : ∀ (M B1 B2 B3 : Nat) (w : World), Ext W0 w → MapAt W0 w M (some (fB B1)) none (some (fB B3)) (some fAny) none → w.cell? ⟨B1, 0, none⟩ = some (.int .i64 regs) → w.cell? ⟨B2, 0, none⟩ = some (.int .i64 len) → w.cell? ⟨B3, 0, none⟩ = some (.int .i64 n) → R 5 #[true, true, true, true, true, true, true, true, true, true, true, false, true, true, true, true, true, true, false, false, false, false] (fA (.agg #[.string p0, .int .i64 regs, .slice s len cap]) (.agg #[.int .u8 i0, .int .i64 i1, .int .i64 i2, .int .i64 i3, .int .i64 i4, .string i5]) (.slice s len cap) n regs len w0.heap.size (w0.heap.size + 1) (.map (some M)) (fB B1) (fB B2) (fB B3) undef undef undef) w := by
      intro M B1 B2 B3 w hS hM h1 h2 h3
      refine toR.out _ _ _ _ ?_
      refine wpAnyH_ready (rs := [11, 18]) (by kernel_rfl) (by simp) ?_
      refine AllReadyH.cons rfl (fun K hK => ?_) ?_
      · rw [if_pos (by kernel_rfl)]
        obtain ⟨w', heq, hM', hS', hk'⟩ := map_put (P := Try.prog) Try.underlying78 Try.underlying5 106 (fB B2) hM hS rfl (put5_2 _ _ _ _ _)
        try simp only [fAny] at heq
        go_simp
        refine hK.out _ _ hS' (fun _ => ?_)
        exact ofR.out _ _ _ _ (st311234.out M B1 B2 B3 w' hS' hM' (hk' _ _ _ h1) (hk' _ _ _ h2) (hk' _ _ _ h3))
      refine AllReadyH.cons rfl (fun K hK => ?_) ?_
      · rw [if_pos (by kernel_rfl)]
        go_simp
        go_wp2_with (go_at_call 35; refine (below_calls _ _).mono ?_; rintro e w1 ⟨rfl, rfl⟩)
        refine hK.out _ _ (ext_alloc hS _) (fun _ => ?_)
        exact ofR.out _ _ _ _ (st41134.out M B1 B2 B3 w.heap.size _ (ext_alloc hS _) (map_keep hM (ext_alloc (ext_refl w) _)) (cell_keep (ext_alloc (ext_refl w) _) h1) (cell_keep (ext_alloc (ext_refl w) _) h2) (cell_keep (ext_alloc (ext_refl w) _) h3) (cell_alloc_new _ _ _ 0))
      exact AllReadyH.nil
    have st31134 := Lib.hid st31134_; clear st31134_
    have st31234_ : ∀ (M B1 B2 B3 : Nat) (w : World), Ext W0 w → MapAt W0 w M none (some (fB B2)) (some (fB B3)) (some fAny) none → w.cell? ⟨B1, 0, none⟩ = some (.int .i64 regs) → w.cell? ⟨B2, 0, none⟩ = some (.int .i64 len) → w.cell? ⟨B3, 0, none⟩ = some (.int .i64 n) → R 5 #[true, true, true, true, true, false, true, true, true, true, true, true, true, true, true, true, true, true, false, false, false, false] (fA (.agg #[.string p0, .int .i64 regs, .slice s len cap]) (.agg #[.int .u8 i0, .int .i64 i1, .int .i64 i2, .int .i64 i3, .int .i64 i4, .string i5]) (.slice s len cap) n regs len w0.heap.size (w0.heap.size + 1) (.map (some M)) (fB B1) (fB B2) (fB B3) undef undef undef) w := by
      intro M B1 B2 B3 w hS hM h1 h2 h3
      refine toR.out _ _ _ _ ?_
      refine wpAnyH_ready (rs := [5, 18]) (by kernel_rfl) (by simp) ?_
      refine AllReadyH.cons rfl (fun K hK => ?_) ?_
      · rw [if_pos (by kernel_rfl)]
        obtain ⟨w', heq, hM', hS', hk'⟩ := map_put (P := Try.prog) Try.underlying78 Try.underlying5 114 (fB B1) hM hS rfl (put5_1 _ _ _ _ _)
        try simp only [fAny] at heq
        go_simp
        refine hK.out _ _ hS' (fun _ => ?_)
        exact ofR.out _ _ _ _ (st311234.out M B1 B2 B3 w' hS' hM' (hk' _ _ _ h1) (hk' _ _ _ h2) (hk' _ _ _ h3))
      refine AllReadyH.cons rfl (fun K hK => ?_) ?_
      · rw [if_pos (by kernel_rfl)]
        go_simp
        go_wp2_with (go_at_call 35; refine (below_calls _ _).mono ?_; rintro e w1 ⟨rfl, rfl⟩)
        refine hK.out _ _ (ext_alloc hS _) (fun _ => ?_)
        exact ofR.out _ _ _ _ (st41234.out M B1 B2 B3 w.heap.size _ (ext_alloc hS _) (map_keep hM (ext_alloc (ext_refl w) _)) (cell_keep (ext_alloc (ext_refl w) _) h1) (cell_keep (ext_alloc (ext_refl w) _) h2) (cell_keep (ext_alloc (ext_refl w) _) h3) (cell_alloc_new _ _ _ 0))
      exact AllReadyH.nil
    have st31234 := Lib.hid st31234_; clear st31234_
    have st4112_ : ∀ (M B1 B2 B3 B4 : Nat) (w : World), Ext W0 w → MapAt W0 w M (some (fB B1)) (some (fB B2)) none none none → w.cell? ⟨B1, 0, none⟩ = some (.int .i64 regs) → w.cell? ⟨B2, 0, none⟩ = some (.int .i64 len) → w.cell? ⟨B3, 0, none⟩ = some (.int .i64 n) → w.cell? ⟨B4, 0, none⟩ = some (.int .i64 1) → R 5 #[true, true, true, true, true, true, true, true, true, true, true, true, true, true, true, false, false, true, true, false, false, false] (fA (.agg #[.string p0, .int .i64 regs, .slice s len cap]) (.agg #[.int .u8 i0, .int .i64 i1, .int .i64 i2, .int .i64 i3, .int .i64 i4, .string i5]) (.slice s len cap) n regs len w0.heap.size (w0.heap.size + 1) (.map (some M)) (fB B1) (fB B2) (fB B3) (fB B4) undef undef) w := by
      intro M B1 B2 B3 B4 w hS hM h1 h2 h3 h4
      refine toR.out _ _ _ _ ?_
      refine wpAnyH_ready (rs := [15, 16, 19]) (by kernel_rfl) (by simp) ?_
      refine AllReadyH.cons rfl (fun K hK => ?_) ?_
      · rw [if_pos (by kernel_rfl)]
        obtain ⟨w', heq, hM', hS', hk'⟩ := map_put (P := Try.prog) Try.underlying78 Try.underlying5 112 (fB B3) hM hS rfl (put5_3 _ _ _ _ _)
        try simp only [fAny] at heq
        go_simp
        refine hK.out _ _ hS' (fun _ => ?_)
        exact ofR.out _ _ _ _ (st41123.out M B1 B2 B3 B4 w' hS' hM' (hk' _ _ _ h1) (hk' _ _ _ h2) (hk' _ _ _ h3) (hk' _ _ _ h4))
      refine AllReadyH.cons rfl (fun K hK => ?_) ?_
      · rw [if_pos (by kernel_rfl)]
        obtain ⟨w', heq, hM', hS', hk'⟩ := map_put (P := Try.prog) Try.underlying78 Try.underlying5 110 fAny hM hS rfl (put5_4 _ _ _ _ _)
        try simp only [fAny] at heq
        go_simp
        refine hK.out _ _ hS' (fun _ => ?_)
        exact ofR.out _ _ _ _ (st41124.out M B1 B2 B3 B4 w' hS' hM' (hk' _ _ _ h1) (hk' _ _ _ h2) (hk' _ _ _ h3) (hk' _ _ _ h4))
      refine AllReadyH.cons rfl (fun K hK => ?_) ?_
      · rw [if_pos (by kernel_rfl)]
        obtain ⟨w', heq, hM', hS', hk'⟩ := map_put (P := Try.prog) Try.underlying78 Try.underlying5 45 (fB B4) hM hS rfl (put5_5 _ _ _ _ _)
        try simp only [fAny] at heq
        go_simp
        refine hK.out _ _ hS' (fun _ => ?_)
        exact ofR.out _ _ _ _ (st41125.out M B1 B2 B3 B4 w' hS' hM' (hk' _ _ _ h1) (hk' _ _ _ h2) (hk' _ _ _ h3) (hk' _ _ _ h4))
      exact AllReadyH.nil
    have st4112 := Lib.hid st4112_; clear st4112_
    have st4113_ : ∀ (M B1 B2 B3 B4 : Nat) (w : World), Ext W0 w → MapAt W0 w M (some (fB B1)) none (some (fB B3)) none none → w.cell? ⟨B1, 0, none⟩ = some (.int .i64 regs) → w.cell? ⟨B2, 0, none⟩ = some (.int .i64 len) → w.cell? ⟨B3, 0, none⟩ = some (.int .i64 n) → w.cell? ⟨B4, 0, none⟩ = some (.int .i64 1) → R 5 #[true, true, true, true, true, true, true, true, true, true, true, false, true, true, true, true, false, true, true, false, false, false] (fA (.agg #[.string p0, .int .i64 regs, .slice s len cap]) (.agg #[.int .u8 i0, .int .i64 i1, .int .i64 i2, .int .i64 i3, .int .i64 i4, .string i5]) (.slice s len cap) n regs len w0.heap.size (w0.heap.size + 1) (.map (some M)) (fB B1) (fB B2) (fB B3) (fB B4) undef undef) w := by
      intro M B1 B2 B3 B4 w hS hM h1 h2 h3 h4
      refine toR.out _ _ _ _ ?_
      refine wpAnyH_ready (rs := [11, 16, 19]) (by kernel_rfl) (by simp) ?_
      refine AllReadyH.cons rfl (fun K hK => ?_) ?_
      · rw [if_pos (by kernel_rfl)]
        obtain ⟨w', heq, hM', hS', hk'⟩ := map_put (P := Try.prog) Try.underlying78 Try.underlying5 106 (fB B2) hM hS rfl (put5_2 _ _ _ _ _)
        try simp only [fAny] at heq
        go_simp
        refine hK.out _ _ hS' (fun _ => ?_)
        exact ofR.out _ _ _ _ (st41123.out M B1 B2 B3 B4 w' hS' hM' (hk' _ _ _ h1) (hk' _ _ _ h2) (hk' _ _ _ h3) (hk' _ _ _ h4))
      refine AllReadyH.cons rfl (fun K hK => ?_) ?_
      · rw [if_pos (by kernel_rfl)]
        obtain ⟨w', heq, hM', hS', hk'⟩ := map_put (P := Try.prog) Try.underlying78 Try.underlying5 110 fAny hM hS rfl (put5_4 _ _ _ _ _)
        try simp only [fAny] at heq
        go_simp
        refine hK.out _ _ hS' (fun _ => ?_)
        exact ofR.out _ _ _ _ (st41134.out M B1 B2 B3 B4 w' hS' hM' (hk' _ _ _ h1) (hk' _ _ _ h2) (hk' _ _ _ h3) (hk' _ _ _ h4))
      refine AllReadyH.cons rfl (fun K hK => ?_) ?_
      · rw [if_pos (by kernel_rfl)]
        obtain ⟨w', heq, hM', hS', hk'⟩ := map_put (P := Try.prog) Try.underlying78 Try.underlying5 45 (fB B4) hM hS rfl (put5_5 _ _ _ _ _)
        try simp only [fAny] at heq
        go_simp
        refine hK.out _ _ hS' (fun _ => ?_)
        exact ofR.out _ _ _ _ (st41135.out M B1 B2 B3 B4 w' hS' hM' (hk' _ _ _ h1) (hk' _ _ _ h2) (hk' _ _ _ h3) (hk' _ _ _ h4))
      exact AllReadyH.nil
    have st4113 := Lib.hid st4113_; clear st4113_
    have st4114_ : ∀ (M B1 B2 B3 B4 : Nat) (w : World), Ext W0 w → MapAt W0 w M (some (fB B1)) none none (some fAny) none → w.cell? ⟨B1, 0, none⟩ = some (.int .i64 regs) → w.cell? ⟨B2, 0, none⟩ = some (.int .i64 len) → w.cell? ⟨B3, 0, none⟩ = some (.int .i64 n) → w.cell? ⟨B4, 0, none⟩ = some (.int .i64 1) → R 5 #[true, true, true, true, true, true, true, true, true, true, true, false, true, true, true, false, true, true, true, false, false, false] (fA (.agg #[.string p0, .int .i64 regs, .slice s len cap]) (.agg #[.int .u8 i0, .int .i64 i1, .int .i64 i2, .int .i64 i3, .int .i64 i4, .string i5]) (.slice s len cap) n regs len w0.heap.size (w0.heap.size + 1) (.map (some M)) (fB B1) (fB B2) (fB B3) (fB B4) undef undef) w := by
      intro M B1 B2 B3 B4 w hS hM h1 h2 h3 h4
      refine toR.out _ _ _ _ ?_
      refine wpAnyH_ready (rs := [11, 15, 19]) (by kernel_rfl) (by simp) ?_
      refine AllReadyH.cons rfl (fun K hK => ?_) ?_
      · rw [if_pos (by kernel_rfl)]
        obtain ⟨w', heq, hM', hS', hk'⟩ := map_put (P := Try.prog) Try.underlying78 Try.underlying5 106 (fB B2) hM hS rfl (put5_2 _ _ _ _ _)
        try simp only [fAny] at heq
        go_simp
        refine hK.out _ _ hS' (fun _ => ?_)
        exact ofR.out _ _ _ _ (st41124.out M B1 B2 B3 B4 w' hS' hM' (hk' _ _ _ h1) (hk' _ _ _ h2) (hk' _ _ _ h3) (hk' _ _ _ h4))
      refine AllReadyH.cons rfl (fun K hK => ?_) ?_
      · rw [if_pos (by kernel_rfl)]
        obtain ⟨w', heq, hM', hS', hk'⟩ := map_put (P := Try.prog) Try.underlying78 Try.underlying5 112 (fB B3) hM hS rfl (put5_3 _ _ _ _ _)
        try simp only [fAny] at heq
        go_simp
        refine hK.out _ _ hS' (fun _ => ?_)
        exact ofR.out _ _ _ _ (st41134.out M B1 B2 B3 B4 w' hS' hM' (hk' _ _ _ h1) (hk' _ _ _ h2) (hk' _ _ _ h3) (hk' _ _ _ h4))
      refine AllReadyH.cons rfl (fun K hK => ?_) ?_
      · rw [if_pos (by kernel_rfl)]
        obtain ⟨w', heq, hM', hS', hk'⟩ := map_put (P := Try.prog) Try.underlying78 Try.underlying5 45 (fB B4) hM hS rfl (put5_5 _ _ _ _ _)
        try simp only [fAny] at heq
        go_simp
        refine hK.out _ _ hS' (fun _ => ?_)
        exact ofR.out _ _ _ _ (st41145.out M B1 B2 B3 B4 w' hS' hM' (hk' _ _ _ h1) (hk' _ _ _ h2) (hk' _ _ _ h3) (hk' _ _ _ h4))
      exact AllReadyH.nil
    have st4114 := Lib.hid st4114_; clear st4114_
    have st4115_ : ∀ (M B1 B2 B3 B4 : Nat) (w : World), Ext W0 w → MapAt W0 w M (some (fB B1)) none none none (some (fB B4)) → w.cell? ⟨B1, 0, none⟩ = some (.int .i64 regs) → w.cell? ⟨B2, 0, none⟩ = some (.int .i64 len) → w.cell? ⟨B3, 0, none⟩ = some (.int .i64 n) → w.cell? ⟨B4, 0, none⟩ = some (.int .i64 1) → R 5 #[true, true, true, true, true, true, true, true, true, true, true, false, true, true, true, false, false, true, true, true, false, false] (fA (.agg #[.string p0, .int .i64 regs, .slice s len cap]) (.agg #[.int .u8 i0, .int .i64 i1, .int .i64 i2, .int .i64 i3, .int .i64 i4, .string i5]) (.slice s len cap) n regs len w0.heap.size (w0.heap.size + 1) (.map (some M)) (fB B1) (fB B2) (fB B3) (fB B4) undef undef) w := by
      intro M B1 B2 B3 B4 w hS hM h1 h2 h3 h4
      refine toR.out _ _ _ _ ?_
      refine wpAnyH_ready (rs := [11, 15, 16]) (by kernel_rfl) (by simp) ?_
      refine AllReadyH.cons rfl (fun K hK => ?_) ?_
      · rw [if_pos (by kernel_rfl)]
        obtain ⟨w', heq, hM', hS', hk'⟩ := map_put (P := Try.prog) Try.underlying78 Try.underlying5 106 (fB B2) hM hS rfl (put5_2 _ _ _ _ _)
        try simp only [fAny] at heq
        go_simp
        refine hK.out _ _ hS' (fun _ => ?_)
        exact ofR.out _ _ _ _ (st41125.out M B1 B2 B3 B4 w' hS' hM' (hk' _ _ _ h1) (hk' _ _ _ h2) (hk' _ _ _ h3) (hk' _ _ _ h4))
      refine AllReadyH.cons rfl (fun K hK => ?_) ?_
      · rw [if_pos (by kernel_rfl)]
        obtain ⟨w', heq, hM', hS', hk'⟩ := map_put (P := Try.prog) Try.underlying78 Try.underlying5 112 (fB B3) hM hS rfl (put5_3 _ _ _ _ _)
        try simp only [fAny] at heq
        go_simp
        refine hK.out _ _ hS' (fun _ => ?_)
        exact ofR.out _ _ _ _ (st41135.out M B1 B2 B3 B4 w' hS' hM' (hk' _ _ _ h1) (hk' _ _ _ h2) (hk' _ _ _ h3) (hk' _ _ _ h4))
      refine AllReadyH.cons rfl (fun K hK => ?_) ?_
      · rw [if_pos (by kernel_rfl)]
        obtain ⟨w', heq, hM', hS', hk'⟩ := map_put (P := Try.prog) Try.underlying78 Try.underlying5 110 fAny hM hS rfl (put5_4 _ _ _ _ _)
        try simp only [fAny] at heq
        go_simp
        refine hK.out _ _ hS' (fun _ => ?_)
        exact ofR.out _ _ _ _ (st41145.out M B1 B2 B3 B4 w' hS' hM' (hk' _ _ _ h1) (hk' _ _ _ h2) (hk' _ _ _ h3) (hk' _ _ _ h4))
      exact AllReadyH.nil
    have st4115 := Lib.hid st4115_; clear st4115_
    have st4123_ : ∀ (M B1 B2 B3 B4 : Nat) (w : World), Ext W0 w → MapAt W0 w M none (some (fB B2)) (some (fB B3)) none none → w.cell? ⟨B1, 0, none⟩ = some (.int .i64 regs) → w.cell? ⟨B2, 0, none⟩ = some (.int .i64 len) → w.cell? ⟨B3, 0, none⟩ = some (.int .i64 n) → w.cell? ⟨B4, 0, none⟩ = some (.int .i64 1) → R 5 #[true, true, true, true, true, false, true, true, true, true, true, true, true, true, true, true, false, true, true, false, false, false] (fA (.agg #[.string p0, .int .i64 regs, .slice s len cap]) (.agg #[.int .u8 i0, .int .i64 i1, .int .i64 i2, .int .i64 i3, .int .i64 i4, .string i5]) (.slice s len cap) n regs len w0.heap.size (w0.heap.size + 1) (.map (some M)) (fB B1) (fB B2) (fB B3) (fB B4) undef undef) w := by
      intro M B1 B2 B3 B4 w hS hM h1 h2 h3 h4
      refine toR.out _ _ _ _ ?_
      refine wpAnyH_ready (rs := [5, 16, 19]) (by kernel_rfl) (by simp) ?_
      refine AllReadyH.cons rfl (fun K hK => ?_) ?_
      · rw [if_pos (by kernel_rfl)]
        obtain ⟨w', heq, hM', hS', hk'⟩ := map_put (P := Try.prog) Try.underlying78 Try.underlying5 114 (fB B1) hM hS rfl (put5_1 _ _ _ _ _)
        try simp only [fAny] at heq
        go_simp
        refine hK.out _ _ hS' (fun _ => ?_)
        exact ofR.out _ _ _ _ (st41123.out M B1 B2 B3 B4 w' hS' hM' (hk' _ _ _ h1) (hk' _ _ _ h2) (hk' _ _ _ h3) (hk' _ _ _ h4))
      refine AllReadyH.cons rfl (fun K hK => ?_) ?_
      · rw [if_pos (by kernel_rfl)]
        obtain ⟨w', heq, hM', hS', hk'⟩ := map_put (P := Try.prog) Try.underlying78 Try.underlying5 110 fAny hM hS rfl (put5_4 _ _ _ _ _)
        try simp only [fAny] at heq
        go_simp
        refine hK.out _ _ hS' (fun _ => ?_)
        exact ofR.out _ _ _ _ (st41234.out M B1 B2 B3 B4 w' hS' hM' (hk' _ _ _ h1) (hk' _ _ _ h2) (hk' _ _ _ h3) (hk' _ _ _ h4))
      refine AllReadyH.cons rfl (fun K hK => ?_) ?_
      · rw [if_pos (by kernel_rfl)]
        obtain ⟨w', heq, hM', hS', hk'⟩ := map_put (P := Try.prog) Try.underlying78 Try.underlying5 45 (fB B4) hM hS rfl (put5_5 _ _ _ _ _)
        try simp only [fAny] at heq
        go_simp
        refine hK.out _ _ hS' (fun _ => ?_)
        exact ofR.out _ _ _ _ (st41235.out M B1 B2 B3 B4 w' hS' hM' (hk' _ _ _ h1) (hk' _ _ _ h2) (hk' _ _ _ h3) (hk' _ _ _ h4))
      exact AllReadyH.nil
    have st4123 := Lib.hid st4123_; clear st4123_
    have st4124_ : ∀ (M B1 B2 B3 B4 : Nat) (w : World), Ext W0 w → MapAt W0 w M none (some (fB B2)) none (some fAny) none → w.cell? ⟨B1, 0, none⟩ = some (.int .i64 regs) → w.cell? ⟨B2, 0, none⟩ = some (.int .i64 len) → w.cell? ⟨B3, 0, none⟩ = some (.int .i64 n) → w.cell? ⟨B4, 0, none⟩ = some (.int .i64 1) → R 5 #[true, true, true, true, true, false, true, true, true, true, true, true, true, true, true, false, true, true, true, false, false, false] (fA (.agg #[.string p0, .int .i64 regs, .slice s len cap]) (.agg #[.int .u8 i0, .int .i64 i1, .int .i64 i2, .int .i64 i3, .int .i64 i4, .string i5]) (.slice s len cap) n regs len w0.heap.size (w0.heap.size + 1) (.map (some M)) (fB B1) (fB B2) (fB B3) (fB B4) undef undef) w := by
      intro M B1 B2 B3 B4 w hS hM h1 h2 h3 h4
      refine toR.out _ _ _ _ ?_
      refine wpAnyH_ready (rs := [5, 15, 19]) (by kernel_rfl) (by simp) ?_
      refine AllReadyH.cons rfl (fun K hK => ?_) ?_
      · rw [if_pos (by kernel_rfl)]
        obtain ⟨w', heq, hM', hS', hk'⟩ := map_put (P := Try.prog) Try.underlying78 Try.underlying5 114 (fB B1) hM hS rfl (put5_1 _ _ _ _ _)
        try simp only [fAny] at heq
        go_simp
        refine hK.out _ _ hS' (fun _ => ?_)
        exact ofR.out _ _ _ _ (st41124.out M B1 B2 B3 B4 w' hS' hM' (hk' _ _ _ h1) (hk' _ _ _ h2) (hk' _ _ _ h3) (hk' _ _ _ h4))
      refine AllReadyH.cons rfl (fun K hK => ?_) ?_
      · rw [if_pos (by kernel_rfl)]
        obtain ⟨w', heq, hM', hS', hk'⟩ := map_put (P := Try.prog) Try.underlying78 Try.underlying5 112 (fB B3) hM hS rfl (put5_3 _ _ _ _ _)
        try simp only [fAny] at heq
        go_simp
        refine hK.out _ _ hS' (fun _ => ?_)
        exact ofR.out _ _ _ _ (st41234.out M B1 B2 B3 B4 w' hS' hM' (hk' _ _ _ h1) (hk' _ _ _ h2) (hk' _ _ _ h3) (hk' _ _ _ h4))
      refine AllReadyH.cons rfl (fun K hK => ?_) ?_
      · rw [if_pos (by kernel_rfl)]
        obtain ⟨w', heq, hM', hS', hk'⟩ := map_put (P := Try.prog) Try.underlying78 Try.underlying5 45 (fB B4) hM hS rfl (put5_5 _ _ _ _ _)
        try simp only [fAny] at heq
        go_simp
        refine hK.out _ _ hS' (fun _ => ?_)
        exact ofR.out _ _ _ _ (st41245.out M B1 B2 B3 B4 w' hS' hM' (hk' _ _ _ h1) (hk' _ _ _ h2) (hk' _ _ _ h3) (hk' _ _ _ h4))
      exact AllReadyH.nil
    have st4124 := Lib.hid st4124_; clear st4124_
    have st4125_ : ∀ (M B1 B2 B3 B4 : Nat) (w : World), Ext W0 w → MapAt W0 w M none (some (fB B2)) none none (some (fB B4)) → w.cell? ⟨B1, 0, none⟩ = some (.int .i64 regs) → w.cell? ⟨B2, 0, none⟩ = some (.int .i64 len) → w.cell? ⟨B3, 0, none⟩ = some (.int .i64 n) → w.cell? ⟨B4, 0, none⟩ = some (.int .i64 1) → R 5 #[true, true, true, true, true, false, true, true, true, true, true, true, true, true, true, false, false, true, true, true, false, false] (fA (.agg #[.string p0, .int .i64 regs, .slice s len cap]) (.agg #[.int .u8 i0, .int .i64 i1, .int .i64 i2, .int .i64 i3, .int .i64 i4, .string i5]) (.slice s len cap) n regs len w0.heap.size (w0.heap.size + 1) (.map (some M)) (fB B1) (fB B2) (fB B3) (fB B4) undef undef) w := by
      intro M B1 B2 B3 B4 w hS hM h1 h2 h3 h4
      refine toR.out _ _ _ _ ?_
      refine wpAnyH_ready (rs := [5, 15, 16]) (by kernel_rfl) (by simp) ?_
      refine AllReadyH.cons rfl (fun K hK => ?_) ?_
      · rw [if_pos (by kernel_rfl)]
        obtain ⟨w', heq, hM', hS', hk'⟩ := map_put (P := Try.prog) Try.underlying78 Try.underlying5 114 (fB B1) hM hS rfl (put5_1 _ _ _ _ _)
        try simp only [fAny] at heq
        go_simp
        refine hK.out _ _ hS' (fun _ => ?_)
        exact ofR.out _ _ _ _ (st41125.out M B1 B2 B3 B4 w' hS' hM' (hk' _ _ _ h1) (hk' _ _ _ h2) (hk' _ _ _ h3) (hk' _ _ _ h4))
      refine AllReadyH.cons rfl (fun K hK => ?_) ?_
      · rw [if_pos (by kernel_rfl)]
        obtain ⟨w', heq, hM', hS', hk'⟩ := map_put (P := Try.prog) Try.underlying78 Try.underlying5 112 (fB B3) hM hS rfl (put5_3 _ _ _ _ _)
        try simp only [fAny] at heq
        go_simp
        refine hK.out _ _ hS' (fun _ => ?_)
        exact ofR.out _ _ _ _ (st41235.out M B1 B2 B3 B4 w' hS' hM' (hk' _ _ _ h1) (hk' _ _ _ h2) (hk' _ _ _ h3) (hk' _ _ _ h4))
      refine AllReadyH.cons rfl (fun K hK => ?_) ?_
      · rw [if_pos (by kernel_rfl)]
        obtain ⟨w', heq, hM', hS', hk'⟩ := map_put (P := Try.prog) Try.underlying78 Try.underlying5 110 fAny hM hS rfl (put5_4 _ _ _ _ _)
        try simp only [fAny] at heq
        go_simp
        refine hK.out _ _ hS' (fun _ => ?_)
        exact ofR.out _ _ _ _ (st41245.out M B1 B2 B3 B4 w' hS' hM' (hk' _ _ _ h1) (hk' _ _ _ h2) (hk' _ _ _ h3) (hk' _ _ _ h4))
      exact AllReadyH.nil
    have st4125 := Lib.hid st4125_; clear st4125_
    have st4134_ : ∀ (M B1 B2 B3 B4 : Nat) (w : World), Ext W0 w → MapAt W0 w M none none (some (fB B3)) (some fAny) none → w.cell? ⟨B1, 0, none⟩ = some (.int .i64 regs) → w.cell? ⟨B2, 0, none⟩ = some (.int .i64 len) → w.cell? ⟨B3, 0, none⟩ = some (.int .i64 n) → w.cell? ⟨B4, 0, none⟩ = some (.int .i64 1) → R 5 #[true, true, true, true, true, false, true, true, true, true, true, false, true, true, true, true, true, true, true, false, false, false] (fA (.agg #[.string p0, .int .i64 regs, .slice s len cap]) (.agg #[.int .u8 i0, .int .i64 i1, .int .i64 i2, .int .i64 i3, .int .i64 i4, .string i5]) (.slice s len cap) n regs len w0.heap.size (w0.heap.size + 1) (.map (some M)) (fB B1) (fB B2) (fB B3) (fB B4) undef undef) w := by
      intro M B1 B2 B3 B4 w hS hM h1 h2 h3 h4
      refine toR.out _ _ _ _ ?_
      refine wpAnyH_ready (rs := [5, 11, 19]) (by kernel_rfl) (by simp) ?_
      refine AllReadyH.cons rfl (fun K hK => ?_) ?_
      · rw [if_pos (by kernel_rfl)]
        obtain ⟨w', heq, hM', hS', hk'⟩ := map_put (P := Try.prog) Try.underlying78 Try.underlying5 114 (fB B1) hM hS rfl (put5_1 _ _ _ _ _)
        try simp only [fAny] at heq
        go_simp
        refine hK.out _ _ hS' (fun _ => ?_)
        exact ofR.out _ _ _ _ (st41134.out M B1 B2 B3 B4 w' hS' hM' (hk' _ _ _ h1) (hk' _ _ _ h2) (hk' _ _ _ h3) (hk' _ _ _ h4))
      refine AllReadyH.cons rfl (fun K hK => ?_) ?_
      · rw [if_pos (by kernel_rfl)]
        obtain ⟨w', heq, hM', hS', hk'⟩ := map_put (P := Try.prog) Try.underlying78 Try.underlying5 106 (fB B2) hM hS rfl (put5_2 _ _ _ _ _)
        try simp only [fAny] at heq
        go_simp
        refine hK.out _ _ hS' (fun _ => ?_)
        exact ofR.out _ _ _ _ (st41234.out M B1 B2 B3 B4 w' hS' hM' (hk' _ _ _ h1) (hk' _ _ _ h2) (hk' _ _ _ h3) (hk' _ _ _ h4))
      refine AllReadyH.cons rfl (fun K hK => ?_) ?_
      · rw [if_pos (by kernel_rfl)]
        obtain ⟨w', heq, hM', hS', hk'⟩ := map_put (P := Try.prog) Try.underlying78 Try.underlying5 45 (fB B4) hM hS rfl (put5_5 _ _ _ _ _)
        try simp only [fAny] at heq
        go_simp
        refine hK.out _ _ hS' (fun _ => ?_)
        exact ofR.out _ _ _ _ (st41345.out M B1 B2 B3 B4 w' hS' hM' (hk' _ _ _ h1) (hk' _ _ _ h2) (hk' _ _ _ h3) (hk' _ _ _ h4))
      exact AllReadyH.nil
    have st4134 := Lib.hid st4134_; clear st4134_
    have st4135_ : ∀ (M B1 B2 B3 B4 : Nat) (w : World), Ext W0 w → MapAt W0 w M none none (some (fB B3)) none (some (fB B4)) → w.cell? ⟨B1, 0, none⟩ = some (.int .i64 regs) → w.cell? ⟨B2, 0, none⟩ = some (.int .i64 len) → w.cell? ⟨B3, 0, none⟩ = some (.int .i64 n) → w.cell? ⟨B4, 0, none⟩ = some (.int .i64 1) → R 5 #[true, true, true, true, true, false, true, true, true, true, true, false, true, true, true, true, false, true, true, true, false, false] (fA (.agg #[.string p0, .int .i64 regs, .slice s len cap]) (.agg #[.int .u8 i0, .int .i64 i1, .int .i64 i2, .int .i64 i3, .int .i64 i4, .string i5]) (.slice s len cap) n regs len w0.heap.size (w0.heap.size + 1) (.map (some M)) (fB B1) (fB B2) (fB B3) (fB B4) undef undef) w := by
      intro M B1 B2 B3 B4 w hS hM h1 h2 h3 h4
      refine toR.out _ _ _ _ ?_
      refine wpAnyH_ready (rs := [5, 11, 16]) (by kernel_rfl) (by simp) ?_
      refine AllReadyH.cons rfl (fun K hK => ?_) ?_
      · rw [if_pos (by kernel_rfl)]
        obtain ⟨w', heq, hM', hS', hk'⟩ := map_put (P := Try.prog) Try.underlying78 Try.underlying5 114 (fB B1) hM hS rfl (put5_1 _ _ _ _ _)
        try simp only [fAny] at heq
        go_simp
        refine hK.out _ _ hS' (fun _ => ?_)
        exact ofR.out _ _ _ _ (st41135.out M B1 B2 B3 B4 w' hS' hM' (hk' _ _ _ h1) (hk' _ _ _ h2) (hk' _ _ _ h3) (hk' _ _ _ h4))
      refine AllReadyH.cons rfl (fun K hK => ?_) ?_
      · rw [if_pos (by kernel_rfl)]
        obtain ⟨w', heq, hM', hS', hk'⟩ := map_put (P := Try.prog) Try.underlying78 Try.underlying5 106 (fB B2) hM hS rfl (put5_2 _ _ _ _ _)
        try simp only [fAny] at heq
        go_simp
        refine hK.out _ _ hS' (fun _ => ?_)
        exact ofR.out _ _ _ _ (st41235.out M B1 B2 B3 B4 w' hS' hM' (hk' _ _ _ h1) (hk' _ _ _ h2) (hk' _ _ _ h3) (hk' _ _ _ h4))
      refine AllReadyH.cons rfl (fun K hK => ?_) ?_
      · rw [if_pos (by kernel_rfl)]
        obtain ⟨w', heq, hM', hS', hk'⟩ := map_put (P := Try.prog) Try.underlying78 Try.underlying5 110 fAny hM hS rfl (put5_4 _ _ _ _ _)
        try simp only [fAny] at heq
        go_simp
        refine hK.out _ _ hS' (fun _ => ?_)
        exact ofR.out _ _ _ _ (st41345.out M B1 B2 B3 B4 w' hS' hM' (hk' _ _ _ h1) (hk' _ _ _ h2) (hk' _ _ _ h3) (hk' _ _ _ h4))
      exact AllReadyH.nil
    have st4135 := Lib.hid st4135_; clear st4135_
    have st4145_ : ∀ (M B1 B2 B3 B4 : Nat) (w : World), Ext W0 w → MapAt W0 w M none none none (some fAny) (some (fB B4)) → w.cell? ⟨B1, 0, none⟩ = some (.int .i64 regs) → w.cell? ⟨B2, 0, none⟩ = some (.int .i64 len) → w.cell? ⟨B3, 0, none⟩ = some (.int .i64 n) → w.cell? ⟨B4, 0, none⟩ = some (.int .i64 1) → R 5 #[true, true, true, true, true, false, true, true, true, true, true, false, true, true, true, false, true, true, true, true, false, false] (fA (.agg #[.string p0, .int .i64 regs, .slice s len cap]) (.agg #[.int .u8 i0, .int .i64 i1, .int .i64 i2, .int .i64 i3, .int .i64 i4, .string i5]) (.slice s len cap) n regs len w0.heap.size (w0.heap.size + 1) (.map (some M)) (fB B1) (fB B2) (fB B3) (fB B4) undef undef) w := by
      intro M B1 B2 B3 B4 w hS hM h1 h2 h3 h4
      refine toR.out _ _ _ _ ?_
      refine wpAnyH_ready (rs := [5, 11, 15]) (by kernel_rfl) (by simp) ?_
      refine AllReadyH.cons rfl (fun K hK => ?_) ?_
      · rw [if_pos (by kernel_rfl)]
        obtain ⟨w', heq, hM', hS', hk'⟩ := map_put (P := Try.prog) Try.underlying78 Try.underlying5 114 (fB B1) hM hS rfl (put5_1 _ _ _ _ _)
        try simp only [fAny] at heq
        go_simp
        refine hK.out _ _ hS' (fun _ => ?_)
        exact ofR.out _ _ _ _ (st41145.out M B1 B2 B3 B4 w' hS' hM' (hk' _ _ _ h1) (hk' _ _ _ h2) (hk' _ _ _ h3) (hk' _ _ _ h4))
      refine AllReadyH.cons rfl (fun K hK => ?_) ?_
      · rw [if_pos (by kernel_rfl)]
        obtain ⟨w', heq, hM', hS', hk'⟩ := map_put (P := Try.prog) Try.underlying78 Try.underlying5 106 (fB B2) hM hS rfl (put5_2 _ _ _ _ _)
        try simp only [fAny] at heq
        go_simp
        refine hK.out _ _ hS' (fun _ => ?_)
        exact ofR.out _ _ _ _ (st41245.out M B1 B2 B3 B4 w' hS' hM' (hk' _ _ _ h1) (hk' _ _ _ h2) (hk' _ _ _ h3) (hk' _ _ _ h4))
      refine AllReadyH.cons rfl (fun K hK => ?_) ?_
      · rw [if_pos (by kernel_rfl)]
        obtain ⟨w', heq, hM', hS', hk'⟩ := map_put (P := Try.prog) Try.underlying78 Try.underlying5 112 (fB B3) hM hS rfl (put5_3 _ _ _ _ _)
        try simp only [fAny] at heq
        go_simp
        refine hK.out _ _ hS' (fun _ => ?_)
        exact ofR.out _ _ _ _ (st41345.out M B1 B2 B3 B4 w' hS' hM' (hk' _ _ _ h1) (hk' _ _ _ h2) (hk' _ _ _ h3) (hk' _ _ _ h4))
      exact AllReadyH.nil
    have st4145 := Lib.hid st4145_; clear st4145_
    have st21124_ : ∀ (M B1 B2 : Nat) (w : World), Ext W0 w → MapAt W0 w M (some (fB B1)) (some (fB B2)) none (some fAny) none → w.cell? ⟨B1, 0, none⟩ = some (.int .i64 regs) → w.cell? ⟨B2, 0, none⟩ = some (.int .i64 len) → R 6 #[true, true, true, true, true, true, true, true, true, true, true, true, true, true, false, false, true, true, false, false, false, false] (fA (.agg #[.string p0, .int .i64 regs, .slice s len cap]) (.agg #[.int .u8 i0, .int .i64 i1, .int .i64 i2, .int .i64 i3, .int .i64 i4, .string i5]) (.slice s len cap) n regs len w0.heap.size (w0.heap.size + 1) (.map (some M)) (fB B1) (fB B2) undef undef undef undef) w := by
      intro M B1 B2 w hS hM h1 h2
      refine toR.out _ _ _ _ ?_
      refine wpAnyH_ready (rs := [14]) (by kernel_rfl) (by simp) ?_
      refine AllReadyH.cons rfl (fun K hK => ?_) ?_
      · rw [if_pos (by kernel_rfl)]
        go_simp
        go_wp2_with (go_at_call 35; refine (below_calls _ _).mono ?_; rintro e w1 ⟨rfl, rfl⟩)
        refine hK.out _ _ (ext_alloc hS _) (fun _ => ?_)
        exact ofR.out _ _ _ _ (st31124.out M B1 B2 w.heap.size _ (ext_alloc hS _) (map_keep hM (ext_alloc (ext_refl w) _)) (cell_keep (ext_alloc (ext_refl w) _) h1) (cell_keep (ext_alloc (ext_refl w) _) h2) (cell_alloc_new _ _ _ 0))
      exact AllReadyH.nil
    have st21124 := Lib.hid st21124_; clear st21124_
    have st3112_ : ∀ (M B1 B2 B3 : Nat) (w : World), Ext W0 w → MapAt W0 w M (some (fB B1)) (some (fB B2)) none none none → w.cell? ⟨B1, 0, none⟩ = some (.int .i64 regs) → w.cell? ⟨B2, 0, none⟩ = some (.int .i64 len) → w.cell? ⟨B3, 0, none⟩ = some (.int .i64 n) → R 6 #[true, true, true, true, true, true, true, true, true, true, true, true, true, true, true, false, false, true, false, false, false, false] (fA (.agg #[.string p0, .int .i64 regs, .slice s len cap]) (.agg #[.int .u8 i0, .int .i64 i1, .int .i64 i2, .int .i64 i3, .int .i64 i4, .string i5]) (.slice s len cap) n regs len w0.heap.size (w0.heap.size + 1) (.map (some M)) (fB B1) (fB B2) (fB B3) undef undef undef) w := by
      intro M B1 B2 B3 w hS hM h1 h2 h3
      refine toR.out _ _ _ _ ?_
      refine wpAnyH_ready (rs := [15, 16, 18]) (by kernel_rfl) (by simp) ?_
      refine AllReadyH.cons rfl (fun K hK => ?_) ?_
      · rw [if_pos (by kernel_rfl)]
        obtain ⟨w', heq, hM', hS', hk'⟩ := map_put (P := Try.prog) Try.underlying78 Try.underlying5 112 (fB B3) hM hS rfl (put5_3 _ _ _ _ _)
        try simp only [fAny] at heq
        go_simp
        refine hK.out _ _ hS' (fun _ => ?_)
        exact ofR.out _ _ _ _ (st31123.out M B1 B2 B3 w' hS' hM' (hk' _ _ _ h1) (hk' _ _ _ h2) (hk' _ _ _ h3))
      refine AllReadyH.cons rfl (fun K hK => ?_) ?_
      · rw [if_pos (by kernel_rfl)]
        obtain ⟨w', heq, hM', hS', hk'⟩ := map_put (P := Try.prog) Try.underlying78 Try.underlying5 110 fAny hM hS rfl (put5_4 _ _ _ _ _)
        try simp only [fAny] at heq
        go_simp
        refine hK.out _ _ hS' (fun _ => ?_)
        exact ofR.out _ _ _ _ (st31124.out M B1 B2 B3 w' hS' hM' (hk' _ _ _ h1) (hk' _ _ _ h2) (hk' _ _ _ h3))
      refine AllReadyH.cons rfl (fun K hK => ?_) ?_
      · rw [if_pos (by kernel_rfl)]
        go_simp
        go_wp2_with (go_at_call 35; refine (below_calls _ _).mono ?_; rintro e w1 ⟨rfl, rfl⟩)
        refine hK.out _ _ (ext_alloc hS _) (fun _ => ?_)
        exact ofR.out _ _ _ _ (st4112.out M B1 B2 B3 w.heap.size _ (ext_alloc hS _) (map_keep hM (ext_alloc (ext_refl w) _)) (cell_keep (ext_alloc (ext_refl w) _) h1) (cell_keep (ext_alloc (ext_refl w) _) h2) (cell_keep (ext_alloc (ext_refl w) _) h3) (cell_alloc_new _ _ _ 0))
      exact AllReadyH.nil
    have st3112 := Lib.hid st3112_; clear st3112_
    have st3113_ : ∀ (M B1 B2 B3 : Nat) (w : World), Ext W0 w → MapAt W0 w M (some (fB B1)) none (some (fB B3)) none none → w.cell? ⟨B1, 0, none⟩ = some (.int .i64 regs) → w.cell? ⟨B2, 0, none⟩ = some (.int .i64 len) → w.cell? ⟨B3, 0, none⟩ = some (.int .i64 n) → R 6 #[true, true, true, true, true, true, true, true, true, true, true, false, true, true, true, true, false, true, false, false, false, false] (fA (.agg #[.string p0, .int .i64 regs, .slice s len cap]) (.agg #[.int .u8 i0, .int .i64 i1, .int .i64 i2, .int .i64 i3, .int .i64 i4, .string i5]) (.slice s len cap) n regs len w0.heap.size (w0.heap.size + 1) (.map (some M)) (fB B1) (fB B2) (fB B3) undef undef undef) w := by
      intro M B1 B2 B3 w hS hM h1 h2 h3
      refine toR.out _ _ _ _ ?_
      refine wpAnyH_ready (rs := [11, 16, 18]) (by kernel_rfl) (by simp) ?_
      refine AllReadyH.cons rfl (fun K hK => ?_) ?_
      · rw [if_pos (by kernel_rfl)]
        obtain ⟨w', heq, hM', hS', hk'⟩ := map_put (P := Try.prog) Try.underlying78 Try.underlying5 106 (fB B2) hM hS rfl (put5_2 _ _ _ _ _)
        try simp only [fAny] at heq
        go_simp
        refine hK.out _ _ hS' (fun _ => ?_)
        exact ofR.out _ _ _ _ (st31123.out M B1 B2 B3 w' hS' hM' (hk' _ _ _ h1) (hk' _ _ _ h2) (hk' _ _ _ h3))
      refine AllReadyH.cons rfl (fun K hK => ?_) ?_
      · rw [if_pos (by kernel_rfl)]
        obtain ⟨w', heq, hM', hS', hk'⟩ := map_put (P := Try.prog) Try.underlying78 Try.underlying5 110 fAny hM hS rfl (put5_4 _ _ _ _ _)
        try simp only [fAny] at heq
        go_simp
        refine hK.out _ _ hS' (fun _ => ?_)
        exact ofR.out _ _ _ _ (st31134.out M B1 B2 B3 w' hS' hM' (hk' _ _ _ h1) (hk' _ _ _ h2) (hk' _ _ _ h3))
      refine AllReadyH.cons rfl (fun K hK => ?_) ?_
      · rw [if_pos (by kernel_rfl)]
        go_simp
        go_wp2_with (go_at_call 35; refine (below_calls _ _).mono ?_; rintro e w1 ⟨rfl, rfl⟩)
        refine hK.out _ _ (ext_alloc hS _) (fun _ => ?_)
        exact ofR.out _ _ _ _ (st4113.out M B1 B2 B3 w.heap.size _ (ext_alloc hS _) (map_keep hM (ext_alloc (ext_refl w) _)) (cell_keep (ext_alloc (ext_refl w) _) h1) (cell_keep (ext_alloc (ext_refl w) _) h2) (cell_keep (ext_alloc (ext_refl w) _) h3) (cell_alloc_new _ _ _ 0))
      exact AllReadyH.nil
    have st3113 := Lib.hid st3113_; clear st3113_
    have st3114_ : ∀ (M B1 B2 B3 : Nat) (w : World), Ext W0 w → MapAt W0 w M (some (fB B1)) none none (some fAny) none → w.cell? ⟨B1, 0, none⟩ = some (.int .i64 regs) → w.cell? ⟨B2, 0, none⟩ = some (.int .i64 len) → w.cell? ⟨B3, 0, none⟩ = some (.int .i64 n) → R 6 #[true, true, true, true, true, true, true, true, true, true, true, false, true, true, true, false, true, true, false, false, false, false] (fA (.agg #[.string p0, .int .i64 regs, .slice s len cap]) (.agg #[.int .u8 i0, .int .i64 i1, .int .i64 i2, .int .i64 i3, .int .i64 i4, .string i5]) (.slice s len cap) n regs len w0.heap.size (w0.heap.size + 1) (.map (some M)) (fB B1) (fB B2) (fB B3) undef undef undef) w := by
      intro M B1 B2 B3 w hS hM h1 h2 h3
      refine toR.out _ _ _ _ ?_
      refine wpAnyH_ready (rs := [11, 15, 18]) (by kernel_rfl) (by simp) ?_
      refine AllReadyH.cons rfl (fun K hK => ?_) ?_
      · rw [if_pos (by kernel_rfl)]
        obtain ⟨w', heq, hM', hS', hk'⟩ := map_put (P := Try.prog) Try.underlying78 Try.underlying5 106 (fB B2) hM hS rfl (put5_2 _ _ _ _ _)
        try simp only [fAny] at heq
        go_simp
        refine hK.out _ _ hS' (fun _ => ?_)
        exact ofR.out _ _ _ _ (st31124.out M B1 B2 B3 w' hS' hM' (hk' _ _ _ h1) (hk' _ _ _ h2) (hk' _ _ _ h3))
      refine AllReadyH.cons rfl (fun K hK => ?_) ?_
      · rw [if_pos (by kernel_rfl)]
        obtain ⟨w', heq, hM', hS', hk'⟩ := map_put (P := Try.prog) Try.underlying78 Try.underlying5 112 (fB B3) hM hS rfl (put5_3 _ _ _ _ _)
        try simp only [fAny] at heq
        go_simp
        refine hK.out _ _ hS' (fun _ => ?_)
        exact ofR.out _ _ _ _ (st31134.out M B1 B2 B3 w' hS' hM' (hk' _ _ _ h1) (hk' _ _ _ h2) (hk' _ _ _ h3))
      refine AllReadyH.cons rfl (fun K hK => ?_) ?_
      · rw [if_pos (by kernel_rfl)]
        go_simp
        go_wp2_with (go_at_call 35; refine (below_calls _ _).mono ?_; rintro e w1 ⟨rfl, rfl⟩)
        refine hK.out _ _ (ext_alloc hS _) (fun _ => ?_)
        exact ofR.out _ _ _ _ (st4114.out M B1 B2 B3 w.heap.size _ (ext_alloc hS _) (map_keep hM (ext_alloc (ext_refl w) _)) (cell_keep (ext_alloc (ext_refl w) _) h1) (cell_keep (ext_alloc (ext_refl w) _) h2) (cell_keep (ext_alloc (ext_refl w) _) h3) (cell_alloc_new _ _ _ 0))
      exact AllReadyH.nil
    have st3114 := Lib.hid st3114_; clear st3114_
    have st3123_ : ∀ (M B1 B2 B3 : Nat) (w : World), Ext W0 w → MapAt W0 w M none (some (fB B2)) (some (fB B3)) none none → w.cell? ⟨B1, 0, none⟩ = some (.int .i64 regs) → w.cell? ⟨B2, 0, none⟩ = some (.int .i64 len) → w.cell? ⟨B3, 0, none⟩ = some (.int .i64 n) → R 6 #[true, true, true, true, true, false, true, true, true, true, true, true, true, true, true, true, false, true, false, false, false, false] (fA (.agg #[.string p0, .int .i64 regs, .slice s len cap]) (.agg #[.int .u8 i0, .int .i64 i1, .int .i64 i2, .int .i64 i3, .int .i64 i4, .string i5]) (.slice s len cap) n regs len w0.heap.size (w0.heap.size + 1) (.map (some M)) (fB B1) (fB B2) (fB B3) undef undef undef) w := by
      intro M B1 B2 B3 w hS hM h1 h2 h3
      refine toR.out _ _ _ _ ?_
      refine wpAnyH_ready (rs := [5, 16, 18]) (by kernel_rfl) (by simp) ?_
      refine AllReadyH.cons rfl (fun K hK => ?_) ?_
      · rw [if_pos (by kernel_rfl)]
        obtain ⟨w', heq, hM', hS', hk'⟩ := map_put (P := Try.prog) Try.underlying78 Try.underlying5 114 (fB B1) hM hS rfl (put5_1 _ _ _ _ _)
        try simp only [fAny] at heq
        go_simp
        refine hK.out _ _ hS' (fun _ => ?_)
        exact ofR.out _ _ _ _ (st31123.out M B1 B2 B3 w' hS' hM' (hk' _ _ _ h1) (hk' _ _ _ h2) (hk' _ _ _ h3))
      refine AllReadyH.cons rfl (fun K hK => ?_) ?_
      · rw [if_pos (by kernel_rfl)]
        obtain ⟨w', heq, hM', hS', hk'⟩ := map_put (P := Try.prog) Try.underlying78 Try.underlying5 110 fAny hM hS rfl (put5_4 _ _ _ _ _)
        try simp only [fAny] at heq
        go_simp
        refine hK.out _ _ hS' (fun _ => ?_)
        exact ofR.out _ _ _ _ (st31234.out M B1 B2 B3 w' hS' hM' (hk' _ _ _ h1) (hk' _ _ _ h2) (hk' _ _ _ h3))
      refine AllReadyH.cons rfl (fun K hK => ?_) ?_
      · rw [if_pos (by kernel_rfl)]
        go_simp
        go_wp2_with (go_at_call 35; refine (below_calls _ _).mono ?_; rintro e w1 ⟨rfl, rfl⟩)
        refine hK.out _ _ (ext_alloc hS _) (fun _ => ?_)
        exact ofR.out _ _ _ _ (st4123.out M B1 B2 B3 w.heap.size _ (ext_alloc hS _) (map_keep hM (ext_alloc (ext_refl w) _)) (cell_keep (ext_alloc (ext_refl w) _) h1) (cell_keep (ext_alloc (ext_refl w) _) h2) (cell_keep (ext_alloc (ext_refl w) _) h3) (cell_alloc_new _ _ _ 0))
      exact AllReadyH.nil
    have st3123 := Lib.hid st3123_; clear st3123_
    have st3124_ : ∀ (M B1 B2 B3 : Nat) (w : World), Ext W0 w → MapAt W0 w M none (some (fB B2)) none (some fAny) none → w.cell? ⟨B1, 0, none⟩ = some (.int .i64 regs) → w.cell? ⟨B2, 0, none⟩ = some (.int .i64 len) → w.cell? ⟨B3, 0, none⟩ = some (.int .i64 n) → R 6 #[true, true, true, true, true, false, true, true, true, true, true, true, true, true, true, false, true, true, false, false, false, false] (fA (.agg #[.string p0, .int .i64 regs, .slice s len cap]) (.agg #[.int .u8 i0, .int .i64 i1, .int .i64 i2, .int .i64 i3, .int .i64 i4, .string i5]) (.slice s len cap) n regs len w0.heap.size (w0.heap.size + 1) (.map (some M)) (fB B1) (fB B2) (fB B3) undef undef undef) w := by
      intro M B1 B2 B3 w hS hM h1 h2 h3
      refine toR.out _ _ _ _ ?_
      refine wpAnyH_ready (rs := [5, 15, 18]) (by kernel_rfl) (by simp) ?_
      refine AllReadyH.cons rfl (fun K hK => ?_) ?_
      · rw [if_pos (by kernel_rfl)]
        obtain ⟨w', heq, hM', hS', hk'⟩ := map_put (P := Try.prog) Try.underlying78 Try.underlying5 114 (fB B1) hM hS rfl (put5_1 _ _ _ _ _)
        try simp only [fAny] at heq
        go_simp
        refine hK.out _ _ hS' (fun _ => ?_)
        exact ofR.out _ _ _ _ (st31124.out M B1 B2 B3 w' hS' hM' (hk' _ _ _ h1) (hk' _ _ _ h2) (hk' _ _ _ h3))
      refine AllReadyH.cons rfl (fun K hK => ?_) ?_
      · rw [if_pos (by kernel_rfl)]
        obtain ⟨w', heq, hM', hS', hk'⟩ := map_put (P := Try.prog) Try.underlying78 Try.underlying5 112 (fB B3) hM hS rfl (put5_3 _ _ _ _ _)
        try simp only [fAny] at heq
        go_simp
        refine hK.out _ _ hS' (fun _ => ?_)
        exact ofR.out _ _ _ _ (st31234.out M B1 B2 B3 w' hS' hM' (hk' _ _ _ h1) (hk' _ _ _ h2) (hk' _ _ _ h3))
      refine AllReadyH.cons rfl (fun K hK => ?_) ?_
      · rw [if_pos (by kernel_rfl)]
        go_simp
        go_wp2_with (go_at_call 35; refine (below_calls _ _).mono ?_; rintro e w1 ⟨rfl, rfl⟩)
        refine hK.out _ _ (ext_alloc hS _) (fun _ => ?_)
        exact ofR.out _ _ _ _ (st4124.out M B1 B2 B3 w.heap.size _ (ext_alloc hS _) (map_keep hM (ext_alloc (ext_refl w) _)) (cell_keep (ext_alloc (ext_refl w) _) h1) (cell_keep (ext_alloc (ext_refl w) _) h2) (cell_keep (ext_alloc (ext_refl w) _) h3) (cell_alloc_new _ _ _ 0))
      exact AllReadyH.nil
    have st3124 := Lib.hid st3124_; clear st3124_
    have st3134_ : ∀ (M B1 B2 B3 : Nat) (w : World), Ext W0 w → MapAt W0 w M none none (some (fB B3)) (some fAny) none → w.cell? ⟨B1, 0, none⟩ = some (.int .i64 regs) → w.cell? ⟨B2, 0, none⟩ = some (.int .i64 len) → w.cell? ⟨B3, 0, none⟩ = some (.int .i64 n) → R 6 #[true, true, true, true, true, false, true, true, true, true, true, false, true, true, true, true, true, true, false, false, false, false] (fA (.agg #[.string p0, .int .i64 regs, .slice s len cap]) (.agg #[.int .u8 i0, .int .i64 i1, .int .i64 i2, .int .i64 i3, .int .i64 i4, .string i5]) (.slice s len cap) n regs len w0.heap.size (w0.heap.size + 1) (.map (some M)) (fB B1) (fB B2) (fB B3) undef undef undef) w := by
      intro M B1 B2 B3 w hS hM h1 h2 h3
      refine toR.out _ _ _ _ ?_
      refine wpAnyH_ready (rs := [5, 11, 18]) (by kernel_rfl) (by simp) ?_
      refine AllReadyH.cons rfl (fun K hK => ?_) ?_
      · rw [if_pos (by kernel_rfl)]
        obtain ⟨w', heq, hM', hS', hk'⟩ := map_put (P := Try.prog) Try.underlying78 Try.underlying5 114 (fB B1) hM hS rfl (put5_1 _ _ _ _ _)
        try simp only [fAny] at heq
        go_simp
        refine hK.out _ _ hS' (fun _ => ?_)
        exact ofR.out _ _ _ _ (st31134.out M B1 B2 B3 w' hS' hM' (hk' _ _ _ h1) (hk' _ _ _ h2) (hk' _ _ _ h3))
      refine AllReadyH.cons rfl (fun K hK => ?_) ?_
      · rw [if_pos (by kernel_rfl)]
        obtain ⟨w', heq, hM', hS', hk'⟩ := map_put (P := Try.prog) Try.underlying78 Try.underlying5 106 (fB B2) hM hS rfl (put5_2 _ _ _ _ _)
        try simp only [fAny] at heq
        go_simp
        refine hK.out _ _ hS' (fun _ => ?_)
        exact ofR.out _ _ _ _ (st31234.out M B1 B2 B3 w' hS' hM' (hk' _ _ _ h1) (hk' _ _ _ h2) (hk' _ _ _ h3))
      refine AllReadyH.cons rfl (fun K hK => ?_) ?_
      · rw [if_pos (by kernel_rfl)]
        go_simp
        go_wp2_with (go_at_call 35; refine (below_calls _ _).mono ?_; rintro e w1 ⟨rfl, rfl⟩)
        refine hK.out _ _ (ext_alloc hS _) (fun _ => ?_)
        exact ofR.out _ _ _ _ (st4134.out M B1 B2 B3 w.heap.size _ (ext_alloc hS _) (map_keep hM (ext_alloc (ext_refl w) _)) (cell_keep (ext_alloc (ext_refl w) _) h1) (cell_keep (ext_alloc (ext_refl w) _) h2) (cell_keep (ext_alloc (ext_refl w) _) h3) (cell_alloc_new _ _ _ 0))
      exact AllReadyH.nil
    have st3134 := Lib.hid st3134_; clear st3134_
    have st411_ : ∀ (M B1 B2 B3 B4 : Nat) (w : World), Ext W0 w → MapAt W0 w M (some (fB B1)) none none none none → w.cell? ⟨B1, 0, none⟩ = some (.int .i64 regs) → w.cell? ⟨B2, 0, none⟩ = some (.int .i64 len) → w.cell? ⟨B3, 0, none⟩ = some (.int .i64 n) → w.cell? ⟨B4, 0, none⟩ = some (.int .i64 1) → R 6 #[true, true, true, true, true, true, true, true, true, true, true, false, true, true, true, false, false, true, true, false, false, false] (fA (.agg #[.string p0, .int .i64 regs, .slice s len cap]) (.agg #[.int .u8 i0, .int .i64 i1, .int .i64 i2, .int .i64 i3, .int .i64 i4, .string i5]) (.slice s len cap) n regs len w0.heap.size (w0.heap.size + 1) (.map (some M)) (fB B1) (fB B2) (fB B3) (fB B4) undef undef) w := by
      intro M B1 B2 B3 B4 w hS hM h1 h2 h3 h4
      refine toR.out _ _ _ _ ?_
      refine wpAnyH_ready (rs := [11, 15, 16, 19]) (by kernel_rfl) (by simp) ?_
      refine AllReadyH.cons rfl (fun K hK => ?_) ?_
      · rw [if_pos (by kernel_rfl)]
        obtain ⟨w', heq, hM', hS', hk'⟩ := map_put (P := Try.prog) Try.underlying78 Try.underlying5 106 (fB B2) hM hS rfl (put5_2 _ _ _ _ _)
        try simp only [fAny] at heq
        go_simp
        refine hK.out _ _ hS' (fun _ => ?_)
        exact ofR.out _ _ _ _ (st4112.out M B1 B2 B3 B4 w' hS' hM' (hk' _ _ _ h1) (hk' _ _ _ h2) (hk' _ _ _ h3) (hk' _ _ _ h4))
      refine AllReadyH.cons rfl (fun K hK => ?_) ?_
      · rw [if_pos (by kernel_rfl)]
        obtain ⟨w', heq, hM', hS', hk'⟩ := map_put (P := Try.prog) Try.underlying78 Try.underlying5 112 (fB B3) hM hS rfl (put5_3 _ _ _ _ _)
        try simp only [fAny] at heq
        go_simp
        refine hK.out _ _ hS' (fun _ => ?_)
        exact ofR.out _ _ _ _ (st4113.out M B1 B2 B3 B4 w' hS' hM' (hk' _ _ _ h1) (hk' _ _ _ h2) (hk' _ _ _ h3) (hk' _ _ _ h4))
      refine AllReadyH.cons rfl (fun K hK => ?_) ?_
      · rw [if_pos (by kernel_rfl)]
        obtain ⟨w', heq, hM', hS', hk'⟩ := map_put (P := Try.prog) Try.underlying78 Try.underlying5 110 fAny hM hS rfl (put5_4 _ _ _ _ _)
        try simp only [fAny] at heq
        go_simp
        refine hK.out _ _ hS' (fun _ => ?_)
        exact ofR.out _ _ _ _ (st4114.out M B1 B2 B3 B4 w' hS' hM' (hk' _ _ _ h1) (hk' _ _ _ h2) (hk' _ _ _ h3) (hk' _ _ _ h4))
      refine AllReadyH.cons rfl (fun K hK => ?_) ?_
      · rw [if_pos (by kernel_rfl)]
        obtain ⟨w', heq, hM', hS', hk'⟩ := map_put (P := Try.prog) Try.underlying78 Try.underlying5 45 (fB B4) hM hS rfl (put5_5 _ _ _ _ _)
        try simp only [fAny] at heq
        go_simp
        refine hK.out _ _ hS' (fun _ => ?_)
        exact ofR.out _ _ _ _ (st4115.out M B1 B2 B3 B4 w' hS' hM' (hk' _ _ _ h1) (hk' _ _ _ h2) (hk' _ _ _ h3) (hk' _ _ _ h4))
      exact AllReadyH.nil
    have st411 := Lib.hid st411_; clear st411_
    have st412_ : ∀ (M B1 B2 B3 B4 : Nat) (w : World), Ext W0 w → MapAt W0 w M none (some (fB B2)) none none none → w.cell? ⟨B1, 0, none⟩ = some (.int .i64 regs) → w.cell? ⟨B2, 0, none⟩ = some (.int .i64 len) → w.cell? ⟨B3, 0, none⟩ = some (.int .i64 n) → w.cell? ⟨B4, 0, none⟩ = some (.int .i64 1) → R 6 #[true, true, true, true, true, false, true, true, true, true, true, true, true, true, true, false, false, true, true, false, false, false] (fA (.agg #[.string p0, .int .i64 regs, .slice s len cap]) (.agg #[.int .u8 i0, .int .i64 i1, .int .i64 i2, .int .i64 i3, .int .i64 i4, .string i5]) (.slice s len cap) n regs len w0.heap.size (w0.heap.size + 1) (.map (some M)) (fB B1) (fB B2) (fB B3) (fB B4) undef undef) w := by
      intro M B1 B2 B3 B4 w hS hM h1 h2 h3 h4
      refine toR.out _ _ _ _ ?_
      refine wpAnyH_ready (rs := [5, 15, 16, 19]) (by kernel_rfl) (by simp) ?_
      refine AllReadyH.cons rfl (fun K hK => ?_) ?_
      · rw [if_pos (by kernel_rfl)]
        obtain ⟨w', heq, hM', hS', hk'⟩ := map_put (P := Try.prog) Try.underlying78 Try.underlying5 114 (fB B1) hM hS rfl (put5_1 _ _ _ _ _)
        try simp only [fAny] at heq
        go_simp
        refine hK.out _ _ hS' (fun _ => ?_)
        exact ofR.out _ _ _ _ (st4112.out M B1 B2 B3 B4 w' hS' hM' (hk' _ _ _ h1) (hk' _ _ _ h2) (hk' _ _ _ h3) (hk' _ _ _ h4))
      refine AllReadyH.cons rfl (fun K hK => ?_) ?_
      · rw [if_pos (by kernel_rfl)]
        obtain ⟨w', heq, hM', hS', hk'⟩ := map_put (P := Try.prog) Try.underlying78 Try.underlying5 112 (fB B3) hM hS rfl (put5_3 _ _ _ _ _)
        try simp only [fAny] at heq
        go_simp
        refine hK.out _ _ hS' (fun _ => ?_)
        exact ofR.out _ _ _ _ (st4123.out M B1 B2 B3 B4 w' hS' hM' (hk' _ _ _ h1) (hk' _ _ _ h2) (hk' _ _ _ h3) (hk' _ _ _ h4))
      refine AllReadyH.cons rfl (fun K hK => ?_) ?_
      · rw [if_pos (by kernel_rfl)]
        obtain ⟨w', heq, hM', hS', hk'⟩ := map_put (P := Try.prog) Try.underlying78 Try.underlying5 110 fAny hM hS rfl (put5_4 _ _ _ _ _)
        try simp only [fAny] at heq
        go_simp
        refine hK.out _ _ hS' (fun _ => ?_)
        exact ofR.out _ _ _ _ (st4124.out M B1 B2 B3 B4 w' hS' hM' (hk' _ _ _ h1) (hk' _ _ _ h2) (hk' _ _ _ h3) (hk' _ _ _ h4))
      refine AllReadyH.cons rfl (fun K hK => ?_) ?_
      · rw [if_pos (by kernel_rfl)]
        obtain ⟨w', heq, hM', hS', hk'⟩ := map_put (P := Try.prog) Try.underlying78 Try.underlying5 45 (fB B4) hM hS rfl (put5_5 _ _ _ _ _)
        try simp only [fAny] at heq
        go_simp
        refine hK.out _ _ hS' (fun _ => ?_)
        exact ofR.out _ _ _ _ (st4125.out M B1 B2 B3 B4 w' hS' hM' (hk' _ _ _ h1) (hk' _ _ _ h2) (hk' _ _ _ h3) (hk' _ _ _ h4))
      exact AllReadyH.nil
    have st412 := Lib.hid st412_; clear st412_
    have st413_ : ∀ (M B1 B2 B3 B4 : Nat) (w : World), Ext W0 w → MapAt W0 w M none none (some (fB B3)) none none → w.cell? ⟨B1, 0, none⟩ = some (.int .i64 regs) → w.cell? ⟨B2, 0, none⟩ = some (.int .i64 len) → w.cell? ⟨B3, 0, none⟩ = some (.int .i64 n) → w.cell? ⟨B4, 0, none⟩ = some (.int .i64 1) → R 6 #[true, true, true, true, true, false, true, true, true, true, true, false, true, true, true, true, false, true, true, false, false, false] (fA (.agg #[.string p0, .int .i64 regs, .slice s len cap]) (.agg #[.int .u8 i0, .int .i64 i1, .int .i64 i2, .int .i64 i3, .int .i64 i4, .string i5]) (.slice s len cap) n regs len w0.heap.size (w0.heap.size + 1) (.map (some M)) (fB B1) (fB B2) (fB B3) (fB B4) undef undef) w := by
      intro M B1 B2 B3 B4 w hS hM h1 h2 h3 h4
      refine toR.out _ _ _ _ ?_
      refine wpAnyH_ready (rs := [5, 11, 16, 19]) (by kernel_rfl) (by simp) ?_
      refine AllReadyH.cons rfl (fun K hK => ?_) ?_
      · rw [if_pos (by kernel_rfl)]
        obtain ⟨w', heq, hM', hS', hk'⟩ := map_put (P := Try.prog) Try.underlying78 Try.underlying5 114 (fB B1) hM hS rfl (put5_1 _ _ _ _ _)
        try simp only [fAny] at heq
        go_simp
        refine hK.out _ _ hS' (fun _ => ?_)
        exact ofR.out _ _ _ _ (st4113.out M B1 B2 B3 B4 w' hS' hM' (hk' _ _ _ h1) (hk' _ _ _ h2) (hk' _ _ _ h3) (hk' _ _ _ h4))
      refine AllReadyH.cons rfl (fun K hK => ?_) ?_
      · rw [if_pos (by kernel_rfl)]
        obtain ⟨w', heq, hM', hS', hk'⟩ := map_put (P := Try.prog) Try.underlying78 Try.underlying5 106 (fB B2) hM hS rfl (put5_2 _ _ _ _ _)
        try simp only [fAny] at heq
        go_simp
        refine hK.out _ _ hS' (fun _ => ?_)
        exact ofR.out _ _ _ _ (st4123.out M B1 B2 B3 B4 w' hS' hM' (hk' _ _ _ h1) (hk' _ _ _ h2) (hk' _ _ _ h3) (hk' _ _ _ h4))
      refine AllReadyH.cons rfl (fun K hK => ?_) ?_
      · rw [if_pos (by kernel_rfl)]
        obtain ⟨w', heq, hM', hS', hk'⟩ := map_put (P := Try.prog) Try.underlying78 Try.underlying5 110 fAny hM hS rfl (put5_4 _ _ _ _ _)
        try simp only [fAny] at heq
        go_simp
        refine hK.out _ _ hS' (fun _ => ?_)
        exact ofR.out _ _ _ _ (st4134.out M B1 B2 B3 B4 w' hS' hM' (hk' _ _ _ h1) (hk' _ _ _ h2) (hk' _ _ _ h3) (hk' _ _ _ h4))
      refine AllReadyH.cons rfl (fun K hK => ?_) ?_
      · rw [if_pos (by kernel_rfl)]
        obtain ⟨w', heq, hM', hS', hk'⟩ := map_put (P := Try.prog) Try.underlying78 Try.underlying5 45 (fB B4) hM hS rfl (put5_5 _ _ _ _ _)
        try simp only [fAny] at heq
        go_simp
        refine hK.out _ _ hS' (fun _ => ?_)
        exact ofR.out _ _ _ _ (st4135.out M B1 B2 B3 B4 w' hS' hM' (hk' _ _ _ h1) (hk' _ _ _ h2) (hk' _ _ _ h3) (hk' _ _ _ h4))
      exact AllReadyH.nil
    have st413 := Lib.hid st413_; clear st413_
    have st414_ : ∀ (M B1 B2 B3 B4 : Nat) (w : World), Ext W0 w → MapAt W0 w M none none none (some fAny) none → w.cell? ⟨B1, 0, none⟩ = some (.int .i64 regs) → w.cell? ⟨B2, 0, none⟩ = some (.int .i64 len) → w.cell? ⟨B3, 0, none⟩ = some (.int .i64 n) → w.cell? ⟨B4, 0, none⟩ = some (.int .i64 1) → R 6 #[true, true, true, true, true, false, true, true, true, true, true, false, true, true, true, false, true, true, true, false, false, false] (fA (.agg #[.string p0, .int .i64 regs, .slice s len cap]) (.agg #[.int .u8 i0, .int .i64 i1, .int .i64 i2, .int .i64 i3, .int .i64 i4, .string i5]) (.slice s len cap) n regs len w0.heap.size (w0.heap.size + 1) (.map (some M)) (fB B1) (fB B2) (fB B3) (fB B4) undef undef) w := by
      intro M B1 B2 B3 B4 w hS hM h1 h2 h3 h4
      refine toR.out _ _ _ _ ?_
      refine wpAnyH_ready (rs := [5, 11, 15, 19]) (by kernel_rfl) (by simp) ?_
      refine AllReadyH.cons rfl (fun K hK => ?_) ?_
      · rw [if_pos (by kernel_rfl)]
        obtain ⟨w', heq, hM', hS', hk'⟩ := map_put (P := Try.prog) Try.underlying78 Try.underlying5 114 (fB B1) hM hS rfl (put5_1 _ _ _ _ _)
        try simp only [fAny] at heq
        go_simp
        refine hK.out _ _ hS' (fun _ => ?_)
        exact ofR.out _ _ _ _ (st4114.out M B1 B2 B3 B4 w' hS' hM' (hk' _ _ _ h1) (hk' _ _ _ h2) (hk' _ _ _ h3) (hk' _ _ _ h4))
      refine AllReadyH.cons rfl (fun K hK => ?_) ?_
      · rw [if_pos (by kernel_rfl)]
        obtain ⟨w', heq, hM', hS', hk'⟩ := map_put (P := Try.prog) Try.underlying78 Try.underlying5 106 (fB B2) hM hS rfl (put5_2 _ _ _ _ _)
        try simp only [fAny] at heq
        go_simp
        refine hK.out _ _ hS' (fun _ => ?_)
        exact ofR.out _ _ _ _ (st4124.out M B1 B2 B3 B4 w' hS' hM' (hk' _ _ _ h1) (hk' _ _ _ h2) (hk' _ _ _ h3) (hk' _ _ _ h4))
      refine AllReadyH.cons rfl (fun K hK => ?_) ?_
      · rw [if_pos (by kernel_rfl)]
        obtain ⟨w', heq, hM', hS', hk'⟩ := map_put (P := Try.prog) Try.underlying78 Try.underlying5 112 (fB B3) hM hS rfl (put5_3 _ _ _ _ _)
        try simp only [fAny] at heq
        go_simp
        refine hK.out _ _ hS' (fun _ => ?_)
        exact ofR.out _ _ _ _ (st4134.out M B1 B2 B3 B4 w' hS' hM' (hk' _ _ _ h1) (hk' _ _ _ h2) (hk' _ _ _ h3) (hk' _ _ _ h4))
      refine AllReadyH.cons rfl (fun K hK => ?_) ?_
      · rw [if_pos (by kernel_rfl)]
        obtain ⟨w', heq, hM', hS', hk'⟩ := map_put (P := Try.prog) Try.underlying78 Try.underlying5 45 (fB B4) hM hS rfl (put5_5 _ _ _ _ _)
        try simp only [fAny] at heq
        go_simp
        refine hK.out _ _ hS' (fun _ => ?_)
        exact ofR.out _ _ _ _ (st4145.out M B1 B2 B3 B4 w' hS' hM' (hk' _ _ _ h1) (hk' _ _ _ h2) (hk' _ _ _ h3) (hk' _ _ _ h4))
      exact AllReadyH.nil
    have st414 := Lib.hid st414_; clear st414_
    have st415_ : ∀ (M B1 B2 B3 B4 : Nat) (w : World), Ext W0 w → MapAt W0 w M none none none none (some (fB B4)) → w.cell? ⟨B1, 0, none⟩ = some (.int .i64 regs) → w.cell? ⟨B2, 0, none⟩ = some (.int .i64 len) → w.cell? ⟨B3, 0, none⟩ = some (.int .i64 n) → w.cell? ⟨B4, 0, none⟩ = some (.int .i64 1) → R 6 #[true, true, true, true, true, false, true, true, true, true, true, false, true, true, true, false, false, true, true, true, false, false] (fA (.agg #[.string p0, .int .i64 regs, .slice s len cap]) (.agg #[.int .u8 i0, .int .i64 i1, .int .i64 i2, .int .i64 i3, .int .i64 i4, .string i5]) (.slice s len cap) n regs len w0.heap.size (w0.heap.size + 1) (.map (some M)) (fB B1) (fB B2) (fB B3) (fB B4) undef undef) w := by
      intro M B1 B2 B3 B4 w hS hM h1 h2 h3 h4
      refine toR.out _ _ _ _ ?_
      refine wpAnyH_ready (rs := [5, 11, 15, 16]) (by kernel_rfl) (by simp) ?_
      refine AllReadyH.cons rfl (fun K hK => ?_) ?_
      · rw [if_pos (by kernel_rfl)]
        obtain ⟨w', heq, hM', hS', hk'⟩ := map_put (P := Try.prog) Try.underlying78 Try.underlying5 114 (fB B1) hM hS rfl (put5_1 _ _ _ _ _)
        try simp only [fAny] at heq
        go_simp
        refine hK.out _ _ hS' (fun _ => ?_)
        exact ofR.out _ _ _ _ (st4115.out M B1 B2 B3 B4 w' hS' hM' (hk' _ _ _ h1) (hk' _ _ _ h2) (hk' _ _ _ h3) (hk' _ _ _ h4))
      refine AllReadyH.cons rfl (fun K hK => ?_) ?_
      · rw [if_pos (by kernel_rfl)]
        obtain ⟨w', heq, hM', hS', hk'⟩ := map_put (P := Try.prog) Try.underlying78 Try.underlying5 106 (fB B2) hM hS rfl (put5_2 _ _ _ _ _)
        try simp only [fAny] at heq
        go_simp
        refine hK.out _ _ hS' (fun _ => ?_)
        exact ofR.out _ _ _ _ (st4125.out M B1 B2 B3 B4 w' hS' hM' (hk' _ _ _ h1) (hk' _ _ _ h2) (hk' _ _ _ h3) (hk' _ _ _ h4))
      refine AllReadyH.cons rfl (fun K hK => ?_) ?_
      · rw [if_pos (by kernel_rfl)]
        obtain ⟨w', heq, hM', hS', hk'⟩ := map_put (P := Try.prog) Try.underlying78 Try.underlying5 112 (fB B3) hM hS rfl (put5_3 _ _ _ _ _)
        try simp only [fAny] at heq
        go_simp
        refine hK.out _ _ hS' (fun _ => ?_)
        exact ofR.out _ _ _ _ (st4135.out M B1 B2 B3 B4 w' hS' hM' (hk' _ _ _ h1) (hk' _ _ _ h2) (hk' _ _ _ h3) (hk' _ _ _ h4))
      refine AllReadyH.cons rfl (fun K hK => ?_) ?_
      · rw [if_pos (by kernel_rfl)]
        obtain ⟨w', heq, hM', hS', hk'⟩ := map_put (P := Try.prog) Try.underlying78 Try.underlying5 110 fAny hM hS rfl (put5_4 _ _ _ _ _)
        try simp only [fAny] at heq
        go_simp
        refine hK.out _ _ hS' (fun _ => ?_)
        exact ofR.out _ _ _ _ (st4145.out M B1 B2 B3 B4 w' hS' hM' (hk' _ _ _ h1) (hk' _ _ _ h2) (hk' _ _ _ h3) (hk' _ _ _ h4))
      exact AllReadyH.nil
    have st415 := Lib.hid st415_; clear st415_
    have st2112_ : ∀ (M B1 B2 : Nat) (w : World), Ext W0 w → MapAt W0 w M (some (fB B1)) (some (fB B2)) none none none → w.cell? ⟨B1, 0, none⟩ = some (.int .i64 regs) → w.cell? ⟨B2, 0, none⟩ = some (.int .i64 len) → R 7 #[true, true, true, true, true, true, true, true, true, true, true, true, true, true, false, false, false, true, false, false, false, false] (fA (.agg #[.string p0, .int .i64 regs, .slice s len cap]) (.agg #[.int .u8 i0, .int .i64 i1, .int .i64 i2, .int .i64 i3, .int .i64 i4, .string i5]) (.slice s len cap) n regs len w0.heap.size (w0.heap.size + 1) (.map (some M)) (fB B1) (fB B2) undef undef undef undef) w := by
      intro M B1 B2 w hS hM h1 h2
      refine toR.out _ _ _ _ ?_
      refine wpAnyH_ready (rs := [14, 16]) (by kernel_rfl) (by simp) ?_
      refine AllReadyH.cons rfl (fun K hK => ?_) ?_
      · rw [if_pos (by kernel_rfl)]
        go_simp
        go_wp2_with (go_at_call 35; refine (below_calls _ _).mono ?_; rintro e w1 ⟨rfl, rfl⟩)
        refine hK.out _ _ (ext_alloc hS _) (fun _ => ?_)
        exact ofR.out _ _ _ _ (st3112.out M B1 B2 w.heap.size _ (ext_alloc hS _) (map_keep hM (ext_alloc (ext_refl w) _)) (cell_keep (ext_alloc (ext_refl w) _) h1) (cell_keep (ext_alloc (ext_refl w) _) h2) (cell_alloc_new _ _ _ 0))
      refine AllReadyH.cons rfl (fun K hK => ?_) ?_
      · rw [if_pos (by kernel_rfl)]
        obtain ⟨w', heq, hM', hS', hk'⟩ := map_put (P := Try.prog) Try.underlying78 Try.underlying5 110 fAny hM hS rfl (put5_4 _ _ _ _ _)
        try simp only [fAny] at heq
        go_simp
        refine hK.out _ _ hS' (fun _ => ?_)
        exact ofR.out _ _ _ _ (st21124.out M B1 B2 w' hS' hM' (hk' _ _ _ h1) (hk' _ _ _ h2))
      exact AllReadyH.nil
    have st2112 := Lib.hid st2112_; clear st2112_
    have st2114_ : ∀ (M B1 B2 : Nat) (w : World), Ext W0 w → MapAt W0 w M (some (fB B1)) none none (some fAny) none → w.cell? ⟨B1, 0, none⟩ = some (.int .i64 regs) → w.cell? ⟨B2, 0, none⟩ = some (.int .i64 len) → R 7 #[true, true, true, true, true, true, true, true, true, true, true, false, true, true, false, false, true, true, false, false, false, false] (fA (.agg #[.string p0, .int .i64 regs, .slice s len cap]) (.agg #[.int .u8 i0, .int .i64 i1, .int .i64 i2, .int .i64 i3, .int .i64 i4, .string i5]) (.slice s len cap) n regs len w0.heap.size (w0.heap.size + 1) (.map (some M)) (fB B1) (fB B2) undef undef undef undef) w := by
      intro M B1 B2 w hS hM h1 h2
      refine toR.out _ _ _ _ ?_
      refine wpAnyH_ready (rs := [11, 14]) (by kernel_rfl) (by simp) ?_
      refine AllReadyH.cons rfl (fun K hK => ?_) ?_
      · rw [if_pos (by kernel_rfl)]
        obtain ⟨w', heq, hM', hS', hk'⟩ := map_put (P := Try.prog) Try.underlying78 Try.underlying5 106 (fB B2) hM hS rfl (put5_2 _ _ _ _ _)
        try simp only [fAny] at heq
        go_simp
        refine hK.out _ _ hS' (fun _ => ?_)
        exact ofR.out _ _ _ _ (st21124.out M B1 B2 w' hS' hM' (hk' _ _ _ h1) (hk' _ _ _ h2))
      refine AllReadyH.cons rfl (fun K hK => ?_) ?_
      · rw [if_pos (by kernel_rfl)]
        go_simp
        go_wp2_with (go_at_call 35; refine (below_calls _ _).mono ?_; rintro e w1 ⟨rfl, rfl⟩)
        refine hK.out _ _ (ext_alloc hS _) (fun _ => ?_)
        exact ofR.out _ _ _ _ (st3114.out M B1 B2 w.heap.size _ (ext_alloc hS _) (map_keep hM (ext_alloc (ext_refl w) _)) (cell_keep (ext_alloc (ext_refl w) _) h1) (cell_keep (ext_alloc (ext_refl w) _) h2) (cell_alloc_new _ _ _ 0))
      exact AllReadyH.nil
    have st2114 := Lib.hid st2114_; clear st2114_
    have st2124_ : ∀ (M B1 B2 : Nat) (w : World), Ext W0 w → MapAt W0 w M none (some (fB B2)) none (some fAny) none → w.cell? ⟨B1, 0, none⟩ = some (.int .i64 regs) → w.cell? ⟨B2, 0, none⟩ = some (.int .i64 len) → R 7 #[true, true, true, true, true, false, true, true, true, true, true, true, true, true, false, false, true, true, false, false, false, false] (fA (.agg #[.string p0, .int .i64 regs, .slice s len cap]) (.agg #[.int .u8 i0, .int .i64 i1, .int .i64 i2, .int .i64 i3, .int .i64 i4, .string i5]) (.slice s len cap) n regs len w0.heap.size (w0.heap.size + 1) (.map (some M)) (fB B1) (fB B2) undef undef undef undef) w := by
      intro M B1 B2 w hS hM h1 h2
      refine toR.out _ _ _ _ ?_
      refine wpAnyH_ready (rs := [5, 14]) (by kernel_rfl) (by simp) ?_
      refine AllReadyH.cons rfl (fun K hK => ?_) ?_
      · rw [if_pos (by kernel_rfl)]
        obtain ⟨w', heq, hM', hS', hk'⟩ := map_put (P := Try.prog) Try.underlying78 Try.underlying5 114 (fB B1) hM hS rfl (put5_1 _ _ _ _ _)
        try simp only [fAny] at heq
        go_simp
        refine hK.out _ _ hS' (fun _ => ?_)
        exact ofR.out _ _ _ _ (st21124.out M B1 B2 w' hS' hM' (hk' _ _ _ h1) (hk' _ _ _ h2))
      refine AllReadyH.cons rfl (fun K hK => ?_) ?_
      · rw [if_pos (by kernel_rfl)]
        go_simp
        go_wp2_with (go_at_call 35; refine (below_calls _ _).mono ?_; rintro e w1 ⟨rfl, rfl⟩)
        refine hK.out _ _ (ext_alloc hS _) (fun _ => ?_)
        exact ofR.out _ _ _ _ (st3124.out M B1 B2 w.heap.size _ (ext_alloc hS _) (map_keep hM (ext_alloc (ext_refl w) _)) (cell_keep (ext_alloc (ext_refl w) _) h1) (cell_keep (ext_alloc (ext_refl w) _) h2) (cell_alloc_new _ _ _ 0))
      exact AllReadyH.nil
    have st2124 := Lib.hid st2124_; clear st2124_
    have st311_ : ∀ (M B1 B2 B3 : Nat) (w : World), Ext W0 w → MapAt W0 w M (some (fB B1)) none none none none → w.cell? ⟨B1, 0, none⟩ = some (.int .i64 regs) → w.cell? ⟨B2, 0, none⟩ = some (.int .i64 len) → w.cell? ⟨B3, 0, none⟩ = some (.int .i64 n) → R 7 #[true, true, true, true, true, true, true, true, true, true, true, false, true, true, true, false, false, true, false, false, false, false] (fA (.agg #[.string p0, .int .i64 regs, .slice s len cap]) (.agg #[.int .u8 i0, .int .i64 i1, .int .i64 i2, .int .i64 i3, .int .i64 i4, .string i5]) (.slice s len cap) n regs len w0.heap.size (w0.heap.size + 1) (.map (some M)) (fB B1) (fB B2) (fB B3) undef undef undef) w := by
      intro M B1 B2 B3 w hS hM h1 h2 h3
      refine toR.out _ _ _ _ ?_
      refine wpAnyH_ready (rs := [11, 15, 16, 18]) (by kernel_rfl) (by simp) ?_
      refine AllReadyH.cons rfl (fun K hK => ?_) ?_
      · rw [if_pos (by kernel_rfl)]
        obtain ⟨w', heq, hM', hS', hk'⟩ := map_put (P := Try.prog) Try.underlying78 Try.underlying5 106 (fB B2) hM hS rfl (put5_2 _ _ _ _ _)
        try simp only [fAny] at heq
        go_simp
        refine hK.out _ _ hS' (fun _ => ?_)
        exact ofR.out _ _ _ _ (st3112.out M B1 B2 B3 w' hS' hM' (hk' _ _ _ h1) (hk' _ _ _ h2) (hk' _ _ _ h3))
      refine AllReadyH.cons rfl (fun K hK => ?_) ?_
      · rw [if_pos (by kernel_rfl)]
        obtain ⟨w', heq, hM', hS', hk'⟩ := map_put (P := Try.prog) Try.underlying78 Try.underlying5 112 (fB B3) hM hS rfl (put5_3 _ _ _ _ _)
        try simp only [fAny] at heq
        go_simp
        refine hK.out _ _ hS' (fun _ => ?_)
        exact ofR.out _ _ _ _ (st3113.out M B1 B2 B3 w' hS' hM' (hk' _ _ _ h1) (hk' _ _ _ h2) (hk' _ _ _ h3))
      refine AllReadyH.cons rfl (fun K hK => ?_) ?_
      · rw [if_pos (by kernel_rfl)]
        obtain ⟨w', heq, hM', hS', hk'⟩ := map_put (P := Try.prog) Try.underlying78 Try.underlying5 110 fAny hM hS rfl (put5_4 _ _ _ _ _)
        try simp only [fAny] at heq
        go_simp
        refine hK.out _ _ hS' (fun _ => ?_)
        exact ofR.out _ _ _ _ (st3114.out M B1 B2 B3 w' hS' hM' (hk' _ _ _ h1) (hk' _ _ _ h2) (hk' _ _ _ h3))
      refine AllReadyH.cons rfl (fun K hK => ?_) ?_
      · rw [if_pos (by kernel_rfl)]
        go_simp
        go_wp2_with (go_at_call 35; refine (below_calls _ _).mono ?_; rintro e w1 ⟨rfl, rfl⟩)
        refine hK.out _ _ (ext_alloc hS _) (fun _ => ?_)
        exact ofR.out _ _ _ _ (st411.out M B1 B2 B3 w.heap.size _ (ext_alloc hS _) (map_keep hM (ext_alloc (ext_refl w) _)) (cell_keep (ext_alloc (ext_refl w) _) h1) (cell_keep (ext_alloc (ext_refl w) _) h2) (cell_keep (ext_alloc (ext_refl w) _) h3) (cell_alloc_new _ _ _ 0))
      exact AllReadyH.nil
    have st311 := Lib.hid st311_; clear st311_
    have st312_ : ∀ (M B1 B2 B3 : Nat) (w : World), Ext W0 w → MapAt W0 w M none (some (fB B2)) none none none → w.cell? ⟨B1, 0, none⟩ = some (.int .i64 regs) → w.cell? ⟨B2, 0, none⟩ = some (.int .i64 len) → w.cell? ⟨B3, 0, none⟩ = some (.int .i64 n) → R 7 #[true, true, true, true, true, false, true, true, true, true, true, true, true, true, true, false, false, true, false, false, false, false] (fA (.agg #[.string p0, .int .i64 regs, .slice s len cap]) (.agg #[.int .u8 i0, .int .i64 i1, .int .i64 i2, .int .i64 i3, .int .i64 i4, .string i5]) (.slice s len cap) n regs len w0.heap.size (w0.heap.size + 1) (.map (some M)) (fB B1) (fB B2) (fB B3) undef undef undef) w := by
      intro M B1 B2 B3 w hS hM h1 h2 h3
      refine toR.out _ _ _ _ ?_
      refine wpAnyH_ready (rs := [5, 15, 16, 18]) (by kernel_rfl) (by simp) ?_
      refine AllReadyH.cons rfl (fun K hK => ?_) ?_
      · rw [if_pos (by kernel_rfl)]
        obtain ⟨w', heq, hM', hS', hk'⟩ := map_put (P := Try.prog) Try.underlying78 Try.underlying5 114 (fB B1) hM hS rfl (put5_1 _ _ _ _ _)
        try simp only [fAny] at heq
        go_simp
        refine hK.out _ _ hS' (fun _ => ?_)
        exact ofR.out _ _ _ _ (st3112.out M B1 B2 B3 w' hS' hM' (hk' _ _ _ h1) (hk' _ _ _ h2) (hk' _ _ _ h3))
      refine AllReadyH.cons rfl (fun K hK => ?_) ?_
      · rw [if_pos (by kernel_rfl)]
        obtain ⟨w', heq, hM', hS', hk'⟩ := map_put (P := Try.prog) Try.underlying78 Try.underlying5 112 (fB B3) hM hS rfl (put5_3 _ _ _ _ _)
        try simp only [fAny] at heq
        go_simp
        refine hK.out _ _ hS' (fun _ => ?_)
        exact ofR.out _ _ _ _ (st3123.out M B1 B2 B3 w' hS' hM' (hk' _ _ _ h1) (hk' _ _ _ h2) (hk' _ _ _ h3))
      refine AllReadyH.cons rfl (fun K hK => ?_) ?_
      · rw [if_pos (by kernel_rfl)]
        obtain ⟨w', heq, hM', hS', hk'⟩ := map_put (P := Try.prog) Try.underlying78 Try.underlying5 110 fAny hM hS rfl (put5_4 _ _ _ _ _)
        try simp only [fAny] at heq
        go_simp
        refine hK.out _ _ hS' (fun _ => ?_)
        exact ofR.out _ _ _ _ (st3124.out M B1 B2 B3 w' hS' hM' (hk' _ _ _ h1) (hk' _ _ _ h2) (hk' _ _ _ h3))
      refine AllReadyH.cons rfl (fun K hK => ?_) ?_
      · rw [if_pos (by kernel_rfl)]
        go_simp
        go_wp2_with (go_at_call 35; refine (below_calls _ _).mono ?_; rintro e w1 ⟨rfl, rfl⟩)
        refine hK.out _ _ (ext_alloc hS _) (fun _ => ?_)
        exact ofR.out _ _ _ _ (st412.out M B1 B2 B3 w.heap.size _ (ext_alloc hS _) (map_keep hM (ext_alloc (ext_refl w) _)) (cell_keep (ext_alloc (ext_refl w) _) h1) (cell_keep (ext_alloc (ext_refl w) _) h2) (cell_keep (ext_alloc (ext_refl w) _) h3) (cell_alloc_new _ _ _ 0))
      exact AllReadyH.nil
    have st312 := Lib.hid st312_; clear st312_
    have st313_ : ∀ (M B1 B2 B3 : Nat) (w : World), Ext W0 w → MapAt W0 w M none none (some (fB B3)) none none → w.cell? ⟨B1, 0, none⟩ = some (.int .i64 regs) → w.cell? ⟨B2, 0, none⟩ = some (.int .i64 len) → w.cell? ⟨B3, 0, none⟩ = some (.int .i64 n) → R 7 #[true, true, true, true, true, false, true, true, true, true, true, false, true, true, true, true, false, true, false, false, false, false] (fA (.agg #[.string p0, .int .i64 regs, .slice s len cap]) (.agg #[.int .u8 i0, .int .i64 i1, .int .i64 i2, .int .i64 i3, .int .i64 i4, .string i5]) (.slice s len cap) n regs len w0.heap.size (w0.heap.size + 1) (.map (some M)) (fB B1) (fB B2) (fB B3) undef undef undef) w := by
      intro M B1 B2 B3 w hS hM h1 h2 h3
      refine toR.out _ _ _ _ ?_
      refine wpAnyH_ready (rs := [5, 11, 16, 18]) (by kernel_rfl) (by simp) ?_
      refine AllReadyH.cons rfl (fun K hK => ?_) ?_
      · rw [if_pos (by kernel_rfl)]
        obtain ⟨w', heq, hM', hS', hk'⟩ := map_put (P := Try.prog) Try.underlying78 Try.underlying5 114 (fB B1) hM hS rfl (put5_1 _ _ _ _ _)
        try simp only [fAny] at heq
        go_simp
        refine hK.out _ _ hS' (fun _ => ?_)
        exact ofR.out _ _ _ _ (st3113.out M B1 B2 B3 w' hS' hM' (hk' _ _ _ h1) (hk' _ _ _ h2) (hk' _ _ _ h3))
      refine AllReadyH.cons rfl (fun K hK => ?_) ?_
      · rw [if_pos (by kernel_rfl)]
        obtain ⟨w', heq, hM', hS', hk'⟩ := map_put (P := Try.prog) Try.underlying78 Try.underlying5 106 (fB B2) hM hS rfl (put5_2 _ _ _ _ _)
        try simp only [fAny] at heq
        go_simp
        refine hK.out _ _ hS' (fun _ => ?_)
        exact ofR.out _ _ _ _ (st3123.out M B1 B2 B3 w' hS' hM' (hk' _ _ _ h1) (hk' _ _ _ h2) (hk' _ _ _ h3))
      refine AllReadyH.cons rfl (fun K hK => ?_) ?_
      · rw [if_pos (by kernel_rfl)]
        obtain ⟨w', heq, hM', hS', hk'⟩ := map_put (P := Try.prog) Try.underlying78 Try.underlying5 110 fAny hM hS rfl (put5_4 _ _ _ _ _)
        try simp only [fAny] at heq
        go_simp
        refine hK.out _ _ hS' (fun _ => ?_)
        exact ofR.out _ _ _ _ (st3134.out M B1 B2 B3 w' hS' hM' (hk' _ _ _ h1) (hk' _ _ _ h2) (hk' _ _ _ h3))
      refine AllReadyH.cons rfl (fun K hK => ?_) ?_
      · rw [if_pos (by kernel_rfl)]
        go_simp
        go_wp2_with (go_at_call 35; refine (below_calls _ _).mono ?_; rintro e w1 ⟨rfl, rfl⟩)
        refine hK.out _ _ (ext_alloc hS _) (fun _ => ?_)
        exact ofR.out _ _ _ _ (st413.out M B1 B2 B3 w.heap.size _ (ext_alloc hS _) (map_keep hM (ext_alloc (ext_refl w) _)) (cell_keep (ext_alloc (ext_refl w) _) h1) (cell_keep (ext_alloc (ext_refl w) _) h2) (cell_keep (ext_alloc (ext_refl w) _) h3) (cell_alloc_new _ _ _ 0))
      exact AllReadyH.nil
    have st313 := Lib.hid st313_; clear st313_
    have st314_ : ∀ (M B1 B2 B3 : Nat) (w : World), Ext W0 w → MapAt W0 w M none none none (some fAny) none → w.cell? ⟨B1, 0, none⟩ = some (.int .i64 regs) → w.cell? ⟨B2, 0, none⟩ = some (.int .i64 len) → w.cell? ⟨B3, 0, none⟩ = some (.int .i64 n) → R 7 #[true, true, true, true, true, false, true, true, true, true, true, false, true, true, true, false, true, true, false, false, false, false] (fA (.agg #[.string p0, .int .i64 regs, .slice s len cap]) (.agg #[.int .u8 i0, .int .i64 i1, .int .i64 i2, .int .i64 i3, .int .i64 i4, .string i5]) (.slice s len cap) n regs len w0.heap.size (w0.heap.size + 1) (.map (some M)) (fB B1) (fB B2) (fB B3) undef undef undef) w := by
      intro M B1 B2 B3 w hS hM h1 h2 h3
      refine toR.out _ _ _ _ ?_
      refine wpAnyH_ready (rs := [5, 11, 15, 18]) (by kernel_rfl) (by simp) ?_
      refine AllReadyH.cons rfl (fun K hK => ?_) ?_
      · rw [if_pos (by kernel_rfl)]
        obtain ⟨w', heq, hM', hS', hk'⟩ := map_put (P := Try.prog) Try.underlying78 Try.underlying5 114 (fB B1) hM hS rfl (put5_1 _ _ _ _ _)
        try simp only [fAny] at heq
        go_simp
        refine hK.out _ _ hS' (fun _ => ?_)
        exact ofR.out _ _ _ _ (st3114.out M B1 B2 B3 w' hS' hM' (hk' _ _ _ h1) (hk' _ _ _ h2) (hk' _ _ _ h3))
      refine AllReadyH.cons rfl (fun K hK => ?_) ?_
      · rw [if_pos (by kernel_rfl)]
        obtain ⟨w', heq, hM', hS', hk'⟩ := map_put (P := Try.prog) Try.underlying78 Try.underlying5 106 (fB B2) hM hS rfl (put5_2 _ _ _ _ _)
        try simp only [fAny] at heq
        go_simp
        refine hK.out _ _ hS' (fun _ => ?_)
        exact ofR.out _ _ _ _ (st3124.out M B1 B2 B3 w' hS' hM' (hk' _ _ _ h1) (hk' _ _ _ h2) (hk' _ _ _ h3))
      refine AllReadyH.cons rfl (fun K hK => ?_) ?_
      · rw [if_pos (by kernel_rfl)]
        obtain ⟨w', heq, hM', hS', hk'⟩ := map_put (P := Try.prog) Try.underlying78 Try.underlying5 112 (fB B3) hM hS rfl (put5_3 _ _ _ _ _)
        try simp only [fAny] at heq
        go_simp
        refine hK.out _ _ hS' (fun _ => ?_)
        exact ofR.out _ _ _ _ (st3134.out M B1 B2 B3 w' hS' hM' (hk' _ _ _ h1) (hk' _ _ _ h2) (hk' _ _ _ h3))
      refine AllReadyH.cons rfl (fun K hK => ?_) ?_
      · rw [if_pos (by kernel_rfl)]
        go_simp
        go_wp2_with (go_at_call 35; refine (below_calls _ _).mono ?_; rintro e w1 ⟨rfl, rfl⟩)
        refine hK.out _ _ (ext_alloc hS _) (fun _ => ?_)
        exact ofR.out _ _ _ _ (st414.out M B1 B2 B3 w.heap.size _ (ext_alloc hS _) (map_keep hM (ext_alloc (ext_refl w) _)) (cell_keep (ext_alloc (ext_refl w) _) h1) (cell_keep (ext_alloc (ext_refl w) _) h2) (cell_keep (ext_alloc (ext_refl w) _) h3) (cell_alloc_new _ _ _ 0))
      exact AllReadyH.nil
    have st314 := Lib.hid st314_; clear st314_
    have st41_ : ∀ (M B1 B2 B3 B4 : Nat) (w : World), Ext W0 w → MapAt W0 w M none none none none none → w.cell? ⟨B1, 0, none⟩ = some (.int .i64 regs) → w.cell? ⟨B2, 0, none⟩ = some (.int .i64 len) → w.cell? ⟨B3, 0, none⟩ = some (.int .i64 n) → w.cell? ⟨B4, 0, none⟩ = some (.int .i64 1) → R 7 #[true, true, true, true, true, false, true, true, true, true, true, false, true, true, true, false, false, true, true, false, false, false] (fA (.agg #[.string p0, .int .i64 regs, .slice s len cap]) (.agg #[.int .u8 i0, .int .i64 i1, .int .i64 i2, .int .i64 i3, .int .i64 i4, .string i5]) (.slice s len cap) n regs len w0.heap.size (w0.heap.size + 1) (.map (some M)) (fB B1) (fB B2) (fB B3) (fB B4) undef undef) w := by
      intro M B1 B2 B3 B4 w hS hM h1 h2 h3 h4
      refine toR.out _ _ _ _ ?_
      refine wpAnyH_ready (rs := [5, 11, 15, 16, 19]) (by kernel_rfl) (by simp) ?_
      refine AllReadyH.cons rfl (fun K hK => ?_) ?_
      · rw [if_pos (by kernel_rfl)]
        obtain ⟨w', heq, hM', hS', hk'⟩ := map_put (P := Try.prog) Try.underlying78 Try.underlying5 114 (fB B1) hM hS rfl (put5_1 _ _ _ _ _)
        try simp only [fAny] at heq
        go_simp
        refine hK.out _ _ hS' (fun _ => ?_)
        exact ofR.out _ _ _ _ (st411.out M B1 B2 B3 B4 w' hS' hM' (hk' _ _ _ h1) (hk' _ _ _ h2) (hk' _ _ _ h3) (hk' _ _ _ h4))
      refine AllReadyH.cons rfl (fun K hK => ?_) ?_
      · rw [if_pos (by kernel_rfl)]
        obtain ⟨w', heq, hM', hS', hk'⟩ := map_put (P := Try.prog) Try.underlying78 Try.underlying5 106 (fB B2) hM hS rfl (put5_2 _ _ _ _ _)
        try simp only [fAny] at heq
        go_simp
        refine hK.out _ _ hS' (fun _ => ?_)
        exact ofR.out _ _ _ _ (st412.out M B1 B2 B3 B4 w' hS' hM' (hk' _ _ _ h1) (hk' _ _ _ h2) (hk' _ _ _ h3) (hk' _ _ _ h4))
      refine AllReadyH.cons rfl (fun K hK => ?_) ?_
      · rw [if_pos (by kernel_rfl)]
        obtain ⟨w', heq, hM', hS', hk'⟩ := map_put (P := Try.prog) Try.underlying78 Try.underlying5 112 (fB B3) hM hS rfl (put5_3 _ _ _ _ _)
        try simp only [fAny] at heq
        go_simp
        refine hK.out _ _ hS' (fun _ => ?_)
        exact ofR.out _ _ _ _ (st413.out M B1 B2 B3 B4 w' hS' hM' (hk' _ _ _ h1) (hk' _ _ _ h2) (hk' _ _ _ h3) (hk' _ _ _ h4))
      refine AllReadyH.cons rfl (fun K hK => ?_) ?_
      · rw [if_pos (by kernel_rfl)]
        obtain ⟨w', heq, hM', hS', hk'⟩ := map_put (P := Try.prog) Try.underlying78 Try.underlying5 110 fAny hM hS rfl (put5_4 _ _ _ _ _)
        try simp only [fAny] at heq
        go_simp
        refine hK.out _ _ hS' (fun _ => ?_)
        exact ofR.out _ _ _ _ (st414.out M B1 B2 B3 B4 w' hS' hM' (hk' _ _ _ h1) (hk' _ _ _ h2) (hk' _ _ _ h3) (hk' _ _ _ h4))
      refine AllReadyH.cons rfl (fun K hK => ?_) ?_
      · rw [if_pos (by kernel_rfl)]
        obtain ⟨w', heq, hM', hS', hk'⟩ := map_put (P := Try.prog) Try.underlying78 Try.underlying5 45 (fB B4) hM hS rfl (put5_5 _ _ _ _ _)
        try simp only [fAny] at heq
        go_simp
        refine hK.out _ _ hS' (fun _ => ?_)
        exact ofR.out _ _ _ _ (st415.out M B1 B2 B3 B4 w' hS' hM' (hk' _ _ _ h1) (hk' _ _ _ h2) (hk' _ _ _ h3) (hk' _ _ _ h4))
      exact AllReadyH.nil
    have st41 := Lib.hid st41_; clear st41_
    have st1114_ : ∀ (M B1 : Nat) (w : World), Ext W0 w → MapAt W0 w M (some (fB B1)) none none (some fAny) none → w.cell? ⟨B1, 0, none⟩ = some (.int .i64 regs) → R 8 #[true, true, true, true, true, true, true, true, true, true, false, false, true, true, false, false, true, true, false, false, false, false] (fA (.agg #[.string p0, .int .i64 regs, .slice s len cap]) (.agg #[.int .u8 i0, .int .i64 i1, .int .i64 i2, .int .i64 i3, .int .i64 i4, .string i5]) (.slice s len cap) n regs len w0.heap.size (w0.heap.size + 1) (.map (some M)) (fB B1) undef undef undef undef undef) w := by
      intro M B1 w hS hM h1
      refine toR.out _ _ _ _ ?_
      refine wpAnyH_ready (rs := [10]) (by kernel_rfl) (by simp) ?_
      refine AllReadyH.cons rfl (fun K hK => ?_) ?_
      · rw [if_pos (by kernel_rfl)]
        go_simp
        go_wp2_with (go_at_call 35; refine (below_calls _ _).mono ?_; rintro e w1 ⟨rfl, rfl⟩)
        refine hK.out _ _ (ext_alloc hS _) (fun _ => ?_)
        exact ofR.out _ _ _ _ (st2114.out M B1 w.heap.size _ (ext_alloc hS _) (map_keep hM (ext_alloc (ext_refl w) _)) (cell_keep (ext_alloc (ext_refl w) _) h1) (cell_alloc_new _ _ _ 0))
      exact AllReadyH.nil
    have st1114 := Lib.hid st1114_; clear st1114_
    have st211_ : ∀ (M B1 B2 : Nat) (w : World), Ext W0 w → MapAt W0 w M (some (fB B1)) none none none none → w.cell? ⟨B1, 0, none⟩ = some (.int .i64 regs) → w.cell? ⟨B2, 0, none⟩ = some (.int .i64 len) → R 8 #[true, true, true, true, true, true, true, true, true, true, true, false, true, true, false, false, false, true, false, false, false, false] (fA (.agg #[.string p0, .int .i64 regs, .slice s len cap]) (.agg #[.int .u8 i0, .int .i64 i1, .int .i64 i2, .int .i64 i3, .int .i64 i4, .string i5]) (.slice s len cap) n regs len w0.heap.size (w0.heap.size + 1) (.map (some M)) (fB B1) (fB B2) undef undef undef undef) w := by
      intro M B1 B2 w hS hM h1 h2
      refine toR.out _ _ _ _ ?_
      refine wpAnyH_ready (rs := [11, 14, 16]) (by kernel_rfl) (by simp) ?_
      refine AllReadyH.cons rfl (fun K hK => ?_) ?_
      · rw [if_pos (by kernel_rfl)]
        obtain ⟨w', heq, hM', hS', hk'⟩ := map_put (P := Try.prog) Try.underlying78 Try.underlying5 106 (fB B2) hM hS rfl (put5_2 _ _ _ _ _)
        try simp only [fAny] at heq
        go_simp
        refine hK.out _ _ hS' (fun _ => ?_)
        exact ofR.out _ _ _ _ (st2112.out M B1 B2 w' hS' hM' (hk' _ _ _ h1) (hk' _ _ _ h2))
      refine AllReadyH.cons rfl (fun K hK => ?_) ?_
      · rw [if_pos (by kernel_rfl)]
        go_simp
        go_wp2_with (go_at_call 35; refine (below_calls _ _).mono ?_; rintro e w1 ⟨rfl, rfl⟩)
        refine hK.out _ _ (ext_alloc hS _) (fun _ => ?_)
        exact ofR.out _ _ _ _ (st311.out M B1 B2 w.heap.size _ (ext_alloc hS _) (map_keep hM (ext_alloc (ext_refl w) _)) (cell_keep (ext_alloc (ext_refl w) _) h1) (cell_keep (ext_alloc (ext_refl w) _) h2) (cell_alloc_new _ _ _ 0))
      refine AllReadyH.cons rfl (fun K hK => ?_) ?_
      · rw [if_pos (by kernel_rfl)]
        obtain ⟨w', heq, hM', hS', hk'⟩ := map_put (P := Try.prog) Try.underlying78 Try.underlying5 110 fAny hM hS rfl (put5_4 _ _ _ _ _)
        try simp only [fAny] at heq
        go_simp
        refine hK.out _ _ hS' (fun _ => ?_)
        exact ofR.out _ _ _ _ (st2114.out M B1 B2 w' hS' hM' (hk' _ _ _ h1) (hk' _ _ _ h2))
      exact AllReadyH.nil
    have st211 := Lib.hid st211_; clear st211_
    have st212_ : ∀ (M B1 B2 : Nat) (w : World), Ext W0 w → MapAt W0 w M none (some (fB B2)) none none none → w.cell? ⟨B1, 0, none⟩ = some (.int .i64 regs) → w.cell? ⟨B2, 0, none⟩ = some (.int .i64 len) → R 8 #[true, true, true, true, true, false, true, true, true, true, true, true, true, true, false, false, false, true, false, false, false, false] (fA (.agg #[.string p0, .int .i64 regs, .slice s len cap]) (.agg #[.int .u8 i0, .int .i64 i1, .int .i64 i2, .int .i64 i3, .int .i64 i4, .string i5]) (.slice s len cap) n regs len w0.heap.size (w0.heap.size + 1) (.map (some M)) (fB B1) (fB B2) undef undef undef undef) w := by
      intro M B1 B2 w hS hM h1 h2
      refine toR.out _ _ _ _ ?_
      refine wpAnyH_ready (rs := [5, 14, 16]) (by kernel_rfl) (by simp) ?_
      refine AllReadyH.cons rfl (fun K hK => ?_) ?_
      · rw [if_pos (by kernel_rfl)]
        obtain ⟨w', heq, hM', hS', hk'⟩ := map_put (P := Try.prog) Try.underlying78 Try.underlying5 114 (fB B1) hM hS rfl (put5_1 _ _ _ _ _)
        try simp only [fAny] at heq
        go_simp
        refine hK.out _ _ hS' (fun _ => ?_)
        exact ofR.out _ _ _ _ (st2112.out M B1 B2 w' hS' hM' (hk' _ _ _ h1) (hk' _ _ _ h2))
      refine AllReadyH.cons rfl (fun K hK => ?_) ?_
      · rw [if_pos (by kernel_rfl)]
        go_simp
        go_wp2_with (go_at_call 35; refine (below_calls _ _).mono ?_; rintro e w1 ⟨rfl, rfl⟩)
        refine hK.out _ _ (ext_alloc hS _) (fun _ => ?_)
        exact ofR.out _ _ _ _ (st312.out M B1 B2 w.heap.size _ (ext_alloc hS _) (map_keep hM (ext_alloc (ext_refl w) _)) (cell_keep (ext_alloc (ext_refl w) _) h1) (cell_keep (ext_alloc (ext_refl w) _) h2) (cell_alloc_new _ _ _ 0))
      refine AllReadyH.cons rfl (fun K hK => ?_) ?_
      · rw [if_pos (by kernel_rfl)]
        obtain ⟨w', heq, hM', hS', hk'⟩ := map_put (P := Try.prog) Try.underlying78 Try.underlying5 110 fAny hM hS rfl (put5_4 _ _ _ _ _)
        try simp only [fAny] at heq
        go_simp
        refine hK.out _ _ hS' (fun _ => ?_)
        exact ofR.out _ _ _ _ (st2124.out M B1 B2 w' hS' hM' (hk' _ _ _ h1) (hk' _ _ _ h2))
      exact AllReadyH.nil
    have st212 := Lib.hid st212_; clear st212_
    have st214_ : ∀ (M B1 B2 : Nat) (w : World), Ext W0 w → MapAt W0 w M none none none (some fAny) none → w.cell? ⟨B1, 0, none⟩ = some (.int .i64 regs) → w.cell? ⟨B2, 0, none⟩ = some (.int .i64 len) → R 8 #[true, true, true, true, true, false, true, true, true, true, true, false, true, true, false, false, true, true, false, false, false, false] (fA (.agg #[.string p0, .int .i64 regs, .slice s len cap]) (.agg #[.int .u8 i0, .int .i64 i1, .int .i64 i2, .int .i64 i3, .int .i64 i4, .string i5]) (.slice s len cap) n regs len w0.heap.size (w0.heap.size + 1) (.map (some M)) (fB B1) (fB B2) undef undef undef undef) w := by
      intro M B1 B2 w hS hM h1 h2
      refine toR.out _ _ _ _ ?_
      refine wpAnyH_ready (rs := [5, 11, 14]) (by kernel_rfl) (by simp) ?_
      refine AllReadyH.cons rfl (fun K hK => ?_) ?_
      · rw [if_pos (by kernel_rfl)]
        obtain ⟨w', heq, hM', hS', hk'⟩ := map_put (P := Try.prog) Try.underlying78 Try.underlying5 114 (fB B1) hM hS rfl (put5_1 _ _ _ _ _)
        try simp only [fAny] at heq
        go_simp
        refine hK.out _ _ hS' (fun _ => ?_)
        exact ofR.out _ _ _ _ (st2114.out M B1 B2 w' hS' hM' (hk' _ _ _ h1) (hk' _ _ _ h2))
      refine AllReadyH.cons rfl (fun K hK => ?_) ?_
      · rw [if_pos (by kernel_rfl)]
        obtain ⟨w', heq, hM', hS', hk'⟩ := map_put (P := Try.prog) Try.underlying78 Try.underlying5 106 (fB B2) hM hS rfl (put5_2 _ _ _ _ _)
        try simp only [fAny] at heq
        go_simp
        refine hK.out _ _ hS' (fun _ => ?_)
        exact ofR.out _ _ _ _ (st2124.out M B1 B2 w' hS' hM' (hk' _ _ _ h1) (hk' _ _ _ h2))
      refine AllReadyH.cons rfl (fun K hK => ?_) ?_
      · rw [if_pos (by kernel_rfl)]
        go_simp
        go_wp2_with (go_at_call 35; refine (below_calls _ _).mono ?_; rintro e w1 ⟨rfl, rfl⟩)
        refine hK.out _ _ (ext_alloc hS _) (fun _ => ?_)
        exact ofR.out _ _ _ _ (st314.out M B1 B2 w.heap.size _ (ext_alloc hS _) (map_keep hM (ext_alloc (ext_refl w) _)) (cell_keep (ext_alloc (ext_refl w) _) h1) (cell_keep (ext_alloc (ext_refl w) _) h2) (cell_alloc_new _ _ _ 0))
      exact AllReadyH.nil
    have st214 := Lib.hid st214_; clear st214_
    have st31_ : ∀ (M B1 B2 B3 : Nat) (w : World), Ext W0 w → MapAt W0 w M none none none none none → w.cell? ⟨B1, 0, none⟩ = some (.int .i64 regs) → w.cell? ⟨B2, 0, none⟩ = some (.int .i64 len) → w.cell? ⟨B3, 0, none⟩ = some (.int .i64 n) → R 8 #[true, true, true, true, true, false, true, true, true, true, true, false, true, true, true, false, false, true, false, false, false, false] (fA (.agg #[.string p0, .int .i64 regs, .slice s len cap]) (.agg #[.int .u8 i0, .int .i64 i1, .int .i64 i2, .int .i64 i3, .int .i64 i4, .string i5]) (.slice s len cap) n regs len w0.heap.size (w0.heap.size + 1) (.map (some M)) (fB B1) (fB B2) (fB B3) undef undef undef) w := by
      intro M B1 B2 B3 w hS hM h1 h2 h3
      refine toR.out _ _ _ _ ?_
      refine wpAnyH_ready (rs := [5, 11, 15, 16, 18]) (by kernel_rfl) (by simp) ?_
      refine AllReadyH.cons rfl (fun K hK => ?_) ?_
      · rw [if_pos (by kernel_rfl)]
        obtain ⟨w', heq, hM', hS', hk'⟩ := map_put (P := Try.prog) Try.underlying78 Try.underlying5 114 (fB B1) hM hS rfl (put5_1 _ _ _ _ _)
        try simp only [fAny] at heq
        go_simp
        refine hK.out _ _ hS' (fun _ => ?_)
        exact ofR.out _ _ _ _ (st311.out M B1 B2 B3 w' hS' hM' (hk' _ _ _ h1) (hk' _ _ _ h2) (hk' _ _ _ h3))
      refine AllReadyH.cons rfl (fun K hK => ?_) ?_
      · rw [if_pos (by kernel_rfl)]
        obtain ⟨w', heq, hM', hS', hk'⟩ := map_put (P := Try.prog) Try.underlying78 Try.underlying5 106 (fB B2) hM hS rfl (put5_2 _ _ _ _ _)
        try simp only [fAny] at heq
        go_simp
        refine hK.out _ _ hS' (fun _ => ?_)
        exact ofR.out _ _ _ _ (st312.out M B1 B2 B3 w' hS' hM' (hk' _ _ _ h1) (hk' _ _ _ h2) (hk' _ _ _ h3))
      refine AllReadyH.cons rfl (fun K hK => ?_) ?_
      · rw [if_pos (by kernel_rfl)]
        obtain ⟨w', heq, hM', hS', hk'⟩ := map_put (P := Try.prog) Try.underlying78 Try.underlying5 112 (fB B3) hM hS rfl (put5_3 _ _ _ _ _)
        try simp only [fAny] at heq
        go_simp
        refine hK.out _ _ hS' (fun _ => ?_)
        exact ofR.out _ _ _ _ (st313.out M B1 B2 B3 w' hS' hM' (hk' _ _ _ h1) (hk' _ _ _ h2) (hk' _ _ _ h3))
      refine AllReadyH.cons rfl (fun K hK => ?_) ?_
      · rw [if_pos (by kernel_rfl)]
        obtain ⟨w', heq, hM', hS', hk'⟩ := map_put (P := Try.prog) Try.underlying78 Try.underlying5 110 fAny hM hS rfl (put5_4 _ _ _ _ _)
        try simp only [fAny] at heq
        go_simp
        refine hK.out _ _ hS' (fun _ => ?_)
        exact ofR.out _ _ _ _ (st314.out M B1 B2 B3 w' hS' hM' (hk' _ _ _ h1) (hk' _ _ _ h2) (hk' _ _ _ h3))
      refine AllReadyH.cons rfl (fun K hK => ?_) ?_
      · rw [if_pos (by kernel_rfl)]
        go_simp
        go_wp2_with (go_at_call 35; refine (below_calls _ _).mono ?_; rintro e w1 ⟨rfl, rfl⟩)
        refine hK.out _ _ (ext_alloc hS _) (fun _ => ?_)
        exact ofR.out _ _ _ _ (st41.out M B1 B2 B3 w.heap.size _ (ext_alloc hS _) (map_keep hM (ext_alloc (ext_refl w) _)) (cell_keep (ext_alloc (ext_refl w) _) h1) (cell_keep (ext_alloc (ext_refl w) _) h2) (cell_keep (ext_alloc (ext_refl w) _) h3) (cell_alloc_new _ _ _ 0))
      exact AllReadyH.nil
    have st31 := Lib.hid st31_; clear st31_
    have st40_ : ∀ (B1 B2 B3 B4 : Nat) (w : World), Ext W0 w → w.cell? ⟨B1, 0, none⟩ = some (.int .i64 regs) → w.cell? ⟨B2, 0, none⟩ = some (.int .i64 len) → w.cell? ⟨B3, 0, none⟩ = some (.int .i64 n) → w.cell? ⟨B4, 0, none⟩ = some (.int .i64 1) → R 8 #[false, true, true, true, true, false, true, true, true, true, true, false, true, true, true, false, false, true, true, false, false, false] (fA (.agg #[.string p0, .int .i64 regs, .slice s len cap]) (.agg #[.int .u8 i0, .int .i64 i1, .int .i64 i2, .int .i64 i3, .int .i64 i4, .string i5]) (.slice s len cap) n regs len w0.heap.size (w0.heap.size + 1) undef (fB B1) (fB B2) (fB B3) (fB B4) undef undef) w := by
      intro B1 B2 B3 B4 w hS h1 h2 h3 h4
      refine toR.out _ _ _ _ ?_
      refine wpAnyH_ready (rs := [0]) (by kernel_rfl) (by simp) ?_
      refine AllReadyH.cons rfl (fun K hK => ?_) ?_
      · rw [if_pos (by kernel_rfl)]
        have hmk : (Instr.makeMap 78 none).run Try.prog w = .ok (.map (some w.heap.size)) (w.alloc (.map #[] 0)) := rfl
        go_simp
        refine hK.out _ _ (ext_alloc hS _) (fun _ => ?_)
        exact ofR.out _ _ _ _ (st41.out w.heap.size B1 B2 B3 B4 _ (ext_alloc hS _) (map_new W0 w hS) (cell_keep (ext_alloc (ext_refl w) _) h1) (cell_keep (ext_alloc (ext_refl w) _) h2) (cell_keep (ext_alloc (ext_refl w) _) h3) (cell_keep (ext_alloc (ext_refl w) _) h4))
      exact AllReadyH.nil
    have st40 := Lib.hid st40_; clear st40_
    have st111_ : ∀ (M B1 : Nat) (w : World), Ext W0 w → MapAt W0 w M (some (fB B1)) none none none none → w.cell? ⟨B1, 0, none⟩ = some (.int .i64 regs) → R 9 #[true, true, true, true, true, true, true, true, true, true, false, false, true, true, false, false, false, true, false, false, false, false] (fA (.agg #[.string p0, .int .i64 regs, .slice s len cap]) (.agg #[.int .u8 i0, .int .i64 i1, .int .i64 i2, .int .i64 i3, .int .i64 i4, .string i5]) (.slice s len cap) n regs len w0.heap.size (w0.heap.size + 1) (.map (some M)) (fB B1) undef undef undef undef undef) w := by
      intro M B1 w hS hM h1
      refine toR.out _ _ _ _ ?_
      refine wpAnyH_ready (rs := [10, 16]) (by kernel_rfl) (by simp) ?_
      refine AllReadyH.cons rfl (fun K hK => ?_) ?_
      · rw [if_pos (by kernel_rfl)]
        go_simp
        go_wp2_with (go_at_call 35; refine (below_calls _ _).mono ?_; rintro e w1 ⟨rfl, rfl⟩)
        refine hK.out _ _ (ext_alloc hS _) (fun _ => ?_)
        exact ofR.out _ _ _ _ (st211.out M B1 w.heap.size _ (ext_alloc hS _) (map_keep hM (ext_alloc (ext_refl w) _)) (cell_keep (ext_alloc (ext_refl w) _) h1) (cell_alloc_new _ _ _ 0))
      refine AllReadyH.cons rfl (fun K hK => ?_) ?_
      · rw [if_pos (by kernel_rfl)]
        obtain ⟨w', heq, hM', hS', hk'⟩ := map_put (P := Try.prog) Try.underlying78 Try.underlying5 110 fAny hM hS rfl (put5_4 _ _ _ _ _)
        try simp only [fAny] at heq
        go_simp
        refine hK.out _ _ hS' (fun _ => ?_)
        exact ofR.out _ _ _ _ (st1114.out M B1 w' hS' hM' (hk' _ _ _ h1))
      exact AllReadyH.nil
    have st111 := Lib.hid st111_; clear st111_
    have st114_ : ∀ (M B1 : Nat) (w : World), Ext W0 w → MapAt W0 w M none none none (some fAny) none → w.cell? ⟨B1, 0, none⟩ = some (.int .i64 regs) → R 9 #[true, true, true, true, true, false, true, true, true, true, false, false, true, true, false, false, true, true, false, false, false, false] (fA (.agg #[.string p0, .int .i64 regs, .slice s len cap]) (.agg #[.int .u8 i0, .int .i64 i1, .int .i64 i2, .int .i64 i3, .int .i64 i4, .string i5]) (.slice s len cap) n regs len w0.heap.size (w0.heap.size + 1) (.map (some M)) (fB B1) undef undef undef undef undef) w := by
      intro M B1 w hS hM h1
      refine toR.out _ _ _ _ ?_
      refine wpAnyH_ready (rs := [5, 10]) (by kernel_rfl) (by simp) ?_
      refine AllReadyH.cons rfl (fun K hK => ?_) ?_
      · rw [if_pos (by kernel_rfl)]
        obtain ⟨w', heq, hM', hS', hk'⟩ := map_put (P := Try.prog) Try.underlying78 Try.underlying5 114 (fB B1) hM hS rfl (put5_1 _ _ _ _ _)
        try simp only [fAny] at heq
        go_simp
        refine hK.out _ _ hS' (fun _ => ?_)
        exact ofR.out _ _ _ _ (st1114.out M B1 w' hS' hM' (hk' _ _ _ h1))
      refine AllReadyH.cons rfl (fun K hK => ?_) ?_
      · rw [if_pos (by kernel_rfl)]
        go_simp
        go_wp2_with (go_at_call 35; refine (below_calls _ _).mono ?_; rintro e w1 ⟨rfl, rfl⟩)
        refine hK.out _ _ (ext_alloc hS _) (fun _ => ?_)
        exact ofR.out _ _ _ _ (st214.out M B1 w.heap.size _ (ext_alloc hS _) (map_keep hM (ext_alloc (ext_refl w) _)) (cell_keep (ext_alloc (ext_refl w) _) h1) (cell_alloc_new _ _ _ 0))
      exact AllReadyH.nil
    have st114 := Lib.hid st114_; clear st114_
    have st21_ : ∀ (M B1 B2 : Nat) (w : World), Ext W0 w → MapAt W0 w M none none none none none → w.cell? ⟨B1, 0, none⟩ = some (.int .i64 regs) → w.cell? ⟨B2, 0, none⟩ = some (.int .i64 len) → R 9 #[true, true, true, true, true, false, true, true, true, true, true, false, true, true, false, false, false, true, false, false, false, false] (fA (.agg #[.string p0, .int .i64 regs, .slice s len cap]) (.agg #[.int .u8 i0, .int .i64 i1, .int .i64 i2, .int .i64 i3, .int .i64 i4, .string i5]) (.slice s len cap) n regs len w0.heap.size (w0.heap.size + 1) (.map (some M)) (fB B1) (fB B2) undef undef undef undef) w := by
      intro M B1 B2 w hS hM h1 h2
      refine toR.out _ _ _ _ ?_
      refine wpAnyH_ready (rs := [5, 11, 14, 16]) (by kernel_rfl) (by simp) ?_
      refine AllReadyH.cons rfl (fun K hK => ?_) ?_
      · rw [if_pos (by kernel_rfl)]
        obtain ⟨w', heq, hM', hS', hk'⟩ := map_put (P := Try.prog) Try.underlying78 Try.underlying5 114 (fB B1) hM hS rfl (put5_1 _ _ _ _ _)
        try simp only [fAny] at heq
        go_simp
        refine hK.out _ _ hS' (fun _ => ?_)
        exact ofR.out _ _ _ _ (st211.out M B1 B2 w' hS' hM' (hk' _ _ _ h1) (hk' _ _ _ h2))
      refine AllReadyH.cons rfl (fun K hK => ?_) ?_
      · rw [if_pos (by kernel_rfl)]
        obtain ⟨w', heq, hM', hS', hk'⟩ := map_put (P := Try.prog) Try.underlying78 Try.underlying5 106 (fB B2) hM hS rfl (put5_2 _ _ _ _ _)
        try simp only [fAny] at heq
        go_simp
        refine hK.out _ _ hS' (fun _ => ?_)
        exact ofR.out _ _ _ _ (st212.out M B1 B2 w' hS' hM' (hk' _ _ _ h1) (hk' _ _ _ h2))
      refine AllReadyH.cons rfl (fun K hK => ?_) ?_
      · rw [if_pos (by kernel_rfl)]
        go_simp
        go_wp2_with (go_at_call 35; refine (below_calls _ _).mono ?_; rintro e w1 ⟨rfl, rfl⟩)
        refine hK.out _ _ (ext_alloc hS _) (fun _ => ?_)
        exact ofR.out _ _ _ _ (st31.out M B1 B2 w.heap.size _ (ext_alloc hS _) (map_keep hM (ext_alloc (ext_refl w) _)) (cell_keep (ext_alloc (ext_refl w) _) h1) (cell_keep (ext_alloc (ext_refl w) _) h2) (cell_alloc_new _ _ _ 0))
      refine AllReadyH.cons rfl (fun K hK => ?_) ?_
      · rw [if_pos (by kernel_rfl)]
        obtain ⟨w', heq, hM', hS', hk'⟩ := map_put (P := Try.prog) Try.underlying78 Try.underlying5 110 fAny hM hS rfl (put5_4 _ _ _ _ _)
        try simp only [fAny] at heq
        go_simp
        refine hK.out _ _ hS' (fun _ => ?_)
        exact ofR.out _ _ _ _ (st214.out M B1 B2 w' hS' hM' (hk' _ _ _ h1) (hk' _ _ _ h2))
      exact AllReadyH.nil
    have st21 := Lib.hid st21_; clear st21_
    have st30_ : ∀ (B1 B2 B3 : Nat) (w : World), Ext W0 w → w.cell? ⟨B1, 0, none⟩ = some (.int .i64 regs) → w.cell? ⟨B2, 0, none⟩ = some (.int .i64 len) → w.cell? ⟨B3, 0, none⟩ = some (.int .i64 n) → R 9 #[false, true, true, true, true, false, true, true, true, true, true, false, true, true, true, false, false, true, false, false, false, false] (fA (.agg #[.string p0, .int .i64 regs, .slice s len cap]) (.agg #[.int .u8 i0, .int .i64 i1, .int .i64 i2, .int .i64 i3, .int .i64 i4, .string i5]) (.slice s len cap) n regs len w0.heap.size (w0.heap.size + 1) undef (fB B1) (fB B2) (fB B3) undef undef undef) w := by
      intro B1 B2 B3 w hS h1 h2 h3
      refine toR.out _ _ _ _ ?_
      refine wpAnyH_ready (rs := [0, 18]) (by kernel_rfl) (by simp) ?_
      refine AllReadyH.cons rfl (fun K hK => ?_) ?_
      · rw [if_pos (by kernel_rfl)]
        have hmk : (Instr.makeMap 78 none).run Try.prog w = .ok (.map (some w.heap.size)) (w.alloc (.map #[] 0)) := rfl
        go_simp
        refine hK.out _ _ (ext_alloc hS _) (fun _ => ?_)
        exact ofR.out _ _ _ _ (st31.out w.heap.size B1 B2 B3 _ (ext_alloc hS _) (map_new W0 w hS) (cell_keep (ext_alloc (ext_refl w) _) h1) (cell_keep (ext_alloc (ext_refl w) _) h2) (cell_keep (ext_alloc (ext_refl w) _) h3))
      refine AllReadyH.cons rfl (fun K hK => ?_) ?_
      · rw [if_pos (by kernel_rfl)]
        go_simp
        go_wp2_with (go_at_call 35; refine (below_calls _ _).mono ?_; rintro e w1 ⟨rfl, rfl⟩)
        refine hK.out _ _ (ext_alloc hS _) (fun _ => ?_)
        exact ofR.out _ _ _ _ (st40.out B1 B2 B3 w.heap.size _ (ext_alloc hS _) (cell_keep (ext_alloc (ext_refl w) _) h1) (cell_keep (ext_alloc (ext_refl w) _) h2) (cell_keep (ext_alloc (ext_refl w) _) h3) (cell_alloc_new _ _ _ 0))
      exact AllReadyH.nil
    have st30 := Lib.hid st30_; clear st30_
    have st014_ : ∀ (M : Nat) (w : World), Ext W0 w → MapAt W0 w M none none none (some fAny) none → R 10 #[true, true, true, true, false, false, true, true, true, true, false, false, true, true, false, false, true, true, false, false, false, false] (fA (.agg #[.string p0, .int .i64 regs, .slice s len cap]) (.agg #[.int .u8 i0, .int .i64 i1, .int .i64 i2, .int .i64 i3, .int .i64 i4, .string i5]) (.slice s len cap) n regs len w0.heap.size (w0.heap.size + 1) (.map (some M)) undef undef undef undef undef undef) w := by
      intro M w hS hM
      refine toR.out _ _ _ _ ?_
      refine wpAnyH_ready (rs := [4]) (by kernel_rfl) (by simp) ?_
      refine AllReadyH.cons rfl (fun K hK => ?_) ?_
      · rw [if_pos (by kernel_rfl)]
        go_simp
        go_wp2_with (go_at_call 35; refine (below_calls _ _).mono ?_; rintro e w1 ⟨rfl, rfl⟩)
        refine hK.out _ _ (ext_alloc hS _) (fun _ => ?_)
        exact ofR.out _ _ _ _ (st114.out M  w.heap.size _ (ext_alloc hS _) (map_keep hM (ext_alloc (ext_refl w) _))  (cell_alloc_new _ _ _ 0))
      exact AllReadyH.nil
    have st014 := Lib.hid st014_; clear st014_
    have st11_ : ∀ (M B1 : Nat) (w : World), Ext W0 w → MapAt W0 w M none none none none none → w.cell? ⟨B1, 0, none⟩ = some (.int .i64 regs) → R 10 #[true, true, true, true, true, false, true, true, true, true, false, false, true, true, false, false, false, true, false, false, false, false] (fA (.agg #[.string p0, .int .i64 regs, .slice s len cap]) (.agg #[.int .u8 i0, .int .i64 i1, .int .i64 i2, .int .i64 i3, .int .i64 i4, .string i5]) (.slice s len cap) n regs len w0.heap.size (w0.heap.size + 1) (.map (some M)) (fB B1) undef undef undef undef undef) w := by
      intro M B1 w hS hM h1
      refine toR.out _ _ _ _ ?_
      refine wpAnyH_ready (rs := [5, 10, 16]) (by kernel_rfl) (by simp) ?_
      refine AllReadyH.cons rfl (fun K hK => ?_) ?_
      · rw [if_pos (by kernel_rfl)]
        obtain ⟨w', heq, hM', hS', hk'⟩ := map_put (P := Try.prog) Try.underlying78 Try.underlying5 114 (fB B1) hM hS rfl (put5_1 _ _ _ _ _)
        try simp only [fAny] at heq
        go_simp
        refine hK.out _ _ hS' (fun _ => ?_)
        exact ofR.out _ _ _ _ (st111.out M B1 w' hS' hM' (hk' _ _ _ h1))
      refine AllReadyH.cons rfl (fun K hK => ?_) ?_
      · rw [if_pos (by kernel_rfl)]
        go_simp
        go_wp2_with (go_at_call 35; refine (below_calls _ _).mono ?_; rintro e w1 ⟨rfl, rfl⟩)
        refine hK.out _ _ (ext_alloc hS _) (fun _ => ?_)
        exact ofR.out _ _ _ _ (st21.out M B1 w.heap.size _ (ext_alloc hS _) (map_keep hM (ext_alloc (ext_refl w) _)) (cell_keep (ext_alloc (ext_refl w) _) h1) (cell_alloc_new _ _ _ 0))
      refine AllReadyH.cons rfl (fun K hK => ?_) ?_
      · rw [if_pos (by kernel_rfl)]
        obtain ⟨w', heq, hM', hS', hk'⟩ := map_put (P := Try.prog) Try.underlying78 Try.underlying5 110 fAny hM hS rfl (put5_4 _ _ _ _ _)
        try simp only [fAny] at heq
        go_simp
        refine hK.out _ _ hS' (fun _ => ?_)
        exact ofR.out _ _ _ _ (st114.out M B1 w' hS' hM' (hk' _ _ _ h1))
      exact AllReadyH.nil
    have st11 := Lib.hid st11_; clear st11_
    have st20_ : ∀ (B1 B2 : Nat) (w : World), Ext W0 w → w.cell? ⟨B1, 0, none⟩ = some (.int .i64 regs) → w.cell? ⟨B2, 0, none⟩ = some (.int .i64 len) → R 10 #[false, true, true, true, true, false, true, true, true, true, true, false, true, true, false, false, false, true, false, false, false, false] (fA (.agg #[.string p0, .int .i64 regs, .slice s len cap]) (.agg #[.int .u8 i0, .int .i64 i1, .int .i64 i2, .int .i64 i3, .int .i64 i4, .string i5]) (.slice s len cap) n regs len w0.heap.size (w0.heap.size + 1) undef (fB B1) (fB B2) undef undef undef undef) w := by
      intro B1 B2 w hS h1 h2
      refine toR.out _ _ _ _ ?_
      refine wpAnyH_ready (rs := [0, 14]) (by kernel_rfl) (by simp) ?_
      refine AllReadyH.cons rfl (fun K hK => ?_) ?_
      · rw [if_pos (by kernel_rfl)]
        have hmk : (Instr.makeMap 78 none).run Try.prog w = .ok (.map (some w.heap.size)) (w.alloc (.map #[] 0)) := rfl
        go_simp
        refine hK.out _ _ (ext_alloc hS _) (fun _ => ?_)
        exact ofR.out _ _ _ _ (st21.out w.heap.size B1 B2 _ (ext_alloc hS _) (map_new W0 w hS) (cell_keep (ext_alloc (ext_refl w) _) h1) (cell_keep (ext_alloc (ext_refl w) _) h2))
      refine AllReadyH.cons rfl (fun K hK => ?_) ?_
      · rw [if_pos (by kernel_rfl)]
        go_simp
        go_wp2_with (go_at_call 35; refine (below_calls _ _).mono ?_; rintro e w1 ⟨rfl, rfl⟩)
        refine hK.out _ _ (ext_alloc hS _) (fun _ => ?_)
        exact ofR.out _ _ _ _ (st30.out B1 B2 w.heap.size _ (ext_alloc hS _) (cell_keep (ext_alloc (ext_refl w) _) h1) (cell_keep (ext_alloc (ext_refl w) _) h2) (cell_alloc_new _ _ _ 0))
      exact AllReadyH.nil
    have st20 := Lib.hid st20_; clear st20_
    have st01_ : ∀ (M : Nat) (w : World), Ext W0 w → MapAt W0 w M none none none none none → R 11 #[true, true, true, true, false, false, true, true, true, true, false, false, true, true, false, false, false, true, false, false, false, false] (fA (.agg #[.string p0, .int .i64 regs, .slice s len cap]) (.agg #[.int .u8 i0, .int .i64 i1, .int .i64 i2, .int .i64 i3, .int .i64 i4, .string i5]) (.slice s len cap) n regs len w0.heap.size (w0.heap.size + 1) (.map (some M)) undef undef undef undef undef undef) w := by
      intro M w hS hM
      refine toR.out _ _ _ _ ?_
      refine wpAnyH_ready (rs := [4, 16]) (by kernel_rfl) (by simp) ?_
      refine AllReadyH.cons rfl (fun K hK => ?_) ?_
      · rw [if_pos (by kernel_rfl)]
        go_simp
        go_wp2_with (go_at_call 35; refine (below_calls _ _).mono ?_; rintro e w1 ⟨rfl, rfl⟩)
        refine hK.out _ _ (ext_alloc hS _) (fun _ => ?_)
        exact ofR.out _ _ _ _ (st11.out M  w.heap.size _ (ext_alloc hS _) (map_keep hM (ext_alloc (ext_refl w) _))  (cell_alloc_new _ _ _ 0))
      refine AllReadyH.cons rfl (fun K hK => ?_) ?_
      · rw [if_pos (by kernel_rfl)]
        obtain ⟨w', heq, hM', hS', hk'⟩ := map_put (P := Try.prog) Try.underlying78 Try.underlying5 110 fAny hM hS rfl (put5_4 _ _ _ _ _)
        try simp only [fAny] at heq
        go_simp
        refine hK.out _ _ hS' (fun _ => ?_)
        exact ofR.out _ _ _ _ (st014.out M w' hS' hM' )
      exact AllReadyH.nil
    have st01 := Lib.hid st01_; clear st01_
    have st10_ : ∀ (B1 : Nat) (w : World), Ext W0 w → w.cell? ⟨B1, 0, none⟩ = some (.int .i64 regs) → R 11 #[false, true, true, true, true, false, true, true, true, true, false, false, true, true, false, false, false, true, false, false, false, false] (fA (.agg #[.string p0, .int .i64 regs, .slice s len cap]) (.agg #[.int .u8 i0, .int .i64 i1, .int .i64 i2, .int .i64 i3, .int .i64 i4, .string i5]) (.slice s len cap) n regs len w0.heap.size (w0.heap.size + 1) undef (fB B1) undef undef undef undef undef) w := by
      intro B1 w hS h1
      refine toR.out _ _ _ _ ?_
      refine wpAnyH_ready (rs := [0, 10]) (by kernel_rfl) (by simp) ?_
      refine AllReadyH.cons rfl (fun K hK => ?_) ?_
      · rw [if_pos (by kernel_rfl)]
        have hmk : (Instr.makeMap 78 none).run Try.prog w = .ok (.map (some w.heap.size)) (w.alloc (.map #[] 0)) := rfl
        go_simp
        refine hK.out _ _ (ext_alloc hS _) (fun _ => ?_)
        exact ofR.out _ _ _ _ (st11.out w.heap.size B1 _ (ext_alloc hS _) (map_new W0 w hS) (cell_keep (ext_alloc (ext_refl w) _) h1))
      refine AllReadyH.cons rfl (fun K hK => ?_) ?_
      · rw [if_pos (by kernel_rfl)]
        go_simp
        go_wp2_with (go_at_call 35; refine (below_calls _ _).mono ?_; rintro e w1 ⟨rfl, rfl⟩)
        refine hK.out _ _ (ext_alloc hS _) (fun _ => ?_)
        exact ofR.out _ _ _ _ (st20.out B1 w.heap.size _ (ext_alloc hS _) (cell_keep (ext_alloc (ext_refl w) _) h1) (cell_alloc_new _ _ _ 0))
      exact AllReadyH.nil
    have st10 := Lib.hid st10_; clear st10_
    have st00_ : ∀ (w : World), Ext W0 w → R 12 #[false, true, true, true, false, false, true, true, true, true, false, false, true, true, false, false, false, true, false, false, false, false] (fA (.agg #[.string p0, .int .i64 regs, .slice s len cap]) (.agg #[.int .u8 i0, .int .i64 i1, .int .i64 i2, .int .i64 i3, .int .i64 i4, .string i5]) (.slice s len cap) n regs len w0.heap.size (w0.heap.size + 1) undef undef undef undef undef undef undef) w := by
      intro  w hS
      refine toR.out _ _ _ _ ?_
      refine wpAnyH_ready (rs := [0, 4]) (by kernel_rfl) (by simp) ?_
      refine AllReadyH.cons rfl (fun K hK => ?_) ?_
      · rw [if_pos (by kernel_rfl)]
        have hmk : (Instr.makeMap 78 none).run Try.prog w = .ok (.map (some w.heap.size)) (w.alloc (.map #[] 0)) := rfl
        go_simp
        refine hK.out _ _ (ext_alloc hS _) (fun _ => ?_)
        exact ofR.out _ _ _ _ (st01.out w.heap.size  _ (ext_alloc hS _) (map_new W0 w hS) )
      refine AllReadyH.cons rfl (fun K hK => ?_) ?_
      · rw [if_pos (by kernel_rfl)]
        go_simp
        go_wp2_with (go_at_call 35; refine (below_calls _ _).mono ?_; rintro e w1 ⟨rfl, rfl⟩)
        refine hK.out _ _ (ext_alloc hS _) (fun _ => ?_)
        exact ofR.out _ _ _ _ (st10.out  w.heap.size _ (ext_alloc hS _)  (cell_alloc_new _ _ _ 0))
      exact AllReadyH.nil
    have st00 := Lib.hid st00_; clear st00_
    exact st00.out _ (ext_drew (ext_refl _))
end Go.Proofs.Ytpfkpdimjljeaaa

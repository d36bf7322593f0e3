/- What limits' functions do: each timeout told to a closure, the first of them kept. -/
import Derived.Test.YtnfmgojloahfkaaS15
import Derived.Test.YtnfmgojloahfkaaC14
namespace Go.Proofs.Ytnfmgojloahfkaa
set_option linter.unusedVariables false
set_option linter.unusedSimpArgs false
open Go.RowKit

theorem chg_cell {S : Nat → Prop} {w w' : World} (h : Chg S w w') {b : Nat} (hb : b < w.heap.size) (hs : ¬ S b) (i : Nat) : w'.cell? ⟨b, i, none⟩ = w.cell? ⟨b, i, none⟩ := World.cell?_of_block (w := w) (h.block b hb hs)
theorem ext_heap {w w' : World} (h : Ext w w') {b : Nat} {o : Obj} (hb : w.heap[b]? = some o) : w'.heap[b]? = some o := (h.block b (lt_of_block hb)).trans hb
theorem chg_heap {S : Nat → Prop} {w w' : World} (h : Chg S w w') {b : Nat} {o : Obj} (hb : w.heap[b]? = some o) (hs : ¬ S b) : w'.heap[b]? = some o := (h.block b (lt_of_block hb) hs).trans hb
def Two (a b : Nat) : Nat → Prop := fun k => k = a ∨ k = b

theorem ends_calls (k : Int) (w : World) :
    Calls Try.prog 36 #[.int .i64 k] w fun e w' => e = .returned (.bool (decide (k = 3) || decide (k = 1))) ∧ w = w' := by
  go_enter Try.func36, Try.ntmps36
  go_wp2
  all_goals (go_ret; exact ⟨by first | rfl | (simp; done) | (simp; omega), rfl⟩)

theorem tell_calls (f d k n : Int) (bf bd : Nat) (hne : bf ≠ bd) (w : World) (hF : w.heap[bf]? = some (.cells #[.int .i64 f] 3 (0, 0))) (hD : w.heap[bd]? = some (.cells #[.int .i64 d] 2 (0, 0))) :
    Calls Try.prog 50 #[.int .i64 k, .int .i64 n, .pointer (some ⟨bf, 0, none⟩), .pointer (some ⟨bd, 0, none⟩)] w fun e w' => e = .returned (.tuple #[]) ∧
      (w'.heap[bf]? = some (.cells #[.int .i64 (if f = 0 ∨ n < d then k else f)] 3 (0, 0))) ∧ (w'.heap[bd]? = some (.cells #[.int .i64 (if f = 0 ∨ n < d then n else d)] 2 (0, 0))) ∧ Chg (Two bf bd) w w' := by
  have c1 := cell_of_one hF
  have c2 := cell_of_one hD
  have f1 := free_of_one hF
  have f2 := free_of_one hD
  by_cases h : f = 0 ∨ n < d
  · rw [if_pos h, if_pos h]
    have hb : (f == 0 || decide (n < d)) = true := by simpa using h
    have HF := Lib.hid hF; clear hF
    have HD := Lib.hid hD; clear hD
    go_enter Try.func50, Try.ntmps50
    go_wp2
    all_goals (go_end0; refine ⟨rfl, ?_, ?_, ?_⟩)
    all_goals first
      | (rw [Below.heap_setCell _ _ _ _ (by simpa using hne)]; exact one_setCell HF.out)
      | exact one_setCell (by rw [Below.heap_setCell _ _ _ _ (by simpa using hne.symm)]; exact HD.out)
      | exact ((Chg.refl _ _).setCell (.inr (.inl rfl)) _).setCell (.inr (.inr rfl)) _
      | trace_state
  · rw [if_neg h, if_neg h]
    have hb : (f == 0) = false := by simp; omega
    have hb' : ¬ n < d := by omega
    have HF := Lib.hid hF; clear hF
    have HD := Lib.hid hD; clear hD
    go_enter Try.func50, Try.ntmps50
    go_wp2
    all_goals (go_end0; exact ⟨rfl, HF.out, HD.out, Chg.refl _ _⟩)

/-- One timeout, told if it is there. -/
theorem one_calls (f d k fr inn : Int) (bt bf bd : Nat) (hne : bf ≠ bd) (hn1 : bt ≠ bf) (hn2 : bt ≠ bd) (w : World) (hT : w.heap[bt]? = some (.cells #[(.func (.func 50) #[] #[.pointer (some ⟨bf, 0, none⟩), .pointer (some ⟨bd, 0, none⟩)])] 67 (0, 0))) (hF : w.heap[bf]? = some (.cells #[.int .i64 f] 3 (0, 0))) (hD : w.heap[bd]? = some (.cells #[.int .i64 d] 2 (0, 0))) :
    Calls Try.prog 58 #[.int .i64 k, .int .i64 fr, .int .i64 inn, .pointer (some ⟨bt, 0, none⟩)] w fun e w' => e = .returned (.tuple #[]) ∧
      w'.heap[bf]? = some (.cells #[.int .i64 (stepF (f, d) k fr inn).1] 3 (0, 0)) ∧ w'.heap[bd]? = some (.cells #[.int .i64 (stepF (f, d) k fr inn).2] 2 (0, 0)) ∧ Chg (Two bf bd) w w' := by
  have c0 := cell_of_one hT
  have HF := Lib.hid hF
  have HD := Lib.hid hD
  clear hF hD hT
  by_cases h : 0 < inn ∧ 0 ≤ fr
  · obtain ⟨h1, h2⟩ := h
    have H1 : Hid ((stepF (f, d) k fr inn).1 = if f = 0 ∨ plusF fr inn < d then k else f) := by
      refine Lib.hid ?_; unfold stepF; by_cases g : f = 0 ∨ plusF fr inn < d
      · simp only [h1, h2, g, and_self, if_true]
      · simp only [g, and_false, if_false]
    have H2 : Hid ((stepF (f, d) k fr inn).2 = if f = 0 ∨ plusF fr inn < d then plusF fr inn else d) := by
      refine Lib.hid ?_; unfold stepF; by_cases g : f = 0 ∨ plusF fr inn < d
      · simp only [h1, h2, g, and_self, if_true]
      · simp only [g, and_false, if_false]
    go_enter Try.func58, Try.ntmps58
    go_wp2_with fail
    go_region_with (first | (go_at_call 23; refine (plus_calls _ _ _).mono ?_; rintro e w2 ⟨rfl, rfl⟩) | (go_at_call 50; refine (tell_calls f d _ _ bf bd hne _ (by exact HF.out) (by exact HD.out)).mono ?_; rintro e w1 ⟨rfl, hF, hD, hc⟩; replace hF := Lib.hid hF; replace hD := Lib.hid hD))
    all_goals (go_wp2; go_end0; exact ⟨rfl, by rw [H1.out]; exact hF.out, by rw [H2.out]; exact hD.out, (Chg.drew (Chg.refl _ _)).trans hc⟩)
  · have H1 : Hid (stepF (f, d) k fr inn = (f, d)) := by refine Lib.hid ?_; unfold stepF; simp only [h, false_and, if_false]
    have h' : inn ≤ 0 ∨ (0 < inn ∧ fr < 0) := by omega
    clear h
    rcases h' with h | ⟨h, h'⟩
    all_goals
      go_enter Try.func58, Try.ntmps58
      go_wp2
      go_end0
      rw [H1.out]
      exact ⟨rfl, HF.out, HD.out, Chg.refl _ _⟩

theorem heap_two_first (w : World) (a b : Obj) : ((w.alloc a).alloc b).heap[w.heap.size]? = some a := (ext_alloc (ext_refl _) _ |>.block _ (by simp)).trans (heap_alloc_new _ _)
theorem heap_two_new (w : World) (a b : Obj) : ((w.alloc a).alloc b).heap[w.heap.size + 1]? = some b := by
  have := heap_alloc_new (w.alloc a) b; simpa using this
/-- Three boxes, in every world that changes none of them. -/
theorem box3 (w : World) (cs : Array Value) (t : TypeId) (ds : Array Value) (u : TypeId) (es : Array Value) (v : TypeId) (S : Nat → Prop) (hS : ∀ i, S i → i < w.heap.size) :
    ∃ W0, W0 = ((w.alloc (.cells cs t)).alloc (.cells ds u)).alloc (.cells es v) ∧ Ext w W0 ∧ W0.heap[w.heap.size + 2]? = some (.cells es v (0, 0)) ∧
      (∀ w', Chg S W0 w' → ∀ i, w'.cell? ⟨w.heap.size, i, none⟩ = cs[i]?) ∧ ∀ w', Chg S W0 w' → ∀ i, w'.cell? ⟨w.heap.size + 1, i, none⟩ = ds[i]? := by
  refine ⟨_, rfl, ext_alloc (ext_alloc (ext_alloc (ext_refl _) _) _) _, ?_, fun w' h i => ?_, fun w' h i => ?_⟩
  · have := heap_alloc_new ((w.alloc (.cells cs t)).alloc (.cells ds u)) (.cells es v (0, 0))
    have e : ((w.alloc (.cells cs t)).alloc (.cells ds u)).heap.size = w.heap.size + 2 := by simp
    rw [e] at this; exact this
  · rw [chg_cell h (by simp; omega) (fun hs => by have := hS _ hs; omega)]
    rw [(ext_alloc (ext_refl ((w.alloc (.cells cs t)).alloc (.cells ds u))) _).cell (p := ⟨w.heap.size, i, none⟩) (by simp; omega)]
    rw [(ext_alloc (ext_refl (w.alloc (.cells cs t))) _).cell (p := ⟨w.heap.size, i, none⟩) (by simp)]; exact cell_alloc_new _ _ _ _
  · rw [chg_cell h (by simp) (fun hs => by have := hS _ hs; omega)]
    rw [(ext_alloc (ext_refl ((w.alloc (.cells cs t)).alloc (.cells ds u))) _).cell (p := ⟨w.heap.size + 1, i, none⟩) (by simp)]
    simp

set_option maxHeartbeats 1000000 in
/-- All timeouts told: the first of them is kept. -/
theorem each_calls (f d : Int) (p0 p1 p2 p3 p4 p5 p6 p7 t0 t1 t2 t3 : Int) (bf bd : Nat) (hne : bf ≠ bd) (w : World) (hF : w.heap[bf]? = some (.cells #[.int .i64 f] 3 (0, 0))) (hD : w.heap[bd]? = some (.cells #[.int .i64 d] 2 (0, 0))) :
    Calls Try.prog 49 #[.agg #[.int .i64 p0, .int .i64 p1, .int .i64 p2, .int .i64 p3, .int .i64 p4, .int .i64 p5, .int .i64 p6, .int .i64 p7], .agg #[.int .i64 t0, .int .i64 t1, .int .i64 t2, .int .i64 t3], (.func (.func 50) #[] #[.pointer (some ⟨bf, 0, none⟩), .pointer (some ⟨bd, 0, none⟩)])] w fun e w' => e = .returned (.tuple #[]) ∧
      w'.heap[bf]? = some (.cells #[.int .i64 (stepF (stepF (stepF (stepF (f, d) 3 t0 p5) 1 t1 p3) 2 t2 p4) 4 t3 p6).1] 3 (0, 0)) ∧ w'.heap[bd]? = some (.cells #[.int .i64 (stepF (stepF (stepF (stepF (f, d) 3 t0 p5) 1 t1 p3) 2 t2 p4) 4 t3 p6).2] 2 (0, 0)) ∧ Chg (Two bf bd) w w' := by
  have lf := lt_of_block hF
  have ld := lt_of_block hD
  have HF := Lib.hid hF
  have HD := Lib.hid hD
  clear hF hD
  go_enter Try.func49, Try.ntmps49
  go_wp2_with fail
  obtain ⟨W0, hW, hxw, hT, hall, hal2⟩ := box3 w #[.int .i64 p0, .int .i64 p1, .int .i64 p2, .int .i64 p3, .int .i64 p4, .int .i64 p5, .int .i64 p6, .int .i64 p7] 23 #[.int .i64 t0, .int .i64 t1, .int .i64 t2, .int .i64 t3] 43 #[(.func (.func 50) #[] #[.pointer (some ⟨bf, 0, none⟩), .pointer (some ⟨bd, 0, none⟩)])] 67 (Two bf bd) (by rintro i (rfl | rfl) <;> assumption)
  rw [← hW]; clear hW
  have hx := Chg.refl (Two bf bd) W0
  have HT := Lib.hid hT; clear hT
  replace HF := Lib.hid (ext_heap hxw HF.out)
  replace HD := Lib.hid (ext_heap hxw HD.out)
  have hnt : ¬ Two bf bd (w.heap.size + 2) := by rintro (h | h) <;> omega
  go_wp2_with (go_at_call 58; refine (one_calls _ _ _ _ _ _ _ _ hne (by omega) (by omega) _ (by exact HT.out) (by exact HF.out) (by exact HD.out)).mono ?_; rintro e w1 ⟨rfl, hF, hD, hc⟩; replace HF := Lib.hid hF; replace HD := Lib.hid hD; replace HT := Lib.hid (chg_heap hc HT.out hnt); replace hx := hx.trans hc; clear hF hD hc)
  go_end0
  exact ⟨rfl, HF.out, HD.out, (Chg.ofExt hxw).trans hx⟩

set_option maxHeartbeats 1000000 in
/-- The first timeout. -/
theorem due_calls (p0 p1 p2 p3 p4 p5 p6 p7 t0 t1 t2 t3 : Int) (w : World) :
    Calls Try.prog 35 #[.agg #[.int .i64 p0, .int .i64 p1, .int .i64 p2, .int .i64 p3, .int .i64 p4, .int .i64 p5, .int .i64 p6, .int .i64 p7], .agg #[.int .i64 t0, .int .i64 t1, .int .i64 t2, .int .i64 t3]] w fun e w' => e = .returned (.tuple #[.int .i64 (dueAt ⟨p0, p1, p2, p3, p4, p5, p6, p7⟩ ⟨t0, t1, t2, t3⟩), .int .i64 (dueWhich ⟨p0, p1, p2, p3, p4, p5, p6, p7⟩ ⟨t0, t1, t2, t3⟩), .bool (dueOk ⟨p0, p1, p2, p3, p4, p5, p6, p7⟩ ⟨t0, t1, t2, t3⟩)]) ∧ Ext w w' := by
  by_cases hr : rightB ⟨p0, p1, p2, p3, p4, p5, p6, p7⟩ = true
  · have H1 := Lib.hid (show dueAt ⟨p0, p1, p2, p3, p4, p5, p6, p7⟩ ⟨t0, t1, t2, t3⟩ = (dueS ⟨p0, p1, p2, p3, p4, p5, p6, p7⟩ ⟨t0, t1, t2, t3⟩).2 from by unfold dueAt; rw [if_pos hr])
    have H2 := Lib.hid (show dueWhich ⟨p0, p1, p2, p3, p4, p5, p6, p7⟩ ⟨t0, t1, t2, t3⟩ = (dueS ⟨p0, p1, p2, p3, p4, p5, p6, p7⟩ ⟨t0, t1, t2, t3⟩).1 from by unfold dueWhich; rw [if_pos hr])
    have H3 := Lib.hid (show dueOk ⟨p0, p1, p2, p3, p4, p5, p6, p7⟩ ⟨t0, t1, t2, t3⟩ = decide (0 < (dueS ⟨p0, p1, p2, p3, p4, p5, p6, p7⟩ ⟨t0, t1, t2, t3⟩).1) from by unfold dueOk; rw [H2.out])
    go_enter Try.func35, Try.ntmps35
    go_wp2_with fail
    obtain ⟨W0, hW, hxw, hall, hal2⟩ := box2 w #[.int .i64 p0, .int .i64 p1, .int .i64 p2, .int .i64 p3, .int .i64 p4, .int .i64 p5, .int .i64 p6, .int .i64 p7] 23 #[.int .i64 t0, .int .i64 t1, .int .i64 t2, .int .i64 t3] 43
    rw [← hW]; clear hW
    have hx := ext_refl W0
    go_wp2_with (first | (go_at_call 8; refine (right_calls _ _ _ _ _ _ _ _ _).mono ?_; rintro e w1 ⟨rfl, hb⟩; replace hx := ext_trans hx hb; clear hb) | (go_at_call 49; refine (each_calls 0 0 _ _ _ _ _ _ _ _ _ _ _ _ _ _ (by omega) _ (by exact heap_two_first _ _ _) (by exact heap_two_new _ _ _)).mono ?_; rintro e w2 ⟨rfl, hF, hD, hc⟩; have c1 := cell_of_one hF; have c2 := cell_of_one hD; clear hF hD))
    go_quiet (fail)
    go_wp2
    go_ret3
    rw [H1.out, H2.out, H3.out]
    exact ⟨rfl, ext_drewN (ext_chg (ext_trans hxw (ext_alloc (ext_alloc hx _) _)) hc (by have := (ext_trans hxw hx).size; rintro i (rfl | rfl) <;> omega)) _⟩
  · replace hr : rightB ⟨p0, p1, p2, p3, p4, p5, p6, p7⟩ = false := by simpa using hr
    have H1 := Lib.hid (show dueAt ⟨p0, p1, p2, p3, p4, p5, p6, p7⟩ ⟨t0, t1, t2, t3⟩ = 0 from by unfold dueAt; simp [hr])
    have H2 := Lib.hid (show dueWhich ⟨p0, p1, p2, p3, p4, p5, p6, p7⟩ ⟨t0, t1, t2, t3⟩ = 0 from by unfold dueWhich; simp [hr])
    have H3 := Lib.hid (show dueOk ⟨p0, p1, p2, p3, p4, p5, p6, p7⟩ ⟨t0, t1, t2, t3⟩ = false from by unfold dueOk; rw [H2.out]; rfl)
    go_enter Try.func35, Try.ntmps35
    go_wp2_with fail
    obtain ⟨W0, hW, hxw, hall, hal2⟩ := box2 w #[.int .i64 p0, .int .i64 p1, .int .i64 p2, .int .i64 p3, .int .i64 p4, .int .i64 p5, .int .i64 p6, .int .i64 p7] 23 #[.int .i64 t0, .int .i64 t1, .int .i64 t2, .int .i64 t3] 43
    rw [← hW]; clear hW
    have hx := ext_refl W0
    go_wp2_with (go_at_call 8; refine (right_calls _ _ _ _ _ _ _ _ _).mono ?_; rintro e w1 ⟨rfl, hb⟩; replace hx := ext_trans hx hb; clear hb)
    go_ret3
    exact ⟨by rw [H1.out, H2.out, H3.out]; rfl, ext_trans hxw hx⟩
end Go.Proofs.Ytnfmgojloahfkaa

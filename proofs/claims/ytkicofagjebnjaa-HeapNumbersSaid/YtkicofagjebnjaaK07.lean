/- Which timer is ahead, for the sort. -/
import Derived.Test.YtkicofagjebnjaaN07
import Derived.Shelf.SlSortCmp.NoneTotal
import Derived.Shelf.Lay
import Derived.Ground.SlsfProg
namespace Go.Proofs.Ytkicofagjebnjaa
open Go.RowKit
set_option linter.unusedVariables false
set_option linter.unusedSimpArgs false

def GrF (w w' : World) : Prop := ∃ q os, w' = Go.Sort.grow (w.drewN q) os
theorem gr_refl (w : World) : GrF w w := ⟨0, #[], by simp [World.drewN]⟩
theorem gr_drewN {a b : World} (h : GrF a b) (n : Nat) : GrF a (b.drewN n) := by
  obtain ⟨q, os, rfl⟩ := h
  exact ⟨q + n, os, by simp [World.drewN, Go.Sort.grow, Nat.add_assoc]⟩
theorem gr_drew {a b : World} (h : GrF a b) : GrF a b.drew := gr_drewN h 1
theorem gr_alloc {a b : World} (h : GrF a b) (o : Obj) : GrF a (b.alloc o) := by
  obtain ⟨q, os, rfl⟩ := h
  exact ⟨q, os ++ #[o], by rw [Go.Sort.alloc_eq_grow, Go.Sort.grow_grow]⟩
theorem gr_trans {a b c : World} (h : GrF a b) (k : GrF b c) : GrF a c := by
  obtain ⟨q, os, rfl⟩ := h
  obtain ⟨q2, os2, rfl⟩ := k
  exact ⟨q + q2, os ++ os2, by simp [World.drewN, Go.Sort.grow, Nat.add_assoc]⟩
theorem gr_ext {a b : World} (h : GrF a b) : Ext a b := by
  obtain ⟨q, os, rfl⟩ := h
  refine ⟨rfl, rfl, rfl, by simp [Go.Sort.grow, World.drewN], fun k hk => ?_⟩
  simp only [Go.Sort.grow, World.drewN]
  exact Array.getElem?_append_left hk
theorem gr_box {W : World} {b : Nat} {cs : Array Value} (l : b < W.heap.size) (k : ∀ i, W.cell? ⟨b, i, none⟩ = cs[i]?) : ∀ w', GrF W w' → ∀ i, w'.cell? ⟨b, i, none⟩ = cs[i]? := fun w' h i => by rw [(gr_ext h).cell (p := ⟨b, i, none⟩) l]; exact k i
set_option maxRecDepth 100000 in
set_option maxHeartbeats 4000000 in
theorem orderG_calls (a b : Tmr) (w : World) : Calls Try.prog 38 #[.agg #[.int .i64 a.due, .int .i64 a.id], .agg #[.int .i64 b.due, .int .i64 b.id]] w fun e w' => e = .returned (.int .i64 (ordI a b)) ∧ GrF w w' := by
  have HO := Lib.hid (or_ord a b)
  go_enter Try.func38, Try.ntmps38
  go_upto_region 1 with fail
  refine wp_at ?_
  intro W1 hW
  have X1 : GrF w W1 := by rw [hW]; repeat (first | exact gr_refl _ | assumption | refine gr_drew ?_ | refine gr_drewN ?_ _ | refine gr_alloc ?_ _)
  have ba := at_new (by rw [hW]; repeat (first | exact ext_refl _ | assumption | refine ext_more' ?_ _ _ | refine ext_drew ?_ | refine ext_drewN ?_ _ | refine ext_alloc ?_ _) : Ext (World.alloc w (.cells _ _)) W1)
  have bb := at_new (by rw [hW]; repeat (first | exact ext_refl _ | assumption | refine ext_more' ?_ _ _ | refine ext_drew ?_ | refine ext_drewN ?_ _ | refine ext_alloc ?_ _) : Ext ((World.alloc w (.cells _ _)).alloc (.cells _ _)) W1)
  simp only [sz_alloc] at bb
  clear hW
  have HX := Lib.hid X1
  have ka := gr_box (at_lt ba (by simp)) ba.1
  have kb := gr_box (at_lt bb (by simp)) bb.1
  clear ba bb X1
  go_region_held3 (fun w' => GrF W1 w') (repeat (first | exact gr_refl _ | assumption | refine gr_drew ?_ | refine gr_drewN ?_ _ | refine gr_alloc ?_ _)) (first
    | (go_at_call 44; refine (cmp_int64 _ _ _).mono ?_; rintro e w' ⟨rfl, rfl⟩)
    | (go_at_call 45; refine (cmp_int _ _ _).mono ?_; rintro e w' ⟨rfl, rfl⟩)
    | (go_at_call 43; refine (or_calls (cmpI a.due b.due) (cmpI a.id b.id) _ _ ?lq1 ?lq2 ?lq3).mono ?_; (case lq1 => go_simp); (case lq2 => go_simp); (case lq3 => go_simp); rintro e w' ⟨rfl, rfl⟩; rw [HO.out]))
  all_goals
    refine then_at ?_
    intro W2 hW
    have x2 : GrF W1 W2 := by rw [hW]; repeat (first | exact gr_refl _ | assumption | refine gr_drew ?_ | refine gr_drewN ?_ _ | refine gr_alloc ?_ _)
    clear hW ka kb
    have HX2 := Lib.hid (gr_trans HX.out x2)
    go_wp2
    go_ret
    exact ⟨rfl, HX2.out⟩
end Go.Proofs.Ytkicofagjebnjaa

/- Heaps, plain: the timers in order; where each Id stands. -/
import Derived.Test.YtkicofagjebnjaaS07
import Derived.Test.YtkicofagjebnjaaWk
namespace Go.Proofs.Ytkicofagjebnjaa
set_option linter.unusedVariables false
set_option linter.unusedSimpArgs false
/-- In order. -/
def Srt (S : List Tmr) : Prop := S.Pairwise Ahd
theorem Srt.nil : Srt [] := List.Pairwise.nil
theorem Srt.tail {x : Tmr} {S : List Tmr} (h : Srt (x :: S)) : Srt S := (List.pairwise_cons.1 h).2
theorem Srt.head {x : Tmr} {S : List Tmr} (h : Srt (x :: S)) : ∀ y ∈ S, Ahd x y := (List.pairwise_cons.1 h).1
theorem srt_ext : ∀ {S T : List Tmr}, Srt S → Srt T → S.Perm T → S = T
  | [], T, _, _, p => by rw [List.Perm.nil_eq p]
  | x :: S, [], _, _, p => absurd p.length_eq (by simp)
  | x :: S, y :: T, hs, ht, p => by
    have hxy : x = y := by
      have h1 : x ∈ y :: T := p.subset List.mem_cons_self
      have h2 : y ∈ x :: S := p.symm.subset List.mem_cons_self
      rcases List.mem_cons.1 h1 with e | e
      · exact e
      · rcases List.mem_cons.1 h2 with e2 | e2
        · exact e2.symm
        · exact absurd (ht.head x e) (fun k => (hs.head y e2).asymm k)
    subst hxy
    rw [srt_ext hs.tail ht.tail ((List.perm_cons _).1 p)]
/-- One more in its place. -/
def ins (t : Tmr) : List Tmr → List Tmr
  | [] => [t]
  | x :: S => if ahd t x = true then t :: x :: S else x :: ins t S
theorem ins_perm (t : Tmr) : ∀ S, (ins t S).Perm (t :: S)
  | [] => List.Perm.refl _
  | x :: S => by
    unfold ins
    split
    · exact List.Perm.refl _
    · exact (List.Perm.cons x (ins_perm t S)).trans (List.Perm.swap _ _ _)
theorem ins_length (t : Tmr) (S : List Tmr) : (ins t S).length = S.length + 1 := by
  have := (ins_perm t S).length_eq; simpa using this
theorem ins_srt {t : Tmr} : ∀ {S : List Tmr}, Srt S → (∀ x ∈ S, x.id ≠ t.id) → Srt (ins t S)
  | [], _, _ => List.pairwise_singleton _ _
  | x :: S, h, hn => by
    unfold ins
    split
    · rename_i h1
      rw [ahd_iff] at h1
      refine List.pairwise_cons.2 ⟨fun y hy => ?_, h⟩
      rcases List.mem_cons.1 hy with rfl | hy
      · exact h1
      · exact h1.trans (h.head y hy)
    · rename_i h1
      rw [ahd_iff] at h1
      have hxt : Ahd x t := Ahd.of_not h1 (Ne.symm (hn x List.mem_cons_self))
      refine List.pairwise_cons.2 ⟨fun y hy => ?_, ins_srt h.tail (fun y hy => hn y (List.mem_cons_of_mem _ hy))⟩
      rcases List.mem_cons.1 ((ins_perm t S).subset hy) with rfl | hy
      · exact hxt
      · exact h.head y hy
/-- All but that of an Id. -/
def wo (i : Int) (S : List Tmr) : List Tmr := S.filter fun x => !decide (x.id = i)
theorem wo_srt {i : Int} {S : List Tmr} (h : Srt S) : Srt (wo i S) := List.Pairwise.sublist List.filter_sublist h
theorem wo_perm {i : Int} {S T : List Tmr} (h : S.Perm T) : (wo i S).Perm (wo i T) := h.filter _
theorem wo_none {i : Int} {S : List Tmr} (h : ∀ x ∈ S, x.id ≠ i) : wo i S = S := by
  unfold wo
  rw [List.filter_eq_self]
  intro x hx
  simpa using h x hx
theorem wo_cons_perm {t : Tmr} {S T : List Tmr} (hi : Ids S) (p : S.Perm (t :: T)) : (wo t.id S).Perm T := by
  have h1 := wo_perm (i := t.id) p
  have h2 : Ids (t :: T) := hi.perm p
  have h3 : wo t.id (t :: T) = T := by
    have h4 : ∀ x ∈ T, x.id ≠ t.id := by
      intro x hx e
      have := (List.nodup_cons.1 h2).1
      exact this (by show t.id ∈ _; rw [← e]; exact List.mem_map_of_mem (f := fun x : Tmr => x.id) hx)
    have h5 := wo_none h4
    unfold wo at h5 ⊢
    rw [List.filter_cons]
    simp only [decide_true, Bool.not_true, Bool.false_eq_true, if_false]
    exact h5
  rw [h3] at h1; exact h1
/-- That of an Id. -/
def fnd (i : Int) (S : List Tmr) : Option Tmr := S.find? fun x => decide (x.id = i)
theorem fnd_none {i : Int} {S : List Tmr} : fnd i S = none ↔ ∀ x ∈ S, x.id ≠ i := by
  unfold fnd; simp [List.find?_eq_none]
theorem fnd_mem {i : Int} {S : List Tmr} {t : Tmr} (h : fnd i S = some t) : t ∈ S ∧ t.id = i := by
  unfold fnd at h
  exact ⟨List.mem_of_find?_eq_some h, by simpa using List.find?_some h⟩
theorem ids_inj {S : List Tmr} (hi : Ids S) {x y : Tmr} (hx : x ∈ S) (hy : y ∈ S) (e : x.id = y.id) : x = y := by
  obtain ⟨i, h1, rfl⟩ := List.mem_iff_getElem.1 hx
  obtain ⟨j, h2, rfl⟩ := List.mem_iff_getElem.1 hy
  by_cases h : i = j
  · subst h; rfl
  · exfalso
    refine hi.ne h1 h2 h ?_
    rw [at_eq h1, at_eq h2]; exact e
theorem fnd_some {i : Int} {S : List Tmr} (hi : Ids S) {t : Tmr} (ht : t ∈ S) (e : t.id = i) : fnd i S = some t := by
  cases h : fnd i S with
  | none => exact absurd e (fnd_none.1 h t ht)
  | some u =>
    obtain ⟨h1, h2⟩ := fnd_mem h
    rw [ids_inj hi h1 ht (by rw [h2, e])]
theorem fnd_perm {i : Int} {S T : List Tmr} (hi : Ids S) (p : S.Perm T) : fnd i S = fnd i T := by
  cases h : fnd i S with
  | none =>
    symm; rw [fnd_none] at h ⊢
    exact fun x hx => h x (p.symm.subset hx)
  | some t =>
    obtain ⟨h1, h2⟩ := fnd_mem h
    exact (fnd_some (hi.perm p) (p.subset h1) h2).symm
theorem at_mem {l : List Tmr} {i : Nat} (h : i < l.length) : at_ l i ∈ l := by rw [at_eq h]; exact List.getElem_mem h
/-- The map tells where each Id stands. -/
def Fits (l : List Tmr) (M : List (Int × Value)) : Prop := (∀ i, i < l.length → mlook (at_ l i).id M = some (.int .i64 i)) ∧ ∀ d, (∀ i, i < l.length → (at_ l i).id ≠ d) → mlook d M = none
theorem fits_nil : Fits [] [] := ⟨fun i hi => by simp at hi, fun d _ => rfl⟩
theorem Fits.there {l : List Tmr} {M : List (Int × Value)} (h : Fits l M) {d : Int} : (∃ i, i < l.length ∧ (at_ l i).id = d ∧ mlook d M = some (.int .i64 i)) ∨ ((∀ i, i < l.length → (at_ l i).id ≠ d) ∧ mlook d M = none) := by
  by_cases hx : ∃ i, i < l.length ∧ (at_ l i).id = d
  · obtain ⟨i, h1, h2⟩ := hx
    exact .inl ⟨i, h1, h2, by rw [← h2]; exact h.1 i h1⟩
  · have hx' : ∀ i, i < l.length → (at_ l i).id ≠ d := fun i hi e => hx ⟨i, hi, e⟩
    exact .inr ⟨hx', h.2 d hx'⟩
theorem Fits.none {l : List Tmr} {M : List (Int × Value)} (h : Fits l M) {d : Int} : mlook d M = none ↔ fnd d l = none := by
  rw [fnd_none]
  constructor
  · intro hm x hx e
    obtain ⟨i, hi, rfl⟩ := List.mem_iff_getElem.1 hx
    have := h.1 i hi
    rw [at_eq hi, e, hm] at this
    cases this
  · intro hn
    exact h.2 d fun i hi => hn _ (at_mem hi)
/-- Two places changed about, and the map with them. -/
theorem fits_swp {l : List Tmr} {M : List (Int × Value)} (h : Fits l M) (hids : Ids l) {i k : Nat} (hi : i < l.length) (hk : k < l.length) :
    Fits (swp l i k) (mput (at_ l i).id (.int .i64 k) (mput (at_ l k).id (.int .i64 i) M)) := by
  refine ⟨fun j hj => ?_, fun d hd => ?_⟩
  · rw [swp_length] at hj
    rw [at_swp hi hk, mlook_put, mlook_put]
    by_cases e1 : j = k
    · rw [if_pos e1, if_pos rfl, e1]
    · rw [if_neg e1]
      by_cases e2 : j = i
      · rw [if_pos e2]
        by_cases e3 : i = k
        · rw [if_pos (by rw [e3])]; rw [e2, e3]
        · rw [if_neg (hids.ne hk hi (Ne.symm e3)), if_pos rfl, e2]
      · rw [if_neg e2, if_neg (hids.ne hj hi e2), if_neg (hids.ne hj hk e1)]
        exact h.1 j hj
  · rw [swp_length] at hd
    have h1 : d ≠ (at_ l i).id := by
      have := hd k hk
      rw [at_swp hi hk, if_pos rfl] at this
      exact Ne.symm this
    have h2 : d ≠ (at_ l k).id := by
      by_cases e : i = k
      · rw [← e]; exact h1
      · have := hd i hi
        rw [at_swp hi hk, if_neg e, if_pos rfl] at this
        exact Ne.symm this
    rw [mlook_put, if_neg h1, mlook_put, if_neg h2]
    refine h.2 d fun j hj e => ?_
    by_cases e1 : j = k
    · rw [e1] at e; exact h2 e.symm
    · by_cases e2 : j = i
      · rw [e2] at e; exact h1 e.symm
      · have := hd j hj
        rw [at_swp hi hk, if_neg e1, if_neg e2] at this
        exact this e
theorem at_app {l : List Tmr} {x : Tmr} {j : Nat} : at_ (l ++ [x]) j = if j < l.length then at_ l j else if j = l.length then x else default := by
  unfold at_
  simp only [List.getD_eq_getElem?_getD, List.getElem?_append]
  split
  · rfl
  · split
    · rename_i h; simp [h]
    · rename_i h1 h2
      have : j - l.length ≠ 0 := by omega
      simp [List.getElem?_singleton, this]
theorem fits_push {l : List Tmr} {M : List (Int × Value)} (h : Fits l M) {t : Tmr} (hn : ∀ i, i < l.length → (at_ l i).id ≠ t.id) : Fits (l ++ [t]) (mput t.id (.int .i64 l.length) M) := by
  refine ⟨fun j hj => ?_, fun d hd => ?_⟩
  · rw [at_app, mlook_put]
    by_cases e : j < l.length
    · rw [if_pos e, if_neg (hn j e)]; exact h.1 j e
    · have e2 : j = l.length := by simp at hj; omega
      rw [if_neg e, if_pos e2, if_pos rfl, e2]
  · have h1 : d ≠ t.id := by
      have := hd l.length (by simp)
      rw [at_app, if_neg (by omega), if_pos rfl] at this
      exact Ne.symm this
    rw [mlook_put, if_neg h1]
    refine h.2 d fun j hj => ?_
    have := hd j (by simp; omega)
    rw [at_app, if_pos hj] at this
    exact this
theorem ids_push {l : List Tmr} {t : Tmr} (h : Ids l) (hn : ∀ x ∈ l, x.id ≠ t.id) : Ids (l ++ [t]) := by
  unfold Ids at h ⊢
  rw [List.map_append, List.nodup_append]
  refine ⟨h, by simp, fun a ha b hb => ?_⟩
  simp only [List.map_cons, List.map_nil, List.mem_singleton] at hb
  obtain ⟨x, hx, rfl⟩ := List.mem_map.1 ha
  rw [hb]; exact hn x hx
/-- The one at i goes, and the map with it. -/
theorem fits_rep {l : List Tmr} {M : List (Int × Value)} (h : Fits l M) (hids : Ids l) (hk : Keys M) {i : Nat} (hi : i < l.length) :
    Fits (rep l i) (mdel (at_ l i).id (mput (at_ l (l.length - 1)).id (.int .i64 i) M)) := by
  have hl := rep_length hi
  have hk2 : Keys (mput (at_ l (l.length - 1)).id (.int .i64 i) M) := keys_put hk
  refine ⟨fun j hj => ?_, fun d hd => ?_⟩
  · rw [mlook_del _ hk2, at_rep hi (by omega), mlook_put]
    by_cases e : j = i
    · rw [if_pos e, if_neg (hids.ne (by omega) hi (by omega)), if_pos rfl, e]
    · rw [if_neg e, if_neg (hids.ne (by omega) hi e), if_neg (hids.ne (by omega) (by omega) (by omega))]
      exact h.1 j (by omega)
  · rw [mlook_del _ hk2, mlook_put]
    by_cases e : d = (at_ l i).id
    · rw [if_pos e]
    · rw [if_neg e]
      have h2 : d ≠ (at_ l (l.length - 1)).id := by
        by_cases e2 : i = l.length - 1
        · rw [← e2]; exact e
        · have := hd i (by omega)
          rw [at_rep hi (by omega), if_pos rfl] at this
          exact Ne.symm this
      rw [if_neg h2]
      refine h.2 d fun j hj e3 => ?_
      by_cases e4 : j = i
      · rw [e4] at e3; exact e e3.symm
      · by_cases e5 : j = l.length - 1
        · rw [e5] at e3; exact h2 e3.symm
        · have := hd j (by omega)
          rw [at_rep hi (by omega), if_neg e4] at this
          exact this e3
/-- The first of a heap is the first in order. -/
theorem hp_min {l S : List Tmr} (h : Hp l) (hp : l.Perm S) (hs : Srt S) (hl : 0 < l.length) : S.head? = some (at_ l 0) ∧ S = at_ l 0 :: S.tail := by
  cases S with
  | nil => have := hp.length_eq; simp at this; simp [this] at hl
  | cons x S =>
    have hx : x ∈ l := hp.symm.subset List.mem_cons_self
    obtain ⟨j, hj, e⟩ := List.mem_iff_getElem.1 hx
    have h0 : at_ l 0 = x := by
      rcases Nat.eq_zero_or_pos j with e0 | e0
      · subst e0; rw [at_eq hl]; exact e
      · have h1 := hp_first h j e0 hj
        rw [at_eq hj, e] at h1
        have h2 : at_ l 0 ∈ x :: S := hp.subset (at_mem hl)
        rcases List.mem_cons.1 h2 with h3 | h3
        · exact h3
        · exact absurd h1 (fun k => (hs.head _ h3).asymm k)
    rw [h0]; exact ⟨rfl, rfl⟩
theorem rep_wo {l S : List Tmr} (hp : l.Perm S) (hids : Ids l) {i : Nat} (hi : i < l.length) : (rep l i).Perm (wo (at_ l i).id S) :=
  (wo_cons_perm (hids.perm hp) (hp.symm.trans (rep_perm hi).symm)).symm
theorem wo_head {x : Tmr} {S : List Tmr} (hids : Ids (x :: S)) : wo x.id (x :: S) = S := by
  have h1 : ∀ y ∈ S, y.id ≠ x.id := fun y hy e => (List.nodup_cons.1 hids).1 (by show x.id ∈ _; rw [← e]; exact List.mem_map_of_mem (f := fun x : Tmr => x.id) hy)
  have h2 := wo_none h1
  unfold wo at h2 ⊢
  rw [List.filter_cons]
  simp only [decide_true, Bool.not_true, Bool.false_eq_true, if_false]
  exact h2
theorem ids_wo {i : Int} {S : List Tmr} (h : Ids S) : Ids (wo i S) := List.Nodup.sublist (List.filter_sublist.map _) h
theorem ids_ins {t : Tmr} {S : List Tmr} (h : Ids S) (hn : ∀ x ∈ S, x.id ≠ t.id) : Ids (ins t S) := by
  refine Ids.perm (l := t :: S) ?_ (ins_perm t S).symm
  unfold Ids
  rw [List.map_cons, List.nodup_cons]
  refine ⟨fun hm => ?_, h⟩
  obtain ⟨x, hx, e⟩ := List.mem_map.1 hm
  exact hn x hx e
end Go.Proofs.Ytkicofagjebnjaa

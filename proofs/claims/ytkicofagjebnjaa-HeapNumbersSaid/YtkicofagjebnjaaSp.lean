/- What a walk has in memory, apart from each other: each with the blocks that it lies in. -/
import Derived.Test.YtkicofagjebnjaaWk
import Derived.Test.YtkicofagjebnjaaWj
namespace Go.Proofs.Ytkicofagjebnjaa
set_option linter.unusedVariables false
set_option linter.unusedSimpArgs false
open Go.RowKit
/-- Something in memory: the blocks that it lies in, what is known of it; a change of other blocks leaves it. -/
structure Res where
  F : Nat → Prop
  R : World → Prop
  keep : ∀ (S : Nat → Prop) (w w' : World), R w → Chg S w w' → (∀ k, k < w.heap.size → F k → ¬ S k) → R w'
  low : ∀ w k, R w → F k → k < w.heap.size
/-- All of these, apart from each other. -/
def Has (w : World) (l : List Res) : Prop := (∀ r ∈ l, r.R w) ∧ l.Pairwise fun a b => ∀ k, a.F k → ¬ b.F k
theorem Has.at {w : World} {l : List Res} (h : Has w l) (i : Nat) {r : Res} (hi : l[i]? = some r) : r.R w := h.1 r (List.mem_of_getElem? hi)
theorem Has.apart {w : World} {l : List Res} (h : Has w l) {i j : Nat} {a b : Res} (hi : l[i]? = some a) (hj : l[j]? = some b) (hne : i ≠ j) : ∀ k, a.F k → ¬ b.F k := by
  obtain ⟨h1, e1⟩ := List.getElem?_eq_some_iff.1 hi
  obtain ⟨h2, e2⟩ := List.getElem?_eq_some_iff.1 hj
  subst e1
  subst e2
  have hp := List.pairwise_iff_getElem.1 h.2
  rcases Nat.lt_or_gt_of_ne hne with g | g
  · exact hp i j h1 h2 g
  · intro k ha hb; exact hp j i h2 h1 g k hb ha
theorem Has.ext {w w' : World} {l : List Res} (h : Has w l) (x : Ext w w') : Has w' l :=
  ⟨fun r hr => r.keep (fun _ => False) w w' (h.1 r hr) (Chg.ofExt x) (fun _ _ _ f => f), h.2⟩
theorem Has.nil (w : World) : Has w [] := ⟨(fun r hr => nomatch hr), List.Pairwise.nil⟩
/-- One more, in blocks of its own. -/
theorem Has.new {w w' : World} {l : List Res} (h : Has w l) (x : Ext w w') (r : Res) (hr : r.R w') (hF : ∀ k, r.F k → w.heap.size ≤ k) : Has w' (l ++ [r]) := by
  refine ⟨fun q hq => ?_, List.pairwise_append.2 ⟨h.2, List.pairwise_singleton _ _, fun a ha b hb k fa fb => ?_⟩⟩
  · rcases List.mem_append.1 hq with hq | hq
    · exact (h.ext x).1 q hq
    · rw [List.mem_singleton.1 hq]; exact hr
  · rw [List.mem_singleton.1 hb] at fb
    have h1 := a.low w k (h.1 a ha) fa
    have h2 := hF k fb
    omega
/-- One is changed, the others stay. -/
theorem Has.chg {w w' : World} {l : List Res} {S : Nat → Prop} (h : Has w l) (i : Nat) {r : Res} (hi : l[i]? = some r) (c : Chg S w w') (hS : ∀ k, k < w.heap.size → S k → r.F k) (r' : Res) (hr : r'.R w') (hF : ∀ k, r'.F k → r.F k ∨ w.heap.size ≤ k) : Has w' (l.set i r') := by
  have hlt : i < l.length := (List.getElem?_eq_some_iff.1 hi).1
  constructor
  · intro q hq
    obtain ⟨j, hj, rfl⟩ := List.mem_iff_getElem.1 hq
    rw [List.length_set] at hj
    rw [List.getElem_set]
    by_cases e : i = j
    · rw [if_pos e]; exact hr
    · rw [if_neg e]
      have hj2 : l[j]? = some l[j] := by simp [hj]
      exact (l[j]).keep S w w' (h.at j hj2) c (fun k hk f s => h.apart hi hj2 e k (hS k hk s) f)
  · rw [List.pairwise_iff_getElem]
    intro a b ha hb hab k
    rw [List.length_set] at ha hb
    rw [List.getElem_set, List.getElem_set]
    have ha2 : l[a]? = some l[a] := by simp [ha]
    have hb2 : l[b]? = some l[b] := by simp [hb]
    by_cases e1 : i = a
    · rw [if_pos e1, if_neg (by omega)]
      intro f g
      rcases hF k f with h1 | h1
      · exact h.apart hi hb2 (by omega) k h1 g
      · have := (l[b]).low w k (h.at b hb2) g; omega
    · rw [if_neg e1]
      by_cases e2 : i = b
      · rw [if_pos e2]
        intro f g
        rcases hF k g with h1 | h1
        · exact h.apart ha2 hi (by omega) k f h1
        · have := (l[a]).low w k (h.at a ha2) f; omega
      · rw [if_neg e2]
        exact h.apart ha2 hb2 (by omega) k
/-- One is let go. -/
theorem Has.del {w : World} {l : List Res} (h : Has w l) (i : Nat) : Has w (l.eraseIdx i) :=
  ⟨fun r hr => h.1 r (List.mem_of_mem_eraseIdx hr), List.Pairwise.sublist (List.eraseIdx_sublist _ _) h.2⟩
theorem Has.sub {w : World} {l m : List Res} (h : Has w l) (s : m.Sublist l) : Has w m := ⟨fun r hr => h.1 r (s.subset hr), h.2.sublist s⟩
theorem Has.perm {w : World} {l m : List Res} (h : Has w l) (s : l.Perm m) : Has w m :=
  ⟨fun r hr => h.1 r (s.symm.subset hr), (s.pairwise_iff (fun {a b} hab k f g => hab k g f)).1 h.2⟩
/-- One put for another of no more blocks, in the same memory. -/
theorem Has.put {w : World} {l : List Res} (h : Has w l) (i : Nat) {r : Res} (hi : l[i]? = some r) (r' : Res) (hr : r'.R w) (hF : ∀ k, r'.F k → r.F k) : Has w (l.set i r') :=
  h.chg (S := fun _ => False) i hi (Chg.refl _ _) (fun _ _ f => f.elim) r' hr (fun k f => .inl (hF k f))
/-- All memory that there was. -/
def oldR (w0 : World) : Res where
  F := fun k => k < w0.heap.size
  R := fun w => Ext w0 w
  keep := fun S w w' h c hn => ⟨c.os.trans h.os, c.tape.trans h.tape, c.output.trans h.output, Nat.le_trans h.size c.size, fun k hk => by
    rw [c.block k (Nat.lt_of_lt_of_le hk h.size) (hn k (Nat.lt_of_lt_of_le hk h.size) hk)]; exact h.block k hk⟩
  low := fun w k h f => Nat.lt_of_lt_of_le f h.size
theorem has_old (w : World) : Has w [oldR w] := ⟨fun r hr => by rw [List.mem_singleton.1 hr]; exact ext_refl w, List.pairwise_singleton _ _⟩
/-- A box that is written to. -/
def boxR (b : Nat) (cs : Array Value) (hs : 0 < cs.size) : Res where
  F := fun k => k = b
  R := fun w => At w b cs
  keep := fun S w w' h c hn => at_chg h hs c (hn b (at_lt h hs) rfl)
  low := fun w k h f => by rw [f]; exact at_lt h hs
/-- A map. -/
def mapR (b : Nat) (k : IntKind) (L : List (Int × Value)) : Res where
  F := fun q => q = b
  R := fun w => Mp w b k L
  keep := fun S w w' h c hn => h.chg c (hn b h.lt rfl)
  low := fun w q h f => by rw [f]; exact h.lt
/-- A row of one's own. -/
def rowR (T : TypeId) (sz : Nat) (v : Value) (n : Nat) (xs : List Value) : Res where
  F := fun k => v.ownBlock = some k
  R := fun w => w.ownsRow 0 T sz v n xs
  keep := fun S w w' h c hn => own_chgS h c (fun k e s => by
    refine hn k ?_ e s
    rcases h.2 with ⟨rfl, _⟩ | ⟨g, cap, cur, rfl, _, hg, _⟩
    · simp [Value.ownBlock] at e
    · simp only [Value.ownBlock, Option.some.injEq] at e
      subst e
      exact (Array.getElem?_eq_some_iff.1 hg).1)
  low := fun w k h e => by
    rcases h.2 with ⟨rfl, _⟩ | ⟨g, cap, cur, rfl, _, hg, _⟩
    · simp [Value.ownBlock] at e
    · simp only [Value.ownBlock, Option.some.injEq] at e
      subst e
      exact (Array.getElem?_eq_some_iff.1 hg).1
/-- A new box. -/
theorem Has.box {w w' W : World} {l : List Res} {cs : Array Value} {t : TypeId} (h : Has w l) (x : Ext w w') (hs : 0 < cs.size) (y : Ext (w'.alloc (.cells cs t)) W) : Has W (l ++ [boxR w'.heap.size cs hs]) :=
  h.new (ext_trans x (ext_trans (ext_alloc (ext_refl _) _) y)) (boxR w'.heap.size cs hs) (at_new y) (fun k (e : k = _) => by rw [e]; exact x.size)
/-- A new map. -/
theorem Has.mapNew {w w' W : World} {l : List Res} (k : IntKind) (h : Has w l) (x : Ext w w') (y : Ext (w'.alloc (.map #[] 0)) W) : Has W (l ++ [mapR w'.heap.size k []]) :=
  h.new (ext_trans x (ext_trans (ext_alloc (ext_refl _) _) y)) (mapR w'.heap.size k []) (mp_new y) (fun k (e : k = _) => by rw [e]; exact x.size)
/-- A box is written. -/
theorem Has.wrote {w w' : World} {l : List Res} {b : Nat} {cs : Array Value} {hs : 0 < cs.size} (h : Has w l) (i : Nat) (hi : l[i]? = some (boxR b cs hs)) {cs' : Array Value} (hs' : 0 < cs'.size) (ha : At w' b cs') (c : Chg (fun q => q = b) w w') : Has w' (l.set i (boxR b cs' hs')) :=
  h.chg i hi c (fun k _ e => e) _ ha (fun k e => .inl e)
/-- A map is written. -/
theorem Has.mapped {w w' : World} {l : List Res} {b : Nat} {k : IntKind} {L L' : List (Int × Value)} (h : Has w l) (i : Nat) (hi : l[i]? = some (mapR b k L)) (ha : Mp w' b k L') (c : Chg (fun q => q = b) w w') : Has w' (l.set i (mapR b k L')) :=
  h.chg i hi c (fun k _ e => e) _ ha (fun k e => .inl e)
/-- A row of one's own grows. -/
theorem Has.grown {w w' : World} {l : List Res} {T : TypeId} {sz n n' : Nat} {v v' : Value} {xs xs' : List Value} (h : Has w l) (i : Nat) (hi : l[i]? = some (rowR T sz v n xs)) (ho : w'.ownsRow 0 T sz v' n' xs') (hg : w.grownBy w' v.ownBlock) (hb : v'.ownBlock = v.ownBlock ∨ v'.ownBlock = some w.heap.size) : Has w' (l.set i (rowR T sz v' n' xs')) := by
  have c : Chg (fun q => v.ownBlock = some q) w w' := ⟨hg.os, hg.tape, hg.output, hg.size, fun k hk hn => hg.block k hk (fun e => hn e.symm)⟩
  refine h.chg i hi c (fun k _ e => e) _ ho (fun k (e : v'.ownBlock = some k) => ?_)
  rcases hb with hb | hb
  · exact .inl (show v.ownBlock = some k by rw [← hb]; exact e)
  · rw [hb] at e; injection e with e; exact .inr (by omega)
/-- A new row of one's own. -/
theorem Has.row {w w' : World} {l : List Res} {T : TypeId} {sz n : Nat} {v : Value} {xs : List Value} (h : Has w l) (x : Ext w w') (ho : w'.ownsRow w.heap.size T sz v n xs) : Has w' (l ++ [rowR T sz v n xs]) :=
  h.new x (rowR T sz v n xs) (own_low ho (Nat.zero_le _)) (fun k (e : v.ownBlock = some k) => by
    rcases ho.2 with ⟨rfl, _⟩ | ⟨g, cap, cur, rfl, hb, _⟩
    · simp [Value.ownBlock] at e
    · simp only [Value.ownBlock, Option.some.injEq] at e
      omega)
/-- A new block as a row of one's own. -/
theorem Has.rowNew {w w' W : World} {l : List Res} {cs : Array Value} {T : TypeId} {sz n : Nat} (h : Has w l) (x : Ext w w') (y : Ext (w'.alloc (.cells cs T)) W) (hc : cs.size = n * sz) (hn : n ≤ maxLen) : Has W (l ++ [rowR T sz (.slice (some ⟨w'.heap.size, 0, none⟩) n n) n cs.toList]) :=
  h.row (ext_trans x (ext_trans (ext_alloc (ext_refl _) _) y)) (own_new y hc x.size hn)
theorem Has.oldAt {w w0 : World} {l : List Res} (h : Has w l) (i : Nat) (hi : l[i]? = some (oldR w0)) : Ext w0 w := h.at i hi
theorem Has.boxAt {w : World} {l : List Res} {b : Nat} {cs : Array Value} {hs : 0 < cs.size} (h : Has w l) (i : Nat) (hi : l[i]? = some (boxR b cs hs)) : At w b cs := h.at i hi
theorem Has.mapAt {w : World} {l : List Res} {b : Nat} {k : IntKind} {L : List (Int × Value)} (h : Has w l) (i : Nat) (hi : l[i]? = some (mapR b k L)) : Mp w b k L := h.at i hi
theorem Has.rowAt {w : World} {l : List Res} {T : TypeId} {sz n : Nat} {v : Value} {xs : List Value} (h : Has w l) (i : Nat) (hi : l[i]? = some (rowR T sz v n xs)) : w.ownsRow 0 T sz v n xs := h.at i hi
theorem sz2 (a b : Value) : 0 < (#[a, b] : Array Value).size := by simp
theorem own_none (w : World) (T : TypeId) (sz : Nat) (base : Nat) : w.ownsRow base T sz (.slice none 0 0) 0 [] := ⟨by simp, .inl ⟨rfl, rfl⟩⟩
end Go.Proofs.Ytkicofagjebnjaa

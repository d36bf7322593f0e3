/- Words that the walks share: boxes that are written to; rows of one's own; what is read behind an address; append. -/
import Derived.Test.YtkicofagjebnjaaOp2
import Derived.Test.YtkicofagjebnjaaWg
import Derived.Deep.AppendLies
import Derived.Deep.RegionLaw
namespace Go.Proofs.Ytkicofagjebnjaa
open Go.RowKit
set_option linter.unusedVariables false
set_option linter.unusedSimpArgs false
/-- Block b holds these cells, none of them frozen. -/
def At (w : World) (b : Nat) (cs : Array Value) : Prop := (∀ i, w.cell? ⟨b, i, none⟩ = cs[i]?) ∧ ∀ i, w.frozen? ⟨b, i, none⟩ = false
theorem at_lt {w : World} {b : Nat} {cs : Array Value} (h : At w b cs) (hc : 0 < cs.size) : b < w.heap.size := by
  have := h.1 0
  rw [Array.getElem?_eq_getElem hc] at this
  exact World.block_lt_of_cell? w _ this
theorem at_ext {w w' : World} {b : Nat} {cs : Array Value} (h : At w b cs) (hc : 0 < cs.size) (hx : Ext w w') : At w' b cs :=
  ⟨fun i => (hx.cell (p := ⟨b, i, none⟩) (at_lt h hc)).trans (h.1 i), fun i => (hx.frozen (p := ⟨b, i, none⟩) (at_lt h hc)).trans (h.2 i)⟩
theorem at_set {w : World} {b j : Nat} {cs : Array Value} {v : Value} (h : At w b cs) (hj : j < cs.size) : At (w.setCell ⟨b, j, none⟩ v) b (cs.setIfInBounds j v) := by
  refine ⟨fun i => ?_, fun i => ?_⟩
  · rw [Array.getElem?_setIfInBounds]
    by_cases hij : j = i
    · subst hij
      rw [if_pos rfl, if_pos hj]
      exact World.cell?_setCell_same' _ _ _ (by rw [h.1 j, Array.getElem?_eq_getElem hj]; rfl)
    · rw [if_neg hij, ← h.1 i]
      exact World.cell?_setCell_other _ _ _ _ (by intro h2; injection h2 with _ h3; exact hij h3)
  · rw [World.frozen?_setCell]; exact h.2 i
theorem chg_set {w : World} {b j : Nat} {v : Value} : Chg (fun k => k = b) w (w.setCell ⟨b, j, none⟩ v) := Chg.setCell (S := fun k => k = b) (p := ⟨b, j, none⟩) (Chg.refl _ _) (.inr rfl) v
theorem at_drew {w : World} {b : Nat} {cs : Array Value} (h : At w b cs) : At w.drew b cs := h
/-- A store, the cells behind it said anew. -/
theorem at_put {w : World} {b j : Nat} {cs cs' : Array Value} {v : Value} (h : At w b cs) (hj : j < cs.size) (he : cs.setIfInBounds j v = cs') : At (w.setCell ⟨b, j, none⟩ v) b cs' := by
  rw [← he]; exact at_set h hj
theorem chg_more {b : Nat} {w w1 w2 : World} (h : Chg (fun k => k = b) w w1) (k : Chg (fun k => k = b) w1 w2) : Chg (fun k => k = b) w w2 := h.trans k
theorem chg_ext {b : Nat} {w w1 : World} (h : Ext w w1) : Chg (fun k => k = b) w w1 := Chg.ofExt h
theorem chg_put {b j : Nat} {w w1 : World} {v : Value} (h : Chg (fun k => k = b) w w1) : Chg (fun k => k = b) w (w1.setCell ⟨b, j, none⟩ v) := Chg.setCell (S := fun k => k = b) (p := ⟨b, j, none⟩) h (.inr rfl) v
theorem chg_keep {b bi : Nat} {w w1 : World} {cs : Array Value} (h : Chg (fun k => k = b) w w1) (hb : bi < w.heap.size) (hne : bi ≠ b) (hc : ∀ i, w.cell? ⟨bi, i, none⟩ = cs[i]?) : bi < w1.heap.size ∧ ∀ i, w1.cell? ⟨bi, i, none⟩ = cs[i]? :=
  ⟨Nat.lt_of_lt_of_le hb h.size, fun i => by rw [← hc i]; unfold World.cell?; dsimp only; rw [h.block bi hb hne]⟩
theorem chg_drew {b : Nat} {w w1 : World} (h : Chg (fun k => k = b) w w1) : Chg (fun k => k = b) w w1.drew := Chg.drew h
theorem rows_on2 {w W1 : World} {s : Option Addr} {len n : Nat} {f : Nat → List Value} (h : Rows_ w s len n f) (hx : Ext w W1) : Rows_ W1 s len n f := fun hl => by
  obtain ⟨b, o, hs, hb, hr⟩ := h hl
  exact ⟨b, o, hs, Nat.lt_of_lt_of_le hb hx.size, fun i hi => ⟨(hr i hi).1, fun k hk => by rw [hx.cell (p := ⟨b, o + (i * n + k), none⟩) hb]; exact (hr i hi).2 k hk⟩⟩
theorem at_new {X W : World} {cs : Array Value} {t : TypeId} (h : Ext (X.alloc (.cells cs t)) W) : At W X.heap.size cs := by
  obtain ⟨h1, h2⟩ := box_facts h
  refine ⟨h2, fun i => ?_⟩
  rw [h.frozen (p := ⟨X.heap.size, i, none⟩) (by simp)]; simp [go_sem]
theorem cells_other {w : World} {b b' j : Nat} {cs : Array Value} {v : Value} (h : ∀ i, w.cell? ⟨b, i, none⟩ = cs[i]?) (hne : b ≠ b') : ∀ i, (w.setCell ⟨b', j, none⟩ v).cell? ⟨b, i, none⟩ = cs[i]? := fun i => by
  rw [← h i]
  exact World.cell?_setCell_other _ _ _ _ (by intro h2; injection h2 with h3; exact hne h3.symm)
theorem at_other {w : World} {b b' j : Nat} {cs : Array Value} {v : Value} (h : At w b cs) (hne : b ≠ b') : At (w.setCell ⟨b', j, none⟩ v) b cs := by
  refine ⟨fun i => ?_, fun i => by rw [World.frozen?_setCell]; exact h.2 i⟩
  rw [← h.1 i]
  exact World.cell?_setCell_other _ _ _ _ (by intro h2; injection h2 with h3; exact hne h3.symm)
theorem rows_chg {w w' : World} {s : Option Addr} {len n bx : Nat} {f : Nat → List Value} (h : Rows_ w s len n f) (hx : Chg (fun k => k = bx) w w') (hne : 0 < len → ∀ b o, s = some ⟨b, o, none⟩ → b ≠ bx) : Rows_ w' s len n f := fun hl => by
  obtain ⟨b, o, hs, hb, hr⟩ := h hl
  have hb2 := hne hl b o hs
  exact ⟨b, o, hs, Nat.lt_of_lt_of_le hb hx.size, fun i hi => ⟨(hr i hi).1, fun k hk => by
    rw [← (hr i hi).2 k hk]; unfold World.cell?; dsimp only; rw [hx.block b hb hb2]⟩⟩
theorem at_block {w w' : World} {b : Nat} {cs : Array Value} (h : At w b cs) (hb : w'.heap[b]? = w.heap[b]?) : At w' b cs :=
  ⟨fun i => by rw [← h.1 i]; exact World.cell?_of_block hb, fun i => by rw [← h.2 i]; exact World.frozen?_of_block hb⟩
theorem own_chg {w w' : World} {base bx : Nat} {T : TypeId} {sz : Nat} {v : Value} {n : Nat} {xs : List Value} (h : w.ownsRow base T sz v n xs) (hx : Chg (fun k => k = bx) w w') (hne : v.ownBlock ≠ some bx) : w'.ownsRow base T sz v n xs := by
  refine ⟨h.1, ?_⟩
  rcases h.2 with hn | ⟨g, cap, cur, rfl, hb, hgg, rest⟩
  · exact .inl hn
  · refine .inr ⟨g, cap, cur, rfl, hb, ?_, rest⟩
    rw [hx.block g (Array.getElem?_eq_some_iff.1 hgg).1 (fun h2 => hne (by rw [← h2]; rfl))]
    exact hgg
theorem own_ext {w w' : World} {base : Nat} {T : TypeId} {sz : Nat} {v : Value} {n : Nat} {xs : List Value} (h : w.ownsRow base T sz v n xs) (hx : Ext w w') : w'.ownsRow base T sz v n xs :=
  own_chg (bx := w.heap.size) h (chg_ext hx) (fun h2 => Nat.lt_irrefl _ (h.lt _ h2).2)
theorem chg_grown {w w' : World} {base bx : Nat} {row : Option Nat} (h : w.grownBy w' row) (hr : ∀ k, row = some k → base ≤ k) : Chg (fun k => k = bx ∨ base ≤ k) w w' :=
  ⟨h.os, h.tape, h.output, h.size, fun k hk hs => h.block k hk (fun e => hs (.inr (hr k e.symm)))⟩
theorem chg_b {w w' : World} {base bx : Nat} (h : Chg (fun k => k = bx) w w') : Chg (fun k => k = bx ∨ base ≤ k) w w' := h.mono (fun k _ e => .inl e)
theorem chg_ext' {S : Nat → Prop} {w w1 : World} (h : Ext w w1) : Chg S w w1 := Chg.ofExt h
theorem news_at {X W : World} {cs : Array Value} {t : TypeId} (h : Ext (X.alloc (.cells cs t)) W) : ∀ j u, cs.toList[j]? = some u → W.cell? ((⟨X.heap.size, 0, none⟩ : Addr).add j) = some u := fun j u hu => by
  have hadd : (⟨X.heap.size, 0, none⟩ : Addr).add j = ⟨X.heap.size, j, none⟩ := by unfold Addr.add; split <;> simp_all
  rw [hadd, (box_facts h).2 j]
  simpa using hu
theorem grown_at {w w' : World} {row : Option Nat} {b : Nat} {cs : Array Value} (hg : w.grownBy w' row) (h : At w b cs) (hs : 0 < cs.size) (hne : row ≠ some b) : At w' b cs :=
  at_block h (hg.block b (at_lt h hs) (Ne.symm hne))
theorem keepX {X V w : World} {row : Option Nat} (hg : V.grownBy w row) (h : Ext X V) : Ext X V := h
theorem cells_oth {w W : World} {b b' j : Nat} {cs : Array Value} {v : Value} (hW : W = w.setCell ⟨b', j, none⟩ v) (h : ∀ i, w.cell? ⟨b, i, none⟩ = cs[i]?) (hne : b ≠ b') : ∀ i, W.cell? ⟨b, i, none⟩ = cs[i]? := by
  rw [hW]; exact cells_other h hne
/-- Memory that stays through a run. -/
theorem at_chg {w w' : World} {S : Nat → Prop} {b : Nat} {cs : Array Value} (h : At w b cs) (hs : 0 < cs.size) (g : Chg S w w') (hn : ¬ S b) : At w' b cs := at_block h (g.block b (at_lt h hs) hn)
theorem rows_chgS {w w' : World} {S : Nat → Prop} {s : Option Addr} {len n : Nat} {f : Nat → List Value} (h : Rows_ w s len n f) (hx : Chg S w w') (hne : 0 < len → ∀ b o, s = some ⟨b, o, none⟩ → ¬ S b) : Rows_ w' s len n f := fun hl => by
  obtain ⟨b, o, hs, hb, hr⟩ := h hl
  have hb2 := hne hl b o hs
  exact ⟨b, o, hs, Nat.lt_of_lt_of_le hb hx.size, fun i hi => ⟨(hr i hi).1, fun k hk => by
    rw [← (hr i hi).2 k hk]; unfold World.cell?; dsimp only; rw [hx.block b hb hb2]⟩⟩
theorem rows_lt {w : World} {s : Option Addr} {len n : Nat} {f : Nat → List Value} (h : Rows_ w s len n f) (hl : 0 < len) {b o : Nat} (hs : s = some ⟨b, o, none⟩) : b < w.heap.size := by
  obtain ⟨b', o', hs', hb, _⟩ := h hl
  rw [hs] at hs'; injection hs' with e; injection e with e1; rw [e1]; exact hb
theorem post_at {P : Program} {f : Func} {Q : Ending → World → Prop} {e : Exit} {a : Act} {w : World} (h : ∀ W1, W1 = w → bodyPost P f Q e a W1) : bodyPost P f Q e a w := h w rfl
/-- A row of one's own through a change of other blocks. -/
theorem own_chgS {S : Nat → Prop} {w w' : World} {base : Nat} {T : TypeId} {sz : Nat} {v : Value} {n : Nat} {xs : List Value} (h : w.ownsRow base T sz v n xs) (hx : Chg S w w') (hne : ∀ k, v.ownBlock = some k → ¬ S k) : w'.ownsRow base T sz v n xs := by
  refine ⟨h.1, ?_⟩
  rcases h.2 with hn | ⟨g, cap, cur, rfl, hb, hgg, rest⟩
  · exact .inl hn
  · refine .inr ⟨g, cap, cur, rfl, hb, ?_, rest⟩
    rw [hx.block g (Array.getElem?_eq_some_iff.1 hgg).1 (hne g rfl)]
    exact hgg
/-- Behind an append to a row of one's own: the blocks ahead of it stay. -/
theorem ext_grown {w V w' : World} {row : Option Nat} (h : Ext w V) (hg : V.grownBy w' row) (hr : ∀ k, row = some k → w.heap.size ≤ k) : Ext w w' :=
  h.trans ⟨hg.os, hg.tape, hg.output, hg.size, fun k hk => hg.block k (Nat.lt_of_lt_of_le hk h.size) fun e => by have := hr k e.symm; omega⟩
/-- A row of one's own that an append to another one leaves. -/
theorem own_grown {w w' : World} {row : Option Nat} {base : Nat} {T : TypeId} {sz : Nat} {v : Value} {n : Nat} {xs : List Value} (h : w.ownsRow base T sz v n xs) (hg : w.grownBy w' row) (hne : ∀ k, v.ownBlock = some k → row ≠ some k) : w'.ownsRow base T sz v n xs := by
  refine ⟨h.1, ?_⟩
  rcases h.2 with hn | ⟨g, cap, cur, rfl, hb, hgg, rest⟩
  · exact .inl hn
  · refine .inr ⟨g, cap, cur, rfl, hb, ?_, rest⟩
    rw [hg.block g (Array.getElem?_eq_some_iff.1 hgg).1 (Ne.symm (hne g rfl))]
    exact hgg
/-- Rows of elements of two types do not share a block. -/
theorem own_apart {w : World} {b1 b2 : Nat} {T1 T2 : TypeId} {z1 z2 : Nat} {v1 v2 : Value} {n1 n2 : Nat} {x1 x2 : List Value} (h1 : w.ownsRow b1 T1 z1 v1 n1 x1) (h2 : w.ownsRow b2 T2 z2 v2 n2 x2) (hne : T1 ≠ T2) : ∀ k, v1.ownBlock = some k → v2.ownBlock ≠ some k := by
  intro k e1 e2
  rcases h1.2 with ⟨rfl, _⟩ | ⟨g, cap, cur, rfl, _, hg, _⟩
  · simp [Value.ownBlock] at e1
  · rcases h2.2 with ⟨rfl, _⟩ | ⟨g', cap', cur', rfl, _, hg', _⟩
    · simp [Value.ownBlock] at e2
    · simp only [Value.ownBlock, Option.some.injEq] at e1 e2
      subst e1
      subst e2
      rw [hg] at hg'
      injection hg' with hg'
      injection hg' with _ ht
      exact hne ht
/-- A new block is a row of one's own. -/
theorem own_new {X W : World} {cs : Array Value} {T : TypeId} {sz n base : Nat} (h : Ext (X.alloc (.cells cs T)) W) (hc : cs.size = n * sz) (hb : base ≤ X.heap.size) (hn : n ≤ maxLen) : W.ownsRow base T sz (.slice (some ⟨X.heap.size, 0, none⟩) n n) n cs.toList := by
  refine ⟨by simpa using hc, .inr ⟨X.heap.size, n, cs, rfl, hb, ?_, Nat.le_refl _, hn, hc, ?_⟩⟩
  · rw [h.block X.heap.size (by simp)]; exact heap_alloc_new X _
  · rw [List.take_of_length_le (by simp; omega)]
section
variable {α : Type} {g : α → List Value} {n : Nat}
theorem flat_len (hg : ∀ x, (g x).length = n) : ∀ l : List α, (l.flatMap g).length = l.length * n
  | [] => by simp
  | a :: l => by rw [List.flatMap_cons, List.length_append, hg, flat_len hg l, List.length_cons, Nat.add_mul]; omega
theorem flat_get [Inhabited α] (hg : ∀ x, (g x).length = n) : ∀ (l : List α) (i k : Nat), i < l.length → k < n → (l.flatMap g)[i * n + k]? = (g (l.getD i default))[k]?
  | [], i, k, hi, _ => by simp at hi
  | c :: l, 0, k, _, hk => by
    rw [List.flatMap_cons, List.getElem?_append_left (by rw [hg]; omega)]
    simp
  | c :: l, i + 1, k, hi, hk => by
    rw [List.flatMap_cons, List.getElem?_append_right (by rw [hg, Nat.add_mul]; omega), hg]
    have : (i + 1) * n + k - n = i * n + k := by rw [Nat.add_mul]; omega
    rw [this, flat_get hg l i k (by simpa using hi) hk]
    simp
theorem flat_drop (hg : ∀ x, (g x).length = n) (l : List α) {k : Nat} (hk : k ≤ l.length) : (l.flatMap g).drop (k * n) = (l.drop k).flatMap g := by
  conv => lhs; rw [← List.take_append_drop k l, List.flatMap_append]
  rw [List.drop_left' (by rw [flat_len hg, List.length_take, Nat.min_eq_left hk])]
theorem flat_take (hg : ∀ x, (g x).length = n) (l : List α) {k : Nat} (hk : k ≤ l.length) : (l.flatMap g).take (k * n) = (l.take k).flatMap g := by
  conv => lhs; rw [← List.take_append_drop k l, List.flatMap_append]
  rw [List.take_left' (by rw [flat_len hg, List.length_take, Nat.min_eq_left hk])]
theorem flat_one (h : ∀ x, ∀ u ∈ g x, u.oneCell' = true) (l : List α) : ∀ u ∈ l.flatMap g, u.oneCell' = true := by
  intro u hu
  obtain ⟨x, _, hx⟩ := List.mem_flatMap.1 hu
  exact h x u hx
theorem rows_of_own [Inhabited α] (hg : ∀ x, (g x).length = n) {w : World} {base cap : Nat} {T : TypeId} {ms : Option Addr} {l : List α} (h : w.ownsRow base T n (.slice ms l.length cap) l.length (l.flatMap g)) : Rows_ w ms l.length n (fun i => g (l.getD i default)) := by
  intro hl
  rcases h.2 with ⟨_, h0⟩ | ⟨b, cap', cur, hv, hb, hgg, h1, h2, h3, h4⟩
  · omega
  · injection hv with e1 e2 e3
    subst e1
    refine ⟨b, 0, rfl, (Array.getElem?_eq_some_iff.1 hgg).1, fun i hi => ⟨hg _, fun k hk => ?_⟩⟩
    have hlt : i * n + k < l.length * n := by
      have := Nat.mul_le_mul_right n (show i + 1 ≤ l.length by omega)
      rw [Nat.add_mul] at this; omega
    rw [← flat_get hg l i k hi hk, ← h4, List.getElem?_take_of_lt hlt, Nat.zero_add]
    unfold World.cell?; dsimp only; rw [hgg]; simp
theorem cap_of_own {w : World} {base cap len : Nat} {T : TypeId} {ms : Option Addr} {xs : List Value} (h : w.ownsRow base T n (.slice ms len cap) len xs) : len ≤ cap ∧ cap ≤ maxLen := by
  rcases h.2 with ⟨h1, h0⟩ | ⟨b, cap', cur, hv, hb, hgg, h1, h2, h3, h4⟩
  · injection h1 with e1 e2 e3
    rw [h0, e3]; exact ⟨Nat.le_refl _, Nat.zero_le _⟩
  · injection hv with e1 e2 e3
    rw [e3]; exact ⟨h1, h2⟩
end
/-- What can be read behind an address: m elements of n cells. -/
def Rds (w : World) (A : Option Addr) (m n : Nat) (xs : List Value) : Prop := xs.length = m * n ∧ (0 < m → ∃ b o, A = some ⟨b, o, none⟩ ∧ b < w.heap.size ∧ ∀ j u, xs[j]? = some u → w.cell? ⟨b, o + j, none⟩ = some u)
theorem Rds.ext {w w' : World} {A : Option Addr} {m n : Nat} {xs : List Value} (h : Rds w A m n xs) (hx : Ext w w') : Rds w' A m n xs :=
  ⟨h.1, fun hm => by
    obtain ⟨b, o, e, hb, hc⟩ := h.2 hm
    exact ⟨b, o, e, Nat.lt_of_lt_of_le hb hx.size, fun j u hu => (hx.cell (p := ⟨b, o + j, none⟩) hb).trans (hc j u hu)⟩⟩
theorem rds_of_rows {α : Type} [Inhabited α] {g : α → List Value} {n : Nat} (hg : ∀ x, (g x).length = n) (hn : 0 < n) {w : World} {A : Option Addr} {l : List α} (h : Rows_ w A l.length n (fun i => g (l.getD i default))) : Rds w A l.length n (l.flatMap g) :=
  ⟨flat_len hg l, fun hl => by
    obtain ⟨b, o, e, hb, hr⟩ := h hl
    refine ⟨b, o, e, hb, fun j u hu => ?_⟩
    have hj : j < l.length * n := by rw [← flat_len hg l]; exact (List.getElem?_eq_some_iff.1 hu).1
    have hi : j / n < l.length := Nat.div_lt_of_lt_mul (by rw [Nat.mul_comm]; exact hj)
    have hk : j % n < n := Nat.mod_lt _ hn
    have he : j / n * n + j % n = j := by rw [Nat.mul_comm]; exact Nat.div_add_mod j n
    have h1 := (hr _ hi).2 _ hk
    rw [he] at h1
    rw [h1, ← flat_get hg l _ _ hi hk, he, hu]⟩
theorem Rds.cut {w : World} {A : Option Addr} {m n : Nat} {xs : List Value} (h : Rds w A m n xs) {k cap : Nat} (hk : k ≤ m) (hc : m ≤ cap) : Rds w (if cap = k then A else A.map (·.add (k * n))) (m - k) n (xs.drop (k * n)) := by
  refine ⟨by rw [List.length_drop, h.1, Nat.sub_mul], fun hm => ?_⟩
  obtain ⟨b, o, rfl, hb, hcell⟩ := h.2 (by omega)
  rw [if_neg (by omega)]
  refine ⟨b, o + k * n, ?_, hb, fun j u hu => ?_⟩
  · simp only [Option.map_some, Addr.add]; split <;> simp_all
  · rw [List.getElem?_drop] at hu
    rw [Nat.add_assoc]; exact hcell _ u hu
theorem Rds.first {w : World} {A : Option Addr} {m n : Nat} {xs : List Value} (h : Rds w A m n xs) {k : Nat} (hk : k ≤ m) : Rds w A k n (xs.take (k * n)) := by
  have hkm : k * n ≤ m * n := Nat.mul_le_mul_right _ hk
  refine ⟨by rw [List.length_take, h.1, Nat.min_eq_left hkm], fun hm => ?_⟩
  obtain ⟨b, o, e, hb, hcell⟩ := h.2 (by omega)
  refine ⟨b, o, e, hb, fun j u hu => hcell j u ?_⟩
  rw [List.getElem?_take] at hu
  split at hu
  · exact hu
  · cases hu
/-- What append does with a slice that is read, of whatever length, onto a row of one's own. -/
theorem run_app {P : Program} (w : World) (base : Nat) (t ty e : TypeId) (i : TypeInfo) (z : Value) (sz bytes : Nat) (ht : P.underlying t = some (.slice e)) (hi : P.info? e = some i) (hz : i.zero = some z)
    (hsize : i.size = sz) (hby : i.bytes = bytes) (hzs : z.cells.size = sz) (hsz : 0 < sz) (v : Value) (n : Nat) (xs : List Value) (hown : w.ownsRow base e sz v n xs)
    (A : Option Addr) (m c : Nat) (news : List Value) (hr : Rds w A m sz news) (h1 : ∀ u ∈ news, u.oneCell' = true) (h63 : n + m ≤ maxLen) (hbytes : (n + m) * bytes ≤ 140737488355328) (hbase : base ≤ w.heap.size) :
    ∃ v' w', (Builtin.append_ #[t, t] ty #[v, .slice A m c]).run P w = .ok v' w' ∧ w'.ownsRow base e sz v' (n + m) (xs ++ news) ∧ w.grownBy w' v.ownBlock := by
  cases A with
  | none =>
    have hm : m = 0 := by
      rcases Nat.eq_zero_or_pos m with h0 | h0
      · exact h0
      · obtain ⟨_, _, h, _⟩ := hr.2 h0; cases h
    subst hm
    obtain rfl : news = [] := List.eq_nil_of_length_eq_zero (by simpa using hr.1)
    refine ⟨v, w, ?_, by simpa using hown, ⟨rfl, rfl, rfl, Nat.le_refl _, fun _ _ _ => rfl⟩⟩
    rcases hown.2 with ⟨rfl, rfl⟩ | ⟨g, cap, cur, rfl, _, _, hnc, _⟩
    · simp [Builtin.append_, run_underlying ht, sizeOf, typeInfo, hi, Builtin.lenOf, Builtin.firstCells]
    · simp [Builtin.append_, run_underlying ht, sizeOf, typeInfo, hi, Builtin.lenOf, Builtin.firstCells, hnc, storeCells]
  | some ad =>
    have hcells : ∀ j u, news[j]? = some u → w.cell? (ad.add j) = some u := by
      intro j u hu
      rcases Nat.eq_zero_or_pos m with h0 | h0
      · subst h0
        obtain rfl : news = [] := List.eq_nil_of_length_eq_zero (by simpa using hr.1)
        simp at hu
      · obtain ⟨b, o, h, _, hc⟩ := hr.2 h0
        injection h with h
        subst h
        have : (⟨b, o, none⟩ : Addr).add j = ⟨b, o + j, none⟩ := by unfold Addr.add; split <;> simp_all
        rw [this]; exact hc j u hu
    obtain ⟨v', w', hrun, h2, h3, _, _⟩ := run_append_own_at (P := P) w base t ty e i z sz bytes ht hi hz hsize hby hzs hsz v n xs hown ad m c news hr.1 hcells h1 h63 hbytes hbase
    exact ⟨v', w', hrun, h2, h3⟩
/-- .. at a step of a region that draws its order. -/
theorem step_app {P : Program} {w : World} {ops : Array Oper} {o : Oper} {a : Act} {K : Act → World → Prop} {Q : Exit → Act → World → Prop} {E : Prop} (hgd : o.guard = none) (s x : Operand) (t : TypeId)
    (ho : o.op = .call { callee := .builtin .append, args := #[s, x], argTypes := #[t, t] }) (base : Nat) (e : TypeId) (i : TypeInfo) (z : Value) (sz bytes : Nat) (ht : P.underlying t = some (.slice e)) (hi : P.info? e = some i) (hz : i.zero = some z)
    (hsize : i.size = sz) (hby : i.bytes = bytes) (hzs : z.cells.size = sz) (hsz : 0 < sz) (v : Value) (n : Nat) (xs : List Value) (hs : a.eval s = v) (hown : w.ownsRow base e sz v n xs)
    (A : Option Addr) (m c : Nat) (news : List Value) (hx : a.eval x = .slice A m c) (hr : Rds w A m sz news) (h1 : ∀ u ∈ news, u.oneCell' = true) (h63 : n + m ≤ maxLen) (hbytes : (n + m) * bytes ≤ 140737488355328) (hbase : base ≤ w.heap.size)
    (h : ∀ v' w', w'.ownsRow base e sz v' (n + m) (xs ++ news) → w.grownBy w' v.ownBlock → K (a.put o.dst v') w') : if Region.wanted o (yielded ops a.tmps) = true then Oper.wp P o a w K Q else E := by
  obtain ⟨v', w', hrun, h2, h3⟩ := run_app (P := P) w base t o.type e i z sz bytes ht hi hz hsize hby hzs hsz v n xs hown A m c news hr h1 h63 hbytes hbase
  have hw : Region.wanted o (yielded ops a.tmps) = true := by simp [Region.wanted, hgd]
  rw [if_pos hw]
  unfold Oper.wp execOp
  simp only [ho, resolve, invoke, builtin, Sem.run_bind, Sem.run_pure, Result.andThen_ok, List.map_toArray, List.map_cons, List.map_nil, hs, hx, hrun]
  exact h v' w' h2 h3
/-- .. in a plain region. -/
theorem list_app {P : Program} {w : World} {ops : Array Oper} {rest : List Oper} {o : Oper} {a : Act} {Q : Exit → Act → World → Prop} (hgd : o.guard = none) (s x : Operand) (t : TypeId)
    (ho : o.op = .call { callee := .builtin .append, args := #[s, x], argTypes := #[t, t] }) (base : Nat) (e : TypeId) (i : TypeInfo) (z : Value) (sz bytes : Nat) (ht : P.underlying t = some (.slice e)) (hi : P.info? e = some i) (hz : i.zero = some z)
    (hsize : i.size = sz) (hby : i.bytes = bytes) (hzs : z.cells.size = sz) (hsz : 0 < sz) (v : Value) (n : Nat) (xs : List Value) (hs : a.eval s = v) (hown : w.ownsRow base e sz v n xs)
    (A : Option Addr) (m c : Nat) (news : List Value) (hx : a.eval x = .slice A m c) (hr : Rds w A m sz news) (h1 : ∀ u ∈ news, u.oneCell' = true) (h63 : n + m ≤ maxLen) (hbytes : (n + m) * bytes ≤ 140737488355328) (hbase : base ≤ w.heap.size)
    (h : ∀ v' w', w'.ownsRow base e sz v' (n + m) (xs ++ news) → w.grownBy w' v.ownBlock → wpList P ops Q rest (a.put o.dst v') w') : wpList P ops Q (o :: rest) a w := by
  refine wpList_plain hgd fun K hK => ?_
  obtain ⟨v', w', hrun, h2, h3⟩ := run_app (P := P) w base t o.type e i z sz bytes ht hi hz hsize hby hzs hsz v n xs hown A m c news hr h1 h63 hbytes hbase
  unfold Oper.wp execOp
  simp only [ho, resolve, invoke, builtin, Sem.run_bind, Sem.run_pure, Result.andThen_ok, List.map_toArray, List.map_cons, List.map_nil, hs, hx, hrun]
  exact hK _ _ (h v' w' h2 h3)
/-- A row of one's own, written out as a slice. -/
theorem own_slice {w : World} {base : Nat} {T : TypeId} {sz n : Nat} {v : Value} {xs : List Value} (h : w.ownsRow base T sz v n xs) : ∃ ms cap, v = .slice ms n cap := by
  rcases h.2 with ⟨rfl, rfl⟩ | ⟨g, cap, cur, rfl, _⟩
  · exact ⟨none, 0, rfl⟩
  · exact ⟨_, cap, rfl⟩
end Go.Proofs.Ytkicofagjebnjaa

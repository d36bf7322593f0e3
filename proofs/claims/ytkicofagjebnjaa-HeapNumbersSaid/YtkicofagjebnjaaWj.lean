/- Words for regions by an invariant: what holds till an operation has come up; append. -/
import Derived.Test.YtkicofagjebnjaaWb
import Derived.Test.YtkicofagjebnjaaWi
import Derived.Test.YtkicofagjebnjaaWs
namespace Go.Proofs.Ytkicofagjebnjaa
open Go.RowKit
set_option linter.unusedVariables false
set_option linter.unusedSimpArgs false
/-- Known till it has come up. -/
def Bef (b : Bool) (p : Prop) : Prop := b = false → p
theorem Bef.get {b : Bool} {p : Prop} (h : Bef b p) (e : b = false) : p := h e
theorem Bef.new {b : Bool} {p : Prop} (h : p) : Bef b p := fun _ => h
theorem Bef.no {b : Bool} {p : Prop} (e : b = true) : Bef b p := fun h => by rw [e] at h; cases h
theorem Bef.map {b : Bool} {p q : Prop} (h : Bef b p) (f : p → q) : Bef b q := fun e => f (h e)
theorem own_low {w : World} {b b' : Nat} {T : TypeId} {sz : Nat} {v : Value} {n : Nat} {xs : List Value} (h : w.ownsRow b T sz v n xs) (hb : b' ≤ b) : w.ownsRow b' T sz v n xs := by
  refine ⟨h.1, ?_⟩
  rcases h.2 with hn | ⟨g, cap, cur, rfl, hg, rest⟩
  · exact .inl hn
  · exact .inr ⟨g, cap, cur, rfl, Nat.le_trans hb hg, rest⟩
theorem own_keep {w w' : World} {b : Nat} {T : TypeId} {sz n : Nat} {u : Value} {xs : List Value} (hx : Ext w w') (h : ∃ ms cap, u = .slice ms n cap ∧ w.ownsRow b T sz (.slice ms n cap) n xs) : ∃ ms cap, u = .slice ms n cap ∧ w'.ownsRow b T sz (.slice ms n cap) n xs := by
  obtain ⟨ms, cap, e, h⟩ := h
  exact ⟨ms, cap, e, own_ext h hx⟩
theorem rds_newV {X W : World} {cs : Array Value} {T : TypeId} {m n : Nat} (h : Ext (X.alloc (.cells cs T)) W) (hc : cs.size = m * n) : Rds W (some ⟨X.heap.size, 0, none⟩) m n cs.toList := by
  obtain ⟨h1, h2⟩ := box_facts h
  refine ⟨by simpa using hc, fun _ => ⟨_, 0, rfl, h1, fun j u hu => ?_⟩⟩
  rw [Nat.zero_add, h2 j]
  simpa using hu
/-- append at a step of a region; what stands in the slots under names. -/
theorem step_app2 {P : Program} {w : World} {ops : Array Oper} {o : Oper} {a : Act} {K : Act → World → Prop} {Q : Exit → Act → World → Prop} {E : Prop} (hgd : o.guard = none) (s x : Operand) (t : TypeId)
    (ho : o.op = .call { callee := .builtin .append, args := #[s, x], argTypes := #[t, t] }) (base : Nat) (e : TypeId) (i : TypeInfo) (z : Value) (sz bytes : Nat) (ht : P.underlying t = some (.slice e)) (hi : P.info? e = some i) (hz : i.zero = some z)
    (hsize : i.size = sz) (hby : i.bytes = bytes) (hzs : z.cells.size = sz) (hsz : 0 < sz) (v : Value) (n : Nat) (xs : List Value) (u : Value) (hu : a.eval s = u) (eu : u = v) (hown : w.ownsRow base e sz v n xs)
    (A : Option Addr) (m c : Nat) (news : List Value) (y : Value) (hy : a.eval x = y) (ey : y = .slice A m c) (hr : Rds w A m sz news) (h1 : ∀ u ∈ news, u.oneCell' = true) (h63 : n + m ≤ maxLen) (hbytes : (n + m) * bytes ≤ 140737488355328) (hbase : base ≤ w.heap.size)
    (h : ∀ v' w', w'.ownsRow base e sz v' (n + m) (xs ++ news) → w.grownBy w' v.ownBlock → K (a.put o.dst v') w') : if Region.wanted o (yielded ops a.tmps) = true then Oper.wp P o a w K Q else E :=
  step_app hgd s x t ho base e i z sz bytes ht hi hz hsize hby hzs hsz v n xs (hu.trans eu) hown A m c news (hy.trans ey) hr h1 h63 hbytes hbase h
theorem run_app3 {P : Program} (w : World) (base : Nat) (t ty e : TypeId) (i : TypeInfo) (z : Value) (sz bytes : Nat) (ht : P.underlying t = some (.slice e)) (hi : P.info? e = some i) (hz : i.zero = some z)
    (hsize : i.size = sz) (hby : i.bytes = bytes) (hzs : z.cells.size = sz) (hsz : 0 < sz) (v : Value) (n : Nat) (xs : List Value) (hown : w.ownsRow base e sz v n xs)
    (A : Option Addr) (m c : Nat) (news : List Value) (hr : Rds w A m sz news) (h1 : ∀ u ∈ news, u.oneCell' = true) (h63 : n + m ≤ maxLen) (hbytes : (n + m) * bytes ≤ 140737488355328) (hbase : base ≤ w.heap.size) :
    ∃ v' w', (Builtin.append_ #[t, t] ty #[v, .slice A m c]).run P w = .ok v' w' ∧ w'.ownsRow base e sz v' (n + m) (xs ++ news) ∧ w.grownBy w' v.ownBlock ∧ (v'.ownBlock = v.ownBlock ∨ v'.ownBlock = some w.heap.size) := by
  cases A with
  | none =>
    have hm : m = 0 := by
      rcases Nat.eq_zero_or_pos m with h0 | h0
      · exact h0
      · obtain ⟨_, _, h, _⟩ := hr.2 h0; cases h
    subst hm
    obtain rfl : news = [] := List.eq_nil_of_length_eq_zero (by simpa using hr.1)
    refine ⟨v, w, ?_, by simpa using hown, ⟨rfl, rfl, rfl, Nat.le_refl _, fun _ _ _ => rfl⟩, .inl rfl⟩
    rcases hown.2 with ⟨rfl, rfl⟩ | ⟨g, cap, cur, rfl, _, _, hnc, _⟩
    · simp [Builtin.append_, run_underlying ht, sizeOf, typeInfo, hi, Builtin.lenOf, Builtin.firstCells]
    · simp [Builtin.append_, run_underlying ht, sizeOf, typeInfo, hi, Builtin.lenOf, Builtin.firstCells, hnc, storeCells]
  | some ad =>
    have hcells : ∀ j u, news[j]? = some u → w.cell? (ad.add j) = some u := by
      intro j u hu
      rcases Nat.eq_zero_or_pos m with h0 | h0
      · subst h0
        obtain rfl : news = [] := List.eq_nil_of_length_eq_zero (by simpa using hr.1)
        simp at hu
      · obtain ⟨b, o, h, _, hc⟩ := hr.2 h0
        injection h with h
        subst h
        have : (⟨b, o, none⟩ : Addr).add j = ⟨b, o + j, none⟩ := by unfold Addr.add; split <;> simp_all
        rw [this]; exact hc j u hu
    obtain ⟨v', w', hrun, h2, h3, _, h4⟩ := run_append_own_at (P := P) w base t ty e i z sz bytes ht hi hz hsize hby hzs hsz v n xs hown ad m c news hr.1 hcells h1 h63 hbytes hbase
    exact ⟨v', w', hrun, h2, h3, h4⟩
/-- .. telling where the new slice lies. -/
theorem step_app3 {P : Program} {w : World} {ops : Array Oper} {o : Oper} {a : Act} {K : Act → World → Prop} {Q : Exit → Act → World → Prop} {E : Prop} (hgd : o.guard = none) (s x : Operand) (t : TypeId)
    (ho : o.op = .call { callee := .builtin .append, args := #[s, x], argTypes := #[t, t] }) (base : Nat) (e : TypeId) (i : TypeInfo) (z : Value) (sz bytes : Nat) (ht : P.underlying t = some (.slice e)) (hi : P.info? e = some i) (hz : i.zero = some z)
    (hsize : i.size = sz) (hby : i.bytes = bytes) (hzs : z.cells.size = sz) (hsz : 0 < sz) (v : Value) (n : Nat) (xs : List Value) (u : Value) (hu : a.eval s = u) (eu : u = v) (hown : w.ownsRow base e sz v n xs)
    (A : Option Addr) (m c : Nat) (news : List Value) (y : Value) (hy : a.eval x = y) (ey : y = .slice A m c) (hr : Rds w A m sz news) (h1 : ∀ u ∈ news, u.oneCell' = true) (h63 : n + m ≤ maxLen) (hbytes : (n + m) * bytes ≤ 140737488355328) (hbase : base ≤ w.heap.size)
    (h : ∀ v' w', w'.ownsRow base e sz v' (n + m) (xs ++ news) → w.grownBy w' v.ownBlock → (v'.ownBlock = v.ownBlock ∨ v'.ownBlock = some w.heap.size) → K (a.put o.dst v') w') : if Region.wanted o (yielded ops a.tmps) = true then Oper.wp P o a w K Q else E := by
  have hs := hu.trans eu
  have hx := hy.trans ey
  obtain ⟨v', w', hrun, h2, h3, h4⟩ := run_app3 (P := P) w base t o.type e i z sz bytes ht hi hz hsize hby hzs hsz v n xs hown A m c news hr h1 h63 hbytes hbase
  have hw : Region.wanted o (yielded ops a.tmps) = true := by simp [Region.wanted, hgd]
  rw [if_pos hw]
  unfold Oper.wp execOp
  simp only [ho, resolve, invoke, builtin, Sem.run_bind, Sem.run_pure, Result.andThen_ok, List.map_toArray, List.map_cons, List.map_nil, hs, hx, hrun]
  exact h v' w' h2 h3 h4
theorem list_app3 {P : Program} {w : World} {ops : Array Oper} {rest : List Oper} {o : Oper} {a : Act} {Q : Exit → Act → World → Prop} (hgd : o.guard = none) (s x : Operand) (t : TypeId)
    (ho : o.op = .call { callee := .builtin .append, args := #[s, x], argTypes := #[t, t] }) (base : Nat) (e : TypeId) (i : TypeInfo) (z : Value) (sz bytes : Nat) (ht : P.underlying t = some (.slice e)) (hi : P.info? e = some i) (hz : i.zero = some z)
    (hsize : i.size = sz) (hby : i.bytes = bytes) (hzs : z.cells.size = sz) (hsz : 0 < sz) (v : Value) (n : Nat) (xs : List Value) (hs : a.eval s = v) (hown : w.ownsRow base e sz v n xs)
    (A : Option Addr) (m c : Nat) (news : List Value) (hx : a.eval x = .slice A m c) (hr : Rds w A m sz news) (h1 : ∀ u ∈ news, u.oneCell' = true) (h63 : n + m ≤ maxLen) (hbytes : (n + m) * bytes ≤ 140737488355328) (hbase : base ≤ w.heap.size)
    (h : ∀ v' w', w'.ownsRow base e sz v' (n + m) (xs ++ news) → w.grownBy w' v.ownBlock → (v'.ownBlock = v.ownBlock ∨ v'.ownBlock = some w.heap.size) → wpList P ops Q rest (a.put o.dst v') w') : wpList P ops Q (o :: rest) a w := by
  refine wpList_plain hgd fun K hK => ?_
  obtain ⟨v', w', hrun, h2, h3, h4⟩ := run_app3 (P := P) w base t o.type e i z sz bytes ht hi hz hsize hby hzs hsz v n xs hown A m c news hr h1 h63 hbytes hbase
  unfold Oper.wp execOp
  simp only [ho, resolve, invoke, builtin, Sem.run_bind, Sem.run_pure, Result.andThen_ok, List.map_toArray, List.map_cons, List.map_nil, hs, hx, hrun]
  exact hK _ _ (h v' w' h2 h3 h4)
/-- A row of one's own that is not block bx. -/
def OwnX (w : World) (base bx : Nat) (T : TypeId) (sz : Nat) (v : Value) (n : Nat) (xs : List Value) : Prop := w.ownsRow base T sz v n xs ∧ v.ownBlock ≠ some bx
theorem OwnX.ext {w w' : World} {base bx : Nat} {T : TypeId} {sz n : Nat} {v : Value} {xs : List Value} (h : OwnX w base bx T sz v n xs) (hx : Ext w w') : OwnX w' base bx T sz v n xs := ⟨own_ext h.1 hx, h.2⟩
theorem OwnX.chg {w w' : World} {base bx : Nat} {T : TypeId} {sz n : Nat} {v : Value} {xs : List Value} (h : OwnX w base bx T sz v n xs) (g : Chg (fun q => q = bx) w w') : OwnX w' base bx T sz v n xs := ⟨own_chgS h.1 g (fun q e hq => h.2 (by rw [e, hq])), h.2⟩
theorem OwnX.grown {w w' : World} {base bx b2 : Nat} {T T2 : TypeId} {sz n s2 n2 : Nat} {v v2 : Value} {xs x2 : List Value} (h : OwnX w base bx T sz v n xs) (ho : w.ownsRow b2 T2 s2 v2 n2 x2) (hT : T ≠ T2) (hg : w.grownBy w' v2.ownBlock) : OwnX w' base bx T sz v n xs := ⟨own_grown h.1 hg (fun k e e2 => own_apart h.1 ho hT k e e2), h.2⟩
/-- .. of the rows of other types. -/
def KeepT (base bx : Nat) (T : TypeId) (w w' : World) : Prop := ∀ (T' : TypeId) (sz : Nat) (v : Value) (n : Nat) (xs : List Value), T' ≠ T → OwnX w base bx T' sz v n xs → OwnX w' base bx T' sz v n xs
theorem KeepT.ext {base bx : Nat} {T : TypeId} {w w1 w2 : World} (h : KeepT base bx T w w1) (hx : Ext w1 w2) : KeepT base bx T w w2 := fun T' sz v n xs hT ho => (h T' sz v n xs hT ho).ext hx
theorem KeepT.trans {base bx : Nat} {T : TypeId} {w w1 w2 : World} (h : KeepT base bx T w w1) (k : KeepT base bx T w1 w2) : KeepT base bx T w w2 := fun T' sz v n xs hT ho => k T' sz v n xs hT (h T' sz v n xs hT ho)
theorem keep_chg {base bx : Nat} {T : TypeId} {w w1 : World} (g : Chg (fun q => q = bx) w w1) : KeepT base bx T w w1 := fun T' sz v n xs hT ho => ho.chg g
theorem keep_grown {base bx : Nat} {T : TypeId} {sz n b : Nat} {v : Value} {xs : List Value} {w w1 : World} (ho : w.ownsRow b T sz v n xs) (hg : w.grownBy w1 v.ownBlock) : KeepT base bx T w w1 := fun T' sz' v' n' xs' hT ho' => ho'.grown ho hT hg
theorem block_at {n : Nat} {Q : Exit → Act → World → Prop} {e : Exit} {a : Act} {w : World} (h : ∀ W1, W1 = w → Exit.inBlock n Q e a W1) : Exit.inBlock n Q e a w := h w rfl
theorem at_drewI {w : World} {b : Nat} {cs : Array Value} (h : At w b cs) : At w.drew b cs := h
end Go.Proofs.Ytkicofagjebnjaa

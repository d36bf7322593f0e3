/- What the walks of layer 12 want. -/
import Derived.Test.YthpgmefjgidkgaaVC12
import Derived.Test.YthpgmefjgidkgaaS12f
namespace Go.Proofs.Ythpgmefjgidkgaa
open Go.RowKit
set_option linter.unusedVariables false
set_option linter.unusedSimpArgs false

theorem mn_castH (a b : Nat) : mn (a : Int) (b : Int) = ((min a b : Nat) : Int) := by unfold mn; split <;> omega
theorem kn_right {h : Hs} (hr : hrB h = true) : ∀ i, i < h.known.length → knoOk h i = true := by
  by_cases h0 : h.len = 0
  · intro i hi
    rw [hs0_of hr h0] at hi
    simp at hi
  · exact (hrP_of hr h0).kn
theorem seen_not {h : Hs} (r : ∀ i, i < h.known.length → knoOk h i = true) {j : Nat} (hj : j < h.known.length) : seenB h.known j (h.known.getD j default).n = false :=
  (seenB_iff (by omega)).2 (knoOk_p hj (r j hj)).2.2.1
theorem mput_grow {L : List Kno} {j : Nat} {n : Int} {v : Value} {M : List (Int × Value)} (h : mlook n M = if seenB L j n = true then some (.int .i64 1) else none) (hs : seenB L j n = false) : (mput n v M).length = M.length + 1 := by
  rw [hs] at h
  rw [mput_new v (by simpa using h)]; simp
def Typ (w : World) (b : Nat) (T : TypeId) : Prop := ∃ cs fr, w.heap[b]? = some (.cells cs T fr)
theorem typ_new {X W : World} {cs : Array Value} {T : TypeId} (h : Ext (X.alloc (.cells cs T)) W) : Typ W X.heap.size T :=
  ⟨cs, _, by rw [h.block X.heap.size (by simp)]; exact heap_alloc_new X _⟩
theorem Typ.lt {w : World} {b : Nat} {T : TypeId} (h : Typ w b T) : b < w.heap.size := by
  obtain ⟨cs, fr, h⟩ := h
  exact (Array.getElem?_eq_some_iff.1 h).1
theorem Typ.ext {w w' : World} {b : Nat} {T : TypeId} (h : Typ w b T) (hx : Ext w w') : Typ w' b T := by
  have hl := h.lt
  obtain ⟨cs, fr, h⟩ := h
  exact ⟨cs, fr, by rw [hx.block b hl]; exact h⟩
theorem own_typ {w : World} {b bb : Nat} {T T2 : TypeId} {sz n : Nat} {v : Value} {xs : List Value} (ho : w.ownsRow b T sz v n xs) (ht : Typ w bb T2) (hne : T ≠ T2) : v.ownBlock ≠ some bb := by
  intro e
  rcases ho.2 with ⟨rfl, _⟩ | ⟨g, cap, cur, rfl, _, hg, _⟩
  · simp [Value.ownBlock] at e
  · simp only [Value.ownBlock, Option.some.injEq] at e
    subst e
    obtain ⟨cs, fr, h⟩ := ht
    rw [hg] at h
    injection h with h
    injection h with _ h2
    exact hne h2
theorem OwnsH.ext {w w' : World} {b : Nat} {h : Hs} {m : Hm} (ho : OwnsH w b h m) (hx : Ext w w') : OwnsH w' b h m := ⟨own_ext ho.1 hx, own_ext ho.2.1 hx, own_ext ho.2.2.1 hx, own_ext ho.2.2.2 hx⟩
theorem OwnsH.low {w : World} {b b' : Nat} {h : Hs} {m : Hm} (ho : OwnsH w b h m) (hb : b' ≤ b) : OwnsH w b' h m := ⟨own_low ho.1 hb, own_low ho.2.1 hb, own_low ho.2.2.1 hb, own_low ho.2.2.2 hb⟩
theorem OwnsH.chgS {S : Nat → Prop} {w w' : World} {b : Nat} {h : Hs} {m : Hm} (ho : OwnsH w b h m) (g : Chg S w w') (hs : ∀ k, b ≤ k → ¬ S k) : OwnsH w' b h m :=
  ⟨own_chgS ho.1 g (fun k e => hs k (ho.1.lt k e).1), own_chgS ho.2.1 g (fun k e => hs k (ho.2.1.lt k e).1), own_chgS ho.2.2.1 g (fun k e => hs k (ho.2.2.1.lt k e).1), own_chgS ho.2.2.2 g (fun k e => hs k (ho.2.2.2.lt k e).1)⟩
theorem OwnsH.chgT {w w' : World} {b bb : Nat} {h : Hs} {m : Hm} (ho : OwnsH w b h m) (g : Chg (fun q => q = bb) w w') (ht : Typ w bb 32) : OwnsH w' b h m :=
  ⟨own_chgS ho.1 g (fun k e e2 => by subst e2; exact own_typ ho.1 ht (by decide) e), own_chgS ho.2.1 g (fun k e e2 => by subst e2; exact own_typ ho.2.1 ht (by decide) e), own_chgS ho.2.2.1 g (fun k e e2 => by subst e2; exact own_typ ho.2.2.1 ht (by decide) e), own_chgS ho.2.2.2 g (fun k e e2 => by subst e2; exact own_typ ho.2.2.2 ht (by decide) e)⟩
theorem run_mlen {P : Program} {w : World} {t kt e ty : TypeId} {k : IntKind} {b : Nat} {L : List (Int × Value)} (ht : P.underlying t = some (.map kt e)) (h : Mp w b k L) : (Builtin.len_ #[t] ty #[.map (some b)]).run P w = .ok (.int .i64 L.length) w := by
  obtain ⟨es, c, hb, hL⟩ := h
  have e1 : es.size = L.length := by
    have := congrArg List.length hL
    simpa [pairs, ents] using this
  rw [← e1]
  simp [Builtin.len_, run_underlying ht, MapKept.run_getObj_map hb, goInt, Result.andThen]
end Go.Proofs.Ythpgmefjgidkgaa

/- How arguments are opened: slices whose elements are structs of whole numbers, bools, strings, slices: every cell of every element. -/
import Derived.Test.YtkicofagjebnjaaOp
import Derived.Deep.Slices
namespace Go.Proofs.Ytkicofagjebnjaa
set_option linter.unusedVariables false
set_option linter.unusedSimpArgs false
open Go.ChangeShapes Go.WideShapes Go.ChangeAt Go.RowKit Go.Deep

/-- The rows of a slice: every element's cells. -/
def Rows_ (w : World) (s : Option Addr) (len n : Nat) (f : Nat → List Value) : Prop :=
  0 < len → ∃ b o, s = some ⟨b, o, none⟩ ∧ b < w.heap.size ∧ ∀ i, i < len → (f i).length = n ∧ ∀ k, k < n → w.cell? ⟨b, o + (i * n + k), none⟩ = (f i)[k]?
theorem cell_spot {w : World} {a : Addr} {v : Value} (h : w.cell? a = some v) : a.spot = none ∧ a.block < w.heap.size := by
  unfold World.cell? at h
  split at h
  · rename_i c _ _ hc
    refine ⟨?_, ?_⟩
    · cases hs : a.spot with
      | none => rfl
      | some _ => simp [hs] at h
    · rw [Array.getElem?_eq_some_iff] at hc; exact hc.1
  · cases h

section
variable {H : Type} {enc : TypeId × Value → H} {P : Program} {w : World} {base : Nat} {spare : Nat → Bool} {held : Bool}
/-- Every cell of every element of a slice. -/
theorem open_rows {t e : TypeId} {m nl : Nat} {L : List Lf} {c : Value} {x : DataW H × List MemPlace} (ht : P.underlying t = some (.slice e)) (hl : lay P nl e = some L) (hC : P.cellsOf e = L.length) (hL : 0 < L.length)
    (h : DataW.trod enc P w base spare held m t [c] = some x) :
    ∃ (s : Option Addr) (len cap : Nat) (f : Nat → List Value), c = .slice s len cap ∧ len ≤ maxLen ∧ Rows_ w s len L.length f ∧ ∀ i, i < len → AllOk enc P w base spare held L (f i) := by
  rcases open_slice ht h with ⟨h0, _⟩ | ⟨a, len, cap, mm, n, D, Pl, hcs, hb, hl', hm, hmm, hx, hi⟩
  · exact ⟨none, 0, 0, fun _ => [], by simpa using h0, Nat.zero_le _, fun h => absurd h (by omega), fun i hi => absurd hi (by omega)⟩
  · have hlm : len ≤ mm := by rw [hmm]; split <;> omega
    have each : ∀ i, i < len → ∃ cs : List Value, cs.length = L.length ∧ AllOk enc P w base spare held L cs ∧ ∀ k, k < L.length → w.cell? (a.add (i * L.length + k)) = cs[k]? := by
      intro i hi'
      obtain ⟨cs, h1, h2⟩ := hi i (by omega)
      rw [hC] at h1
      obtain ⟨_, hlen, hcell⟩ := World.cells?_some h1
      refine ⟨cs, hlen, lay_ok _ _ _ _ _ _ hl h2 hC, fun k hk => ?_⟩
      have := hcell k hk
      rwa [add_add] at this
    obtain ⟨f, hf⟩ := choose_lt each
    refine ⟨some a, len, cap, f, by simpa using hcs, by omega, fun hpos => ?_, fun i hi => (hf i hi).2.1⟩
    have h0 := (hf 0 hpos).2.2 0 hL
    have hl0 := (hf 0 hpos).1
    obtain ⟨v, hv⟩ : ∃ v, (f 0)[0]? = some v := ⟨(f 0)[0]'(by omega), List.getElem?_eq_getElem _⟩
    rw [hv] at h0
    obtain ⟨s1, s2⟩ := cell_spot h0
    obtain ⟨b, o, sp⟩ := a
    have hsp : sp = none := by simpa [Addr.add] using s1
    subst hsp
    refine ⟨b, o, rfl, by simpa [Addr.add] using s2, fun i hi => ⟨(hf i hi).1, fun k hk => ?_⟩⟩
    have := (hf i hi).2.2 k hk
    rw [← this]; congr 1
    unfold Addr.add; split <;> simp_all
end
end Go.Proofs.Ytkicofagjebnjaa

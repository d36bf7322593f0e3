/- How arguments are opened: events. -/
import Derived.Test.YthpgmefjgidkgaaOp2
import Derived.Test.YthpgmefjgidkgaaUG12
namespace Go.Proofs.Ythpgmefjgidkgaa
set_option linter.unusedVariables false
set_option linter.unusedSimpArgs false
open Go.ChangeShapes Go.WideShapes Go.ChangeAt Go.RowKit Go.Deep
section
variable {H : Type} {enc : TypeId × Value → H} {P : Program} {w : World} {base : Nat} {spare : Nat → Bool} {held : Bool}
theorem open_rowsE {t e : TypeId} {m nl : Nat} {L : List Lf} {c : Value} {x : DataW H × List MemPlace} (ht : P.underlying t = some (.slice e)) (hl : lay P nl e = some L) (hC : P.cellsOf e = L.length) (hL : 0 < L.length)
    (h : DataW.trod enc P w base spare held m t [c] = some x) :
    ∃ (s : Option Addr) (len cap : Nat) (f : Nat → List Value), c = .slice s len cap ∧ len ≤ cap ∧ cap ≤ maxLen ∧ Rows_ w s len L.length f ∧ ∀ i, i < len → AllOk enc P w base spare held L (f i) := by
  obtain ⟨s, len, cap, f, rfl, _, hr, ha⟩ := open_rows ht hl hC hL h
  refine ⟨s, len, cap, f, rfl, ?_, ?_, hr, ha⟩
  all_goals
    rcases open_slice ht h with ⟨h0, _⟩ | ⟨a, len', cap', mm, n, D, Pl, hcs, hb, hl', hm, _⟩
    · injection h0 with h0 _; injection h0 with h1 h2 h3; omega
    · injection hcs with h0 _; injection h0 with h1 h2 h3; omega
theorem ev_of {len : Nat} {f : Nat → List Value} (h : ∀ i, i < len → AllOk enc P w base spare held [.int .u8, .int .i64, .int .i64, .int .i64, .int .i64, .int .i64, .str] (f i)) : ∃ O : Nat → Ev, ∀ i, i < len → f i = evC (O i) ∧ 0 ≤ (O i).k ∧ (O i).k ≤ 255 := by
  refine choose_lt (p := fun i x => f i = evC x ∧ 0 ≤ x.k ∧ x.k ≤ 255) fun i hi => ?_
  have h := h i hi
  generalize f i = l at h ⊢
  obtain ⟨c0, t0, rfl, ⟨a0, rfl, w0⟩, g0⟩ := allOk_cons h
  obtain ⟨c1, t1, rfl, ⟨a1, rfl, _⟩, g1⟩ := allOk_cons g0
  obtain ⟨c2, t2, rfl, ⟨a2, rfl, _⟩, g2⟩ := allOk_cons g1
  obtain ⟨c3, t3, rfl, ⟨a3, rfl, _⟩, g3⟩ := allOk_cons g2
  obtain ⟨c4, t4, rfl, ⟨a4, rfl, _⟩, g4⟩ := allOk_cons g3
  obtain ⟨c5, t5, rfl, ⟨a5, rfl, _⟩, g5⟩ := allOk_cons g4
  obtain ⟨c6, t6, rfl, ⟨a6, rfl, _⟩, g6⟩ := allOk_cons g5
  obtain rfl := allOk_nil g6
  exact ⟨⟨a0, a1, a2, a3, a4, a5, a6⟩, rfl, bounds_u8 w0⟩
/-- The rows as a list. -/
theorem ev_list {s : Option Addr} {len : Nat} {f : Nat → List Value} (h : Rows_ w s len 7 f) (ha : ∀ i, i < len → AllOk enc P w base spare held [.int .u8, .int .i64, .int .i64, .int .i64, .int .i64, .int .i64, .str] (f i)) :
    ∃ l : List Ev, l.length = len ∧ Rows_ w s l.length 7 (fun i => evC (l.getD i default)) ∧ ∀ i, i < l.length → 0 ≤ (l.getD i default).k ∧ (l.getD i default).k ≤ 255 := by
  obtain ⟨O, hO⟩ := ev_of ha
  have hg : ∀ i, i < len → ((List.range len).map O).getD i default = O i := fun i hi => by
    simp [List.getD_eq_getElem?_getD, hi]
  refine ⟨(List.range len).map O, by simp, ?_, fun i hi => ?_⟩
  · rw [List.length_map, List.length_range]
    intro hl
    obtain ⟨b, o, hs, hb, hr⟩ := h hl
    refine ⟨b, o, hs, hb, fun i hi => ?_⟩
    simp only [hg i hi]
    rw [← (hO i hi).1]; exact hr i hi
  · rw [List.length_map, List.length_range] at hi
    rw [hg i hi]; exact (hO i hi).2
end
end Go.Proofs.Ythpgmefjgidkgaa

/- How arguments are opened: timers, numbers, bytes. -/
import Derived.Test.YtkicofagjebnjaaOp2
import Derived.Test.YtkicofagjebnjaaSp7
namespace Go.Proofs.Ytkicofagjebnjaa
set_option linter.unusedVariables false
set_option linter.unusedSimpArgs false
open Go.ChangeShapes Go.WideShapes Go.ChangeAt Go.RowKit Go.Deep
section
variable {H : Type} {enc : TypeId × Value → H} {P : Program} {w : World} {base : Nat} {spare : Nat → Bool} {held : Bool}
theorem open_rows7 {t e : TypeId} {m nl : Nat} {L : List Lf} {c : Value} {x : DataW H × List MemPlace} (ht : P.underlying t = some (.slice e)) (hl : lay P nl e = some L) (hC : P.cellsOf e = L.length) (hL : 0 < L.length)
    (h : DataW.trod enc P w base spare held m t [c] = some x) :
    ∃ (s : Option Addr) (len cap : Nat) (f : Nat → List Value), c = .slice s len cap ∧ len ≤ cap ∧ cap ≤ maxLen ∧ Rows_ w s len L.length f ∧ ∀ i, i < len → AllOk enc P w base spare held L (f i) := by
  obtain ⟨s, len, cap, f, rfl, _, hr, ha⟩ := open_rows ht hl hC hL h
  refine ⟨s, len, cap, f, rfl, ?_, ?_, hr, ha⟩
  all_goals
    rcases open_slice ht h with ⟨h0, _⟩ | ⟨a, len', cap', mm, n, D, Pl, hcs, hb, hl', hm, _⟩
    · injection h0 with h0 _; injection h0 with h1 h2 h3; omega
    · injection hcs with h0 _; injection h0 with h1 h2 h3; omega
/-- The rows as a list. -/
theorem list_of {α : Type} [Inhabited α] {g : α → List Value} {s : Option Addr} {len n : Nat} {f : Nat → List Value} {p : α → Prop} (h : Rows_ w s len n f) (hx : ∃ O : Nat → α, ∀ i, i < len → f i = g (O i) ∧ p (O i)) :
    ∃ l : List α, l.length = len ∧ Rows_ w s l.length n (fun i => g (l.getD i default)) ∧ ∀ i, i < l.length → p (l.getD i default) := by
  obtain ⟨O, hO⟩ := hx
  have hg : ∀ i, i < len → ((List.range len).map O).getD i default = O i := fun i hi => by
    simp [List.getD_eq_getElem?_getD, hi]
  refine ⟨(List.range len).map O, by simp, ?_, fun i hi => ?_⟩
  · rw [List.length_map, List.length_range]
    intro hl
    obtain ⟨b, o, hs, hb, hr⟩ := h hl
    refine ⟨b, o, hs, hb, fun i hi => ?_⟩
    simp only [hg i hi]
    rw [← (hO i hi).1]; exact hr i hi
  · rw [List.length_map, List.length_range] at hi
    rw [hg i hi]; exact (hO i hi).2
theorem tmr_list {s : Option Addr} {len : Nat} {f : Nat → List Value} (h : Rows_ w s len 2 f) (ha : ∀ i, i < len → AllOk enc P w base spare held [.int .i64, .int .i64] (f i)) :
    ∃ l : List Tmr, l.length = len ∧ Rows_ w s l.length 2 (fun i => tmrC (at_ l i)) := by
  obtain ⟨l, h1, h2, _⟩ := list_of (g := tmrC) (p := fun _ => True) h (choose_lt (p := fun i x => f i = tmrC x ∧ True) fun i hi => by
    have h := ha i hi
    generalize f i = l at h ⊢
    obtain ⟨c0, t0, rfl, ⟨a0, rfl, _⟩, g0⟩ := allOk_cons h
    obtain ⟨c1, t1, rfl, ⟨a1, rfl, _⟩, g1⟩ := allOk_cons g0
    obtain rfl := allOk_nil g1
    exact ⟨⟨a0, a1⟩, rfl, trivial⟩)
  exact ⟨l, h1, h2⟩
theorem num_list {s : Option Addr} {len : Nat} {f : Nat → List Value} (h : Rows_ w s len 1 f) (ha : ∀ i, i < len → AllOk enc P w base spare held [.int .i64] (f i)) :
    ∃ l : List Int, l.length = len ∧ Rows_ w s l.length 1 (fun i => numC (l.getD i 0)) := by
  obtain ⟨l, h1, h2, _⟩ := list_of (α := Int) (g := numC) (p := fun _ => True) h (choose_lt (p := fun i x => f i = numC x ∧ True) fun i hi => by
    have h := ha i hi
    generalize f i = l at h ⊢
    obtain ⟨c0, t0, rfl, ⟨a0, rfl, _⟩, g0⟩ := allOk_cons h
    obtain rfl := allOk_nil g0
    exact ⟨a0, rfl, trivial⟩)
  exact ⟨l, h1, h2⟩
def bytC (x : Int) : List Value := [.int .u8 x]
theorem byt_list {s : Option Addr} {len : Nat} {f : Nat → List Value} (h : Rows_ w s len 1 f) (ha : ∀ i, i < len → AllOk enc P w base spare held [.int .u8] (f i)) :
    ∃ l : List Int, l.length = len ∧ Rows_ w s l.length 1 (fun i => bytC (l.getD i 0)) ∧ ∀ i, i < l.length → 0 ≤ l.getD i 0 ∧ l.getD i 0 ≤ 255 := by
  obtain ⟨l, h1, h2, h3⟩ := list_of (α := Int) (g := bytC) (p := fun x => 0 ≤ x ∧ x ≤ 255) h (choose_lt (p := fun i x => f i = bytC x ∧ 0 ≤ x ∧ x ≤ 255) fun i hi => by
    have h := ha i hi
    generalize f i = l at h ⊢
    obtain ⟨c0, t0, rfl, ⟨a0, rfl, w0⟩, g0⟩ := allOk_cons h
    obtain rfl := allOk_nil g0
    exact ⟨a0, rfl, bounds_u8 w0⟩)
  exact ⟨l, h1, h2, h3⟩
end
end Go.Proofs.Ytkicofagjebnjaa

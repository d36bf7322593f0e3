/- How arguments are opened: slices, their lengths and what they may hold; instructions, outcomes, numbers. -/
import Derived.Test.YtpfkpdimjljeaaaOp2
import Derived.Test.YtpfkpdimjljeaaaN10
import Derived.Test.YtpfkpdimjljeaaaI10
namespace Go.Proofs.Ytpfkpdimjljeaaa
set_option linter.unusedVariables false
set_option linter.unusedSimpArgs false
open Go.ChangeShapes Go.WideShapes Go.ChangeAt Go.RowKit Go.Deep

section
variable {H : Type} {enc : TypeId × Value → H} {P : Program} {w : World} {base : Nat} {spare : Nat → Bool} {held : Bool}
theorem open_rows2 {t e : TypeId} {m nl : Nat} {L : List Lf} {c : Value} {x : DataW H × List MemPlace} (ht : P.underlying t = some (.slice e)) (hl : lay P nl e = some L) (hC : P.cellsOf e = L.length) (hL : 0 < L.length)
    (h : DataW.trod enc P w base spare held m t [c] = some x) :
    ∃ (s : Option Addr) (len cap : Nat) (f : Nat → List Value), c = .slice s len cap ∧ len ≤ cap ∧ cap ≤ maxLen ∧ Rows_ w s len L.length f ∧ ∀ i, i < len → AllOk enc P w base spare held L (f i) := by
  obtain ⟨s, len, cap, f, rfl, _, hr, ha⟩ := open_rows ht hl hC hL h
  refine ⟨s, len, cap, f, rfl, ?_, ?_, hr, ha⟩
  all_goals
    rcases open_slice ht h with ⟨h0, _⟩ | ⟨a, len', cap', mm, n, D, Pl, hcs, hb, hl', hm, _⟩
    · injection h0 with h0 _; injection h0 with h1 h2 h3; omega
    · injection hcs with h0 _; injection h0 with h1 h2 h3; omega
theorem ins_of {len : Nat} {f : Nat → List Value} (h : ∀ i, i < len → AllOk enc P w base spare held [.int .u8, .int .i64, .int .i64, .int .i64, .int .i64, .str] (f i)) : ∃ O : Nat → Ins, ∀ i, i < len → f i = insC (O i) := by
  refine choose_lt (p := fun i x => f i = insC x) fun i hi => ?_
  have h := h i hi
  generalize f i = l at h ⊢
  obtain ⟨c0, t0, rfl, ⟨a0, rfl, _⟩, g0⟩ := allOk_cons h
  obtain ⟨c1, t1, rfl, ⟨a1, rfl, _⟩, g1⟩ := allOk_cons g0
  obtain ⟨c2, t2, rfl, ⟨a2, rfl, _⟩, g2⟩ := allOk_cons g1
  obtain ⟨c3, t3, rfl, ⟨a3, rfl, _⟩, g3⟩ := allOk_cons g2
  obtain ⟨c4, t4, rfl, ⟨a4, rfl, _⟩, g4⟩ := allOk_cons g3
  obtain ⟨c5, t5, rfl, ⟨a5, rfl, _⟩, g5⟩ := allOk_cons g4
  obtain rfl := allOk_nil g5
  exact ⟨⟨a0, a1, a2, a3, a4, a5⟩, rfl⟩
instance : Inhabited Kno := ⟨⟨0, ⟨0, 0⟩⟩⟩
theorem kno_of {len : Nat} {f : Nat → List Value} (h : ∀ i, i < len → AllOk enc P w base spare held [.int .i64, .int .i64, .int .i64] (f i)) : ∃ O : Nat → Kno, ∀ i, i < len → f i = knoC (O i) := by
  refine choose_lt (p := fun i x => f i = knoC x) fun i hi => ?_
  have h := h i hi
  generalize f i = l at h ⊢
  obtain ⟨c0, t0, rfl, ⟨a0, rfl, _⟩, g0⟩ := allOk_cons h
  obtain ⟨c1, t1, rfl, ⟨a1, rfl, _⟩, g1⟩ := allOk_cons g0
  obtain ⟨c2, t2, rfl, ⟨a2, rfl, _⟩, g2⟩ := allOk_cons g1
  obtain rfl := allOk_nil g2
  exact ⟨⟨a0, ⟨a1, a2⟩⟩, rfl⟩
theorem num_of {len : Nat} {f : Nat → List Value} (h : ∀ i, i < len → AllOk enc P w base spare held [.int .i64] (f i)) : ∃ O : Nat → Int, ∀ i, i < len → f i = [.int .i64 (O i)] := by
  refine choose_lt (p := fun i x => f i = [.int .i64 x]) fun i hi => ?_
  have h := h i hi
  generalize f i = l at h ⊢
  obtain ⟨c0, t0, rfl, ⟨a0, rfl, _⟩, g0⟩ := allOk_cons h
  obtain rfl := allOk_nil g0
  exact ⟨a0, rfl⟩
end
theorem rows_cong {w : World} {s : Option Addr} {len n : Nat} {f g : Nat → List Value} (h : Rows_ w s len n f) (hf : ∀ i, i < len → f i = g i) : Rows_ w s len n g := fun hl => by
  obtain ⟨b, o, hs, hb, hr⟩ := h hl
  exact ⟨b, o, hs, hb, fun i hi => by rw [← hf i hi]; exact hr i hi⟩
end Go.Proofs.Ytpfkpdimjljeaaa

/- How arguments are opened: the cells of a type, leaf by leaf (whole numbers, bools, strings, slices), and what each holds. -/
import Derived.OpenShut
import Derived.ShutString
import Derived.SizedLaws
import Derived.ProofKit
namespace Go.Proofs.Ytkicofagjebnjaa
set_option linter.unusedVariables false
set_option linter.unusedSimpArgs false
open Go.ChangeShapes Go.WideShapes Go.ChangeAt Go.RowKit

/-- A leaf of a type's cells. -/
inductive Lf where
  | int (k : IntKind)
  | bool
  | str
  | sl (t : TypeId)

/-- The cells of some fields, one behind the other. -/
def layFs (P : Program) (lay : TypeId → Option (List Lf)) : Nat → List Field → Option (List Lf)
  | _, [] => some []
  | off, f :: fs =>
    match lay f.type with
    | none => none
    | some l => if f.offset = off ∧ P.cellsOf f.type = l.length then
        match layFs P lay (off + l.length) fs with
        | none => none
        | some r => some (l ++ r)
      else none
def layAr (l : List Lf) : Nat → List Lf
  | 0 => []
  | n + 1 => l ++ layAr l n
/-- The cells of a type. -/
def lay (P : Program) : Nat → TypeId → Option (List Lf)
  | 0, _ => none
  | n + 1, t =>
    match P.underlying t with
    | some .bool => some [.bool]
    | some (.int k) => some [.int k]
    | some .string => some [.str]
    | some (.slice _) => some [.sl t]
    | some (.struct fs) => layFs P (lay P n) 0 fs.toList
    | some (.array k e) => match lay P n e with
      | none => none
      | some l => if P.cellsOf e = l.length then some (layAr l k) else none
    | _ => none

section
variable {H : Type} (enc : TypeId × Value → H) (P : Program) (w : World) (base : Nat) (spare : Nat → Bool) (held : Bool)
/-- What a leaf's cell holds. -/
def LfOk : Lf → Value → Prop
  | .int k, c => ∃ n, c = .int k n ∧ (Lit.int k n).wf = true
  | .bool, c => ∃ b, c = .bool b
  | .str, c => ∃ s : ByteArray, c = .string s ∧ s.size ≤ maxLen
  | .sl t, c => ∃ m y, DataW.trod enc P w base spare held m t [c] = some y
def AllOk : List Lf → List Value → Prop
  | [], [] => True
  | l :: ls, c :: cs => LfOk enc P w base spare held l c ∧ AllOk ls cs
  | _, _ => False
end

section
variable {H : Type} {enc : TypeId × Value → H} {P : Program} {w : World} {base : Nat} {spare : Nat → Bool} {held : Bool}
theorem AllOk.length : ∀ {L : List Lf} {cs : List Value}, AllOk enc P w base spare held L cs → cs.length = L.length
  | [], [], _ => rfl
  | _ :: _, _ :: _, h => by simp [AllOk.length h.2]
  | [], _ :: _, h => h.elim
  | _ :: _, [], h => h.elim
theorem AllOk.app : ∀ {L M : List Lf} {cs ds : List Value}, AllOk enc P w base spare held L cs → AllOk enc P w base spare held M ds → AllOk enc P w base spare held (L ++ M) (cs ++ ds)
  | [], _, [], _, _, k => k
  | _ :: _, _, _ :: _, _, h, k => ⟨h.1, AllOk.app h.2 k⟩
  | [], _, _ :: _, _, h, _ => h.elim
  | _ :: _, _, [], _, h, _ => h.elim
theorem AllOk.join {L M : List Lf} {cs : List Value} (h : AllOk enc P w base spare held L (cs.take L.length)) (k : AllOk enc P w base spare held M (cs.drop L.length)) : AllOk enc P w base spare held (L ++ M) cs := by
  have := AllOk.app h k; rwa [List.take_append_drop] at this
theorem AllOk.get : ∀ {L : List Lf} {cs : List Value}, AllOk enc P w base spare held L cs → ∀ (i : Nat) (l : Lf) (c : Value), L[i]? = some l → cs[i]? = some c → LfOk enc P w base spare held l c
  | [], [], _, i, _, _, h, _ => by simp at h
  | _ :: _, _ :: _, h, 0, l, c, hl, hc => by simp at hl hc; subst hl hc; exact h.1
  | _ :: _, _ :: _, h, i + 1, l, c, hl, hc => AllOk.get h.2 i l c (by simpa using hl) (by simpa using hc)
  | [], _ :: _, h, _, _, _, _, _ => h.elim
  | _ :: _, [], h, _, _, _, _, _ => h.elim

theorem layFs_ok {n : Nat} {lay' : TypeId → Option (List Lf)}
    (IH : ∀ (t : TypeId) (L : List Lf) (cs : List Value) (x : DataW H × List MemPlace), lay' t = some L → P.cellsOf t = L.length → DataW.trod enc P w base spare held n t cs = some x → AllOk enc P w base spare held L cs) :
    ∀ (fs : List Field) (off : Nat) (L : List Lf) (cs : List Value) (xs : List (DataW H × List MemPlace)),
      layFs P lay' off fs = some L → cs.length = off + L.length → xs.length = fs.length →
      (∀ (i : Nat) (f : Field), fs[i]? = some f → DataW.trod enc P w base spare held n f.type ((cs.drop f.offset).take (P.cellsOf f.type)) = xs[i]?) →
      AllOk enc P w base spare held L (cs.drop off)
  | [], off, L, cs, xs, hl, hc, _, _ => by
    simp [layFs] at hl; subst hl
    have : cs.drop off = [] := List.drop_eq_nil_of_le (by simp at hc; omega)
    rw [this]; trivial
  | f :: fs, off, L, cs, xs, hl, hc, hx, hF => by
    unfold layFs at hl
    split at hl
    · cases hl
    · rename_i l hlay
      split at hl
      · rename_i hoff
        split at hl
        · cases hl
        · rename_i r hr
          injection hl with hl; subst hl
          obtain ⟨ho, hcell⟩ := hoff
          match xs, hx with
          | x :: xs, hx =>
            have h0 := hF 0 f rfl
            simp only [List.getElem?_cons_zero, ho, hcell] at h0
            have a1 := IH _ _ _ _ hlay hcell h0
            have a2 := layFs_ok IH fs (off + l.length) r cs xs hr (by rw [hc]; simp; omega) (by simpa using hx) (fun i g hg => by
              have := hF (i + 1) g (by simpa using hg); simpa using this)
            refine AllOk.join a1 ?_
            rw [List.drop_drop]; exact a2
      · cases hl

theorem layAr_len (l : List Lf) : ∀ k, (layAr l k).length = k * l.length
  | 0 => by simp [layAr]
  | k + 1 => by simp [layAr, layAr_len l k, Nat.add_mul]; omega
theorem layAr_ok {l : List Lf} : ∀ (k : Nat) (cs : List Value), cs.length = k * l.length →
    (∀ i, i < k → AllOk enc P w base spare held l ((cs.drop (i * l.length)).take l.length)) → AllOk enc P w base spare held (layAr l k) cs
  | 0, cs, hc, _ => by
    have : cs = [] := List.length_eq_zero_iff.1 (by simpa using hc)
    subst this; trivial
  | k + 1, cs, hc, h => by
    refine AllOk.join (by simpa using h 0 (by omega)) (layAr_ok k _ (by simp [hc, Nat.add_mul]) (fun i hi => ?_))
    have := h (i + 1) (by omega)
    rw [List.drop_drop]; rw [show l.length + i * l.length = (i + 1) * l.length by rw [Nat.add_mul]; omega]; exact this

/-- WHAT A TYPE's CELLS HOLD. -/
theorem lay_ok : ∀ (n m : Nat) (t : TypeId) (L : List Lf) (cs : List Value) (x : DataW H × List MemPlace), lay P n t = some L → DataW.trod enc P w base spare held m t cs = some x → (P.cellsOf t = L.length) → AllOk enc P w base spare held L cs
  | 0, _, _, _, _, _, h, _, _ => by simp [lay] at h
  | n + 1, m, t, L, cs, x, h, hx, hC => by
    unfold lay at h
    split at h
    · rename_i hu; injection h with h; subst h
      obtain ⟨b, rfl, _⟩ := DataW.trod_bool hu hx
      exact ⟨⟨b, rfl⟩, trivial⟩
    · rename_i k hu; injection h with h; subst h
      obtain ⟨a, rfl, _, hw⟩ := DataW.trod_int hu hx
      exact ⟨⟨a, rfl, hw⟩, trivial⟩
    · rename_i hu; injection h with h; subst h
      obtain ⟨a, rfl, _, hw⟩ := DataW.trod_string hu hx
      exact ⟨⟨a, rfl, hw⟩, trivial⟩
    · rename_i e hu; injection h with h; subst h
      rcases DataW.trod_slice hu hx with ⟨rfl, _⟩ | ⟨a, len, cap, _, _, _, _, rfl, _⟩
      · exact ⟨⟨m, x, hx⟩, trivial⟩
      · exact ⟨⟨m, x, hx⟩, trivial⟩
    · rename_i fs hu
      obtain ⟨xs, m', rfl, _, hl, hlen, hF⟩ := DataW.trod_struct hu hx
      have hcl : cs.length = 0 + L.length := by omega
      have := layFs_ok (enc := enc) (w := w) (base := base) (spare := spare) (held := held) (n := m') (lay' := lay P n)
        (fun t L cs x ht hC hx => lay_ok n m' t L cs x ht hx hC) fs.toList 0 L cs xs h hcl (by simpa using hlen) (fun i f hf => hF i f (by simpa using hf))
      simpa using this
    · rename_i k e hu
      split at h
      · cases h
      · rename_i l hl
        split at h
        · rename_i hce
          injection h with h; subst h
          obtain ⟨xs, m', rfl, _, hcs, hlen, hF⟩ := DataW.trod_array hu hx
          refine layAr_ok k cs (by rw [hcs, hC, layAr_len]) (fun i hi => ?_)
          have := hF i hi
          rw [hce] at this
          obtain ⟨y, hy⟩ : ∃ y, xs[i]? = some y := ⟨xs[i], by simp [hlen, hi]⟩
          exact lay_ok n m' e l _ y hl (this.trans hy) hce
        · cases h
    · cases h

theorem allOk_cons {l : Lf} {L : List Lf} {cs : List Value} (h : AllOk enc P w base spare held (l :: L) cs) : ∃ c cs', cs = c :: cs' ∧ LfOk enc P w base spare held l c ∧ AllOk enc P w base spare held L cs' := by
  cases cs with
  | nil => exact h.elim
  | cons c cs => exact ⟨c, cs, rfl, h.1, h.2⟩
theorem allOk_nil {cs : List Value} (h : AllOk enc P w base spare held [] cs) : cs = [] := by
  cases cs with
  | nil => rfl
  | cons c cs => exact h.elim
/-- A struct or an array by value. -/
theorem open_agg {t : TypeId} {n : Nat} {L : List Lf} {r : Reach} {b0 : Nat} {v : Value} {d : DataW H} {ps : List MemPlace} (hu : (∃ fs, P.underlying t = some (.struct fs)) ∨ ∃ k e, P.underlying t = some (.array k e))
    (hl : lay P n t = some L) (hC : P.cellsOf t = L.length) (hv : Value.okWide P w r b0 t v) (h : DataW.Trod enc P w base spare held t v d ps) : ∃ cs : List Value, v = .agg cs.toArray ∧ AllOk enc P w base spare held L cs := by
  have : ∃ cs, v = .agg cs ∧ cs.size = P.cellsOf t := by
    rcases hu with ⟨fs, hu⟩ | ⟨k, e, hu⟩
    · exact okWide_struct hu hv
    · simp only [Value.okWide, hu] at hv
      obtain ⟨cs, h1, h2, _⟩ := hv
      exact ⟨cs, h1, h2⟩
  obtain ⟨cs, rfl, hs⟩ := this
  obtain ⟨m, hm⟩ := h
  exact ⟨cs.toList, by simp, lay_ok n m t L cs.toList _ hl (by simpa [Value.cells] using hm) hC⟩
theorem lt_of_Trod {t : TypeId} {v : Value} {d : DataW H} {ps : List MemPlace} (h : DataW.Trod enc P w base spare held t v d ps) : ∀ x ∈ ps, x.block < w.heap.size := by
  obtain ⟨m, hm⟩ := h; exact DataW.trod_lt m _ _ _ hm
end
end Go.Proofs.Ytkicofagjebnjaa

/- How commands and outcomes lie in memory; the first outcome of a number. -/
import Derived.Test.YthpgmefjgidkgaaS12
import Derived.Test.YthpgmefjgidkgaaWk
namespace Go.Proofs.Ythpgmefjgidkgaa
open Go.RowKit
set_option linter.unusedVariables false
set_option linter.unusedSimpArgs false

theorem cmd_info : (Try.prog.info? 56).map (fun i => (i.zero, i.size, i.bytes)) = some (some (.agg #[.int .i64 0, .int .u8 0, .string ⟨#[]⟩, .int .i64 0, .int .i64 0]), 5, 48) := by kernel_rfl
theorem kno_info : (Try.prog.info? 44).map (fun i => (i.zero, i.size, i.bytes)) = some (some (.agg #[.int .i64 0, .int .i64 0, .int .i64 0]), 3, 24) := by kernel_rfl
/-- A command's cells; an outcome's. -/
def cmdC (x : Cmd) : List Value := [.int .i64 x.n, .int .u8 x.kind, .string x.s, .int .i64 x.arg, .int .i64 x.policy]
def knoC (x : Kno) : List Value := [.int .i64 x.n, .int .i64 x.out.st, .int .i64 x.out.v]
def numC (x : Int) : List Value := [.int .i64 x]
theorem oneCell_cmd (x : Cmd) : ∀ u ∈ cmdC x, u.oneCell' = true := by
  intro u hu
  simp only [cmdC, List.mem_cons, List.not_mem_nil, or_false] at hu
  rcases hu with rfl | rfl | rfl | rfl | rfl <;> rfl
theorem oneCell_kno (x : Kno) : ∀ u ∈ knoC x, u.oneCell' = true := by
  intro u hu
  simp only [knoC, List.mem_cons, List.not_mem_nil, or_false] at hu
  rcases hu with rfl | rfl | rfl <;> rfl
theorem oneCell_num (x : Int) : ∀ u ∈ numC x, u.oneCell' = true := by
  intro u hu
  simp only [numC, List.mem_cons, List.not_mem_nil, or_false] at hu
  rcases hu with rfl
  rfl
theorem kno_cells {w W1 : World} {s : Option Addr} {len : Nat} {K : Nat → Kno} (h : Rows_ w s len 3 (fun i => knoC (K i))) (hx : Ext w W1) {i : Nat} (hi : i < len) :
    ∃ b o, s = some ⟨b, o, none⟩ ∧ b < W1.heap.size ∧ W1.cell? ⟨b, o + i * 3, none⟩ = some (.int .i64 (K i).n) ∧ W1.cell? ⟨b, o + i * 3 + 1, none⟩ = some (.int .i64 (K i).out.st) ∧ W1.cell? ⟨b, o + i * 3 + 2, none⟩ = some (.int .i64 (K i).out.v) := by
  obtain ⟨b, o, rfl, hb, hr⟩ := h (by omega)
  have hk : ∀ k, k < 3 → W1.cell? ⟨b, o + i * 3 + k, none⟩ = (knoC (K i))[k]? := fun k hk => by
    rw [hx.cell (p := ⟨b, o + i * 3 + k, none⟩) hb, ← (hr i hi).2 k hk, Nat.add_assoc]
  exact ⟨b, o, rfl, Nat.lt_of_lt_of_le hb hx.size, hk 0 (by decide), hk 1 (by decide), hk 2 (by decide)⟩
theorem cmd_cells {w W1 : World} {s : Option Addr} {len : Nat} {C : Nat → Cmd} (h : Rows_ w s len 5 (fun i => cmdC (C i))) (hx : Ext w W1) {i : Nat} (hi : i < len) :
    ∃ b o, s = some ⟨b, o, none⟩ ∧ b < W1.heap.size ∧ W1.cell? ⟨b, o + i * 5, none⟩ = some (.int .i64 (C i).n) ∧ W1.cell? ⟨b, o + i * 5 + 1, none⟩ = some (.int .u8 (C i).kind) ∧ W1.cell? ⟨b, o + i * 5 + 2, none⟩ = some (.string (C i).s) ∧
      W1.cell? ⟨b, o + i * 5 + 3, none⟩ = some (.int .i64 (C i).arg) ∧ W1.cell? ⟨b, o + i * 5 + 4, none⟩ = some (.int .i64 (C i).policy) := by
  obtain ⟨b, o, rfl, hb, hr⟩ := h (by omega)
  have hk : ∀ k, k < 5 → W1.cell? ⟨b, o + i * 5 + k, none⟩ = (cmdC (C i))[k]? := fun k hk => by
    rw [hx.cell (p := ⟨b, o + i * 5 + k, none⟩) hb, ← (hr i hi).2 k hk, Nat.add_assoc]
  exact ⟨b, o, rfl, Nat.lt_of_lt_of_le hb hx.size, hk 0 (by decide), hk 1 (by decide), hk 2 (by decide), hk 3 (by decide), hk 4 (by decide)⟩
theorem num_cell {w W1 : World} {s : Option Addr} {len : Nat} {V : Nat → Int} (h : Rows_ w s len 1 (fun i => numC (V i))) (hx : Ext w W1) {i : Nat} (hi : i < len) : ∃ b o, s = some ⟨b, o, none⟩ ∧ b < W1.heap.size ∧ W1.cell? ⟨b, o + i, none⟩ = some (.int .i64 (V i)) := by
  obtain ⟨b, o, rfl, hb, hr⟩ := h (by omega)
  have := (hr i hi).2 0 (by decide)
  refine ⟨b, o, rfl, Nat.lt_of_lt_of_le hb hx.size, ?_⟩
  rw [hx.cell (p := ⟨b, o + i, none⟩) hb]
  simpa [numC] using this
theorem rows_take {w : World} {s : Option Addr} {len n : Nat} {f : Nat → List Value} {m : Nat} (h : Rows_ w s len n f) (hm : m ≤ len) : Rows_ w s m n f := fun hl => by
  obtain ⟨b, o, hs, hb, hr⟩ := h (by omega)
  exact ⟨b, o, hs, hb, fun i hi => hr i (by omega)⟩
/-- The first outcome of a number. -/
def knI (L : List Kno) (m : Int) : Option Nat := L.findIdx? fun k => decide (k.n = m)
def knO (L : List Kno) (m : Int) : Option Out := (L.find? fun k => decide (k.n = m)).map (·.out)
/-- What a search tells. -/
def idxI (o : Option Nat) : Int := match o with | some i => (i : Int) | none => -1
theorem knI_spec (L : List Kno) (m : Int) : (knI L m = none ∧ knO L m = none ∧ ∀ j, j < L.length → (L.getD j default).n ≠ m) ∨ (∃ i, i < L.length ∧ knI L m = some i ∧ knO L m = some (L.getD i default).out ∧ (L.getD i default).n = m ∧ ∀ j, j < i → (L.getD j default).n ≠ m) := by
  unfold knI knO
  induction L with
  | nil => left; simp
  | cons a L ih =>
    rw [List.findIdx?_cons, List.find?_cons]
    by_cases ha : a.n = m
    · right
      rw [decide_eq_true ha]
      exact ⟨0, by simp, rfl, by simp, by simpa using ha, fun j hj => by omega⟩
    · rw [decide_eq_false ha]
      rcases ih with ⟨h1, h2, h3⟩ | ⟨i, h0, h1, h2, h3, h4⟩
      · left
        refine ⟨by simp [h1], by simpa using h2, fun j hj => ?_⟩
        cases j with
        | zero => simpa using ha
        | succ j => simpa using h3 j (by simpa using hj)
      · right
        refine ⟨i + 1, by simpa using h0, by simp [h1], by simpa using h2, by simpa using h3, fun j hj => ?_⟩
        cases j with
        | zero => simpa using ha
        | succ j => simpa using h4 j (by omega)
theorem knI_some {L : List Kno} {m : Int} {i : Nat} (hi : i < L.length) (h : (L.getD i default).n = m) (hn : ∀ j, j < i → (L.getD j default).n ≠ m) : knI L m = some i := by
  rcases knI_spec L m with ⟨h1, h2, h3⟩ | ⟨i', h0, h1, h2, h3, h4⟩
  · exact absurd h (h3 i hi)
  · rcases Nat.lt_trichotomy i i' with hlt | rfl | hlt
    · exact absurd h (h4 i hlt)
    · exact h1
    · exact absurd h3 (hn i' hlt)
theorem knI_none {L : List Kno} {m : Int} (hn : ∀ j, j < L.length → (L.getD j default).n ≠ m) : knI L m = none := by
  rcases knI_spec L m with ⟨h1, h2, h3⟩ | ⟨i', h0, h1, h2, h3, h4⟩
  · exact h1
  · exact absurd h3 (hn i' h0)
end Go.Proofs.Ythpgmefjgidkgaa

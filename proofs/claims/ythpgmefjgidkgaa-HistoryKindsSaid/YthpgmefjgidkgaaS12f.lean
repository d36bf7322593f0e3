/- What is over, and what is open: plain. -/
import Derived.Test.YthpgmefjgidkgaaS12e
namespace Go.Proofs.Ythpgmefjgidkgaa
set_option linter.unusedVariables false
set_option linter.unusedSimpArgs false
def openK (h : Hs) : Nat → List Int
  | 0 => []
  | k + 1 => if (knO h.known ((k : Int) + 1)).isNone = true then openK h k ++ [(k : Int) + 1] else openK h k
def openL (h : Hs) : List Int := openK h h.cmds.length
theorem kn_ne {h : Hs} (r : ∀ i, i < h.known.length → knoOk h i = true) {i j : Nat} (hi : i < h.known.length) (hj : j < h.known.length) (hne : i ≠ j) : (h.known.getD i default).n ≠ (h.known.getD j default).n := by
  rcases Nat.lt_or_gt_of_ne hne with h1 | h1
  · exact (knoOk_p hj (r j hj)).2.2.1 i h1
  · exact fun e => (knoOk_p hi (r i hi)).2.2.1 j h1 e.symm
/-- What is known of a number that is over. -/
theorem knO_at {h : Hs} (r : ∀ i, i < h.known.length → knoOk h i = true) {i : Nat} (hi : i < h.known.length) : knO h.known (h.known.getD i default).n = some (h.known.getD i default).out := by
  rcases knI_spec h.known (h.known.getD i default).n with ⟨_, _, h3⟩ | ⟨j, hj, _, h2, h3, _⟩
  · exact absurd rfl (h3 i hi)
  · have : j = i := by
      by_cases e : j = i
      · exact e
      · exact absurd h3 (kn_ne r hj hi e)
    rw [h2, this]
theorem openK_cnt (h : Hs) : ∀ k, (openK h k).length + ((List.range k).filter fun (i : Nat) => (knO h.known ((i : Int) + 1)).isSome).length = k
  | 0 => by simp [openK]
  | k + 1 => by
    have ih := openK_cnt h k
    rw [openK, List.range_succ, List.filter_append, List.length_append]
    cases ho : knO h.known ((k : Int) + 1)
    · simp [ho]; omega
    · simp [ho]; omega
/-- Each command is over, or open. -/
theorem open_known {h : Hs} (r : ∀ i, i < h.known.length → knoOk h i = true) : (openL h).length + h.known.length = h.cmds.length := by
  have hc := openK_cnt h h.cmds.length
  suffices hp : (((List.range h.cmds.length).filter fun (i : Nat) => (knO h.known ((i : Int) + 1)).isSome).map fun (i : Nat) => ((i : Int) + 1)).Perm (h.known.map (·.n)) by
    have := hp.length_eq
    simp only [List.length_map] at this
    unfold openL
    omega
  rw [List.perm_ext_iff_of_nodup]
  · intro x
    simp only [List.mem_map, List.mem_filter, List.mem_range]
    constructor
    · rintro ⟨i, ⟨hi, hs⟩, rfl⟩
      rcases knI_spec h.known ((i : Int) + 1) with ⟨_, h2, _⟩ | ⟨j, hj, _, h2, h3, _⟩
      · rw [h2] at hs; cases hs
      · refine ⟨h.known.getD j default, ?_, h3⟩
        rw [List.getD_eq_getElem?_getD, List.getElem?_eq_getElem hj]
        exact List.getElem_mem hj
    · rintro ⟨y, hy, rfl⟩
      obtain ⟨j, hj, rfl⟩ := List.mem_iff_getElem.1 hy
      have e : h.known.getD j default = h.known[j] := by rw [List.getD_eq_getElem?_getD, List.getElem?_eq_getElem hj]; rfl
      obtain ⟨p1, p2, _, _⟩ := knoOk_p hj (r j hj)
      rw [e] at p1 p2
      refine ⟨(h.known[j].n - 1).toNat, ⟨by omega, ?_⟩, by omega⟩
      have e2 : (((h.known[j].n - 1).toNat : Nat) : Int) + 1 = h.known[j].n := by omega
      rw [e2, ← e, knO_at r hj]; rfl
  · refine List.Pairwise.map _ (fun a b hab => ?_) (List.Nodup.sublist List.filter_sublist List.nodup_range)
    omega
  · rw [List.nodup_iff_pairwise_ne, List.pairwise_map, List.pairwise_iff_getElem]
    intro i j hi hj hij
    have := kn_ne r hi hj (by omega)
    simpa [List.getD_eq_getElem?_getD, hi, hj] using this
end Go.Proofs.Ythpgmefjgidkgaa

/- Heaps among what a walk has in memory. -/
import Derived.Test.YtkicofagjebnjaaS07c
import Derived.Test.YtkicofagjebnjaaSp
import Derived.Test.YtkicofagjebnjaaN07
namespace Go.Proofs.Ytkicofagjebnjaa
set_option linter.unusedVariables false
set_option linter.unusedSimpArgs false
open Go.RowKit
def numC (x : Int) : List Value := [.int .i64 x]
theorem num_cell {w W1 : World} {s : Option Addr} {len : Nat} {V : Nat → Int} (h : Rows_ w s len 1 (fun i => numC (V i))) (hx : Ext w W1) {i : Nat} (hi : i < len) : ∃ b o, s = some ⟨b, o, none⟩ ∧ b < W1.heap.size ∧ W1.cell? ⟨b, o + i, none⟩ = some (.int .i64 (V i)) := by
  obtain ⟨b, o, rfl, hb, hr⟩ := h (by omega)
  have := (hr i hi).2 0 (by decide)
  refine ⟨b, o, rfl, Nat.lt_of_lt_of_le hb hx.size, ?_⟩
  rw [hx.cell (p := ⟨b, o + i, none⟩) hb]
  simpa [numC] using this
def heapR (hb mb : Nat) (rg : Option Nat) (S : List Tmr) (most : Int) : Res where
  F := fun q => q = hb ∨ q = mb ∨ rg = some q
  R := fun w => HA w hb mb rg S most
  keep := fun T w w' h c hn => h.chg c (hn hb h.hb (.inl rfl)) (hn mb h.mb (.inr (.inl rfl))) (fun q e => hn q (h.rg q e) (.inr (.inr e)))
  low := fun w q h f => by
    rcases f with f | f | f
    · rw [f]; exact h.hb
    · rw [f]; exact h.mb
    · exact h.rg q f
theorem Has.heapAt {w : World} {L : List Res} {hb mb : Nat} {rg : Option Nat} {S : List Tmr} {most : Int} (h : Has w L) (i : Nat) (hi : L[i]? = some (heapR hb mb rg S most)) : HA w hb mb rg S most := h.at i hi
theorem Has.heap {w w' : World} {L : List Res} {hb mb : Nat} {rg : Option Nat} {S S' : List Tmr} {most : Int} (h : Has w L) (i : Nat) (hi : L[i]? = some (heapR hb mb rg S most)) (p : HPost w w' hb mb rg S' most) : ∃ rg', Has w' (L.set i (heapR hb mb rg' S' most)) := by
  obtain ⟨rg', ha, hc, hr⟩ := p
  refine ⟨rg', h.chg i hi hc (fun k _ e => e) (heapR hb mb rg' S' most) ha (fun k e => ?_)⟩
  rcases e with e | e | e
  · exact .inl (.inl e)
  · exact .inl (.inr (.inl e))
  · rcases hr with hr | ⟨g, hr, hg⟩
    · exact .inl (.inr (.inr (by rw [← hr]; exact e)))
    · rw [hr] at e; injection e with e; exact .inr (by omega)
theorem Has.made {w w' : World} {L : List Res} {l : List Tmr} {e : Ending} (h : Has w L) (p : MadePost w l e w') : ∃ hb mb rg tb M, e = .returned (.tuple #[.pointer (some ⟨hb, 0, none⟩), .map (some tb), .bool true]) ∧ ThM M (mkS l (min l.length 300)) ∧ Has w' (L ++ [heapR hb mb rg (mkS l (min l.length 300)) 1000, mapR tb .i64 M]) := by
  obtain ⟨hb, mb, rg, tb, M, he, ha, hm, hth, hx, h1, h2, h3, h4, h5, h6, h7⟩ := p
  refine ⟨hb, mb, rg, tb, M, he, hth, ?_, List.pairwise_append.2 ⟨h.2, ?_, ?_⟩⟩
  · intro r hr
    rcases List.mem_append.1 hr with hr | hr
    · exact (h.ext hx).1 r hr
    · rcases List.mem_cons.1 hr with rfl | hr
      · exact ha
      · rw [List.mem_singleton.1 hr]; exact hm
  · refine List.pairwise_cons.2 ⟨fun b hb' k f g => ?_, List.pairwise_singleton _ _⟩
    rw [List.mem_singleton.1 hb'] at g
    have g : k = tb := g
    rcases f with f | f | f
    · omega
    · omega
    · exact h5 (by rw [← g]; exact f)
  · intro a ha' b hb' k f g
    have hk := a.low w k (h.1 a ha') f
    rcases List.mem_cons.1 hb' with rfl | hb'
    · rcases g with g | g | g
      · omega
      · omega
      · have := h4 k g; omega
    · rw [List.mem_singleton.1 hb'] at g
      have g : k = tb := g
      omega
/-- A new heap. -/
theorem Has.heapNew {w w' : World} {L : List Res} {hb mb : Nat} {S : List Tmr} {most : Int} (h : Has w L) (x : Ext w w') (ha : HA w' hb mb none S most) (h1 : w.heap.size ≤ hb) (h2 : w.heap.size ≤ mb) : Has w' (L ++ [heapR hb mb none S most]) :=
  h.new x _ ha (fun k e => by
    rcases e with e | e | e
    · omega
    · omega
    · cases e)
theorem mkS_ok (l : List Tmr) : ∀ i, Srt (mkS l i) ∧ Ids (mkS l i)
  | 0 => ⟨Srt.nil, List.nodup_nil⟩
  | i + 1 => by
    obtain ⟨h1, h2⟩ := mkS_ok l i
    rw [mkS]
    split
    · exact ⟨h1, h2⟩
    · rename_i h
      have hn : fnd (at_ l i).id (mkS l i) = none := by
        cases hf : fnd (at_ l i).id (mkS l i) with
        | none => rfl
        | some t => rw [hf] at h; exact absurd rfl h
      exact ⟨ins_srt h1 (fnd_none.1 hn), ids_ins h2 (fnd_none.1 hn)⟩
end Go.Proofs.Ytkicofagjebnjaa

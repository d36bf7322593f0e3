/- Words of the laws of layer 10. -/
import Derived.Test.YtpfkpdimjljeaaaH10d
import Derived.Test.YtpfkpdimjljeaaaP10b
import Derived.Test.YtpfkpdimjljeaaaH10e
namespace Go.Proofs.Ytpfkpdimjljeaaa
open Go.RowKit
set_option linter.unusedVariables false
set_option linter.unusedSimpArgs false

theorem rows_ne_giv' {w : World} {s : Option Addr} {len q : Nat} {C : Nat → Cmd} {arg f : Int} {k1 k2 : Option Addr} {n1 c1 n2 c2 : Nat} (h : Rows_ w s len 5 (fun i => cmdC (C i))) (hq : ∀ i, w.cell? ⟨q, i, none⟩ = (#[.int .i64 arg, .slice k1 n1 c1, .slice k2 n2 c2, .int .i64 f] : Array Value)[i]?) (hl : 0 < len) {b o : Nat} (hs : s = some ⟨b, o, none⟩) : b ≠ q := by
  intro hbe
  obtain ⟨b', o', hs', _, hr⟩ := h hl
  rw [hs] at hs'; injection hs' with e1; injection e1 with e1 e2
  have h1 := (hr 0 hl).2 1 (by decide)
  rw [← e1, hbe, hq] at h1
  generalize o' + (0 * 5 + 1) = j at h1
  rcases j with _ | _ | _ | _ | j
  all_goals simp [cmdC] at h1

theorem rows_same {w : World} {s : Option Addr} {len n : Nat} {f g : Nat → List Value} (h : Rows_ w s len n f) (hf : ∀ i, i < len → f i = g i) : Rows_ w s len n g := fun hl => by
  obtain ⟨b, o, hs, hb, hr⟩ := h hl
  exact ⟨b, o, hs, hb, fun i hi => by rw [← hf i hi]; exact hr i hi⟩
theorem pick_bd (x n : Int) (h : 0 < n) : 0 ≤ x % n ∧ x % n < n := ⟨Int.emod_nonneg x (by omega), Int.emod_lt_of_pos x h⟩
theorem toldF_once (K : Nat → Kno) : ∀ i, Once (toldF K i)
  | 0 => List.Pairwise.nil
  | i + 1 => by
    unfold toldF
    split
    · exact toldF_once K i
    · rename_i h
      refine List.pairwise_append.2 ⟨toldF_once K i, List.pairwise_singleton _ _, fun a ha b hb => ?_⟩
      rw [List.mem_singleton] at hb
      subst hb
      intro hn
      apply h
      unfold inB
      exact List.any_eq_true.2 ⟨a, ha, by simp [hn]⟩
theorem lookK_none {K : Nat → Kno} {len : Nat} {m : Int} (h : lookK K len m = none) {i : Nat} (hi : i < len) : (K i).n ≠ m := by
  unfold lookK at h
  cases hf : (List.range len).find? (fun i => decide ((K i).n = m)) with
  | some j => rw [hf] at h; cases h
  | none =>
    have := List.find?_eq_none.1 hf i (List.mem_range.2 hi)
    simpa using this
theorem runP_st (I : Nat → Ins) (look : Int → Option Out) (sg : Nat → Option Int) : ∀ (n : Nat) (x : Rs), (runP I look sg n x).st = 1 ∨ (runP I look sg n x).st = 2 ∨ (runP I look sg n x).st = 3 ∨ (runP I look sg n x).st = 4 ∨ (runP I look sg n x).st = 5
  | 0, x => .inr (.inr (.inr (.inl rfl)))
  | n + 1, x => by
    rcases step_form (I x.pc.toNat) look sg x with ⟨r, pc, e⟩ | ⟨r, c, hm, e⟩ | ⟨r, v, hv, e⟩ | e | ⟨m, h1, h2, h3, e⟩ | ⟨hv, e⟩ | ⟨os, ov, e⟩
    · rw [runP_go e]; exact runP_st I look sg n _
    · rw [runP_go e]; exact runP_st I look sg n _
    · rw [runP_go e]; exact runP_st I look sg n _
    · rw [runP_stop e]; simp
    · rw [runP_stop e]; simp
    · rw [runP_stop e]; simp
    · rw [runP_stop e]; simp
end Go.Proofs.Ytpfkpdimjljeaaa

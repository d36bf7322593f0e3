/- A run, in plain: what each instruction does. -/
import Derived.Test.YtpfkpdimjljeaaaS10b
namespace Go.Proofs.Ytpfkpdimjljeaaa
open Go.RowKit
set_option linter.unusedVariables false
set_option linter.unusedSimpArgs false
theorem fits_a {o a b c n : Int} {s : ByteArray} {regs nc pol : Int} (h : fitsB regs nc pol ⟨o, a, b, c, n, s⟩ = true) (hr : regs ≤ 16) (hs : (shapeL o)[0]? = some 114) : 0 ≤ a ∧ a < 16 := by
  unfold fitsB at h
  simp only at h
  split at h
  · rename_i x y z u v' he
    rw [he] at hs
    simp only [List.getElem?_cons_succ, List.getElem?_cons_zero, Option.some.injEq] at hs
    subst hs
    simp only [letB, Bool.and_eq_true, decide_eq_true_eq] at h
    obtain ⟨⟨⟨⟨h1, h2⟩, h3⟩, h4⟩, h5⟩ := h
    omega
  · cases h
theorem fits_b {o a b c n : Int} {s : ByteArray} {regs nc pol : Int} (h : fitsB regs nc pol ⟨o, a, b, c, n, s⟩ = true) (hr : regs ≤ 16) (hs : (shapeL o)[1]? = some 114) : 0 ≤ b ∧ b < 16 := by
  unfold fitsB at h
  simp only at h
  split at h
  · rename_i x y z u v' he
    rw [he] at hs
    simp only [List.getElem?_cons_succ, List.getElem?_cons_zero, Option.some.injEq] at hs
    subst hs
    simp only [letB, Bool.and_eq_true, decide_eq_true_eq] at h
    obtain ⟨⟨⟨⟨h1, h2⟩, h3⟩, h4⟩, h5⟩ := h
    omega
  · cases h
theorem fits_c {o a b c n : Int} {s : ByteArray} {regs nc pol : Int} (h : fitsB regs nc pol ⟨o, a, b, c, n, s⟩ = true) (hr : regs ≤ 16) (hs : (shapeL o)[2]? = some 114) : 0 ≤ c ∧ c < 16 := by
  unfold fitsB at h
  simp only at h
  split at h
  · rename_i x y z u v' he
    rw [he] at hs
    simp only [List.getElem?_cons_succ, List.getElem?_cons_zero, Option.some.injEq] at hs
    subst hs
    simp only [letB, Bool.and_eq_true, decide_eq_true_eq] at h
    obtain ⟨⟨⟨⟨h1, h2⟩, h3⟩, h4⟩, h5⟩ := h
    omega
  · cases h
theorem fits_n {o a b c n : Int} {s : ByteArray} {regs nc pol : Int} (h : fitsB regs nc pol ⟨o, a, b, c, n, s⟩ = true) (hs : (shapeL o)[3]? = some 106) : 0 ≤ n ∧ n < nc := by
  unfold fitsB at h
  simp only at h
  split at h
  · rename_i x y z u v' he
    rw [he] at hs
    simp only [List.getElem?_cons_succ, List.getElem?_cons_zero, Option.some.injEq] at hs
    subst hs
    simp only [letB, Bool.and_eq_true, decide_eq_true_eq] at h
    obtain ⟨⟨⟨⟨h1, h2⟩, h3⟩, h4⟩, h5⟩ := h
    omega
  · cases h
theorem stepP_1 {look : Int → Option Out} {sg : Nat → Option Int} {x : Rs} {a b c n : Int} {s : ByteArray} : stepP ⟨1, a, b, c, n, s⟩ look sg x = (true, { x with pc := x.pc + 1, r := putR x.r a.toNat (n) }) := by
  rfl
theorem stepP_2 {look : Int → Option Out} {sg : Nat → Option Int} {x : Rs} {a b c n : Int} {s : ByteArray} : stepP ⟨2, a, b, c, n, s⟩ look sg x = (true, { x with pc := x.pc + 1, r := putR x.r a.toNat (x.r b.toNat) }) := by
  rfl
theorem stepP_3 {look : Int → Option Out} {sg : Nat → Option Int} {x : Rs} {a b c n : Int} {s : ByteArray} : stepP ⟨3, a, b, c, n, s⟩ look sg x = (true, { x with pc := x.pc + 1, r := putR x.r a.toNat (wrap64 (x.r b.toNat + x.r c.toNat)) }) := by
  rfl
theorem stepP_4 {look : Int → Option Out} {sg : Nat → Option Int} {x : Rs} {a b c n : Int} {s : ByteArray} : stepP ⟨4, a, b, c, n, s⟩ look sg x = (true, { x with pc := x.pc + 1, r := putR x.r a.toNat (wrap64 (x.r b.toNat - x.r c.toNat)) }) := by
  rfl
theorem stepP_5 {look : Int → Option Out} {sg : Nat → Option Int} {x : Rs} {a b c n : Int} {s : ByteArray} : stepP ⟨5, a, b, c, n, s⟩ look sg x = (true, { x with pc := x.pc + 1, r := putR x.r a.toNat (wrap64 (x.r b.toNat * x.r c.toNat)) }) := by
  rfl
theorem stepP_6 {look : Int → Option Out} {sg : Nat → Option Int} {x : Rs} {a b c n : Int} {s : ByteArray} : stepP ⟨6, a, b, c, n, s⟩ look sg x = (true, { x with pc := x.pc + 1, r := putR x.r a.toNat (b2i (decide (x.r b.toNat < x.r c.toNat))) }) := by
  rfl
theorem stepP_7 {look : Int → Option Out} {sg : Nat → Option Int} {x : Rs} {a b c n : Int} {s : ByteArray} : stepP ⟨7, a, b, c, n, s⟩ look sg x = (true, { x with pc := x.pc + 1, r := putR x.r a.toNat (b2i (decide (x.r b.toNat = x.r c.toNat))) }) := by
  rfl
theorem stepP_8 {look : Int → Option Out} {sg : Nat → Option Int} {x : Rs} {a b c n : Int} {s : ByteArray} : stepP ⟨8, a, b, c, n, s⟩ look sg x = (true, { x with pc := n }) := by
  rfl
theorem stepP_9a {look : Int → Option Out} {sg : Nat → Option Int} {x : Rs} (a b c n : Int) (s : ByteArray) (h : x.r a.toNat = 0) : stepP ⟨9, a, b, c, n, s⟩ look sg x = (true, { x with pc := n }) := by
  exact if_pos h
theorem stepP_9b {look : Int → Option Out} {sg : Nat → Option Int} {x : Rs} (a b c n : Int) (s : ByteArray) (h : ¬ x.r a.toNat = 0) : stepP ⟨9, a, b, c, n, s⟩ look sg x = (true, { x with pc := x.pc + 1 }) := by
  exact if_neg h
theorem stepP_10a {look : Int → Option Out} {sg : Nat → Option Int} {x : Rs} (a b c n : Int) (s : ByteArray) (h : x.cmds.length = 200) : stepP ⟨10, a, b, c, n, s⟩ look sg x = (false, { x with pc := x.pc + 1, st := 5 }) := by
  exact if_pos h
theorem stepP_10b {look : Int → Option Out} {sg : Nat → Option Int} {x : Rs} (a b c n : Int) (s : ByteArray) (h : ¬ x.cmds.length = 200) : stepP ⟨10, a, b, c, n, s⟩ look sg x = (true, { x with pc := x.pc + 1, r := putR x.r a.toNat (x.cmds.length + 1), cmds := x.cmds ++ [⟨x.cmds.length + 1, 1, s, x.r b.toNat, c⟩] }) := by
  exact if_neg h
theorem stepP_11a {look : Int → Option Out} {sg : Nat → Option Int} {x : Rs} (a b c n : Int) (s : ByteArray) (h : x.cmds.length = 200) : stepP ⟨11, a, b, c, n, s⟩ look sg x = (false, { x with pc := x.pc + 1, st := 5 }) := by
  exact if_pos h
theorem stepP_11b {look : Int → Option Out} {sg : Nat → Option Int} {x : Rs} (a b c n : Int) (s : ByteArray) (h : ¬ x.cmds.length = 200) : stepP ⟨11, a, b, c, n, s⟩ look sg x = (true, { x with pc := x.pc + 1, r := putR x.r a.toNat (x.cmds.length + 1), cmds := x.cmds ++ [⟨x.cmds.length + 1, 2, s, mx (x.r b.toNat) 0, c⟩] }) := by
  exact if_neg h
theorem stepP_12a {look : Int → Option Out} {sg : Nat → Option Int} {x : Rs} (a b c n : Int) (s : ByteArray) (h : x.cmds.length = 200) : stepP ⟨12, a, b, c, n, s⟩ look sg x = (false, { x with pc := x.pc + 1, st := 5 }) := by
  exact if_pos h
theorem stepP_12b {look : Int → Option Out} {sg : Nat → Option Int} {x : Rs} (a b c n : Int) (s : ByteArray) (h : ¬ x.cmds.length = 200) : stepP ⟨12, a, b, c, n, s⟩ look sg x = (true, { x with pc := x.pc + 1, r := putR x.r a.toNat (x.cmds.length + 1), cmds := x.cmds ++ [⟨x.cmds.length + 1, 3, s, x.r b.toNat, c⟩] }) := by
  exact if_neg h
theorem stepP_13n {look : Int → Option Out} {sg : Nat → Option Int} {x : Rs} (a b c n : Int) (s : ByteArray) (h : 1 ≤ x.r b.toNat ∧ x.r b.toNat ≤ x.cmds.length) (hl : look (x.r b.toNat) = none) : stepP ⟨13, a, b, c, n, s⟩ look sg x = (false, { x with pc := x.pc + 1, on := x.r b.toNat, st := 2 }) := by
  refine (if_pos h).trans ?_; simp only [hl]
theorem stepP_13g {look : Int → Option Out} {sg : Nat → Option Int} {x : Rs} (a b c n : Int) (s : ByteArray) {o : Out} (h : 1 ≤ x.r b.toNat ∧ x.r b.toNat ≤ x.cmds.length) (hl : look (x.r b.toNat) = some o) : stepP ⟨13, a, b, c, n, s⟩ look sg x = (true, { x with pc := x.pc + 1, r := putR (putR x.r a.toNat o.v) c.toNat o.st }) := by
  refine (if_pos h).trans ?_; simp only [hl]
theorem stepP_13o {look : Int → Option Out} {sg : Nat → Option Int} {x : Rs} (a b c n : Int) (s : ByteArray) (h : ¬ (1 ≤ x.r b.toNat ∧ x.r b.toNat ≤ x.cmds.length)) : stepP ⟨13, a, b, c, n, s⟩ look sg x = (true, { x with pc := x.pc + 1, r := putR (putR x.r a.toNat 0) c.toNat 1 }) := by
  exact if_neg h
theorem stepP_14g {look : Int → Option Out} {sg : Nat → Option Int} {x : Rs} (a b c n : Int) (s : ByteArray) {v : Int} (h : sg x.sig = some v) : stepP ⟨14, a, b, c, n, s⟩ look sg x = (true, { x with pc := x.pc + 1, r := putR x.r a.toNat v, sig := x.sig + 1 }) := by
  show (match sg x.sig with | none => _ | some v => _) = _; rw [h]
theorem stepP_14n {look : Int → Option Out} {sg : Nat → Option Int} {x : Rs} (a b c n : Int) (s : ByteArray) (h : sg x.sig = none) : stepP ⟨14, a, b, c, n, s⟩ look sg x = (false, { x with pc := x.pc + 1, st := 3 }) := by
  show (match sg x.sig with | none => _ | some v => _) = _; rw [h]
theorem stepP_15 {look : Int → Option Out} {sg : Nat → Option Int} {x : Rs} {a b c n : Int} {s : ByteArray} : stepP ⟨15, a, b, c, n, s⟩ look sg x = (false, { x with pc := x.pc + 1, st := 1, os := 0, ov := x.r a.toNat, steps := x.steps + 1 }) := by
  rfl
theorem stepP_16 {look : Int → Option Out} {sg : Nat → Option Int} {x : Rs} {a b c n : Int} {s : ByteArray} : stepP ⟨16, a, b, c, n, s⟩ look sg x = (false, { x with pc := x.pc + 1, st := 1, os := 1, ov := x.r a.toNat, steps := x.steps + 1 }) := by
  rfl
end Go.Proofs.Ytpfkpdimjljeaaa

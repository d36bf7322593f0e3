/- A run's end. -/
import Derived.Test.YtpfkpdimjljeaaaU10s
import Derived.Test.YtpfkpdimjljeaaaD10
namespace Go.Proofs.Ytpfkpdimjljeaaa
open Go.RowKit
set_option linter.unusedVariables false
set_option linter.unusedSimpArgs false

instance : Inhabited Cmd := ⟨⟨0, 0, ByteArray.empty, 0, 0⟩⟩
def x0 (arg : Int) : Rs := ⟨putR (fun _ => 0) 0 arg, 0, [], 0, 0, 0, 0, 0, 0⟩
def z0 : Rs := ⟨fun _ => 0, 0, [], 0, 0, 0, 0, 0, 0⟩
def runE (name : ByteArray) (regs : Int) (len : Nat) (I : Nat → Ins) (fuel : Int) : Int := if checkN name regs len I 20 = true then (if 0 ≤ fuel ∧ fuel ≤ 10000 then 0 else 2) else 100
/-- How a program stands. -/
def runS (name : ByteArray) (regs : Int) (len : Nat) (I : Nat → Ins) (look : Int → Option Out) (sg : Nat → Option Int) (arg fuel : Int) : Rs :=
  if checkN name regs len I 20 = true then (if 0 ≤ fuel ∧ fuel ≤ 10000 then runP I look sg fuel.toNat (x0 arg) else z0) else z0
def RunPost (w : World) (y : Rs) (er : Int) (e : Ending) (w' : World) : Prop :=
  ∃ ms cap, e = .returned (.tuple #[.agg #[.int .i64 y.st, .int .i64 y.os, .int .i64 y.ov, .int .i64 y.on, .slice ms y.cmds.length cap, .int .i64 y.sig, .int .i64 y.steps], .int .i64 er]) ∧ Ext w w' ∧ Rows_ w' ms y.cmds.length 5 (fun i => cmdC (y.cmds.getD i default))
theorem cmdCs_get : ∀ (l : List Cmd) (i k : Nat), i < l.length → k < 5 → (cmdCs l)[i * 5 + k]? = (cmdC (l.getD i default))[k]?
  | [], i, k, hi, _ => by simp at hi
  | c :: l, 0, k, _, hk => by
    show (cmdC c ++ cmdCs l)[0 * 5 + k]? = _
    rw [List.getElem?_append_left (by simp [cmdC]; omega)]
    simp
  | c :: l, i + 1, k, hi, hk => by
    show (cmdC c ++ cmdCs l)[(i + 1) * 5 + k]? = _
    rw [List.getElem?_append_right (by simp [cmdC]; omega)]
    have : (i + 1) * 5 + k - (cmdC c).length = i * 5 + k := by simp [cmdC]; omega
    rw [this, cmdCs_get l i k (by simpa using hi) hk]
    simp
theorem owns_rows {w : World} {base cap : Nat} {ms : Option Addr} {l : List Cmd} (h : w.ownsRow base 55 5 (.slice ms l.length cap) l.length (cmdCs l)) : Rows_ w ms l.length 5 (fun i => cmdC (l.getD i default)) := by
  intro hl
  rcases h.2 with ⟨_, h0⟩ | ⟨g, cap', cur, hv, hb, hg, h1, h2, h3, h4⟩
  · omega
  · injection hv with e1 e2 e3
    subst e1
    refine ⟨g, 0, rfl, (Array.getElem?_eq_some_iff.1 hg).1, fun i hi => ⟨rfl, fun k hk => ?_⟩⟩
    have hlt : i * 5 + k < l.length * 5 := by omega
    rw [← cmdCs_get l i k hi hk, ← h4, List.getElem?_take_of_lt hlt, Nat.zero_add]
    unfold World.cell?; dsimp only; rw [hg]; simp

theorem check_facts {name : ByteArray} {regs : Int} {len : Nat} {I : Nat → Ins} {pol : Int} (h : checkN name regs len I pol = true) : 1 ≤ regs ∧ regs ≤ 16 ∧ 1 ≤ len ∧ len ≤ 500 ∧ (∀ i, i < len → fitsB regs len pol (I i) = true) ∧ ((I (len - 1)).op = 8 ∨ (I (len - 1)).op = 15 ∨ (I (len - 1)).op = 16) := by
  simp only [checkN, lastB, Bool.and_eq_true, Bool.or_eq_true, decide_eq_true_eq, List.all_eq_true, List.mem_range] at h
  obtain ⟨⟨⟨⟨⟨⟨h1, h2⟩, h3⟩, h4⟩, h5⟩, h6⟩, h7⟩ := h
  exact ⟨h2, h3, by omega, by omega, h6, by rcases h7 with (h | h) | h <;> simp [h]⟩
/-- What a step keeps. -/
theorem step_keeps {regs : Int} {len : Nat} {i : Ins} (look : Int → Option Out) (sg : Nat → Option Int) {x y : Rs} {b : Bool} (hf : fitsB regs len 20 i = true) (hl : x.pc + 1 < len ∨ i.op = 8 ∨ i.op = 15 ∨ i.op = 16) (h0 : 0 ≤ x.pc) (hc : x.cmds.length ≤ 200) (h : stepP i look sg x = (b, y)) :
    (b = true → 0 ≤ y.pc ∧ y.pc < len ∧ y.steps = x.steps) ∧ x.sig ≤ y.sig ∧ y.sig ≤ x.sig + 1 ∧ y.cmds.length ≤ 200 ∧ x.steps ≤ y.steps ∧ y.steps ≤ x.steps + 1 := by
  have hop := fits_op hf
  have hn := @fits_n i.op i.a i.b i.c i.n i.s regs len 20 hf
  obtain ⟨o, a, b', c, n, s⟩ := i
  simp only at hop hl hn
  have hop2 : o = 1 ∨ o = 2 ∨ o = 3 ∨ o = 4 ∨ o = 5 ∨ o = 6 ∨ o = 7 ∨ o = 8 ∨ o = 9 ∨ o = 10 ∨ o = 11 ∨ o = 12 ∨ o = 13 ∨ o = 14 ∨ o = 15 ∨ o = 16 := by omega
  clear hop
  rcases hop2 with rfl | rfl | rfl | rfl | rfl | rfl | rfl | rfl | rfl | rfl | rfl | rfl | rfl | rfl | rfl | rfl
  · rw [stepP_1] at h; injection h with h1 h2; subst h1 h2; refine ⟨fun _ => ⟨?_, ?_, rfl⟩, ?_, ?_, ?_, ?_, ?_⟩ <;> (try simp only [List.length_append, List.length_cons, List.length_nil]) <;> omega
  · rw [stepP_2] at h; injection h with h1 h2; subst h1 h2; refine ⟨fun _ => ⟨?_, ?_, rfl⟩, ?_, ?_, ?_, ?_, ?_⟩ <;> (try simp only [List.length_append, List.length_cons, List.length_nil]) <;> omega
  · rw [stepP_3] at h; injection h with h1 h2; subst h1 h2; refine ⟨fun _ => ⟨?_, ?_, rfl⟩, ?_, ?_, ?_, ?_, ?_⟩ <;> (try simp only [List.length_append, List.length_cons, List.length_nil]) <;> omega
  · rw [stepP_4] at h; injection h with h1 h2; subst h1 h2; refine ⟨fun _ => ⟨?_, ?_, rfl⟩, ?_, ?_, ?_, ?_, ?_⟩ <;> (try simp only [List.length_append, List.length_cons, List.length_nil]) <;> omega
  · rw [stepP_5] at h; injection h with h1 h2; subst h1 h2; refine ⟨fun _ => ⟨?_, ?_, rfl⟩, ?_, ?_, ?_, ?_, ?_⟩ <;> (try simp only [List.length_append, List.length_cons, List.length_nil]) <;> omega
  · rw [stepP_6] at h; injection h with h1 h2; subst h1 h2; refine ⟨fun _ => ⟨?_, ?_, rfl⟩, ?_, ?_, ?_, ?_, ?_⟩ <;> (try simp only [List.length_append, List.length_cons, List.length_nil]) <;> omega
  · rw [stepP_7] at h; injection h with h1 h2; subst h1 h2; refine ⟨fun _ => ⟨?_, ?_, rfl⟩, ?_, ?_, ?_, ?_, ?_⟩ <;> (try simp only [List.length_append, List.length_cons, List.length_nil]) <;> omega
  · have hn2 := hn rfl
    rw [stepP_8] at h; injection h with h1 h2; subst h1 h2; refine ⟨fun _ => ⟨?_, ?_, rfl⟩, ?_, ?_, ?_, ?_, ?_⟩ <;> (try simp only [List.length_append, List.length_cons, List.length_nil]) <;> omega
  · have hn2 := hn rfl
    by_cases hz : x.r a.toNat = 0
    · rw [stepP_9a _ _ _ _ _ hz] at h; injection h with h1 h2; subst h1 h2; refine ⟨fun _ => ⟨?_, ?_, rfl⟩, ?_, ?_, ?_, ?_, ?_⟩ <;> (try simp only [List.length_append, List.length_cons, List.length_nil]) <;> omega
    · rw [stepP_9b _ _ _ _ _ hz] at h; injection h with h1 h2; subst h1 h2; refine ⟨fun _ => ⟨?_, ?_, rfl⟩, ?_, ?_, ?_, ?_, ?_⟩ <;> (try simp only [List.length_append, List.length_cons, List.length_nil]) <;> omega
  · by_cases hm : x.cmds.length = 200
    · rw [stepP_10a _ _ _ _ _ hm] at h; injection h with h1 h2; subst h1 h2; refine ⟨(fun e => by cases e), ?_, ?_, ?_, ?_, ?_⟩ <;> simp <;> omega
    · rw [stepP_10b _ _ _ _ _ hm] at h; injection h with h1 h2; subst h1 h2; refine ⟨fun _ => ⟨?_, ?_, rfl⟩, ?_, ?_, ?_, ?_, ?_⟩ <;> (try simp only [List.length_append, List.length_cons, List.length_nil]) <;> omega
  · by_cases hm : x.cmds.length = 200
    · rw [stepP_11a _ _ _ _ _ hm] at h; injection h with h1 h2; subst h1 h2; refine ⟨(fun e => by cases e), ?_, ?_, ?_, ?_, ?_⟩ <;> simp <;> omega
    · rw [stepP_11b _ _ _ _ _ hm] at h; injection h with h1 h2; subst h1 h2; refine ⟨fun _ => ⟨?_, ?_, rfl⟩, ?_, ?_, ?_, ?_, ?_⟩ <;> (try simp only [List.length_append, List.length_cons, List.length_nil]) <;> omega
  · by_cases hm : x.cmds.length = 200
    · rw [stepP_12a _ _ _ _ _ hm] at h; injection h with h1 h2; subst h1 h2; refine ⟨(fun e => by cases e), ?_, ?_, ?_, ?_, ?_⟩ <;> simp <;> omega
    · rw [stepP_12b _ _ _ _ _ hm] at h; injection h with h1 h2; subst h1 h2; refine ⟨fun _ => ⟨?_, ?_, rfl⟩, ?_, ?_, ?_, ?_, ?_⟩ <;> (try simp only [List.length_append, List.length_cons, List.length_nil]) <;> omega
  · by_cases hn : 1 ≤ x.r b'.toNat ∧ x.r b'.toNat ≤ x.cmds.length
    · cases hk : look (x.r b'.toNat) with
      | none => rw [stepP_13n _ _ _ _ _ hn hk] at h; injection h with h1 h2; subst h1 h2; refine ⟨(fun e => by cases e), ?_, ?_, ?_, ?_, ?_⟩ <;> simp <;> omega
      | some o => rw [stepP_13g _ _ _ _ _ hn hk] at h; injection h with h1 h2; subst h1 h2; refine ⟨fun _ => ⟨?_, ?_, rfl⟩, ?_, ?_, ?_, ?_, ?_⟩ <;> (try simp only [List.length_append, List.length_cons, List.length_nil]) <;> omega
    · rw [stepP_13o _ _ _ _ _ hn] at h; injection h with h1 h2; subst h1 h2; refine ⟨fun _ => ⟨?_, ?_, rfl⟩, ?_, ?_, ?_, ?_, ?_⟩ <;> (try simp only [List.length_append, List.length_cons, List.length_nil]) <;> omega
  · cases hk : sg x.sig with
    | none => rw [stepP_14n _ _ _ _ _ hk] at h; injection h with h1 h2; subst h1 h2; refine ⟨(fun e => by cases e), ?_, ?_, ?_, ?_, ?_⟩ <;> simp <;> omega
    | some v => rw [stepP_14g _ _ _ _ _ hk] at h; injection h with h1 h2; subst h1 h2; refine ⟨fun _ => ⟨?_, ?_, rfl⟩, ?_, ?_, ?_, ?_, ?_⟩ <;> (try simp only [List.length_append, List.length_cons, List.length_nil]) <;> omega
  · rw [stepP_15] at h; injection h with h1 h2; subst h1 h2; refine ⟨(fun e => by cases e), ?_, ?_, ?_, ?_, ?_⟩ <;> simp <;> omega
  · rw [stepP_16] at h; injection h with h1 h2; subst h1 h2; refine ⟨(fun e => by cases e), ?_, ?_, ?_, ?_, ?_⟩ <;> simp <;> omega

def RunInv (F : Fr) (bx base : Nat) (Wb : World) (I : Nat → Ins) (look : Int → Option Out) (sg : Nat → Option Int) (arg : Int) (N g : Nat) (wr : World) : Prop :=
  ∃ x ms cap, Chg (fun k => k = bx ∨ base ≤ k) Wb wr ∧ At wr bx (rnC (rnOf F x ms cap)) ∧ wr.ownsRow base 55 5 (.slice ms x.cmds.length cap) x.cmds.length (cmdCs x.cmds) ∧ 0 ≤ x.pc ∧ x.pc < F.clen ∧ x.sig ≤ x.steps ∧ x.cmds.length ≤ 200 ∧ x.steps + g = N ∧ runP I look sg N (x0 arg) = runP I look sg g x
theorem runP_go {I : Nat → Ins} {look : Int → Option Out} {sg : Nat → Option Int} {n : Nat} {x y : Rs} (h : stepP (I x.pc.toNat) look sg x = (true, y)) : runP I look sg (n + 1) x = runP I look sg n { y with steps := y.steps + 1 } := by
  show (if _ then _ else _) = _
  rw [h]; rfl
theorem runP_stop {I : Nat → Ins} {look : Int → Option Out} {sg : Nat → Option Int} {n : Nat} {x y : Rs} (h : stepP (I x.pc.toNat) look sg x = (false, y)) : runP I look sg (n + 1) x = y := by
  show (if _ then _ else _) = _
  rw [h]; rfl
end Go.Proofs.Ytpfkpdimjljeaaa

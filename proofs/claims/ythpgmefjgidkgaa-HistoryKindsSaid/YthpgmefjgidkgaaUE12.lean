/- What an event does to a history. -/
import Derived.Test.YthpgmefjgidkgaaM12
import Derived.Test.YthpgmefjgidkgaaN12
import Derived.Test.YthpgmefjgidkgaaO12
import Derived.Test.YthpgmefjgidkgaaS12b
namespace Go.Proofs.Ythpgmefjgidkgaa
open Go.RowKit
set_option linter.unusedVariables false
set_option linter.unusedSimpArgs false

/-- A history's cells. -/
def hC (h : Hs) (m : Hm) : Array Value := #[.string h.prog, .int .i64 h.arg, .slice m.cs h.cmds.length m.cc, .slice m.ts h.tries.length m.tc, .slice m.ks h.known.length m.kc, .slice m.ss h.sigs.length m.sc, .bool h.stopped, .bool h.closed, .int .i64 h.out.st, .int .i64 h.out.v, .int .i64 h.len, .int .i64 h.last]
def OwnHX (w : World) (base bx : Nat) (h : Hs) (m : Hm) : Prop :=
  OwnX w base bx 56 5 (.slice m.cs h.cmds.length m.cc) h.cmds.length (h.cmds.flatMap cmdC) ∧ OwnX w base bx 3 1 (.slice m.ts h.tries.length m.tc) h.tries.length (h.tries.flatMap numC) ∧
    OwnX w base bx 44 3 (.slice m.ks h.known.length m.kc) h.known.length (h.known.flatMap knoC) ∧ OwnX w base bx 2 1 (.slice m.ss h.sigs.length m.sc) h.sigs.length (h.sigs.flatMap numC)
def PutPost (base bx : Nat) (w : World) (h : Hs) (e : Ending) (w' : World) : Prop :=
  e = .returned (.tuple #[]) ∧ Chg (fun q => q = bx ∨ base ≤ q) w w' ∧ ∃ m', At w' bx (hC h m') ∧ OwnHX w' base bx h m'
theorem put_calls (prog : ByteArray) (arg ost ov len last : Int) (cs ts ks ss : Option Addr) (cc tc kc sc : Nat) (cmds : List Cmd) (tries sigs : List Int) (known : List Kno) (st cl : Bool) (k at' n p a b : Int) (s : ByteArray) (bx base : Nat) (w : World) (h : At w bx #[.string prog, .int .i64 arg, .slice cs cmds.length cc, .slice ts tries.length tc, .slice ks known.length kc, .slice ss sigs.length sc, .bool st, .bool cl, .int .i64 ost, .int .i64 ov, .int .i64 len, .int .i64 last]) (ho : OwnHX w base bx ⟨prog, arg, cmds, tries, known, sigs, st, cl, ⟨ost, ov⟩, len, last⟩ ⟨cs, cc, ts, tc, ks, kc, ss, sc⟩) (hl : 0 ≤ len) (hl2 : len ≤ 1000000) (hbs : base ≤ w.heap.size) (hs : HsSm ⟨prog, arg, cmds, tries, known, sigs, st, cl, ⟨ost, ov⟩, len, last⟩) (hk0 : 1 ≤ k) (hk1 : k ≤ 7)
    (h2 : k = 2 → 0 ≤ p ∧ p ≤ 3) (h3 : k = 3 → 1 ≤ n ∧ n ≤ tries.length) : Calls Try.prog 23 #[.pointer (some ⟨bx, 0, none⟩), .agg #[.int .u8 k, .int .i64 at', .int .i64 n, .int .i64 p, .int .i64 a, .int .i64 b, .string s]] w (PutPost base bx w (putH ⟨prog, arg, cmds, tries, known, sigs, st, cl, ⟨ost, ov⟩, len, last⟩ ⟨k, at', n, p, a, b, s⟩)) := by
  obtain ⟨o1, o2, o3, o4⟩ := ho
  obtain ⟨s1, s2, s3, s4⟩ := hs
  have hk : k = 1 ∨ k = 2 ∨ k = 3 ∨ k = 4 ∨ k = 5 ∨ k = 6 ∨ k = 7 := by omega
  rcases hk with rfl | rfl | rfl | rfl | rfl | rfl | rfl
  · refine (put_start prog arg ost ov len last cs ts ks ss cmds.length tries.length known.length sigs.length cc tc kc sc st cl bx at' n p a b s w h hl hl2).mono ?_
    rintro e w' ⟨r1, r2, r3⟩
    exact ⟨r1, r2.mono (fun _ _ e => .inl e), ⟨cs, cc, ts, tc, ks, kc, ss, sc⟩, r3, o1.chg r2, o2.chg r2, o3.chg r2, o4.chg r2⟩
  · refine (put_begin prog arg ost ov len last cs ts ks ss cmds.length tries.length known.length sigs.length cc tc kc sc st cl bx cmds tries base at' n p a b s w h hl hl2 (h2 rfl).1 (h2 rfl).2 o1 o2 hbs s1 s2).mono ?_
    rintro e w' ⟨r1, r2, r3, ms', cap', mt', ct', r4, r5, r6⟩
    refine ⟨r1, r2, ⟨ms', cap', mt', ct', ks, kc, ss, sc⟩, ?_, ?_, ?_, r3 _ _ _ _ _ (by decide) (by decide) o3, r3 _ _ _ _ _ (by decide) (by decide) o4⟩
    · have e1 : (cmds ++ [(⟨n, p, s, a, b⟩ : Cmd)]).length = cmds.length + 1 := by simp
      have e2 : (tries ++ [(0 : Int)]).length = tries.length + 1 := by simp
      show At w' bx #[_, _, .slice ms' (cmds ++ [(⟨n, p, s, a, b⟩ : Cmd)]).length cap', .slice mt' (tries ++ [(0 : Int)]).length ct', _, _, _, _, _, _, _, _]
      rw [e1, e2]; exact r4
    · have e1 : (cmds ++ [(⟨n, p, s, a, b⟩ : Cmd)]).length = cmds.length + 1 := by simp
      show OwnX _ _ _ _ _ (.slice ms' (cmds ++ [(⟨n, p, s, a, b⟩ : Cmd)]).length cap') (cmds ++ [(⟨n, p, s, a, b⟩ : Cmd)]).length _
      rw [e1]; exact r5
    · have e2 : (tries ++ [(0 : Int)]).length = tries.length + 1 := by simp
      show OwnX _ _ _ _ _ (.slice mt' (tries ++ [(0 : Int)]).length ct') (tries ++ [(0 : Int)]).length _
      rw [e2]; exact r6
  · refine (put_try prog arg ost ov len last cs ts ks ss cmds.length tries.length known.length sigs.length cc tc kc sc st cl bx tries base at' n p a b s w h hl hl2 o2 hbs s2 (h3 rfl).1 (h3 rfl).2).mono ?_
    rintro e w' ⟨r1, r2, r3, r4, r5⟩
    refine ⟨r1, r2, ⟨cs, cc, ts, tc, ks, kc, ss, sc⟩, ?_, r3 _ _ _ _ _ (by decide) o1, ?_, r3 _ _ _ _ _ (by decide) o3, r3 _ _ _ _ _ (by decide) o4⟩
    · show At w' bx #[_, _, _, .slice ts (tries.set (n - 1).toNat p).length tc, _, _, _, _, _, _, _, _]
      rw [List.length_set]; exact r4
    · show OwnX _ _ _ _ _ (.slice ts (tries.set (n - 1).toNat p).length tc) (tries.set (n - 1).toNat p).length _
      rw [List.length_set]; exact r5
  · refine (put_over prog arg ost ov len last cs ts ks ss cmds.length tries.length known.length sigs.length cc tc kc sc st cl bx known base at' n p a b s w h hl hl2 o3 hbs s3).mono ?_
    rintro e w' ⟨r1, r2, r3, ms', cap', r4, r5⟩
    have e1 : (known ++ [(⟨n, ⟨p, a⟩⟩ : Kno)]).length = known.length + 1 := by simp
    refine ⟨r1, r2, ⟨cs, cc, ts, tc, ms', cap', ss, sc⟩, ?_, r3 _ _ _ _ _ (by decide) o1, r3 _ _ _ _ _ (by decide) o2, ?_, r3 _ _ _ _ _ (by decide) o4⟩
    · show At w' bx #[_, _, _, _, .slice ms' (known ++ [(⟨n, ⟨p, a⟩⟩ : Kno)]).length cap', _, _, _, _, _, _, _]
      rw [e1]; exact r4
    · show OwnX _ _ _ _ _ (.slice ms' (known ++ [(⟨n, ⟨p, a⟩⟩ : Kno)]).length cap') (known ++ [(⟨n, ⟨p, a⟩⟩ : Kno)]).length _
      rw [e1]; exact r5
  · refine (put_signal prog arg ost ov len last cs ts ks ss cmds.length tries.length known.length sigs.length cc tc kc sc st cl bx sigs base at' n p a b s w h hl hl2 o4 hbs s4).mono ?_
    rintro e w' ⟨r1, r2, r3, ms', cap', r4, r5⟩
    have e1 : (sigs ++ [a]).length = sigs.length + 1 := by simp
    refine ⟨r1, r2, ⟨cs, cc, ts, tc, ks, kc, ms', cap'⟩, ?_, r3 _ _ _ _ _ (by decide) o1, r3 _ _ _ _ _ (by decide) o2, r3 _ _ _ _ _ (by decide) o3, ?_⟩
    · show At w' bx #[_, _, _, _, _, .slice ms' (sigs ++ [a]).length cap', _, _, _, _, _, _]
      rw [e1]; exact r4
    · show OwnX _ _ _ _ _ (.slice ms' (sigs ++ [a]).length cap') (sigs ++ [a]).length _
      rw [e1]; exact r5
  · refine (put_stop prog arg ost ov len last cs ts ks ss cmds.length tries.length known.length sigs.length cc tc kc sc st cl bx at' n p a b s w h hl hl2).mono ?_
    rintro e w' ⟨r1, r2, r3⟩
    exact ⟨r1, r2.mono (fun _ _ e => .inl e), ⟨cs, cc, ts, tc, ks, kc, ss, sc⟩, r3, o1.chg r2, o2.chg r2, o3.chg r2, o4.chg r2⟩
  · refine (put_close prog arg ost ov len last cs ts ks ss cmds.length tries.length known.length sigs.length cc tc kc sc st cl bx at' n p a b s w h hl hl2).mono ?_
    rintro e w' ⟨r1, r2, r3⟩
    exact ⟨r1, r2.mono (fun _ _ e => .inl e), ⟨cs, cc, ts, tc, ks, kc, ss, sc⟩, r3, o1.chg r2, o2.chg r2, o3.chg r2, o4.chg r2⟩
end Go.Proofs.Ythpgmefjgidkgaa

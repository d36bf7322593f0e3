/- What run's functions do: any step. -/
import Derived.Test.YtpfkpdimjljeaaaS10c
import Derived.Test.YtpfkpdimjljeaaaT10e
import Derived.Test.YtpfkpdimjljeaaaT10
namespace Go.Proofs.Ytpfkpdimjljeaaa
open Go.RowKit
set_option linter.unusedVariables false
set_option linter.unusedSimpArgs false

theorem post_app {F : Fr} {bx base : Nat} {w w' : World} {x y : Rs} {c : Cmd} {ms : Option Addr} {cap : Nat} {R : Rn} (g : Chg (fun k => k = bx ∨ base ≤ k) w w') (h : At w' bx (rnC R))
    (o : w'.ownsRow base 55 5 (.slice ms (x.cmds.length + 1) cap) (x.cmds.length + 1) (cmdCs (x.cmds ++ [c]))) (hR : R = { rnOf F y ms cap with mlen := x.cmds.length + 1 }) (hc : y.cmds = x.cmds ++ [c]) : StepPost F bx base w true y (.returned (.bool true)) w' := by
  have hl : y.cmds.length = x.cmds.length + 1 := by rw [hc]; simp
  refine ⟨rfl, g, ms, cap, ?_, ?_⟩
  · rw [hR, ← hl] at h; exact h
  · rw [hl, hc]; exact o
theorem step_any (F : Fr) (x : Rs) (ms : Option Addr) (cap bx base : Nat) (i : Ins) (K : Nat → Kno) (S : Nat → Int) (w : World) (h : At w bx (rnC (rnOf F x ms cap))) (hbx : bx < base) (hbs : base ≤ w.heap.size)
    (ho : w.ownsRow base 55 5 (.slice ms x.cmds.length cap) x.cmds.length (cmdCs x.cmds)) (hf : fitsB F.regs F.clen 20 i = true) (hr : F.regs ≤ 16) (p0 : 0 ≤ x.pc) (p1 : x.pc ≤ 500) (hst : x.steps ≤ 10000) (hsg : x.sig ≤ 10000) (hm2 : x.cmds.length ≤ 200)
    (hkl : F.klen ≤ 1000000) (hK : Rows_ w F.ks F.klen 3 (fun i => knoC (K i))) (hKb : 0 < F.klen → ∀ b o, F.ks = some ⟨b, o, none⟩ → b ≠ bx) (hS : Rows_ w F.ss F.slen 1 (fun i => [.int .i64 (S i)])) (hSb : 0 < F.slen → ∀ b o, F.ss = some ⟨b, o, none⟩ → b ≠ bx) :
    Calls Try.prog 23 #[.pointer (some ⟨bx, 0, none⟩), .agg #[.int .u8 i.op, .int .i64 i.a, .int .i64 i.b, .int .i64 i.c, .int .i64 i.n, .string i.s]] w (StepPost F bx base w (stepP i (lookK K F.klen) (sgF S F.slen) x).1 (stepP i (lookK K F.klen) (sgF S F.slen) x).2) := by
  have hop := fits_op hf
  obtain ⟨o, a, b, c, n, s⟩ := i
  simp only at hop
  have hs0 : (0 : Int) ≤ x.steps := Int.natCast_nonneg _
  have hs1 : ((x.steps : Nat) : Int) ≤ 10000 := by omega
  have hop2 : o = 1 ∨ o = 2 ∨ o = 3 ∨ o = 4 ∨ o = 5 ∨ o = 6 ∨ o = 7 ∨ o = 8 ∨ o = 9 ∨ o = 10 ∨ o = 11 ∨ o = 12 ∨ o = 13 ∨ o = 14 ∨ o = 15 ∨ o = 16 := by omega
  clear hop
  rcases hop2 with rfl | rfl | rfl | rfl | rfl | rfl | rfl | rfl | rfl | rfl | rfl | rfl | rfl | rfl | rfl | rfl
  · obtain ⟨a0, a1⟩ := fits_a (o := 1) hf hr (by decide)
    rw [stepP_1]
    refine (step_set (rnOf F x ms cap) a b c n s bx w h p0 p1 a0 a1).mono ?_; rintro e w' ⟨rfl, g, h⟩; exact post_keep ho hbx g h (by rfl) rfl
  · obtain ⟨a0, a1⟩ := fits_a (o := 2) hf hr (by decide)
    obtain ⟨b0, b1⟩ := fits_b (o := 2) hf hr (by decide)
    rw [stepP_2]
    refine (step_move (rnOf F x ms cap) a b c n s bx w h p0 p1 a0 a1 b0 b1).mono ?_; rintro e w' ⟨rfl, g, h⟩; exact post_keep ho hbx g h (by rfl) rfl
  · obtain ⟨a0, a1⟩ := fits_a (o := 3) hf hr (by decide)
    obtain ⟨b0, b1⟩ := fits_b (o := 3) hf hr (by decide)
    obtain ⟨e0, e1⟩ := fits_c (o := 3) hf hr (by decide)
    rw [stepP_3]
    refine (step_add (rnOf F x ms cap) a b c n s bx w h p0 p1 a0 a1 b0 b1 e0 e1).mono ?_; rintro e w' ⟨rfl, g, h⟩; exact post_keep ho hbx g h (by rfl) rfl
  · obtain ⟨a0, a1⟩ := fits_a (o := 4) hf hr (by decide)
    obtain ⟨b0, b1⟩ := fits_b (o := 4) hf hr (by decide)
    obtain ⟨e0, e1⟩ := fits_c (o := 4) hf hr (by decide)
    rw [stepP_4]
    refine (step_sub (rnOf F x ms cap) a b c n s bx w h p0 p1 a0 a1 b0 b1 e0 e1).mono ?_; rintro e w' ⟨rfl, g, h⟩; exact post_keep ho hbx g h (by rfl) rfl
  · obtain ⟨a0, a1⟩ := fits_a (o := 5) hf hr (by decide)
    obtain ⟨b0, b1⟩ := fits_b (o := 5) hf hr (by decide)
    obtain ⟨e0, e1⟩ := fits_c (o := 5) hf hr (by decide)
    rw [stepP_5]
    refine (step_mul (rnOf F x ms cap) a b c n s bx w h p0 p1 a0 a1 b0 b1 e0 e1).mono ?_; rintro e w' ⟨rfl, g, h⟩; exact post_keep ho hbx g h (by rfl) rfl
  · obtain ⟨a0, a1⟩ := fits_a (o := 6) hf hr (by decide)
    obtain ⟨b0, b1⟩ := fits_b (o := 6) hf hr (by decide)
    obtain ⟨e0, e1⟩ := fits_c (o := 6) hf hr (by decide)
    rw [stepP_6]
    refine (step_less (rnOf F x ms cap) a b c n s bx w h p0 p1 a0 a1 b0 b1 e0 e1).mono ?_; rintro e w' ⟨rfl, g, h⟩; exact post_keep ho hbx g h (by rfl) rfl
  · obtain ⟨a0, a1⟩ := fits_a (o := 7) hf hr (by decide)
    obtain ⟨b0, b1⟩ := fits_b (o := 7) hf hr (by decide)
    obtain ⟨e0, e1⟩ := fits_c (o := 7) hf hr (by decide)
    rw [stepP_7]
    refine (step_same (rnOf F x ms cap) a b c n s bx w h p0 p1 a0 a1 b0 b1 e0 e1).mono ?_; rintro e w' ⟨rfl, g, h⟩; exact post_keep ho hbx g h (by rfl) rfl
  · rw [stepP_8]
    refine (step_jump (rnOf F x ms cap) a b c n s bx w h p0 p1 ).mono ?_; rintro e w' ⟨rfl, g, h⟩; exact post_keep ho hbx g h (by rfl) rfl
  · obtain ⟨a0, a1⟩ := fits_a (o := 9) hf hr (by decide)
    by_cases hz : x.r a.toNat = 0
    · rw [stepP_9a _ _ _ _ _ hz]; refine (step_unless0 (rnOf F x ms cap) a b c n s bx w h p0 p1 a0 a1 hz).mono ?_; rintro e w' ⟨rfl, g, h⟩; exact post_keep ho hbx g h (by rfl) rfl
    · rw [stepP_9b _ _ _ _ _ hz]; refine (step_unless1 (rnOf F x ms cap) a b c n s bx w h p0 p1 a0 a1 (show (x.r a.toNat == 0) = false by simpa using hz)).mono ?_; rintro e w' ⟨rfl, g, h⟩; exact post_keep ho hbx g h (by rfl) rfl
  · obtain ⟨a0, a1⟩ := fits_a (o := 10) hf hr (by decide)
    obtain ⟨b0, b1⟩ := fits_b (o := 10) hf hr (by decide)
    by_cases hm : x.cmds.length = 200
    · rw [stepP_10a _ _ _ _ _ hm]; refine (step_many10 (rnOf F x ms cap) a b c n s bx w h p0 p1 hm).mono ?_; rintro e w' ⟨rfl, g, h⟩; exact post_keep ho hbx g h (by rfl) rfl
    · rw [stepP_10b _ _ _ _ _ hm]; refine (step_app10 (rnOf F x ms cap) a b c n s bx w h p0 p1 a0 a1 b0 b1 (show x.cmds.length < 200 by omega) base x.cmds ho hbx hbs).mono ?_; rintro e w' ⟨rfl, g, k, cap', h', o'⟩; exact post_app g h' o' (by rfl) rfl
  · obtain ⟨a0, a1⟩ := fits_a (o := 11) hf hr (by decide)
    obtain ⟨b0, b1⟩ := fits_b (o := 11) hf hr (by decide)
    by_cases hm : x.cmds.length = 200
    · rw [stepP_11a _ _ _ _ _ hm]; refine (step_many11 (rnOf F x ms cap) a b c n s bx w h p0 p1 hm).mono ?_; rintro e w' ⟨rfl, g, h⟩; exact post_keep ho hbx g h (by rfl) rfl
    · rw [stepP_11b _ _ _ _ _ hm]; refine (step_app11 (rnOf F x ms cap) a b c n s bx w h p0 p1 a0 a1 b0 b1 (show x.cmds.length < 200 by omega) base x.cmds ho hbx hbs).mono ?_; rintro e w' ⟨rfl, g, k, cap', h', o'⟩; exact post_app g h' o' (by rfl) rfl
  · obtain ⟨a0, a1⟩ := fits_a (o := 12) hf hr (by decide)
    obtain ⟨b0, b1⟩ := fits_b (o := 12) hf hr (by decide)
    by_cases hm : x.cmds.length = 200
    · rw [stepP_12a _ _ _ _ _ hm]; refine (step_many12 (rnOf F x ms cap) a b c n s bx w h p0 p1 hm).mono ?_; rintro e w' ⟨rfl, g, h⟩; exact post_keep ho hbx g h (by rfl) rfl
    · rw [stepP_12b _ _ _ _ _ hm]; refine (step_app12 (rnOf F x ms cap) a b c n s bx w h p0 p1 a0 a1 b0 b1 (show x.cmds.length < 200 by omega) base x.cmds ho hbx hbs).mono ?_; rintro e w' ⟨rfl, g, k, cap', h', o'⟩; exact post_app g h' o' (by rfl) rfl
  · obtain ⟨a0, a1⟩ := fits_a (o := 13) hf hr (by decide)
    obtain ⟨b0, b1⟩ := fits_b (o := 13) hf hr (by decide)
    obtain ⟨e0, e1⟩ := fits_c (o := 13) hf hr (by decide)
    by_cases hn : 1 ≤ x.r b.toNat ∧ x.r b.toNat ≤ x.cmds.length
    · cases hl : lookK K F.klen (x.r b.toNat) with
      | none => rw [stepP_13n _ _ _ _ _ hn hl]; refine (step_waitn (rnOf F x ms cap) a b c n s bx w h p0 p1 b0 b1 K hn.1 hn.2 hkl hK hKb (look_none hl)).mono ?_; rintro e w' ⟨rfl, g, h⟩; exact post_keep ho hbx g h (by rfl) rfl
      | some o => obtain ⟨j, hj, hi, rfl⟩ := look_some hl; rw [stepP_13g _ _ _ _ _ hn hl]; refine (step_waitg (rnOf F x ms cap) a b c n s bx w h p0 p1 a0 a1 b0 b1 e0 e1 j K hn.1 hn.2 hkl hK hKb hi hj).mono ?_; rintro e w' ⟨rfl, g, h⟩; exact post_keep ho hbx g h (by rfl) rfl
    · rw [stepP_13o _ _ _ _ _ hn]; refine (step_waito (rnOf F x ms cap) a b c n s bx w h p0 p1 a0 a1 b0 b1 e0 e1 (by show x.r b.toNat < 1 ∨ (1 ≤ x.r b.toNat ∧ ((x.cmds.length : Nat) : Int) < x.r b.toNat); omega)).mono ?_; rintro e w' ⟨rfl, g, h⟩; exact post_keep ho hbx g h (by rfl) rfl
  · obtain ⟨a0, a1⟩ := fits_a (o := 14) hf hr (by decide)
    by_cases hg : x.sig < F.slen
    · obtain ⟨sb, so, hss, hsb, hsr⟩ := hS (by omega); have hv := (hsr x.sig hg).2 0 (by decide); rw [stepP_14g _ _ _ _ _ (if_pos hg : sgF S F.slen x.sig = some (S x.sig))]; refine (step_sig1 (rnOf F x ms cap) a b c n s bx w h p0 p1 a0 a1 sb so (S x.sig) hss hsb (hSb (by omega) sb so hss) (Int.natCast_nonneg _) (Int.ofNat_lt.2 hg) (by show ((x.sig : Nat) : Int) ≤ 10000; omega) (show w.cell? ⟨sb, so + ((x.sig : Nat) : Int).toNat, none⟩ = some (.int .i64 (S x.sig)) by simpa using hv)).mono ?_; rintro e w' ⟨rfl, g, h⟩; exact post_keep ho hbx g h (by rfl) rfl
    · rw [stepP_14n _ _ _ _ _ (if_neg hg : sgF S F.slen x.sig = none)]; refine (step_sig0 (rnOf F x ms cap) a b c n s bx w h p0 p1 (Int.ofNat_le.2 (Nat.le_of_not_lt hg))).mono ?_; rintro e w' ⟨rfl, g, h⟩; exact post_keep ho hbx g h (by rfl) rfl
  · obtain ⟨a0, a1⟩ := fits_a (o := 15) hf hr (by decide)
    rw [stepP_15]
    refine (step_done (rnOf F x ms cap) a b c n s bx w h p0 p1 a0 a1 hs0 hs1).mono ?_; rintro e w' ⟨rfl, g, h⟩; exact post_keep ho hbx g h (by rfl) rfl
  · obtain ⟨a0, a1⟩ := fits_a (o := 16) hf hr (by decide)
    rw [stepP_16]
    refine (step_fail (rnOf F x ms cap) a b c n s bx w h p0 p1 a0 a1 hs0 hs1).mono ?_; rintro e w' ⟨rfl, g, h⟩; exact post_keep ho hbx g h (by rfl) rfl
end Go.Proofs.Ytpfkpdimjljeaaa

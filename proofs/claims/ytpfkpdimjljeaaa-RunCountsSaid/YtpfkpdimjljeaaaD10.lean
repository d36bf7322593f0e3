/- What program's functions do: which programs are right. -/
import Derived.Test.YtpfkpdimjljeaaaC10
import Derived.Test.YtpfkpdimjljeaaaI10
namespace Go.Proofs.Ytpfkpdimjljeaaa
open Go.RowKit
set_option linter.unusedVariables false
set_option linter.unusedSimpArgs false

set_option maxRecDepth 100000 in
set_option maxHeartbeats 8000000 in
theorem check_calls (p0 : ByteArray) (regs : Int) (s : Option Addr) (len cap : Nat) (I : Nat → Ins) (pol : Int) (w : World) (hrows : Rows_ w s len 6 (fun i => insC (I i))) :
    Calls Try.prog 22 #[.agg #[.string p0, .int .i64 regs, .slice s len cap], .int .i64 pol] w fun e w' => e = .returned (.int .i64 (checkE p0 regs len I pol)) ∧ Ext w w' := by
  have HROWS := Lib.hid hrows; clear hrows
  by_cases hA : nameB p0 = true ∧ 1 ≤ regs ∧ regs ≤ 16 ∧ 1 ≤ (len : Int) ∧ (len : Int) ≤ 500
  · obtain ⟨a1, a2, a3, a4, a5⟩ := hA
    have HN := Lib.hid a1; clear a1
    have a6 : ¬ (regs < 1) := by omega
    have a7 : ¬ (16 < regs) := by omega
    have a8 : ¬ ((len : Int) < 1) := by omega
    have a9 : ¬ (500 < (len : Int)) := by omega
    go_enter Try.func22, Try.ntmps22
    go_upto_region 4 with (go_at_call 27; refine (named_calls _ _).mono ?_; rw [HN.out]; rintro e w1 ⟨rfl, rfl⟩)
    refine wp_at ?_
    intro W1 hW
    have hw : Ext w W1 := by rw [hW]; repeat (first | exact ext_refl _ | assumption | refine ext_more' ?_ _ _ | refine ext_drew ?_ | refine ext_drewN ?_ _ | refine ext_alloc ?_ _)
    obtain ⟨lp, cp⟩ := box_facts (by rw [hW]; repeat (first | exact ext_refl _ | assumption | refine ext_more' ?_ _ _ | refine ext_drew ?_ | refine ext_drewN ?_ _ | refine ext_alloc ?_ _) : Ext (World.alloc w (.cells _ _)) W1)
    clear hW
    go_wp2_with fail
    have HW := Lib.hid hw
    go_loopg [36] len (fun g k wr => ∃ (i : Nat) (r : Array Obj) (d : Nat), wr = more W1 r d ∧ k = .int .i64 i ∧ g + i = len ∧ ∀ j, j < i → fitsB regs len pol (I j) = true)
    case atStart => exact ⟨0, ext_ex (ext_refl _) ⟨rfl, by omega, fun j hj => by omega⟩⟩
    case round =>
      obtain ⟨i, r, d, rfl, rfl, hgi, hall⟩ := hrel
      have HALL := Lib.hid hall; clear hall
      by_cases hi : i < len
      · obtain ⟨b, o, rfl, hb, c0, c1, c2, c3, c4, c5⟩ := ins_cells HROWS.out hw hi
        have hi3 : (i : Int) < len := by omega
        by_cases hf : fitsB regs len pol (I i) = true
        · have HB := Lib.hid (show fitsB regs len pol ⟨(I i).op, (I i).a, (I i).b, (I i).c, (I i).n, (I i).s⟩ = true from hf)
          clear hf
          go_wp2_with (go_at_call 28; refine (fits_calls _ _ _ _ _ _ _ _ _ _ _ _ _).mono ?_; rw [HB.out]; rintro e w1 ⟨rfl, hb⟩; obtain ⟨r, d, rfl⟩ := ext_form hb; clear hb)
          go_roundg (gk - 1)
          case measure => omega
          case rel => exact ⟨i + 1, ext_ex (by repeat (first | exact ext_refl _ | assumption | refine ext_more' ?_ _ _ | refine ext_drew ?_ | refine ext_drewN ?_ _ | refine ext_alloc ?_ _)) ⟨by go_num, by omega, fun j hj => by
            rcases Nat.lt_succ_iff_lt_or_eq.1 hj with h | rfl
            · exact HALL.out j h
            · exact HB.out⟩⟩
        · replace hf : fitsB regs len pol (I i) = false := by simpa using hf
          have HC := Lib.hid (show checkE p0 regs len I pol = 100 from by
            have HC0 : checkN p0 regs len I pol = false := by
              have : (List.range len).all (fun i => fitsB regs len pol (I i)) = false := by
                rw [List.all_eq_false]; exact ⟨i, List.mem_range.2 hi, by simp [hf]⟩
              unfold checkN; rw [this]; simp
            unfold checkE; rw [HC0]; rfl)
          have HB := Lib.hid (show fitsB regs len pol ⟨(I i).op, (I i).a, (I i).b, (I i).c, (I i).n, (I i).s⟩ = false from hf)
          clear hf
          go_wp2_with (go_at_call 28; refine (fits_calls _ _ _ _ _ _ _ _ _ _ _ _ _).mono ?_; rw [HB.out]; rintro e w1 ⟨rfl, hb⟩; obtain ⟨r, d, rfl⟩ := ext_form hb; clear hb)
          go_ret
          refine ⟨?_, by repeat (first | exact ext_refl _ | assumption | refine ext_more' ?_ _ _ | refine ext_drew ?_ | refine ext_drewN ?_ _ | refine ext_alloc ?_ _)⟩
          refine ret_int ?_
          rw [HC.out]
      · have hil : i = len := by omega
        have hi3 : ¬ ((i : Int) < len) := by omega
        have HL := Lib.hid (show checkE p0 regs len I pol = if lastB (I (len - 1)).op = true then 0 else 100 from by
          have : checkN p0 regs len I pol = lastB (I (len - 1)).op := by
            have : (List.range len).all (fun i => fitsB regs len pol (I i)) = true := by
              rw [List.all_eq_true]; intro j hj; exact HALL.out j (by rw [hil]; exact List.mem_range.1 hj)
            unfold checkN; rw [this, HN.out]; simp [a2, a3, a5]; omega
          unfold checkE; rw [this])
        obtain ⟨b, o, rfl, hb, c0, c1, c2, c3, c4, c5⟩ := ins_cells HROWS.out hw (show len - 1 < len by omega)
        have ht : ((len : Int) - 1).toNat = len - 1 := by omega
        have hl1 : 0 ≤ (len : Int) - 1 ∧ (len : Int) - 1 < len := by omega
        obtain ⟨hl2, hl3⟩ := hl1
        clear hil
        generalize (I (len - 1)).op = q at c0 HL
        by_cases q8 : q = 8
        · subst q8; clear c1 c2 c3 c4 c5
          go_wp2
          go_ret
          refine ⟨?_, by repeat (first | exact ext_refl _ | assumption | refine ext_more' ?_ _ _ | refine ext_drew ?_ | refine ext_drewN ?_ _ | refine ext_alloc ?_ _)⟩
          refine ret_int ?_; rw [HL.out]; rfl
        · by_cases q15 : q = 15
          · subst q15; clear c1 c2 c3 c4 c5
            go_wp2
            go_ret
            refine ⟨?_, by repeat (first | exact ext_refl _ | assumption | refine ext_more' ?_ _ _ | refine ext_drew ?_ | refine ext_drewN ?_ _ | refine ext_alloc ?_ _)⟩
            refine ret_int ?_; rw [HL.out]; rfl
          · by_cases q16 : q = 16
            · subst q16; clear c1 c2 c3 c4 c5
              go_wp2
              go_ret
              refine ⟨?_, by repeat (first | exact ext_refl _ | assumption | refine ext_more' ?_ _ _ | refine ext_drew ?_ | refine ext_drewN ?_ _ | refine ext_alloc ?_ _)⟩
              refine ret_int ?_; rw [HL.out]; rfl
            · have e8 : (q == 8) = false := by simpa using q8
              have e15 : (q == 15) = false := by simpa using q15
              have e16 : (q == 16) = false := by simpa using q16
              have HF := Lib.hid (show lastB q = false from by simp [lastB, q8, q15, q16])
              clear q8 q15 q16 c1 c2 c3 c4 c5
              go_wp2
              go_ret
              refine ⟨?_, by repeat (first | exact ext_refl _ | assumption | refine ext_more' ?_ _ _ | refine ext_drew ?_ | refine ext_drewN ?_ _ | refine ext_alloc ?_ _)⟩
              refine ret_int ?_; rw [HL.out, HF.out]; rfl
  · have HC := Lib.hid (show checkE p0 regs len I pol = 100 from by
      unfold checkE
      cases h : checkN p0 regs len I pol
      · rfl
      · exfalso; apply hA
        simp only [checkN, Bool.and_eq_true, decide_eq_true_eq] at h
        exact ⟨h.1.1.1.1.1.1, h.1.1.1.1.1.2, h.1.1.1.1.2, h.1.1.1.2, h.1.1.2⟩)
    have hA2 : nameB p0 = false ∨ regs < 1 ∨ 16 < regs ∨ (len : Int) < 1 ∨ 500 < (len : Int) := by
      by_cases h1 : nameB p0 = true
      · right
        by_cases h2 : regs < 1 ∨ 16 < regs ∨ (len : Int) < 1 ∨ 500 < (len : Int)
        · exact h2
        · exact absurd ⟨h1, by omega, by omega, by omega, by omega⟩ hA
      · left; simpa using h1
    clear hA
    go_enter Try.func22, Try.ntmps22
    cases hn : nameB p0
    · have HN := Lib.hid hn
      clear hn hA2
      go_wp2_with (go_at_call 27; refine (named_calls _ _).mono ?_; rw [HN.out]; rintro e w1 ⟨rfl, rfl⟩)
      all_goals (go_ret; refine ⟨?_, by repeat (first | exact ext_refl _ | assumption | refine ext_more' ?_ _ _ | refine ext_drew ?_ | refine ext_drewN ?_ _ | refine ext_alloc ?_ _)⟩; refine ret_int ?_; rw [HC.out])
    · have HN := Lib.hid hn
      have hA3 : regs < 1 ∨ 16 < regs ∨ (len : Int) < 1 ∨ 500 < (len : Int) := by
        rcases hA2 with h | h
        · rw [hn] at h; cases h
        · exact h
      clear hn hA2
      rcases hA3 with h | h | h | h
      all_goals
        go_wp2_with (go_at_call 27; refine (named_calls _ _).mono ?_; rw [HN.out]; rintro e w1 ⟨rfl, rfl⟩)
        all_goals (go_ret; refine ⟨?_, by repeat (first | exact ext_refl _ | assumption | refine ext_more' ?_ _ _ | refine ext_drew ?_ | refine ext_drewN ?_ _ | refine ext_alloc ?_ _)⟩; refine ret_int ?_; rw [HC.out])
end Go.Proofs.Ytpfkpdimjljeaaa

/- Is a history right? -/
import Derived.Test.YthpgmefjgidkgaaUA12
import Derived.Test.YthpgmefjgidkgaaUB12
import Derived.Test.YthpgmefjgidkgaaUC12
import Derived.Test.YthpgmefjgidkgaaWj
namespace Go.Proofs.Ythpgmefjgidkgaa
open Go.RowKit
set_option linter.unusedVariables false
set_option linter.unusedSimpArgs false

theorem pair0 (a b : Int) : decide ((⟨a, b⟩ : Out) = ⟨0, 0⟩) = (decide (a = 0) && decide (b = 0)) := by rw [Bool.eq_iff_iff]; simp
set_option maxRecDepth 100000 in
set_option maxHeartbeats 4000000 in
theorem hright_calls (prog : ByteArray) (arg ost ov len last : Int) (cs ts ks ss : Option Addr) (cc tc kc sc : Nat) (cmds : List Cmd) (tries sigs : List Int) (known : List Kno) (st cl : Bool) (w : World) (hi : HsIn w ⟨prog, arg, cmds, tries, known, sigs, st, cl, ⟨ost, ov⟩, len, last⟩ ⟨cs, cc, ts, tc, ks, kc, ss, sc⟩) (hs : HsSm ⟨prog, arg, cmds, tries, known, sigs, st, cl, ⟨ost, ov⟩, len, last⟩) (hkd : ∀ i, i < cmds.length → 0 ≤ (cmds.getD i default).kind ∧ (cmds.getD i default).kind ≤ 255) :
    Calls Try.prog 13 #[.agg #[.string prog, .int .i64 arg, .slice cs cmds.length cc, .slice ts tries.length tc, .slice ks known.length kc, .slice ss sigs.length sc, .bool st, .bool cl, .int .i64 ost, .int .i64 ov, .int .i64 len, .int .i64 last]] w fun e w' => e = .returned (.bool (hrB ⟨prog, arg, cmds, tries, known, sigs, st, cl, ⟨ost, ov⟩, len, last⟩)) ∧ Ext w w' := by
  have HIN := Lib.hid hi; have HKD := Lib.hid hkd; have HSM := Lib.hid hs
  have hcl : cmds.length ≤ 1000000 := hs.1
  have htl : tries.length ≤ 1000000 := hs.2.1
  have hkl : known.length ≤ 1000000 := hs.2.2.1
  have hsl : sigs.length ≤ 1000000 := hs.2.2.2
  clear hi hs hkd
  go_enter Try.func13, Try.ntmps13
  go_upto_region 1 with fail
  refine wp_at ?_
  intro W1 hW
  have X1 := Lib.hid (show Ext w W1 by rw [hW]; repeat (first | exact ext_refl _ | assumption | refine ext_more' ?_ _ _ | refine ext_drew ?_ | refine ext_drewN ?_ _ | refine ext_alloc ?_ _))
  have hbh := at_new (by rw [hW]; repeat (first | exact ext_refl _ | assumption | refine ext_more' ?_ _ _ | refine ext_drew ?_ | refine ext_drewN ?_ _ | refine ext_alloc ?_ _) : Ext (World.alloc w (.cells _ _)) W1)
  clear hW
  have kh := hbh.1
  have lh := at_lt hbh (by simp)
  have HB := Lib.hid hbh
  by_cases hl : len = 0
  · have gl : (len == 0) = true := by simpa using hl
    have HL := Lib.hid hl; clear hl
    by_cases h1 : (cmds.length : Int) + tries.length + known.length + sigs.length = 0
    rotate_left
    · have g1 : ((cmds.length : Int) + tries.length + known.length + sigs.length == 0) = false := by simpa using h1
      have HF := Lib.hid (show hrB ⟨prog, arg, cmds, tries, known, sigs, st, cl, ⟨ost, ov⟩, len, last⟩ = false by simp [hrB, zeroB, HL.out, h1])
      clear h1
      go_wp2
      go_ret
      exact ⟨by rw [HF.out]; rfl, ext_trans X1.out (by repeat (first | exact ext_refl _ | assumption | refine ext_more' ?_ _ _ | refine ext_drew ?_ | refine ext_drewN ?_ _ | refine ext_alloc ?_ _))⟩
    have g1 : ((cmds.length : Int) + tries.length + known.length + sigs.length == 0) = true := by simpa using h1
    have H1 := Lib.hid h1; clear h1
    cases h2 : noneB prog
    · have g2 : prog.toList.isEmpty = false := by simpa [noneB] using h2
      have HF := Lib.hid (show hrB ⟨prog, arg, cmds, tries, known, sigs, st, cl, ⟨ost, ov⟩, len, last⟩ = false by simp [hrB, zeroB, HL.out, H1.out, h2])
      clear h2
      go_wp2
      go_ret
      exact ⟨by rw [HF.out]; rfl, ext_trans X1.out (by repeat (first | exact ext_refl _ | assumption | refine ext_more' ?_ _ _ | refine ext_drew ?_ | refine ext_drewN ?_ _ | refine ext_alloc ?_ _))⟩
    have g2 : prog.toList.isEmpty = true := by simpa [noneB] using h2
    have H2 := Lib.hid h2; clear h2
    by_cases h3 : arg = 0
    rotate_left
    · have g3 : (arg == 0) = false := by simpa using h3
      have HF := Lib.hid (show hrB ⟨prog, arg, cmds, tries, known, sigs, st, cl, ⟨ost, ov⟩, len, last⟩ = false by simp [hrB, zeroB, HL.out, H1.out, H2.out, h3])
      clear h3
      go_wp2
      go_ret
      exact ⟨by rw [HF.out]; rfl, ext_trans X1.out (by repeat (first | exact ext_refl _ | assumption | refine ext_more' ?_ _ _ | refine ext_drew ?_ | refine ext_drewN ?_ _ | refine ext_alloc ?_ _))⟩
    have g3 : (arg == 0) = true := by simpa using h3
    have H3 := Lib.hid h3; clear h3
    cases st
    rotate_left
    · have HF := Lib.hid (show hrB ⟨prog, arg, cmds, tries, known, sigs, true, cl, ⟨ost, ov⟩, len, last⟩ = false by simp [hrB, zeroB, HL.out, H1.out, H2.out, H3.out])
      go_wp2
      go_ret
      exact ⟨by rw [HF.out]; rfl, ext_trans X1.out (by repeat (first | exact ext_refl _ | assumption | refine ext_more' ?_ _ _ | refine ext_drew ?_ | refine ext_drewN ?_ _ | refine ext_alloc ?_ _))⟩
    cases cl
    rotate_left
    · have HF := Lib.hid (show hrB ⟨prog, arg, cmds, tries, known, sigs, false, true, ⟨ost, ov⟩, len, last⟩ = false by simp [hrB, zeroB, HL.out, H1.out, H2.out, H3.out])
      go_wp2
      go_ret
      exact ⟨by rw [HF.out]; rfl, ext_trans X1.out (by repeat (first | exact ext_refl _ | assumption | refine ext_more' ?_ _ _ | refine ext_drew ?_ | refine ext_drewN ?_ _ | refine ext_alloc ?_ _))⟩
    by_cases h4 : ost = 0
    rotate_left
    · have g4 : (ost == 0) = false := by simpa using h4
      have HF := Lib.hid (show hrB ⟨prog, arg, cmds, tries, known, sigs, false, false, ⟨ost, ov⟩, len, last⟩ = false by simp [hrB, zeroB, HL.out, H1.out, H2.out, H3.out, h4])
      clear h4
      go_wp2
      go_ret
      exact ⟨by rw [HF.out]; rfl, ext_trans X1.out (by repeat (first | exact ext_refl _ | assumption | refine ext_more' ?_ _ _ | refine ext_drew ?_ | refine ext_drewN ?_ _ | refine ext_alloc ?_ _))⟩
    have g4 : (ost == 0) = true := by simpa using h4
    have H4 := Lib.hid h4; clear h4
    by_cases h5 : ov = 0
    rotate_left
    · have g5 : (ov == 0) = false := by simpa using h5
      have HF := Lib.hid (show hrB ⟨prog, arg, cmds, tries, known, sigs, false, false, ⟨ost, ov⟩, len, last⟩ = false by simp [hrB, zeroB, HL.out, H1.out, H2.out, H3.out, h5])
      clear h5
      go_wp2
      go_ret
      exact ⟨by rw [HF.out]; rfl, ext_trans X1.out (by repeat (first | exact ext_refl _ | assumption | refine ext_more' ?_ _ _ | refine ext_drew ?_ | refine ext_drewN ?_ _ | refine ext_alloc ?_ _))⟩
    have g5 : (ov == 0) = true := by simpa using h5
    have H5 := Lib.hid h5; clear h5
    have HF := Lib.hid (show hrB ⟨prog, arg, cmds, tries, known, sigs, false, false, ⟨ost, ov⟩, len, last⟩ = (last == 0) by rw [Bool.eq_iff_iff]; simp [hrB, zeroB, HL.out, H1.out, H2.out, H3.out, H4.out, H5.out])
    go_wp2
    go_ret
    exact ⟨by rw [HF.out]; rfl, ext_trans X1.out (by repeat (first | exact ext_refl _ | assumption | refine ext_more' ?_ _ _ | refine ext_drew ?_ | refine ext_drewN ?_ _ | refine ext_alloc ?_ _))⟩
  · have gl : (len == 0) = false := by simpa using hl
    have HL := Lib.hid hl; clear hl
    cases h1 : evR ⟨1, last, 0, 0, arg, 0, prog⟩
    · have H1 := Lib.hid h1
      have HF := Lib.hid (show hrB ⟨prog, arg, cmds, tries, known, sigs, st, cl, ⟨ost, ov⟩, len, last⟩ = false by unfold hrB; rw [if_neg HL.out]; simp only [h1, Bool.false_and])
      clear h1
      go_wp2_with (go_at_call 11; refine (right_calls _ _ _ _ _ _ _ _ (by decide) (by decide)).mono ?_; rw [H1.out]; rintro e w1 ⟨rfl, hb⟩; obtain ⟨r, d, rfl⟩ := ext_form hb; clear hb)
      go_ret
      exact ⟨by rw [HF.out]; rfl, ext_trans X1.out (by repeat (first | exact ext_refl _ | assumption | refine ext_more' ?_ _ _ | refine ext_drew ?_ | refine ext_drewN ?_ _ | refine ext_alloc ?_ _))⟩
    have H1 := Lib.hid h1; clear h1
    cases h2 : cmdsB ⟨prog, arg, cmds, tries, known, sigs, st, cl, ⟨ost, ov⟩, len, last⟩
    · have H2 := Lib.hid h2
      have HF := Lib.hid (show hrB ⟨prog, arg, cmds, tries, known, sigs, st, cl, ⟨ost, ov⟩, len, last⟩ = false by unfold hrB; rw [if_neg HL.out]; simp only [h2, Bool.false_and, Bool.and_false])
      clear h2
      go_wp2_with (first | (go_at_call 11; refine (right_calls _ _ _ _ _ _ _ _ (by decide) (by decide)).mono ?_; rw [H1.out]; rintro e w1 ⟨rfl, hb⟩; obtain ⟨r, d, rfl⟩ := ext_form hb; clear hb) | (go_at_call 39; refine (commands_calls prog arg ost ov len last cs ts ks ss cc tc kc sc cmds tries sigs known st cl _ (HIN.out.ext (ext_trans X1.out (by repeat (first | exact ext_refl _ | assumption | refine ext_more' ?_ _ _ | refine ext_drew ?_ | refine ext_drewN ?_ _ | refine ext_alloc ?_ _)))) HSM.out HKD.out).mono ?_; rw [H2.out]; rintro e w1 ⟨rfl, hb⟩; obtain ⟨r, d, rfl⟩ := ext_form hb; clear hb))
      go_ret
      exact ⟨by rw [HF.out]; rfl, ext_trans X1.out (by repeat (first | exact ext_refl _ | assumption | refine ext_more' ?_ _ _ | refine ext_drew ?_ | refine ext_drewN ?_ _ | refine ext_alloc ?_ _))⟩
    have H2 := Lib.hid h2; clear h2
    cases h3 : knosB ⟨prog, arg, cmds, tries, known, sigs, st, cl, ⟨ost, ov⟩, len, last⟩
    · have H3 := Lib.hid h3
      have HF := Lib.hid (show hrB ⟨prog, arg, cmds, tries, known, sigs, st, cl, ⟨ost, ov⟩, len, last⟩ = false by unfold hrB; rw [if_neg HL.out]; simp only [h3, Bool.false_and, Bool.and_false])
      clear h3
      go_wp2_with (first | (go_at_call 11; refine (right_calls _ _ _ _ _ _ _ _ (by decide) (by decide)).mono ?_; rw [H1.out]; rintro e w1 ⟨rfl, hb⟩; obtain ⟨r, d, rfl⟩ := ext_form hb; clear hb) | (go_at_call 39; refine (commands_calls prog arg ost ov len last cs ts ks ss cc tc kc sc cmds tries sigs known st cl _ (HIN.out.ext (ext_trans X1.out (by repeat (first | exact ext_refl _ | assumption | refine ext_more' ?_ _ _ | refine ext_drew ?_ | refine ext_drewN ?_ _ | refine ext_alloc ?_ _)))) HSM.out HKD.out).mono ?_; rw [H2.out]; rintro e w1 ⟨rfl, hb⟩; obtain ⟨r, d, rfl⟩ := ext_form hb; clear hb) | (go_at_call 40; refine (known_calls prog arg ost ov len last cs ts ks ss cc tc kc sc cmds tries sigs known st cl _ (HIN.out.ext (ext_trans X1.out (by repeat (first | exact ext_refl _ | assumption | refine ext_more' ?_ _ _ | refine ext_drew ?_ | refine ext_drewN ?_ _ | refine ext_alloc ?_ _)))) HSM.out).mono ?_; rw [H3.out]; rintro e w1 ⟨rfl, hb⟩; obtain ⟨r, d, rfl⟩ := ext_form hb; clear hb))
      go_ret
      exact ⟨by rw [HF.out]; rfl, ext_trans X1.out (by repeat (first | exact ext_refl _ | assumption | refine ext_more' ?_ _ _ | refine ext_drew ?_ | refine ext_drewN ?_ _ | refine ext_alloc ?_ _))⟩
    have H3 := Lib.hid h3; clear h3
    have hco : (cl = false ∧ (ost == 0) = false) ∨ (cl = false ∧ (ost == 0) = true ∧ (ov == 0) = false) ∨ (cl = false ∧ (ost == 0) = true ∧ (ov == 0) = true) ∨ cl = true := by
      cases cl <;> cases (ost == 0) <;> cases (ov == 0) <;> simp
    rcases hco with ⟨rfl, g4⟩ | ⟨rfl, g4, g5⟩ | hco
    · have HF := Lib.hid (show hrB ⟨prog, arg, cmds, tries, known, sigs, st, false, ⟨ost, ov⟩, len, last⟩ = false by unfold hrB; rw [if_neg HL.out]; rw [pair0, show decide (ost = 0) = false from by simpa using g4]; simp only [Bool.false_or, Bool.false_and, Bool.and_false])
      go_wp2_with (first | (go_at_call 11; refine (right_calls _ _ _ _ _ _ _ _ (by decide) (by decide)).mono ?_; rw [H1.out]; rintro e w1 ⟨rfl, hb⟩; obtain ⟨r, d, rfl⟩ := ext_form hb; clear hb) | (go_at_call 39; refine (commands_calls prog arg ost ov len last cs ts ks ss cc tc kc sc cmds tries sigs known st false _ (HIN.out.ext (ext_trans X1.out (by repeat (first | exact ext_refl _ | assumption | refine ext_more' ?_ _ _ | refine ext_drew ?_ | refine ext_drewN ?_ _ | refine ext_alloc ?_ _)))) HSM.out HKD.out).mono ?_; rw [H2.out]; rintro e w1 ⟨rfl, hb⟩; obtain ⟨r, d, rfl⟩ := ext_form hb; clear hb) | (go_at_call 40; refine (known_calls prog arg ost ov len last cs ts ks ss cc tc kc sc cmds tries sigs known st false _ (HIN.out.ext (ext_trans X1.out (by repeat (first | exact ext_refl _ | assumption | refine ext_more' ?_ _ _ | refine ext_drew ?_ | refine ext_drewN ?_ _ | refine ext_alloc ?_ _)))) HSM.out).mono ?_; rw [H3.out]; rintro e w1 ⟨rfl, hb⟩; obtain ⟨r, d, rfl⟩ := ext_form hb; clear hb))
      go_ret
      exact ⟨by rw [HF.out]; rfl, ext_trans X1.out (by repeat (first | exact ext_refl _ | assumption | refine ext_more' ?_ _ _ | refine ext_drew ?_ | refine ext_drewN ?_ _ | refine ext_alloc ?_ _))⟩
    · have HF := Lib.hid (show hrB ⟨prog, arg, cmds, tries, known, sigs, st, false, ⟨ost, ov⟩, len, last⟩ = false by unfold hrB; rw [if_neg HL.out]; rw [pair0, show decide (ov = 0) = false from by simpa using g5]; simp only [Bool.false_or, Bool.false_and, Bool.and_false])
      go_wp2_with (first | (go_at_call 11; refine (right_calls _ _ _ _ _ _ _ _ (by decide) (by decide)).mono ?_; rw [H1.out]; rintro e w1 ⟨rfl, hb⟩; obtain ⟨r, d, rfl⟩ := ext_form hb; clear hb) | (go_at_call 39; refine (commands_calls prog arg ost ov len last cs ts ks ss cc tc kc sc cmds tries sigs known st false _ (HIN.out.ext (ext_trans X1.out (by repeat (first | exact ext_refl _ | assumption | refine ext_more' ?_ _ _ | refine ext_drew ?_ | refine ext_drewN ?_ _ | refine ext_alloc ?_ _)))) HSM.out HKD.out).mono ?_; rw [H2.out]; rintro e w1 ⟨rfl, hb⟩; obtain ⟨r, d, rfl⟩ := ext_form hb; clear hb) | (go_at_call 40; refine (known_calls prog arg ost ov len last cs ts ks ss cc tc kc sc cmds tries sigs known st false _ (HIN.out.ext (ext_trans X1.out (by repeat (first | exact ext_refl _ | assumption | refine ext_more' ?_ _ _ | refine ext_drew ?_ | refine ext_drewN ?_ _ | refine ext_alloc ?_ _)))) HSM.out).mono ?_; rw [H3.out]; rintro e w1 ⟨rfl, hb⟩; obtain ⟨r, d, rfl⟩ := ext_form hb; clear hb))
      go_ret
      exact ⟨by rw [HF.out]; rfl, ext_trans X1.out (by repeat (first | exact ext_refl _ | assumption | refine ext_more' ?_ _ _ | refine ext_drew ?_ | refine ext_drewN ?_ _ | refine ext_alloc ?_ _))⟩
    have hok : (cl || decide ((⟨ost, ov⟩ : Out) = ⟨0, 0⟩)) = true := by
      rcases hco with ⟨rfl, g4, g5⟩ | rfl
      · rw [pair0]; simp only [beq_iff_eq] at g4 g5; simp [g4, g5]
      · rfl
    have HOK := Lib.hid hok; clear hok
    cases h6 : evR ⟨7, 0, 0, ost, ov, 0, ⟨#[]⟩⟩
    · have H6 := Lib.hid h6
      have h6' : evR ⟨7, 0, 0, ost, ov, 0, emp⟩ = false := h6
      have HF := Lib.hid (show hrB ⟨prog, arg, cmds, tries, known, sigs, st, cl, ⟨ost, ov⟩, len, last⟩ = false by unfold hrB; rw [if_neg HL.out]; simp only [h6', Bool.false_and, Bool.and_false])
      clear h6 h6'
      rcases hco with ⟨rfl, g4, g5⟩ | rfl
      · go_wp2_with (first | (go_at_call 11; refine (right_calls _ _ _ _ _ _ _ _ (by decide) (by decide)).mono ?_; rw [H1.out]; rintro e w1 ⟨rfl, hb⟩; obtain ⟨r, d, rfl⟩ := ext_form hb; clear hb) | (go_at_call 39; refine (commands_calls prog arg ost ov len last cs ts ks ss cc tc kc sc cmds tries sigs known st false _ (HIN.out.ext (ext_trans X1.out (by repeat (first | exact ext_refl _ | assumption | refine ext_more' ?_ _ _ | refine ext_drew ?_ | refine ext_drewN ?_ _ | refine ext_alloc ?_ _)))) HSM.out HKD.out).mono ?_; rw [H2.out]; rintro e w1 ⟨rfl, hb⟩; obtain ⟨r, d, rfl⟩ := ext_form hb; clear hb) | (go_at_call 40; refine (known_calls prog arg ost ov len last cs ts ks ss cc tc kc sc cmds tries sigs known st false _ (HIN.out.ext (ext_trans X1.out (by repeat (first | exact ext_refl _ | assumption | refine ext_more' ?_ _ _ | refine ext_drew ?_ | refine ext_drewN ?_ _ | refine ext_alloc ?_ _)))) HSM.out).mono ?_; rw [H3.out]; rintro e w1 ⟨rfl, hb⟩; obtain ⟨r, d, rfl⟩ := ext_form hb; clear hb) | (go_at_call 11; refine (right_calls _ _ _ _ _ _ _ _ (by decide) (by decide)).mono ?_; rw [H6.out]; rintro e w1 ⟨rfl, hb⟩; obtain ⟨r, d, rfl⟩ := ext_form hb; clear hb))
        go_ret
        exact ⟨by rw [HF.out]; rfl, ext_trans X1.out (by repeat (first | exact ext_refl _ | assumption | refine ext_more' ?_ _ _ | refine ext_drew ?_ | refine ext_drewN ?_ _ | refine ext_alloc ?_ _))⟩
      · go_wp2_with (first | (go_at_call 11; refine (right_calls _ _ _ _ _ _ _ _ (by decide) (by decide)).mono ?_; rw [H1.out]; rintro e w1 ⟨rfl, hb⟩; obtain ⟨r, d, rfl⟩ := ext_form hb; clear hb) | (go_at_call 39; refine (commands_calls prog arg ost ov len last cs ts ks ss cc tc kc sc cmds tries sigs known st true _ (HIN.out.ext (ext_trans X1.out (by repeat (first | exact ext_refl _ | assumption | refine ext_more' ?_ _ _ | refine ext_drew ?_ | refine ext_drewN ?_ _ | refine ext_alloc ?_ _)))) HSM.out HKD.out).mono ?_; rw [H2.out]; rintro e w1 ⟨rfl, hb⟩; obtain ⟨r, d, rfl⟩ := ext_form hb; clear hb) | (go_at_call 40; refine (known_calls prog arg ost ov len last cs ts ks ss cc tc kc sc cmds tries sigs known st true _ (HIN.out.ext (ext_trans X1.out (by repeat (first | exact ext_refl _ | assumption | refine ext_more' ?_ _ _ | refine ext_drew ?_ | refine ext_drewN ?_ _ | refine ext_alloc ?_ _)))) HSM.out).mono ?_; rw [H3.out]; rintro e w1 ⟨rfl, hb⟩; obtain ⟨r, d, rfl⟩ := ext_form hb; clear hb) | (go_at_call 11; refine (right_calls _ _ _ _ _ _ _ _ (by decide) (by decide)).mono ?_; rw [H6.out]; rintro e w1 ⟨rfl, hb⟩; obtain ⟨r, d, rfl⟩ := ext_form hb; clear hb))
        go_ret
        exact ⟨by rw [HF.out]; rfl, ext_trans X1.out (by repeat (first | exact ext_refl _ | assumption | refine ext_more' ?_ _ _ | refine ext_drew ?_ | refine ext_drewN ?_ _ | refine ext_alloc ?_ _))⟩
    have H6 := Lib.hid h6
    have h6' : evR ⟨7, 0, 0, ost, ov, 0, emp⟩ = true := h6
    have HF := Lib.hid (show hrB ⟨prog, arg, cmds, tries, known, sigs, st, cl, ⟨ost, ov⟩, len, last⟩ = decide (len = manyI ⟨prog, arg, cmds, tries, known, sigs, st, cl, ⟨ost, ov⟩, len, last⟩) by unfold hrB; rw [if_neg HL.out, H1.out, H2.out, H3.out]; show (true && (true && (true && ((cl || decide ((⟨ost, ov⟩ : Out) = ⟨0, 0⟩)) && _)))) = _; rw [HOK.out, h6']; rfl)
    have htb : ∀ i, i < tries.length → 0 ≤ tries.getD i default ∧ tries.getD i default ≤ 100 := by
      have := H2.out
      unfold cmdsB at this
      simp only [Bool.and_eq_true, decide_eq_true_eq] at this
      have h7 := (cmdsK_iff _ _).1 this.2
      exact fun i hi => (cmdOk_p (h7 i (by have := this.1; omega))).2.1
    have HTB := Lib.hid htb
    clear h6 h6' htb HOK
    rcases hco with ⟨rfl, g4, g5⟩ | rfl
    · go_upto_region 7 with (first | (go_at_call 11; refine (right_calls _ _ _ _ _ _ _ _ (by decide) (by decide)).mono ?_; rw [H1.out]; rintro e w1 ⟨rfl, hb⟩; obtain ⟨r, d, rfl⟩ := ext_form hb; clear hb) | (go_at_call 39; refine (commands_calls prog arg ost ov len last cs ts ks ss cc tc kc sc cmds tries sigs known st false _ (HIN.out.ext (ext_trans X1.out (by repeat (first | exact ext_refl _ | assumption | refine ext_more' ?_ _ _ | refine ext_drew ?_ | refine ext_drewN ?_ _ | refine ext_alloc ?_ _)))) HSM.out HKD.out).mono ?_; rw [H2.out]; rintro e w1 ⟨rfl, hb⟩; obtain ⟨r, d, rfl⟩ := ext_form hb; clear hb) | (go_at_call 40; refine (known_calls prog arg ost ov len last cs ts ks ss cc tc kc sc cmds tries sigs known st false _ (HIN.out.ext (ext_trans X1.out (by repeat (first | exact ext_refl _ | assumption | refine ext_more' ?_ _ _ | refine ext_drew ?_ | refine ext_drewN ?_ _ | refine ext_alloc ?_ _)))) HSM.out).mono ?_; rw [H3.out]; rintro e w1 ⟨rfl, hb⟩; obtain ⟨r, d, rfl⟩ := ext_form hb; clear hb) | (go_at_call 11; refine (right_calls _ _ _ _ _ _ _ _ (by decide) (by decide)).mono ?_; rw [H6.out]; rintro e w1 ⟨rfl, hb⟩; obtain ⟨r, d, rfl⟩ := ext_form hb; clear hb))
      refine wp_at ?_
      intro W7 hW
      have x7 : Ext W1 W7 := by rw [hW]; repeat (first | exact ext_refl _ | assumption | refine ext_more' ?_ _ _ | refine ext_drew ?_ | refine ext_drewN ?_ _ | refine ext_alloc ?_ _)
      clear hW
      refine wp_region_held_drew (S := fun w' => Ext W1 w') (by kernel_rfl) (ext_drew x7) (fun hHeld => ?_)
      refine wpAnyH_take' (i := 0) (v := ?v0_1) (some 92) rfl rfl (by kernel_rfl) (by kernel_rfl) (by kernel_rfl) (fun _ _ _ h => h) (Or.inl ⟨by kernel_rfl, ?y0_1⟩) (hHeld) ?_
      case y0_1 =>
        intro w' hSw
        have kh' := fun i => (hSw.cell (p := ⟨w.heap.size, i, none⟩) lh).trans (kh i); go_simp
        try with_reducible rfl
      refine wpAnyH_take' (i := 1) (v := ?v1_2) (some 93) rfl rfl (by kernel_rfl) (by kernel_rfl) (by kernel_rfl) (fun _ _ _ h => h) (Or.inl ⟨by kernel_rfl, ?y1_2⟩) (hHeld) ?_
      case y1_2 =>
        intro w' hSw
        have kh' := fun i => (hSw.cell (p := ⟨w.heap.size, i, none⟩) lh).trans (kh i); go_simp
        try with_reducible rfl
      refine wpAnyH_take' (i := 2) (v := ?v2_3) (some 94) rfl rfl (by kernel_rfl) (by kernel_rfl) (by kernel_rfl) (fun _ _ _ h => h) (Or.inl ⟨by kernel_rfl, ?y2_3⟩) (hHeld) ?_
      case y2_3 =>
        intro w' hSw
        have kh' := fun i => (hSw.cell (p := ⟨w.heap.size, i, none⟩) lh).trans (kh i); go_simp
        try with_reducible rfl
      refine wpAnyH_ready (rs := [3]) (by kernel_rfl) (by simp) ?_
      refine AllReadyH.cons rfl (fun K hK => ?_) AllReadyH.nil
      rw [if_pos (by rfl)]
      go_simp
      go_at_call 41
      refine (many_calls prog arg ost ov len last cs ts ks ss cc tc kc sc cmds tries sigs known st false _ (HIN.out.ext (ext_trans X1.out hHeld)) HSM.out HTB.out).mono ?_
      rintro e w9 ⟨rfl, hb⟩
      refine hK.out _ _ (ext_trans hHeld hb) (fun hS => ?_)
      have hX9 := ext_trans X1.out hS
      refine wpAnyH_take' (i := 4) (v := ?v4_4) (some 96) rfl rfl (by kernel_rfl) (by kernel_rfl) (by kernel_rfl) (fun _ _ _ h => h) (Or.inl ⟨by kernel_rfl, ?y4_4⟩) (hS) ?_
      case y4_4 =>
        intro w' hSw
        have kh' := fun i => (hSw.cell (p := ⟨w.heap.size, i, none⟩) lh).trans (kh i); go_simp
        try with_reducible rfl
      refine wpAnyH_take' (i := 5) (v := ?v5_5) (some 2) rfl rfl (by kernel_rfl) (by kernel_rfl) (by kernel_rfl) (fun _ _ _ h => h) (Or.inl ⟨by kernel_rfl, ?y5_5⟩) (hS) ?_
      case y5_5 =>
        intro w' hSw
        have kh' := fun i => (hSw.cell (p := ⟨w.heap.size, i, none⟩) lh).trans (kh i); go_simp
        try with_reducible rfl
      refine wpAnyH_done (by kernel_rfl) ?_ _
      clear hHeld hK
      go_simp
      go_wp2
      go_ret
      exact ⟨by rw [HF.out]; refine congrArg (fun b => Ending.returned (.bool b)) ?_; rw [Bool.eq_iff_iff]; simp, hX9⟩
    · go_upto_region 7 with (first | (go_at_call 11; refine (right_calls _ _ _ _ _ _ _ _ (by decide) (by decide)).mono ?_; rw [H1.out]; rintro e w1 ⟨rfl, hb⟩; obtain ⟨r, d, rfl⟩ := ext_form hb; clear hb) | (go_at_call 39; refine (commands_calls prog arg ost ov len last cs ts ks ss cc tc kc sc cmds tries sigs known st true _ (HIN.out.ext (ext_trans X1.out (by repeat (first | exact ext_refl _ | assumption | refine ext_more' ?_ _ _ | refine ext_drew ?_ | refine ext_drewN ?_ _ | refine ext_alloc ?_ _)))) HSM.out HKD.out).mono ?_; rw [H2.out]; rintro e w1 ⟨rfl, hb⟩; obtain ⟨r, d, rfl⟩ := ext_form hb; clear hb) | (go_at_call 40; refine (known_calls prog arg ost ov len last cs ts ks ss cc tc kc sc cmds tries sigs known st true _ (HIN.out.ext (ext_trans X1.out (by repeat (first | exact ext_refl _ | assumption | refine ext_more' ?_ _ _ | refine ext_drew ?_ | refine ext_drewN ?_ _ | refine ext_alloc ?_ _)))) HSM.out).mono ?_; rw [H3.out]; rintro e w1 ⟨rfl, hb⟩; obtain ⟨r, d, rfl⟩ := ext_form hb; clear hb) | (go_at_call 11; refine (right_calls _ _ _ _ _ _ _ _ (by decide) (by decide)).mono ?_; rw [H6.out]; rintro e w1 ⟨rfl, hb⟩; obtain ⟨r, d, rfl⟩ := ext_form hb; clear hb))
      refine wp_at ?_
      intro W7 hW
      have x7 : Ext W1 W7 := by rw [hW]; repeat (first | exact ext_refl _ | assumption | refine ext_more' ?_ _ _ | refine ext_drew ?_ | refine ext_drewN ?_ _ | refine ext_alloc ?_ _)
      clear hW
      refine wp_region_held_drew (S := fun w' => Ext W1 w') (by kernel_rfl) (ext_drew x7) (fun hHeld => ?_)
      refine wpAnyH_take' (i := 0) (v := ?v0_6) (some 92) rfl rfl (by kernel_rfl) (by kernel_rfl) (by kernel_rfl) (fun _ _ _ h => h) (Or.inl ⟨by kernel_rfl, ?y0_6⟩) (hHeld) ?_
      case y0_6 =>
        intro w' hSw
        have kh' := fun i => (hSw.cell (p := ⟨w.heap.size, i, none⟩) lh).trans (kh i); go_simp
        try with_reducible rfl
      refine wpAnyH_take' (i := 1) (v := ?v1_7) (some 93) rfl rfl (by kernel_rfl) (by kernel_rfl) (by kernel_rfl) (fun _ _ _ h => h) (Or.inl ⟨by kernel_rfl, ?y1_7⟩) (hHeld) ?_
      case y1_7 =>
        intro w' hSw
        have kh' := fun i => (hSw.cell (p := ⟨w.heap.size, i, none⟩) lh).trans (kh i); go_simp
        try with_reducible rfl
      refine wpAnyH_take' (i := 2) (v := ?v2_8) (some 94) rfl rfl (by kernel_rfl) (by kernel_rfl) (by kernel_rfl) (fun _ _ _ h => h) (Or.inl ⟨by kernel_rfl, ?y2_8⟩) (hHeld) ?_
      case y2_8 =>
        intro w' hSw
        have kh' := fun i => (hSw.cell (p := ⟨w.heap.size, i, none⟩) lh).trans (kh i); go_simp
        try with_reducible rfl
      refine wpAnyH_ready (rs := [3]) (by kernel_rfl) (by simp) ?_
      refine AllReadyH.cons rfl (fun K hK => ?_) AllReadyH.nil
      rw [if_pos (by rfl)]
      go_simp
      go_at_call 41
      refine (many_calls prog arg ost ov len last cs ts ks ss cc tc kc sc cmds tries sigs known st true _ (HIN.out.ext (ext_trans X1.out hHeld)) HSM.out HTB.out).mono ?_
      rintro e w9 ⟨rfl, hb⟩
      refine hK.out _ _ (ext_trans hHeld hb) (fun hS => ?_)
      have hX9 := ext_trans X1.out hS
      refine wpAnyH_take' (i := 4) (v := ?v4_9) (some 96) rfl rfl (by kernel_rfl) (by kernel_rfl) (by kernel_rfl) (fun _ _ _ h => h) (Or.inl ⟨by kernel_rfl, ?y4_9⟩) (hS) ?_
      case y4_9 =>
        intro w' hSw
        have kh' := fun i => (hSw.cell (p := ⟨w.heap.size, i, none⟩) lh).trans (kh i); go_simp
        try with_reducible rfl
      refine wpAnyH_take' (i := 5) (v := ?v5_10) (some 2) rfl rfl (by kernel_rfl) (by kernel_rfl) (by kernel_rfl) (fun _ _ _ h => h) (Or.inl ⟨by kernel_rfl, ?y5_10⟩) (hS) ?_
      case y5_10 =>
        intro w' hSw
        have kh' := fun i => (hSw.cell (p := ⟨w.heap.size, i, none⟩) lh).trans (kh i); go_simp
        try with_reducible rfl
      refine wpAnyH_done (by kernel_rfl) ?_ _
      clear hHeld hK
      go_simp
      go_wp2
      go_ret
      exact ⟨by rw [HF.out]; refine congrArg (fun b => Ending.returned (.bool b)) ?_; rw [Bool.eq_iff_iff]; simp, hX9⟩
end Go.Proofs.Ythpgmefjgidkgaa

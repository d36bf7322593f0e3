/- Which events are right. -/
import Derived.Test.YthpgmefjgidkgaaF12
namespace Go.Proofs.Ythpgmefjgidkgaa
open Go.RowKit
set_option linter.unusedVariables false
set_option linter.unusedSimpArgs false

theorem fz (w : World) : (zeroValue 24).run Try.prog w = .ok .nilFunc w := by kernel_rfl
def evM (be bp : Nat) : List (Int × Value) := [(1, .func (.func 24) #[] #[.pointer (some ⟨be, 0, none⟩)]), (2, .func (.func 26) #[] #[.pointer (some ⟨be, 0, none⟩)]), (3, .func (.func 29) #[] #[.pointer (some ⟨be, 0, none⟩), .pointer (some ⟨bp, 0, none⟩)]), (4, .func (.func 30) #[] #[.pointer (some ⟨be, 0, none⟩), .pointer (some ⟨bp, 0, none⟩)]), (5, .func (.func 32) #[] #[.pointer (some ⟨be, 0, none⟩), .pointer (some ⟨bp, 0, none⟩)]), (6, .func (.func 33) #[] #[.pointer (some ⟨be, 0, none⟩), .pointer (some ⟨bp, 0, none⟩)]), (7, .func (.func 34) #[] #[.pointer (some ⟨be, 0, none⟩), .pointer (some ⟨bp, 0, none⟩)])]
theorem rt_false (k at' n p a b : Int) (s : ByteArray) (h : at' < 0 ∨ 1099511627776 < at') : evR ⟨k, at', n, p, a, b, s⟩ = false := by
  unfold evR
  rcases h with h | h
  · have : decide (0 ≤ at') = false := by simpa using h
    simp [this]
  · have : decide (at' ≤ 1099511627776) = false := by simpa using h
    simp [this]
set_option maxRecDepth 100000 in
set_option maxHeartbeats 4000000 in
theorem right_calls (k at' n p a b : Int) (s : ByteArray) (w : World) (k0 : 0 ≤ k) (k1 : k ≤ 255) : Calls Try.prog 11 #[.agg #[.int .u8 k, .int .i64 at', .int .i64 n, .int .i64 p, .int .i64 a, .int .i64 b, .string s]] w fun e w' => e = .returned (.bool (evR ⟨k, at', n, p, a, b, s⟩)) ∧ Ext w w' := by
  obtain ⟨pl, hpl⟩ : ∃ pl, pl = plainB ⟨k, at', n, p, a, b, s⟩ := ⟨_, rfl⟩
  have HPL := Lib.hid hpl
  have pm : ∀ w : World, (Instr.makeMap 69 none).run Try.prog w = .ok (.map (some w.heap.size)) (w.alloc (.map #[] 0)) := fun _ => rfl
  have hb : (b == 0) = true ∨ (b == 0) = false := by cases (b == 0) <;> simp
  have hpe : (b == 0) = true → s.toList.isEmpty = pl := fun h => by rw [hpl]; simp only [plainB, noneB]; simp only [beq_iff_eq] at h; simp [h]; cases s.toList <;> rfl
  have hpf : (b == 0) = false → pl = false := fun h => by rw [hpl]; simp only [plainB]; simp only [beq_eq_false_iff_ne] at h; simp [h]
  clear hpl
  rcases hb with hb | hb
  · have hq := hpe hb
    clear hpe hpf
    go_enter Try.func11, Try.ntmps11
    go_upto_region 2 with fail
    clear hq hb
    refine wp_at ?_
    intro W1 hW
    have hx := Lib.hid (show Ext w W1 by rw [hW]; repeat (first | exact ext_refl _ | assumption | refine ext_more' ?_ _ _ | refine ext_drew ?_ | refine ext_drewN ?_ _ | refine ext_alloc ?_ _))
    have hbe := at_new (by rw [hW]; repeat (first | exact ext_refl _ | assumption | refine ext_more' ?_ _ _ | refine ext_drew ?_ | refine ext_drewN ?_ _ | refine ext_alloc ?_ _) : Ext (World.alloc w (.cells _ _)) W1)
    have hbp := at_new (by rw [hW]; repeat (first | exact ext_refl _ | assumption | refine ext_more' ?_ _ _ | refine ext_drew ?_ | refine ext_drewN ?_ _ | refine ext_alloc ?_ _) : Ext ((World.alloc w (.cells _ _)).alloc (.cells _ _)) W1)
    simp only [sz_alloc] at hbp
    clear hW
    go_upto_region 3 with (first
      | (refine list_mins rfl (.tmp 15) (.const (.int .u8 1)) (.tmp 16) 69 rfl 36 24 .u8 Try.underlying69 Try.underlying36 W1.heap.size _ rfl (mp_new (X := W1) (by repeat (first | exact ext_refl _ | assumption | refine ext_more' ?_ _ _ | refine ext_drew ?_ | refine ext_drewN ?_ _ | refine ext_alloc ?_ _))) 1 _ rfl rfl ?_; intro w1 hm1 hc1; have HM1 := Lib.hid hm1; have HC1 := Lib.hid (hc1); clear hm1 hc1)
      | (refine list_mins rfl (.tmp 15) (.const (.int .u8 2)) (.tmp 17) 69 rfl 36 24 .u8 Try.underlying69 Try.underlying36 W1.heap.size _ rfl HM1.out 2 _ rfl rfl ?_; intro w2 hm2 hc2; have HM2 := Lib.hid hm2; have HC2 := Lib.hid (HC1.out.trans hc2); clear hm2 hc2)
      | (refine list_mins rfl (.tmp 15) (.const (.int .u8 3)) (.tmp 18) 69 rfl 36 24 .u8 Try.underlying69 Try.underlying36 W1.heap.size _ rfl HM2.out 3 _ rfl rfl ?_; intro w3 hm3 hc3; have HM3 := Lib.hid hm3; have HC3 := Lib.hid (HC2.out.trans hc3); clear hm3 hc3)
      | (refine list_mins rfl (.tmp 15) (.const (.int .u8 4)) (.tmp 19) 69 rfl 36 24 .u8 Try.underlying69 Try.underlying36 W1.heap.size _ rfl HM3.out 4 _ rfl rfl ?_; intro w4 hm4 hc4; have HM4 := Lib.hid hm4; have HC4 := Lib.hid (HC3.out.trans hc4); clear hm4 hc4)
      | (refine list_mins rfl (.tmp 15) (.const (.int .u8 5)) (.tmp 20) 69 rfl 36 24 .u8 Try.underlying69 Try.underlying36 W1.heap.size _ rfl HM4.out 5 _ rfl rfl ?_; intro w5 hm5 hc5; have HM5 := Lib.hid hm5; have HC5 := Lib.hid (HC4.out.trans hc5); clear hm5 hc5)
      | (refine list_mins rfl (.tmp 15) (.const (.int .u8 6)) (.tmp 21) 69 rfl 36 24 .u8 Try.underlying69 Try.underlying36 W1.heap.size _ rfl HM5.out 6 _ rfl rfl ?_; intro w6 hm6 hc6; have HM6 := Lib.hid hm6; have HC6 := Lib.hid (HC5.out.trans hc6); clear hm6 hc6)
      | (refine list_mins rfl (.tmp 15) (.const (.int .u8 7)) (.tmp 22) 69 rfl 36 24 .u8 Try.underlying69 Try.underlying36 W1.heap.size _ rfl HM6.out 7 _ rfl rfl ?_; intro w7 hm7 hc7; have HM7 := Lib.hid hm7; have HC7 := Lib.hid (HC6.out.trans hc7); clear hm7 hc7))
    have hV : Chg (fun q => q = W1.heap.size) W1 w7 := ((Chg.refl _ _).alloc _).trans HC7.out
    have X7 := Lib.hid (ext_chg hx.out hV (fun i h => by have := hx.out.size; omega))
    have hbe7 := at_chg hbe (by simp) hV (by have := at_lt hbe (by simp); omega)
    have hbp7 := at_chg hbp (by simp) hV (by have := at_lt hbp (by simp); omega)
    have HM := Lib.hid (show Mp w7 W1.heap.size .u8 (evM w.heap.size (w.heap.size + 1)) from HM7.out)
    clear hV HC7 HM7 HC6 HM6 HC5 HM5 HC4 HM4 HC3 HM3 HC2 HM2 HC1 HM1 hbe hbp
    have kb := hbe7.1
    have kp := hbp7.1
    have kp0 := kp 0
    have hk : k = 1 ∨ k = 2 ∨ k = 3 ∨ k = 4 ∨ k = 5 ∨ k = 6 ∨ k = 7 ∨ ¬ (1 ≤ k ∧ k ≤ 7) := by omega
    have hat : at' < 0 ∨ (0 ≤ at' ∧ 1099511627776 < at') ∨ (0 ≤ at' ∧ at' ≤ 1099511627776) := by omega
    rcases hk with rfl | rfl | rfl | rfl | rfl | rfl | rfl | hk
    · have HL := Lib.hid (show mlook 1 (evM w.heap.size (w.heap.size + 1)) = some (.func (.func 24) #[] #[.pointer (some ⟨w.heap.size, 0, none⟩)]) from rfl)
      rcases hat with ha | ⟨ha1, ha⟩ | ⟨ha1, ha2⟩
      · go_wp2_with (refine list_mlook rfl (.tmp 25) (.tmp 27) 69 true rfl 36 24 .u8 Try.underlying69 Try.underlying36 (fz _) W1.heap.size (evM w.heap.size (w.heap.size + 1)) rfl HM.out 1 rfl ?_; rw [HL.out])
        go_ret
        exact ⟨by rw [rt_false _ _ _ _ _ _ _ (.inl ha)] <;> rfl, X7.out⟩
      · go_wp2_with (refine list_mlook rfl (.tmp 25) (.tmp 27) 69 true rfl 36 24 .u8 Try.underlying69 Try.underlying36 (fz _) W1.heap.size (evM w.heap.size (w.heap.size + 1)) rfl HM.out 1 rfl ?_; rw [HL.out])
        go_ret
        exact ⟨by rw [rt_false _ _ _ _ _ _ _ (.inr ha)] <;> rfl, X7.out⟩
      · go_wp2_with (first | (refine list_mlook rfl (.tmp 25) (.tmp 27) 69 true rfl 36 24 .u8 Try.underlying69 Try.underlying36 (fz _) W1.heap.size (evM w.heap.size (w.heap.size + 1)) rfl HM.out 1 rfl ?_; rw [HL.out]) | (go_at_call 24; refine (clo1_calls ⟨1, at', n, p, a, b, s⟩ _ _ kb).mono ?_; rintro e w' ⟨rfl, rfl⟩; have hx8 := Lib.hid X7.out))
        go_ret
        exact ⟨by rw [HPL.out]; simp [evR, kindB, ha1, ha2], hx8.out⟩
    · have HL := Lib.hid (show mlook 2 (evM w.heap.size (w.heap.size + 1)) = some (.func (.func 26) #[] #[.pointer (some ⟨w.heap.size, 0, none⟩)]) from rfl)
      rcases hat with ha | ⟨ha1, ha⟩ | ⟨ha1, ha2⟩
      · go_wp2_with (refine list_mlook rfl (.tmp 25) (.tmp 27) 69 true rfl 36 24 .u8 Try.underlying69 Try.underlying36 (fz _) W1.heap.size (evM w.heap.size (w.heap.size + 1)) rfl HM.out 2 rfl ?_; rw [HL.out])
        go_ret
        exact ⟨by rw [rt_false _ _ _ _ _ _ _ (.inl ha)] <;> rfl, X7.out⟩
      · go_wp2_with (refine list_mlook rfl (.tmp 25) (.tmp 27) 69 true rfl 36 24 .u8 Try.underlying69 Try.underlying36 (fz _) W1.heap.size (evM w.heap.size (w.heap.size + 1)) rfl HM.out 2 rfl ?_; rw [HL.out])
        go_ret
        exact ⟨by rw [rt_false _ _ _ _ _ _ _ (.inr ha)] <;> rfl, X7.out⟩
      · go_wp2_with (first | (refine list_mlook rfl (.tmp 25) (.tmp 27) 69 true rfl 36 24 .u8 Try.underlying69 Try.underlying36 (fz _) W1.heap.size (evM w.heap.size (w.heap.size + 1)) rfl HM.out 2 rfl ?_; rw [HL.out]) | (go_at_call 26; refine (clo2_calls ⟨2, at', n, p, a, b, s⟩ _ _ kb).mono ?_; rintro e w' ⟨rfl, hb⟩; have hx8 := Lib.hid (ext_trans X7.out hb); clear hb))
        go_ret
        exact ⟨by rw [HPL.out]; simp [evR, kindB, ha1, ha2], hx8.out⟩
    · have HL := Lib.hid (show mlook 3 (evM w.heap.size (w.heap.size + 1)) = some (.func (.func 29) #[] #[.pointer (some ⟨w.heap.size, 0, none⟩), .pointer (some ⟨w.heap.size + 1, 0, none⟩)]) from rfl)
      rcases hat with ha | ⟨ha1, ha⟩ | ⟨ha1, ha2⟩
      · go_wp2_with (refine list_mlook rfl (.tmp 25) (.tmp 27) 69 true rfl 36 24 .u8 Try.underlying69 Try.underlying36 (fz _) W1.heap.size (evM w.heap.size (w.heap.size + 1)) rfl HM.out 3 rfl ?_; rw [HL.out])
        go_ret
        exact ⟨by rw [rt_false _ _ _ _ _ _ _ (.inl ha)] <;> rfl, X7.out⟩
      · go_wp2_with (refine list_mlook rfl (.tmp 25) (.tmp 27) 69 true rfl 36 24 .u8 Try.underlying69 Try.underlying36 (fz _) W1.heap.size (evM w.heap.size (w.heap.size + 1)) rfl HM.out 3 rfl ?_; rw [HL.out])
        go_ret
        exact ⟨by rw [rt_false _ _ _ _ _ _ _ (.inr ha)] <;> rfl, X7.out⟩
      · go_wp2_with (first | (refine list_mlook rfl (.tmp 25) (.tmp 27) 69 true rfl 36 24 .u8 Try.underlying69 Try.underlying36 (fz _) W1.heap.size (evM w.heap.size (w.heap.size + 1)) rfl HM.out 3 rfl ?_; rw [HL.out]) | (go_at_call 29; refine (clo3_calls ⟨3, at', n, p, a, b, s⟩ _ _ pl _ kb kp0).mono ?_; rintro e w' ⟨rfl, rfl⟩; have hx8 := Lib.hid X7.out))
        go_ret
        exact ⟨by rw [HPL.out]; simp [evR, kindB, ha1, ha2], hx8.out⟩
    · have HL := Lib.hid (show mlook 4 (evM w.heap.size (w.heap.size + 1)) = some (.func (.func 30) #[] #[.pointer (some ⟨w.heap.size, 0, none⟩), .pointer (some ⟨w.heap.size + 1, 0, none⟩)]) from rfl)
      rcases hat with ha | ⟨ha1, ha⟩ | ⟨ha1, ha2⟩
      · go_wp2_with (refine list_mlook rfl (.tmp 25) (.tmp 27) 69 true rfl 36 24 .u8 Try.underlying69 Try.underlying36 (fz _) W1.heap.size (evM w.heap.size (w.heap.size + 1)) rfl HM.out 4 rfl ?_; rw [HL.out])
        go_ret
        exact ⟨by rw [rt_false _ _ _ _ _ _ _ (.inl ha)] <;> rfl, X7.out⟩
      · go_wp2_with (refine list_mlook rfl (.tmp 25) (.tmp 27) 69 true rfl 36 24 .u8 Try.underlying69 Try.underlying36 (fz _) W1.heap.size (evM w.heap.size (w.heap.size + 1)) rfl HM.out 4 rfl ?_; rw [HL.out])
        go_ret
        exact ⟨by rw [rt_false _ _ _ _ _ _ _ (.inr ha)] <;> rfl, X7.out⟩
      · go_wp2_with (first | (refine list_mlook rfl (.tmp 25) (.tmp 27) 69 true rfl 36 24 .u8 Try.underlying69 Try.underlying36 (fz _) W1.heap.size (evM w.heap.size (w.heap.size + 1)) rfl HM.out 4 rfl ?_; rw [HL.out]) | (go_at_call 30; refine (clo4_calls ⟨4, at', n, p, a, b, s⟩ _ _ pl _ kb kp0).mono ?_; rintro e w' ⟨rfl, rfl⟩; have hx8 := Lib.hid X7.out))
        go_ret
        exact ⟨by rw [HPL.out]; simp [evR, kindB, ha1, ha2], hx8.out⟩
    · have HL := Lib.hid (show mlook 5 (evM w.heap.size (w.heap.size + 1)) = some (.func (.func 32) #[] #[.pointer (some ⟨w.heap.size, 0, none⟩), .pointer (some ⟨w.heap.size + 1, 0, none⟩)]) from rfl)
      rcases hat with ha | ⟨ha1, ha⟩ | ⟨ha1, ha2⟩
      · go_wp2_with (refine list_mlook rfl (.tmp 25) (.tmp 27) 69 true rfl 36 24 .u8 Try.underlying69 Try.underlying36 (fz _) W1.heap.size (evM w.heap.size (w.heap.size + 1)) rfl HM.out 5 rfl ?_; rw [HL.out])
        go_ret
        exact ⟨by rw [rt_false _ _ _ _ _ _ _ (.inl ha)] <;> rfl, X7.out⟩
      · go_wp2_with (refine list_mlook rfl (.tmp 25) (.tmp 27) 69 true rfl 36 24 .u8 Try.underlying69 Try.underlying36 (fz _) W1.heap.size (evM w.heap.size (w.heap.size + 1)) rfl HM.out 5 rfl ?_; rw [HL.out])
        go_ret
        exact ⟨by rw [rt_false _ _ _ _ _ _ _ (.inr ha)] <;> rfl, X7.out⟩
      · go_wp2_with (first | (refine list_mlook rfl (.tmp 25) (.tmp 27) 69 true rfl 36 24 .u8 Try.underlying69 Try.underlying36 (fz _) W1.heap.size (evM w.heap.size (w.heap.size + 1)) rfl HM.out 5 rfl ?_; rw [HL.out]) | (go_at_call 32; refine (clo5_calls ⟨5, at', n, p, a, b, s⟩ _ _ pl _ kb kp0).mono ?_; rintro e w' ⟨rfl, rfl⟩; have hx8 := Lib.hid X7.out))
        go_ret
        exact ⟨by rw [HPL.out]; simp [evR, kindB, ha1, ha2], hx8.out⟩
    · have HL := Lib.hid (show mlook 6 (evM w.heap.size (w.heap.size + 1)) = some (.func (.func 33) #[] #[.pointer (some ⟨w.heap.size, 0, none⟩), .pointer (some ⟨w.heap.size + 1, 0, none⟩)]) from rfl)
      rcases hat with ha | ⟨ha1, ha⟩ | ⟨ha1, ha2⟩
      · go_wp2_with (refine list_mlook rfl (.tmp 25) (.tmp 27) 69 true rfl 36 24 .u8 Try.underlying69 Try.underlying36 (fz _) W1.heap.size (evM w.heap.size (w.heap.size + 1)) rfl HM.out 6 rfl ?_; rw [HL.out])
        go_ret
        exact ⟨by rw [rt_false _ _ _ _ _ _ _ (.inl ha)] <;> rfl, X7.out⟩
      · go_wp2_with (refine list_mlook rfl (.tmp 25) (.tmp 27) 69 true rfl 36 24 .u8 Try.underlying69 Try.underlying36 (fz _) W1.heap.size (evM w.heap.size (w.heap.size + 1)) rfl HM.out 6 rfl ?_; rw [HL.out])
        go_ret
        exact ⟨by rw [rt_false _ _ _ _ _ _ _ (.inr ha)] <;> rfl, X7.out⟩
      · go_wp2_with (first | (refine list_mlook rfl (.tmp 25) (.tmp 27) 69 true rfl 36 24 .u8 Try.underlying69 Try.underlying36 (fz _) W1.heap.size (evM w.heap.size (w.heap.size + 1)) rfl HM.out 6 rfl ?_; rw [HL.out]) | (go_at_call 33; refine (clo6_calls ⟨6, at', n, p, a, b, s⟩ _ _ pl _ kb kp0).mono ?_; rintro e w' ⟨rfl, rfl⟩; have hx8 := Lib.hid X7.out))
        go_ret
        exact ⟨by rw [HPL.out]; simp [evR, kindB, ha1, ha2], hx8.out⟩
    · have HL := Lib.hid (show mlook 7 (evM w.heap.size (w.heap.size + 1)) = some (.func (.func 34) #[] #[.pointer (some ⟨w.heap.size, 0, none⟩), .pointer (some ⟨w.heap.size + 1, 0, none⟩)]) from rfl)
      rcases hat with ha | ⟨ha1, ha⟩ | ⟨ha1, ha2⟩
      · go_wp2_with (refine list_mlook rfl (.tmp 25) (.tmp 27) 69 true rfl 36 24 .u8 Try.underlying69 Try.underlying36 (fz _) W1.heap.size (evM w.heap.size (w.heap.size + 1)) rfl HM.out 7 rfl ?_; rw [HL.out])
        go_ret
        exact ⟨by rw [rt_false _ _ _ _ _ _ _ (.inl ha)] <;> rfl, X7.out⟩
      · go_wp2_with (refine list_mlook rfl (.tmp 25) (.tmp 27) 69 true rfl 36 24 .u8 Try.underlying69 Try.underlying36 (fz _) W1.heap.size (evM w.heap.size (w.heap.size + 1)) rfl HM.out 7 rfl ?_; rw [HL.out])
        go_ret
        exact ⟨by rw [rt_false _ _ _ _ _ _ _ (.inr ha)] <;> rfl, X7.out⟩
      · go_wp2_with (first | (refine list_mlook rfl (.tmp 25) (.tmp 27) 69 true rfl 36 24 .u8 Try.underlying69 Try.underlying36 (fz _) W1.heap.size (evM w.heap.size (w.heap.size + 1)) rfl HM.out 7 rfl ?_; rw [HL.out]) | (go_at_call 34; refine (clo7_calls ⟨7, at', n, p, a, b, s⟩ _ _ pl _ kb kp0).mono ?_; rintro e w' ⟨rfl, rfl⟩; have hx8 := Lib.hid X7.out))
        go_ret
        exact ⟨by rw [HPL.out]; simp [evR, kindB, ha1, ha2], hx8.out⟩
    · have HL := Lib.hid (show mlook k (evM w.heap.size (w.heap.size + 1)) = none from by
        simp only [mlook, evM]
        rw [if_neg (by omega), if_neg (by omega), if_neg (by omega), if_neg (by omega), if_neg (by omega), if_neg (by omega), if_neg (by omega)])
      go_wp2_with (refine list_mlook rfl (.tmp 25) (.tmp 27) 69 true rfl 36 24 .u8 Try.underlying69 Try.underlying36 (fz _) W1.heap.size (evM w.heap.size (w.heap.size + 1)) rfl HM.out k rfl ?_; rw [HL.out])
      go_ret
      exact ⟨by
        have : evR ⟨k, at', n, p, a, b, s⟩ = false := by
          unfold evR
          by_cases h1 : 1 ≤ k
          · have : decide (k ≤ 7) = false := by simp; omega
            simp [this]
          · have : decide (1 ≤ k) = false := by simp; omega
            simp [this]
        rw [this] <;> rfl, X7.out⟩
  · obtain rfl := hpf hb
    clear hpe hpf
    go_enter Try.func11, Try.ntmps11
    go_upto_region 2 with fail
    clear hb
    refine wp_at ?_
    intro W1 hW
    have hx := Lib.hid (show Ext w W1 by rw [hW]; repeat (first | exact ext_refl _ | assumption | refine ext_more' ?_ _ _ | refine ext_drew ?_ | refine ext_drewN ?_ _ | refine ext_alloc ?_ _))
    have hbe := at_new (by rw [hW]; repeat (first | exact ext_refl _ | assumption | refine ext_more' ?_ _ _ | refine ext_drew ?_ | refine ext_drewN ?_ _ | refine ext_alloc ?_ _) : Ext (World.alloc w (.cells _ _)) W1)
    have hbp := at_new (by rw [hW]; repeat (first | exact ext_refl _ | assumption | refine ext_more' ?_ _ _ | refine ext_drew ?_ | refine ext_drewN ?_ _ | refine ext_alloc ?_ _) : Ext ((World.alloc w (.cells _ _)).alloc (.cells _ _)) W1)
    simp only [sz_alloc] at hbp
    clear hW
    go_upto_region 3 with (first
      | (refine list_mins rfl (.tmp 15) (.const (.int .u8 1)) (.tmp 16) 69 rfl 36 24 .u8 Try.underlying69 Try.underlying36 W1.heap.size _ rfl (mp_new (X := W1) (by repeat (first | exact ext_refl _ | assumption | refine ext_more' ?_ _ _ | refine ext_drew ?_ | refine ext_drewN ?_ _ | refine ext_alloc ?_ _))) 1 _ rfl rfl ?_; intro w1 hm1 hc1; have HM1 := Lib.hid hm1; have HC1 := Lib.hid (hc1); clear hm1 hc1)
      | (refine list_mins rfl (.tmp 15) (.const (.int .u8 2)) (.tmp 17) 69 rfl 36 24 .u8 Try.underlying69 Try.underlying36 W1.heap.size _ rfl HM1.out 2 _ rfl rfl ?_; intro w2 hm2 hc2; have HM2 := Lib.hid hm2; have HC2 := Lib.hid (HC1.out.trans hc2); clear hm2 hc2)
      | (refine list_mins rfl (.tmp 15) (.const (.int .u8 3)) (.tmp 18) 69 rfl 36 24 .u8 Try.underlying69 Try.underlying36 W1.heap.size _ rfl HM2.out 3 _ rfl rfl ?_; intro w3 hm3 hc3; have HM3 := Lib.hid hm3; have HC3 := Lib.hid (HC2.out.trans hc3); clear hm3 hc3)
      | (refine list_mins rfl (.tmp 15) (.const (.int .u8 4)) (.tmp 19) 69 rfl 36 24 .u8 Try.underlying69 Try.underlying36 W1.heap.size _ rfl HM3.out 4 _ rfl rfl ?_; intro w4 hm4 hc4; have HM4 := Lib.hid hm4; have HC4 := Lib.hid (HC3.out.trans hc4); clear hm4 hc4)
      | (refine list_mins rfl (.tmp 15) (.const (.int .u8 5)) (.tmp 20) 69 rfl 36 24 .u8 Try.underlying69 Try.underlying36 W1.heap.size _ rfl HM4.out 5 _ rfl rfl ?_; intro w5 hm5 hc5; have HM5 := Lib.hid hm5; have HC5 := Lib.hid (HC4.out.trans hc5); clear hm5 hc5)
      | (refine list_mins rfl (.tmp 15) (.const (.int .u8 6)) (.tmp 21) 69 rfl 36 24 .u8 Try.underlying69 Try.underlying36 W1.heap.size _ rfl HM5.out 6 _ rfl rfl ?_; intro w6 hm6 hc6; have HM6 := Lib.hid hm6; have HC6 := Lib.hid (HC5.out.trans hc6); clear hm6 hc6)
      | (refine list_mins rfl (.tmp 15) (.const (.int .u8 7)) (.tmp 22) 69 rfl 36 24 .u8 Try.underlying69 Try.underlying36 W1.heap.size _ rfl HM6.out 7 _ rfl rfl ?_; intro w7 hm7 hc7; have HM7 := Lib.hid hm7; have HC7 := Lib.hid (HC6.out.trans hc7); clear hm7 hc7))
    have hV : Chg (fun q => q = W1.heap.size) W1 w7 := ((Chg.refl _ _).alloc _).trans HC7.out
    have X7 := Lib.hid (ext_chg hx.out hV (fun i h => by have := hx.out.size; omega))
    have hbe7 := at_chg hbe (by simp) hV (by have := at_lt hbe (by simp); omega)
    have hbp7 := at_chg hbp (by simp) hV (by have := at_lt hbp (by simp); omega)
    have HM := Lib.hid (show Mp w7 W1.heap.size .u8 (evM w.heap.size (w.heap.size + 1)) from HM7.out)
    clear hV HC7 HM7 HC6 HM6 HC5 HM5 HC4 HM4 HC3 HM3 HC2 HM2 HC1 HM1 hbe hbp
    have kb := hbe7.1
    have kp := hbp7.1
    have kp0 := kp 0
    have hk : k = 1 ∨ k = 2 ∨ k = 3 ∨ k = 4 ∨ k = 5 ∨ k = 6 ∨ k = 7 ∨ ¬ (1 ≤ k ∧ k ≤ 7) := by omega
    have hat : at' < 0 ∨ (0 ≤ at' ∧ 1099511627776 < at') ∨ (0 ≤ at' ∧ at' ≤ 1099511627776) := by omega
    rcases hk with rfl | rfl | rfl | rfl | rfl | rfl | rfl | hk
    · have HL := Lib.hid (show mlook 1 (evM w.heap.size (w.heap.size + 1)) = some (.func (.func 24) #[] #[.pointer (some ⟨w.heap.size, 0, none⟩)]) from rfl)
      rcases hat with ha | ⟨ha1, ha⟩ | ⟨ha1, ha2⟩
      · go_wp2_with (refine list_mlook rfl (.tmp 25) (.tmp 27) 69 true rfl 36 24 .u8 Try.underlying69 Try.underlying36 (fz _) W1.heap.size (evM w.heap.size (w.heap.size + 1)) rfl HM.out 1 rfl ?_; rw [HL.out])
        go_ret
        exact ⟨by rw [rt_false _ _ _ _ _ _ _ (.inl ha)] <;> rfl, X7.out⟩
      · go_wp2_with (refine list_mlook rfl (.tmp 25) (.tmp 27) 69 true rfl 36 24 .u8 Try.underlying69 Try.underlying36 (fz _) W1.heap.size (evM w.heap.size (w.heap.size + 1)) rfl HM.out 1 rfl ?_; rw [HL.out])
        go_ret
        exact ⟨by rw [rt_false _ _ _ _ _ _ _ (.inr ha)] <;> rfl, X7.out⟩
      · go_wp2_with (first | (refine list_mlook rfl (.tmp 25) (.tmp 27) 69 true rfl 36 24 .u8 Try.underlying69 Try.underlying36 (fz _) W1.heap.size (evM w.heap.size (w.heap.size + 1)) rfl HM.out 1 rfl ?_; rw [HL.out]) | (go_at_call 24; refine (clo1_calls ⟨1, at', n, p, a, b, s⟩ _ _ kb).mono ?_; rintro e w' ⟨rfl, rfl⟩; have hx8 := Lib.hid X7.out))
        go_ret
        exact ⟨by have h2 := HPL.out; simp [evR, kindB, ha1, ha2, ← h2], hx8.out⟩
    · have HL := Lib.hid (show mlook 2 (evM w.heap.size (w.heap.size + 1)) = some (.func (.func 26) #[] #[.pointer (some ⟨w.heap.size, 0, none⟩)]) from rfl)
      rcases hat with ha | ⟨ha1, ha⟩ | ⟨ha1, ha2⟩
      · go_wp2_with (refine list_mlook rfl (.tmp 25) (.tmp 27) 69 true rfl 36 24 .u8 Try.underlying69 Try.underlying36 (fz _) W1.heap.size (evM w.heap.size (w.heap.size + 1)) rfl HM.out 2 rfl ?_; rw [HL.out])
        go_ret
        exact ⟨by rw [rt_false _ _ _ _ _ _ _ (.inl ha)] <;> rfl, X7.out⟩
      · go_wp2_with (refine list_mlook rfl (.tmp 25) (.tmp 27) 69 true rfl 36 24 .u8 Try.underlying69 Try.underlying36 (fz _) W1.heap.size (evM w.heap.size (w.heap.size + 1)) rfl HM.out 2 rfl ?_; rw [HL.out])
        go_ret
        exact ⟨by rw [rt_false _ _ _ _ _ _ _ (.inr ha)] <;> rfl, X7.out⟩
      · go_wp2_with (first | (refine list_mlook rfl (.tmp 25) (.tmp 27) 69 true rfl 36 24 .u8 Try.underlying69 Try.underlying36 (fz _) W1.heap.size (evM w.heap.size (w.heap.size + 1)) rfl HM.out 2 rfl ?_; rw [HL.out]) | (go_at_call 26; refine (clo2_calls ⟨2, at', n, p, a, b, s⟩ _ _ kb).mono ?_; rintro e w' ⟨rfl, hb⟩; have hx8 := Lib.hid (ext_trans X7.out hb); clear hb))
        go_ret
        exact ⟨by have h2 := HPL.out; simp [evR, kindB, ha1, ha2, ← h2], hx8.out⟩
    · have HL := Lib.hid (show mlook 3 (evM w.heap.size (w.heap.size + 1)) = some (.func (.func 29) #[] #[.pointer (some ⟨w.heap.size, 0, none⟩), .pointer (some ⟨w.heap.size + 1, 0, none⟩)]) from rfl)
      rcases hat with ha | ⟨ha1, ha⟩ | ⟨ha1, ha2⟩
      · go_wp2_with (refine list_mlook rfl (.tmp 25) (.tmp 27) 69 true rfl 36 24 .u8 Try.underlying69 Try.underlying36 (fz _) W1.heap.size (evM w.heap.size (w.heap.size + 1)) rfl HM.out 3 rfl ?_; rw [HL.out])
        go_ret
        exact ⟨by rw [rt_false _ _ _ _ _ _ _ (.inl ha)] <;> rfl, X7.out⟩
      · go_wp2_with (refine list_mlook rfl (.tmp 25) (.tmp 27) 69 true rfl 36 24 .u8 Try.underlying69 Try.underlying36 (fz _) W1.heap.size (evM w.heap.size (w.heap.size + 1)) rfl HM.out 3 rfl ?_; rw [HL.out])
        go_ret
        exact ⟨by rw [rt_false _ _ _ _ _ _ _ (.inr ha)] <;> rfl, X7.out⟩
      · go_wp2_with (first | (refine list_mlook rfl (.tmp 25) (.tmp 27) 69 true rfl 36 24 .u8 Try.underlying69 Try.underlying36 (fz _) W1.heap.size (evM w.heap.size (w.heap.size + 1)) rfl HM.out 3 rfl ?_; rw [HL.out]) | (go_at_call 29; refine (clo3_calls ⟨3, at', n, p, a, b, s⟩ _ _ false _ kb kp0).mono ?_; rintro e w' ⟨rfl, rfl⟩; have hx8 := Lib.hid X7.out))
        go_ret
        exact ⟨by have h2 := HPL.out; simp [evR, kindB, ha1, ha2, ← h2], hx8.out⟩
    · have HL := Lib.hid (show mlook 4 (evM w.heap.size (w.heap.size + 1)) = some (.func (.func 30) #[] #[.pointer (some ⟨w.heap.size, 0, none⟩), .pointer (some ⟨w.heap.size + 1, 0, none⟩)]) from rfl)
      rcases hat with ha | ⟨ha1, ha⟩ | ⟨ha1, ha2⟩
      · go_wp2_with (refine list_mlook rfl (.tmp 25) (.tmp 27) 69 true rfl 36 24 .u8 Try.underlying69 Try.underlying36 (fz _) W1.heap.size (evM w.heap.size (w.heap.size + 1)) rfl HM.out 4 rfl ?_; rw [HL.out])
        go_ret
        exact ⟨by rw [rt_false _ _ _ _ _ _ _ (.inl ha)] <;> rfl, X7.out⟩
      · go_wp2_with (refine list_mlook rfl (.tmp 25) (.tmp 27) 69 true rfl 36 24 .u8 Try.underlying69 Try.underlying36 (fz _) W1.heap.size (evM w.heap.size (w.heap.size + 1)) rfl HM.out 4 rfl ?_; rw [HL.out])
        go_ret
        exact ⟨by rw [rt_false _ _ _ _ _ _ _ (.inr ha)] <;> rfl, X7.out⟩
      · go_wp2_with (first | (refine list_mlook rfl (.tmp 25) (.tmp 27) 69 true rfl 36 24 .u8 Try.underlying69 Try.underlying36 (fz _) W1.heap.size (evM w.heap.size (w.heap.size + 1)) rfl HM.out 4 rfl ?_; rw [HL.out]) | (go_at_call 30; refine (clo4_calls ⟨4, at', n, p, a, b, s⟩ _ _ false _ kb kp0).mono ?_; rintro e w' ⟨rfl, rfl⟩; have hx8 := Lib.hid X7.out))
        go_ret
        exact ⟨by have h2 := HPL.out; simp [evR, kindB, ha1, ha2, ← h2], hx8.out⟩
    · have HL := Lib.hid (show mlook 5 (evM w.heap.size (w.heap.size + 1)) = some (.func (.func 32) #[] #[.pointer (some ⟨w.heap.size, 0, none⟩), .pointer (some ⟨w.heap.size + 1, 0, none⟩)]) from rfl)
      rcases hat with ha | ⟨ha1, ha⟩ | ⟨ha1, ha2⟩
      · go_wp2_with (refine list_mlook rfl (.tmp 25) (.tmp 27) 69 true rfl 36 24 .u8 Try.underlying69 Try.underlying36 (fz _) W1.heap.size (evM w.heap.size (w.heap.size + 1)) rfl HM.out 5 rfl ?_; rw [HL.out])
        go_ret
        exact ⟨by rw [rt_false _ _ _ _ _ _ _ (.inl ha)] <;> rfl, X7.out⟩
      · go_wp2_with (refine list_mlook rfl (.tmp 25) (.tmp 27) 69 true rfl 36 24 .u8 Try.underlying69 Try.underlying36 (fz _) W1.heap.size (evM w.heap.size (w.heap.size + 1)) rfl HM.out 5 rfl ?_; rw [HL.out])
        go_ret
        exact ⟨by rw [rt_false _ _ _ _ _ _ _ (.inr ha)] <;> rfl, X7.out⟩
      · go_wp2_with (first | (refine list_mlook rfl (.tmp 25) (.tmp 27) 69 true rfl 36 24 .u8 Try.underlying69 Try.underlying36 (fz _) W1.heap.size (evM w.heap.size (w.heap.size + 1)) rfl HM.out 5 rfl ?_; rw [HL.out]) | (go_at_call 32; refine (clo5_calls ⟨5, at', n, p, a, b, s⟩ _ _ false _ kb kp0).mono ?_; rintro e w' ⟨rfl, rfl⟩; have hx8 := Lib.hid X7.out))
        go_ret
        exact ⟨by have h2 := HPL.out; simp [evR, kindB, ha1, ha2, ← h2], hx8.out⟩
    · have HL := Lib.hid (show mlook 6 (evM w.heap.size (w.heap.size + 1)) = some (.func (.func 33) #[] #[.pointer (some ⟨w.heap.size, 0, none⟩), .pointer (some ⟨w.heap.size + 1, 0, none⟩)]) from rfl)
      rcases hat with ha | ⟨ha1, ha⟩ | ⟨ha1, ha2⟩
      · go_wp2_with (refine list_mlook rfl (.tmp 25) (.tmp 27) 69 true rfl 36 24 .u8 Try.underlying69 Try.underlying36 (fz _) W1.heap.size (evM w.heap.size (w.heap.size + 1)) rfl HM.out 6 rfl ?_; rw [HL.out])
        go_ret
        exact ⟨by rw [rt_false _ _ _ _ _ _ _ (.inl ha)] <;> rfl, X7.out⟩
      · go_wp2_with (refine list_mlook rfl (.tmp 25) (.tmp 27) 69 true rfl 36 24 .u8 Try.underlying69 Try.underlying36 (fz _) W1.heap.size (evM w.heap.size (w.heap.size + 1)) rfl HM.out 6 rfl ?_; rw [HL.out])
        go_ret
        exact ⟨by rw [rt_false _ _ _ _ _ _ _ (.inr ha)] <;> rfl, X7.out⟩
      · go_wp2_with (first | (refine list_mlook rfl (.tmp 25) (.tmp 27) 69 true rfl 36 24 .u8 Try.underlying69 Try.underlying36 (fz _) W1.heap.size (evM w.heap.size (w.heap.size + 1)) rfl HM.out 6 rfl ?_; rw [HL.out]) | (go_at_call 33; refine (clo6_calls ⟨6, at', n, p, a, b, s⟩ _ _ false _ kb kp0).mono ?_; rintro e w' ⟨rfl, rfl⟩; have hx8 := Lib.hid X7.out))
        go_ret
        exact ⟨by have h2 := HPL.out; simp [evR, kindB, ha1, ha2, ← h2], hx8.out⟩
    · have HL := Lib.hid (show mlook 7 (evM w.heap.size (w.heap.size + 1)) = some (.func (.func 34) #[] #[.pointer (some ⟨w.heap.size, 0, none⟩), .pointer (some ⟨w.heap.size + 1, 0, none⟩)]) from rfl)
      rcases hat with ha | ⟨ha1, ha⟩ | ⟨ha1, ha2⟩
      · go_wp2_with (refine list_mlook rfl (.tmp 25) (.tmp 27) 69 true rfl 36 24 .u8 Try.underlying69 Try.underlying36 (fz _) W1.heap.size (evM w.heap.size (w.heap.size + 1)) rfl HM.out 7 rfl ?_; rw [HL.out])
        go_ret
        exact ⟨by rw [rt_false _ _ _ _ _ _ _ (.inl ha)] <;> rfl, X7.out⟩
      · go_wp2_with (refine list_mlook rfl (.tmp 25) (.tmp 27) 69 true rfl 36 24 .u8 Try.underlying69 Try.underlying36 (fz _) W1.heap.size (evM w.heap.size (w.heap.size + 1)) rfl HM.out 7 rfl ?_; rw [HL.out])
        go_ret
        exact ⟨by rw [rt_false _ _ _ _ _ _ _ (.inr ha)] <;> rfl, X7.out⟩
      · go_wp2_with (first | (refine list_mlook rfl (.tmp 25) (.tmp 27) 69 true rfl 36 24 .u8 Try.underlying69 Try.underlying36 (fz _) W1.heap.size (evM w.heap.size (w.heap.size + 1)) rfl HM.out 7 rfl ?_; rw [HL.out]) | (go_at_call 34; refine (clo7_calls ⟨7, at', n, p, a, b, s⟩ _ _ false _ kb kp0).mono ?_; rintro e w' ⟨rfl, rfl⟩; have hx8 := Lib.hid X7.out))
        go_ret
        exact ⟨by have h2 := HPL.out; simp [evR, kindB, ha1, ha2, ← h2], hx8.out⟩
    · have HL := Lib.hid (show mlook k (evM w.heap.size (w.heap.size + 1)) = none from by
        simp only [mlook, evM]
        rw [if_neg (by omega), if_neg (by omega), if_neg (by omega), if_neg (by omega), if_neg (by omega), if_neg (by omega), if_neg (by omega)])
      go_wp2_with (refine list_mlook rfl (.tmp 25) (.tmp 27) 69 true rfl 36 24 .u8 Try.underlying69 Try.underlying36 (fz _) W1.heap.size (evM w.heap.size (w.heap.size + 1)) rfl HM.out k rfl ?_; rw [HL.out])
      go_ret
      exact ⟨by
        have : evR ⟨k, at', n, p, a, b, s⟩ = false := by
          unfold evR
          by_cases h1 : 1 ≤ k
          · have : decide (k ≤ 7) = false := by simp; omega
            simp [this]
          · have : decide (1 ≤ k) = false := by simp; omega
            simp [this]
        rw [this] <;> rfl, X7.out⟩
end Go.Proofs.Ythpgmefjgidkgaa

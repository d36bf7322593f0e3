/- Those that are due. -/
import Derived.Test.YtkicofagjebnjaaH07
namespace Go.Proofs.Ytkicofagjebnjaa
open Go.RowKit
set_option linter.unusedVariables false
set_option linter.unusedSimpArgs false

theorem HA.chg {T : Nat → Prop} {w w' : World} {hb mb : Nat} {rg : Option Nat} {S : List Tmr} {most : Int} (h : HA w hb mb rg S most) (c : Chg T w w') (h1 : ¬ T hb) (h2 : ¬ T mb) (h3 : ∀ q, rg = some q → ¬ T q) : HA w' hb mb rg S most := by
  obtain ⟨⟨ms, cap, l, M, q, q2, q3, q4⟩, a1, a2, a3, a4, a5, a6, a7, a8⟩ := h
  exact ⟨⟨ms, cap, l, M, ⟨at_chg q.box (by simp) c h1, own_chgS q.row c (fun k e => h3 k (by rw [← q4]; exact e)), q.map.chg c h2, q.fits, q.keys⟩, q2, q3, q4⟩, a1, a2, a3, a4, a5, a6, a7, a8⟩
theorem HA.hb {w : World} {hb mb : Nat} {rg : Option Nat} {S : List Tmr} {most : Int} (h : HA w hb mb rg S most) : hb < w.heap.size := by
  obtain ⟨ms, cap, l, M, q, _⟩ := h.lay
  exact at_lt q.box (by simp)
theorem HA.mb {w : World} {hb mb : Nat} {rg : Option Nat} {S : List Tmr} {most : Int} (h : HA w hb mb rg S most) : mb < w.heap.size := by
  obtain ⟨ms, cap, l, M, q, _⟩ := h.lay
  exact q.map.lt
theorem HA.rg {w : World} {hb mb : Nat} {rg : Option Nat} {S : List Tmr} {most : Int} (h : HA w hb mb rg S most) : ∀ q, rg = some q → q < w.heap.size := by
  obtain ⟨ms, cap, l, M, q, q2, q3, q4⟩ := h.lay
  exact fun k e => (q.row.lt k (by rw [q4]; exact e)).2
/-- take of the first one. -/
theorem takeH_calls (hb mb : Nat) (rg : Option Nat) (x : Tmr) (S : List Tmr) (most : Int) (w : World) (ha : HA w hb mb rg (x :: S) most) :
    Calls Try.prog 34 #[.pointer (some ⟨hb, 0, none⟩), .int .i64 0] w fun e w' => e = .returned (.agg #[.int .i64 x.due, .int .i64 x.id]) ∧ HA w' hb mb rg S most ∧ Chg (fun q => q = hb ∨ q = mb ∨ rg = some q) w w' := by
  obtain ⟨⟨ms, cap, l, M, hv, hp, hpm, hrg⟩, hsrt, hids, hd2, hrh, hrm, hlen, hm1, hm2⟩ := ha
  have hll := hpm.length_eq
  simp only [List.length_cons] at hll hlen
  have hl0 : 0 < l.length := by omega
  have hil := hids.perm hpm.symm
  obtain ⟨g, rfl⟩ := own_some hl0 hv.row
  have hrg2 : rg = some g := hrg.symm
  have hg1 : g ≠ hb := fun e => hrh (by rw [hrg2, e])
  have hg2 : g ≠ mb := fun e => hrm (by rw [hrg2, e])
  have hmn := hp_min hp hpm hsrt hl0
  have hx0 : at_ l 0 = x := by have := hmn.1; simpa using this.symm
  refine (take_calls l M 0 hb mb g cap most w hv.s hp hil hl0 (by omega) hg1 hd2 hg2).mono fun e w' ⟨he, hc, ht⟩ => ?_
  rw [hx0] at he
  refine ⟨he, ?_, hc.mono fun q _ h => ?_⟩
  · obtain ⟨l', M', q1, q2, q3⟩ := ht
    have hpr := rep_wo hpm hil hl0
    rw [hx0, wo_head hids] at hpr
    exact ⟨⟨_, _, l', M', q3.v, q2, q1.trans hpr, by rw [hrg2]; rfl⟩, hsrt.tail, (List.nodup_cons.1 hids).2, hd2, hrh, hrm, by omega, hm1, hm2⟩
  · rcases h with h | h | h
    · exact .inl h
    · exact .inr (.inr (by rw [hrg2, h]))
    · exact .inr (.inl h)
def dueB (now : Int) (x : Tmr) : Bool := decide (x.due ≤ now)
theorem due_split {now : Int} : ∀ {D S1 : List Tmr}, (∀ x ∈ D, x.due ≤ now) → (∀ x, S1.head? = some x → ¬ x.due ≤ now) → (D ++ S1).takeWhile (dueB now) = D ∧ (D ++ S1).dropWhile (dueB now) = S1
  | [], [], _, _ => ⟨rfl, rfl⟩
  | [], x :: S, _, h => by
    have hx : dueB now x = false := by simpa [dueB] using h x rfl
    simp [List.takeWhile_cons, List.dropWhile_cons, hx]
  | x :: D, S1, hd, h => by
    have hx : dueB now x = true := by simpa [dueB] using hd x List.mem_cons_self
    obtain ⟨i1, i2⟩ := due_split (D := D) (fun y hy => hd y (List.mem_cons_of_mem _ hy)) h
    simp only [List.cons_append, List.takeWhile_cons, List.dropWhile_cons, hx, if_true]
    exact ⟨by rw [i1], i2⟩
def DuePost (w : World) (hb mb : Nat) (rg : Option Nat) (S : List Tmr) (most now : Int) (e : Ending) (w' : World) : Prop :=
  ∃ ms cap, e = .returned (.slice ms (S.takeWhile (dueB now)).length cap) ∧ w'.ownsRow w.heap.size 29 2 (.slice ms (S.takeWhile (dueB now)).length cap) (S.takeWhile (dueB now)).length ((S.takeWhile (dueB now)).flatMap tmrC) ∧ HA w' hb mb rg (S.dropWhile (dueB now)) most ∧ Chg (fun q => q = hb ∨ q = mb ∨ rg = some q) w w'
theorem DuePost.mk {w w' : World} {hb mb cap : Nat} {rg : Option Nat} {S D S1 : List Tmr} {most now : Int} {ms : Option Addr} (hS : S = D ++ S1) (hD : ∀ x ∈ D, x.due ≤ now) (hn : ∀ x, S1.head? = some x → ¬ x.due ≤ now) (ho : w'.ownsRow w.heap.size 29 2 (.slice ms D.length cap) D.length (D.flatMap tmrC)) (ha : HA w' hb mb rg S1 most) (hc : Chg (fun q => q = hb ∨ q = mb ∨ rg = some q) w w') :
    DuePost w hb mb rg S most now (.returned (.slice ms D.length cap)) w' := by
  obtain ⟨e1, e2⟩ := due_split hD hn
  rw [← hS] at e1 e2
  exact ⟨ms, cap, by rw [e1], by rw [e1]; exact ho, by rw [e2]; exact ha, hc⟩
set_option maxRecDepth 100000 in
set_option maxHeartbeats 8000000 in
theorem due_calls (now : Int) (hb mb : Nat) (rg : Option Nat) (S : List Tmr) (most : Int) (w : World) (ha : HA w hb mb rg S most) :
    Calls Try.prog 17 #[.pointer (some ⟨hb, 0, none⟩), .int .i64 now] w (DuePost w hb mb rg S most now) := by
  have HAA := Lib.hid ha
  have hb0 := ha.hb
  have hm0 := ha.mb
  have HR0 := Lib.hid ha.rg
  have HNL := Lib.hid (show ∀ q, w.heap.size ≤ q → ¬ (q = hb ∨ q = mb ∨ rg = some q) from fun q hq h => by
    rcases h with h | h | h
    · omega
    · omega
    · have := HR0.out _ h; omega)
  have HSL := Lib.hid (show S.length ≤ 65536 by have := ha.len; have := ha.m2; omega)
  clear ha
  go_enter Try.func17, Try.ntmps17
  go_upto_region 3 with (go_at_call 18; refine (next_calls7 hb mb rg S most _ HAA.out).mono ?_; rintro e w2 ⟨rfl, hx2⟩; simp only [otV])
  refine wp_at ?_
  intro W3 hW
  have x3 : Ext w W3 := by rw [hW]; repeat (first | exact ext_refl _ | assumption | refine ext_more' ?_ _ _ | refine ext_drew ?_ | refine ext_drewN ?_ _ | refine ext_alloc ?_ _)
  have bt := at_new (by rw [hW]; repeat (first | exact ext_refl _ | assumption | refine ext_more' ?_ _ _ | refine ext_drew ?_ | refine ext_drewN ?_ _ | refine ext_alloc ?_ _) : Ext (World.alloc w2 (.cells _ _)) W3)
  have hz2 := hx2.size
  clear hW hx2
  have HBT := Lib.hid bt; have HX3 := Lib.hid x3
  clear bt x3
  go_loopg [5, 6, 7] S.length (fun gk k5 k6 k7 wr => ∃ (S1 D : List Tmr) (ms : Option Addr) (cap bt : Nat), k5 = .slice ms D.length cap ∧ k6 = .pointer (some ⟨bt, 0, none⟩) ∧ k7 = .bool S1.head?.isSome ∧ gk = S1.length ∧ S = D ++ S1 ∧ (∀ x ∈ D, x.due ≤ now) ∧ HA wr hb mb rg S1 most ∧ Chg (fun q => q = hb ∨ q = mb ∨ rg = some q) w wr ∧ At wr bt #[.int .i64 (S1.head?.getD ⟨0, 0⟩).due, .int .i64 (S1.head?.getD ⟨0, 0⟩).id] ∧ w.heap.size ≤ bt ∧ wr.ownsRow w.heap.size 29 2 (.slice ms D.length cap) D.length (D.flatMap tmrC) ∧ (Value.slice ms D.length cap).ownBlock ≠ some bt)
  case atStart => exact ⟨S, [], none, 0, w2.heap.size, rfl, rfl, rfl, rfl, rfl, fun x hx => by simp at hx, HAA.out.ext HX3.out, Chg.ofExt HX3.out, HBT.out, hz2, World.ownsRow_nil _ _ _ _, by simp [Value.ownBlock]⟩
  case round =>
    obtain ⟨S1, D, ms, cap, bt, rfl, rfl, rfl, hgk, hSD, hD, ha, hc, hbt, hzb, hor, hob⟩ := hrel
    have HA1 := Lib.hid ha; have HC1 := Lib.hid hc; have HOR := Lib.hid hor; have HOB := Lib.hid hob; have HD := Lib.hid hD; have HSD := Lib.hid hSD; have HBT1 := Lib.hid hbt
    clear ha hc hor hob hD hSD
    cases hS1 : S1 with
    | nil =>
      subst hS1
      simp only [List.head?_nil, Option.isSome_none]
      clear hbt
      go_wp2
      go_ret
      exact DuePost.mk HSD.out HD.out (fun x h => by simp at h) HOR.out HA1.out HC1.out
    | cons x S2 =>
      subst hS1
      simp only [List.head?_cons, Option.isSome_some, Option.getD_some] at hbt ⊢
      have HBT2 := Lib.hid hbt
      have kt := hbt.1
      have lt := at_lt hbt (by simp)
      by_cases hdu : x.due ≤ now
      · have HDU := Lib.hid hdu
        obtain ⟨ik, hik, hka, hkb, hkc⟩ := info_parts tmr_info
        have hdl : D.length ≤ 65536 := by have := HSD.out; have := HSL.out; have h3 := congrArg List.length HSD.out; simp only [List.length_append] at h3; omega
        have MK63 := Lib.hid (show D.length + 1 ≤ maxLen by unfold maxLen; omega)
        have MK47 := Lib.hid (show (D.length + 1) * 16 ≤ 140737488355328 by omega)
        have HZW := Lib.hid HC1.out.size
        go_upto_region 6 with (first | (go_at_call 34; refine (takeH_calls hb mb rg x S2 most _ HA1.out).mono ?_; rintro e w5 ⟨rfl, ha5, hc5⟩; have HA5 := Lib.hid ha5; have HC5 := Lib.hid hc5; have HOR5 := Lib.hid (own_chgS HOR.out hc5 (fun q e => HNL.out q (HOR.out.lt q e).1)); have HBT5 := Lib.hid (at_chg HBT2.out (by simp) hc5 (HNL.out _ hzb)); clear ha5 hc5 kt lt) | (at_builtin; refine list_app3 rfl (.tmp 25) (.tmp 28) 22 rfl w.heap.size 29 ik _ 2 16 Try.underlying22 hik hka hkb hkc rfl (by decide) (.slice ms D.length cap) D.length (D.flatMap tmrC) rfl (own_ext HOR5.out (by repeat (first | exact ext_refl _ | assumption | refine ext_more' ?_ _ _ | refine ext_drew ?_ | refine ext_drewN ?_ _ | refine ext_alloc ?_ _))) _ 1 _ (tmrC x) rfl (rds_newV (X := w5) (ext_refl _) rfl) (oneCell_tmr _) MK63.out MK47.out (by simp; have := HZW.out; have := HC5.out.size; omega) ?_; intro v6 w6 hown6 hg6 hbk6; obtain ⟨g6, cap6, rfl⟩ := own_slice1 hown6; have HOWN6 := Lib.hid hown6; have HG6 := Lib.hid hg6; have HBK6 := Lib.hid hbk6; clear hown6 hg6 hbk6))
        refine wp_at ?_
        intro W6 hW
        have x6 : Ext w6 W6 := by rw [hW]; repeat (first | exact ext_refl _ | assumption | refine ext_more' ?_ _ _ | refine ext_drew ?_ | refine ext_drewN ?_ _ | refine ext_alloc ?_ _)
        clear hW
        have xa : Ext w5 (w5.alloc (.cells #[.int .i64 x.due, .int .i64 x.id] 29)) := ext_alloc (ext_refl _) _
        have hg6 := HG6.out
        have hc6 : Chg (fun q => (Value.slice ms D.length cap).ownBlock = some q) w5 w6 := (Chg.ofExt xa).trans ⟨hg6.os, hg6.tape, hg6.output, hg6.size, fun k hk hs => hg6.block k hk (fun e => hs e.symm)⟩
        have hz5 : w.heap.size ≤ w5.heap.size := Nat.le_trans HZW.out HC5.out.size
        have hlow : ∀ q, (Value.slice ms D.length cap).ownBlock = some q → w.heap.size ≤ q := fun q e => (HOR.out.lt q e).1
        have HA6 := Lib.hid ((HA5.out.chg hc6 (fun e => by have := hlow _ e; omega) (fun e => by have := hlow _ e; omega) (fun q e e2 => by have := HR0.out _ e; have := hlow _ e2; omega)).ext x6)
        have HBT6 := Lib.hid (at_ext (at_chg HBT5.out (by simp) hc6 HOB.out) (by simp) x6)
        have HC6 := Lib.hid (chg_in (HC1.out.trans HC5.out) (hc6.trans (Chg.ofExt x6)) (fun k hk e => by have := hlow _ e; omega))
        have hfl : (D ++ [x]).flatMap tmrC = D.flatMap tmrC ++ tmrC x := by simp
        have hla : (D ++ [x]).length = D.length + 1 := by simp
        have HO6 := Lib.hid (show W6.ownsRow w.heap.size 29 2 (.slice (some ⟨g6, 0, none⟩) (D ++ [x]).length cap6) (D ++ [x]).length ((D ++ [x]).flatMap tmrC) by rw [hla, hfl]; exact own_ext HOWN6.out x6)
        have hg6l : g6 < W6.heap.size := own_lt HO6.out
        have HLA := Lib.hid hla
        clear xa hg6 hc6 hfl hla hlow HBT5 HOR5 HG6 HBK6 HOWN6 x6 HA5 HC5 hbt
        have kt := HBT6.out.1
        have lt := at_lt HBT6.out (by simp)
        go_upto_region 4 with fail
        refine wp_at ?_
        intro W7 hW
        have x7 : Ext W6 W7 := by rw [hW]; repeat (first | exact ext_refl _ | assumption | refine ext_more' ?_ _ _ | refine ext_drew ?_ | refine ext_drewN ?_ _ | refine ext_alloc ?_ _)
        have b7 := at_new (by rw [hW]; repeat (first | exact ext_refl _ | assumption | refine ext_more' ?_ _ _ | refine ext_drew ?_ | refine ext_drewN ?_ _ | refine ext_alloc ?_ _) : Ext (World.alloc W6 (.cells _ _)) W7)
        clear hW kt lt
        have HA7 := Lib.hid (HA6.out.ext x7)
        have HO7 := Lib.hid (own_ext HO6.out x7)
        have HC7 := Lib.hid (HC6.out.trans (Chg.ofExt x7))
        have HB7 := Lib.hid b7
        have hz6 := HC6.out.size
        clear x7 b7 HA6 HO6 HC6 HBT6
        go_wp2_with (go_at_call 18; refine (next_calls7 hb mb rg S2 most _ HA7.out).mono ?_; rintro e w8 ⟨rfl, hx8⟩; simp only [otV]; have b8 := at_ext HB7.out (by simp) hx8; have k8 := b8.1; have f8 := b8.2; have l8 := at_lt b8 (by simp); have HB8 := Lib.hid b8; have HX8 := Lib.hid hx8; clear b8 hx8)
        have hcx : Chg (fun q => q = W6.heap.size) w8 ((w8.setCell ⟨W6.heap.size, 0, none⟩ (.int .i64 (S2.head?.getD ⟨0, 0⟩).due)).setCell ⟨W6.heap.size, 1, none⟩ (.int .i64 (S2.head?.getD ⟨0, 0⟩).id)) := chg_put (chg_put (Chg.refl _ _))
        have hgne : g6 ≠ W6.heap.size := by omega
        go_roundg S2.length
        case measure => simp only [List.length_cons] at hgk; omega
        case rel => exact ⟨S2, D ++ [x], some ⟨g6, 0, none⟩, cap6, W6.heap.size, by rw [HLA.out], rfl, rfl, rfl, by rw [HSD.out]; simp, fun y hy => by
            rcases List.mem_append.1 hy with h | h
            · exact HD.out y h
            · simp only [List.mem_singleton] at h; rw [h]; exact HDU.out, (HA7.out.ext HX8.out).chg hcx (show ¬ (hb = W6.heap.size) by omega) (show ¬ (mb = W6.heap.size) by omega) (fun q e (h : q = W6.heap.size) => by have := HR0.out _ e; omega), chg_in (HC7.out.trans (Chg.ofExt HX8.out)) hcx (fun k hk (h : k = W6.heap.size) => by omega), at_put (at_put HB8.out (by simp) rfl) (by simp) rfl, by omega, own_chgS (own_ext HO7.out HX8.out) hcx (fun q e (h : q = W6.heap.size) => by simp only [Value.ownBlock, Option.some.injEq] at e; omega), by simp only [Value.ownBlock, ne_eq, Option.some.injEq]; omega⟩
      · have HDU := Lib.hid hdu
        go_wp2
        go_ret
        exact DuePost.mk HSD.out HD.out (fun y h => by simp only [List.head?_cons, Option.some.injEq] at h; rw [← h]; have := HDU.out; omega) HOR.out HA1.out HC1.out
end Go.Proofs.Ytkicofagjebnjaa

/- The laws' helpers of layer 7. -/
import Derived.Test.YtkicofagjebnjaaJ07
namespace Go.Proofs.Ytkicofagjebnjaa
open Go.RowKit
set_option linter.unusedVariables false
set_option linter.unusedSimpArgs false

/-- A heap of timers, of each Id the first one. -/
def mkS (l : List Tmr) : Nat → List Tmr
  | 0 => []
  | i + 1 => if (fnd (at_ l i).id (mkS l i)).isSome = true then mkS l i else ins (at_ l i) (mkS l i)
theorem mkS_len (l : List Tmr) : ∀ i, (mkS l i).length ≤ i
  | 0 => Nat.le_refl _
  | i + 1 => by
    have := mkS_len l i
    rw [mkS]; split
    · omega
    · rw [ins_length]; omega
def ThM (M : List (Int × Value)) (S : List Tmr) : Prop := (∀ d, mlook d M = (fnd d S).map fun t => .int .i64 t.due) ∧ M.length = S.length ∧ Keys M
theorem thM_nil : ThM [] [] := ⟨fun d => rfl, rfl, List.nodup_nil⟩
theorem fnd_ins {t : Tmr} {S : List Tmr} (hi : Ids S) (hn : fnd t.id S = none) (d : Int) : fnd d (ins t S) = if d = t.id then some t else fnd d S := by
  have hne := fnd_none.1 hn
  have hii := ids_ins hi hne
  by_cases e : d = t.id
  · rw [if_pos e]
    exact fnd_some hii ((ins_perm t S).symm.subset List.mem_cons_self) e.symm
  · rw [if_neg e, fnd_perm hii (ins_perm t S)]
    unfold fnd
    rw [List.find?_cons]
    have : decide (t.id = d) = false := by simpa using Ne.symm e
    rw [this]
theorem thM_ins {M : List (Int × Value)} {t : Tmr} {S : List Tmr} (h : ThM M S) (hi : Ids S) (hn : fnd t.id S = none) : ThM (mput t.id (.int .i64 t.due) M) (ins t S) := by
  refine ⟨fun d => ?_, ?_, keys_put h.2.2⟩
  · rw [mlook_put, fnd_ins hi hn]
    by_cases e : d = t.id
    · rw [if_pos e, if_pos e]; rfl
    · rw [if_neg e, if_neg e]; exact h.1 d
  · have h0 : mlook t.id M = none := by rw [h.1, hn]; rfl
    rw [mput_new _ h0, ins_length, List.length_append, h.2.1]; rfl
theorem at_chg_cell {S : Nat → Prop} {w w' : World} {b j : Nat} (c : Chg S w w') (hn : ¬ S b) (hb : b < w.heap.size) : w'.cell? ⟨b, j, none⟩ = w.cell? ⟨b, j, none⟩ := by
  unfold World.cell?; dsimp only; rw [c.block b hb hn]
theorem tmr_cells {w W1 : World} {s : Option Addr} {len : Nat} {V : Nat → Tmr} (h : Rows_ w s len 2 (fun i => tmrC (V i))) (hx : Ext w W1) {i : Nat} (hi : i < len) :
    ∃ b o, s = some ⟨b, o, none⟩ ∧ b < w.heap.size ∧ W1.cell? ⟨b, o + i * 2, none⟩ = some (.int .i64 (V i).due) ∧ W1.cell? ⟨b, o + i * 2 + 1, none⟩ = some (.int .i64 (V i).id) := by
  obtain ⟨b, o, rfl, hb, hr⟩ := h (by omega)
  have hk : ∀ k, k < 2 → W1.cell? ⟨b, o + i * 2 + k, none⟩ = (tmrC (V i))[k]? := fun k hk => by
    rw [hx.cell (p := ⟨b, o + i * 2 + k, none⟩) hb, ← (hr i hi).2 k hk, Nat.add_assoc]
  exact ⟨b, o, rfl, hb, hk 0 (by decide), hk 1 (by decide)⟩
def MadePost (w : World) (l : List Tmr) (e : Ending) (w' : World) : Prop :=
  ∃ hb mb rg tb M, e = .returned (.tuple #[.pointer (some ⟨hb, 0, none⟩), .map (some tb), .bool true]) ∧ HA w' hb mb rg (mkS l (min l.length 300)) 1000 ∧ Mp w' tb .i64 M ∧ ThM M (mkS l (min l.length 300)) ∧ Ext w w' ∧
    w.heap.size ≤ hb ∧ w.heap.size ≤ mb ∧ w.heap.size ≤ tb ∧ (∀ q, rg = some q → w.heap.size ≤ q) ∧ rg ≠ some tb ∧ tb ≠ hb ∧ tb ≠ mb
theorem int0z8 (w : World) : (zeroValue 2).run Try.prog w = .ok (.int .i64 0) w := by kernel_rfl
theorem run_mlen7 {P : Program} {w : World} {t kt e ty : TypeId} {k : IntKind} {b : Nat} {L : List (Int × Value)} (ht : P.underlying t = some (.map kt e)) (h : Mp w b k L) : (Builtin.len_ #[t] ty #[.map (some b)]).run P w = .ok (.int .i64 L.length) w := by
  obtain ⟨es, c, hb, hL⟩ := h
  have e1 : es.size = L.length := by
    have := congrArg List.length hL
    simpa [pairs, ents] using this
  rw [← e1]
  simp [Builtin.len_, run_underlying ht, MapKept.run_getObj_map hb, goInt, Result.andThen]
theorem new_ok (n : Int) (w : World) (h1 : 1 ≤ n) (h2 : n ≤ 65536) : Calls Try.prog 21 #[.int .i64 n] w fun e w' => ∃ hb mb, e = .returned (.tuple #[.pointer (some ⟨hb, 0, none⟩), .int .i64 0]) ∧ HA w' hb mb none [] n ∧ w.heap.size ≤ hb ∧ w.heap.size ≤ mb ∧ Ext w w' :=
  (new_calls n w).mono fun e w' h => by
    unfold NewPost at h
    rw [if_pos ⟨h1, h2⟩] at h
    exact h
set_option maxRecDepth 100000 in
set_option maxHeartbeats 8000000 in
theorem made07_calls (s : Option Addr) (cap : Nat) (l : List Tmr) (w : World) (hrows : Rows_ w s l.length 2 (fun i => tmrC (at_ l i))) (hcap : l.length ≤ cap) (hmax : cap ≤ maxLen) :
    Calls Try.prog 11 #[.slice s l.length cap] w (MadePost w l) := by
  have HROWS := Lib.hid hrows
  have hmx : cap ≤ 9223372036854775807 := by unfold maxLen at hmax; exact hmax
  clear hrows hmax
  have pm : ∀ w : World, (Instr.makeMap 25 none).run Try.prog w = .ok (.map (some w.heap.size)) (w.alloc (.map #[] 0)) := fun _ => rfl
  go_enter Try.func11, Try.ntmps11
  go_upto_region 6 with (go_at_call 21; refine (new_ok 1000 _ (by decide) (by decide)).mono ?_; rintro e w1 ⟨hb, mb, rfl, ha1, hz1, hz2, hx1⟩; have HA1 := Lib.hid ha1; have HX1 := Lib.hid hx1; clear ha1 hx1)
  refine wp_at ?_
  intro W1 hW
  have x1 : Ext w1 W1 := by rw [hW]; repeat (first | exact ext_refl _ | assumption | refine ext_more' ?_ _ _ | refine ext_drew ?_ | refine ext_drewN ?_ _ | refine ext_alloc ?_ _)
  have hm1 := mp_new (k := .i64) (by rw [hW]; repeat (first | exact ext_refl _ | assumption | refine ext_more' ?_ _ _ | refine ext_drew ?_ | refine ext_drewN ?_ _ | refine ext_alloc ?_ _) : Ext (World.alloc w1 (.map _ _)) W1)
  clear hW
  obtain ⟨tb, htb⟩ : ∃ tb, tb = w1.heap.size := ⟨_, rfl⟩
  have htb1 : tb ≠ hb := by have := HA1.out.hb; omega
  have htb2 : tb ≠ mb := by have := HA1.out.mb; omega
  have hz3 : w.heap.size ≤ tb := by have := HX1.out.size; omega
  rw [← htb] at hm1
  have HM1 := Lib.hid hm1
  have HX2 := Lib.hid (ext_trans HX1.out x1)
  have HA2 := Lib.hid (HA1.out.ext x1)
  have HTB := Lib.hid htb
  clear hm1 x1
  rw [← htb]
  clear htb
  go_loopg [8] (min l.length 300) (fun gk k8 wr => ∃ (i : Nat) (M : List (Int × Value)) (rg : Option Nat), k8 = .int .i64 i ∧ gk + i = min l.length 300 ∧ HA wr hb mb rg (mkS l i) 1000 ∧ Mp wr tb .i64 M ∧ ThM M (mkS l i) ∧ Ext w wr ∧ (∀ q, rg = some q → w.heap.size ≤ q) ∧ rg ≠ some tb)
  case atStart => exact ⟨0, [], none, rfl, rfl, HA2.out, HM1.out, thM_nil, HX2.out, (fun q (h : (none : Option Nat) = some q) => nomatch h), (fun h : (none : Option Nat) = some tb => nomatch h)⟩
  case round =>
    obtain ⟨i, M, rg, rfl, hgi, ha, hm, hth, hx, hrw, hrt⟩ := hrel
    have HA3 := Lib.hid ha; have HM3 := Lib.hid hm; have HTH := Lib.hid hth; have HX3 := Lib.hid hx; have HRW := Lib.hid hrw; have HRT := Lib.hid hrt
    clear ha hm hth hx hrw hrt
    have hi9 : i ≤ 300 := by omega
    have hsl := mkS_len l i
    by_cases hil : i < l.length
    rotate_left
    · have n1 : ¬ ((i : Int) < (l.length : Int)) := by omega
      have hie : min l.length 300 = i := by omega
      have HIE := Lib.hid hie
      clear hie
      have hml := HTH.out.2.1
      have hfl := fun w' (hx : Ext wr w') => run_mlen7 (P := Try.prog) (ty := 3) Try.underlying25 (HM3.out.ext hx)
      have hln := HTH.out.2.1
      go_upto_region 14 with fail
      refine wp_at ?_
      intro W14 hW
      have x14 : Ext wr W14 := by rw [hW]; repeat (first | exact ext_refl _ | assumption | refine ext_more' ?_ _ _ | refine ext_drew ?_ | refine ext_drewN ?_ _ | refine ext_alloc ?_ _)
      clear hW
      have HFL := Lib.hid (fun w' (hx : Ext W14 w') => hfl w' (ext_trans x14 hx))
      have HA14 := Lib.hid (HA3.out.ext x14)
      have hlq : (M.length : Int) = ((mkS l i).length : Int) := by omega
      have HLQ := Lib.hid hlq
      clear hfl hml hln hlq
      go_wp2_with (go_at_call 15; refine (len_calls hb mb rg (mkS l i) 1000 _ HA14.out).mono ?_; rintro e w15 ⟨rfl, hx15⟩; have hf15 := HFL.out w15 hx15; rw [HLQ.out] at hf15; have HX15 := Lib.hid hx15; clear hx15)
      refine bodyPost_ret (by simp [results, Try.results11, go_sem]; rfl) rfl ?_
      refine ⟨hb, mb, rg, tb, M, by simp, by rw [HIE.out]; exact HA14.out.ext HX15.out, HM3.out.ext (ext_trans x14 HX15.out), by rw [HIE.out]; exact HTH.out, ext_trans HX3.out (ext_trans x14 HX15.out), hz1, hz2, hz3, HRW.out, HRT.out, htb1, htb2⟩
    have n1 : (i : Int) < (l.length : Int) := by omega
    by_cases hi3 : i < 300
    rotate_left
    · have n2 : ¬ ((i : Int) < 300) := by omega
      have hie : min l.length 300 = i := by omega
      have HIE := Lib.hid hie
      clear hie
      have hml := HTH.out.2.1
      have hfl := fun w' (hx : Ext wr w') => run_mlen7 (P := Try.prog) (ty := 3) Try.underlying25 (HM3.out.ext hx)
      have hln := HTH.out.2.1
      go_upto_region 14 with fail
      refine wp_at ?_
      intro W14 hW
      have x14 : Ext wr W14 := by rw [hW]; repeat (first | exact ext_refl _ | assumption | refine ext_more' ?_ _ _ | refine ext_drew ?_ | refine ext_drewN ?_ _ | refine ext_alloc ?_ _)
      clear hW
      have HFL := Lib.hid (fun w' (hx : Ext W14 w') => hfl w' (ext_trans x14 hx))
      have HA14 := Lib.hid (HA3.out.ext x14)
      have hlq : (M.length : Int) = ((mkS l i).length : Int) := by omega
      have HLQ := Lib.hid hlq
      clear hfl hml hln hlq
      go_wp2_with (go_at_call 15; refine (len_calls hb mb rg (mkS l i) 1000 _ HA14.out).mono ?_; rintro e w15 ⟨rfl, hx15⟩; have hf15 := HFL.out w15 hx15; rw [HLQ.out] at hf15; have HX15 := Lib.hid hx15; clear hx15)
      refine bodyPost_ret (by simp [results, Try.results11, go_sem]; rfl) rfl ?_
      refine ⟨hb, mb, rg, tb, M, by simp, by rw [HIE.out]; exact HA14.out.ext HX15.out, HM3.out.ext (ext_trans x14 HX15.out), by rw [HIE.out]; exact HTH.out, ext_trans HX3.out (ext_trans x14 HX15.out), hz1, hz2, hz3, HRW.out, HRT.out, htb1, htb2⟩
    have n2 : (i : Int) < 300 := by omega
    have n0 : (0 : Int) ≤ (i : Int) := by omega
    obtain ⟨b, o, rfl, q0, c0, c1⟩ := tmr_cells (V := fun i => at_ l i) HROWS.out HX3.out hil
    have q1 : b < wr.heap.size := Nat.lt_of_lt_of_le q0 HX3.out.size
    obtain ⟨x, hxx⟩ : ∃ x, x = at_ l i := ⟨_, rfl⟩
    rw [← hxx] at c0 c1
    have hlk := (run_mlook (P := Try.prog) Try.underlying25 Try.underlying3 HM3.out x.id (int0z8 wr)).2
    rw [HTH.out.1] at hlk
    have hmk : mkS l (i + 1) = if (fnd x.id (mkS l i)).isSome = true then mkS l i else ins x (mkS l i) := by rw [mkS, ← hxx]
    obtain ⟨S, hS⟩ : ∃ S, S = mkS l i := ⟨_, rfl⟩
    rw [← hS] at hlk hmk HA3 HTH hsl
    clear hxx hS
    cases hf : fnd x.id S
    · rw [hf] at hlk hmk
      simp only [Option.map_none, Option.getD_none, Option.isSome_none, Bool.false_eq_true, if_false] at hlk hmk
      have he : putE S 1000 x = 0 := by unfold putE; rw [hf, if_neg (by simp), if_neg (by omega)]
      have HE := Lib.hid he
      have HSS := Lib.hid (show putS S 1000 x = ins x S by unfold putS; rw [he]; rfl)
      have HMK := Lib.hid hmk
      have HF := Lib.hid hf
      clear he hmk hf
      go_upto_region 13 with (go_at_call 22; refine (put_calls x hb mb rg S 1000 _ (HA3.out.ext (by repeat (first | exact ext_refl _ | assumption | refine ext_more' ?_ _ _ | refine ext_drew ?_ | refine ext_drewN ?_ _ | refine ext_alloc ?_ _)))).mono ?_; rw [HE.out, HSS.out]; rintro e w9 ⟨rfl, hp9⟩; have HP9 := Lib.hid hp9; clear hp9)
      obtain ⟨rg', ha9, hc9, hr9⟩ := HP9.out
      have hnt : ¬ (tb = hb ∨ tb = mb ∨ rg = some tb) := by
        rintro (h | h | h)
        · exact htb1 h
        · exact htb2 h
        · exact HRT.out h
      have hnl : ∀ q, q < w.heap.size → ¬ (q = hb ∨ q = mb ∨ rg = some q) := by
        intro q hq h
        rcases h with h | h | h
        · omega
        · omega
        · have := HRW.out _ h; omega
      have HA9 := Lib.hid ha9
      have HM9 := Lib.hid (HM3.out.chg hc9 hnt)
      have HX9 := Lib.hid (ext_chg HX3.out hc9 (fun q h => Nat.le_of_not_lt fun hq => hnl q hq h))
      have hz9 := HX3.out.size
      have htl : tb < wr.heap.size := HM3.out.lt
      have HRW9 := Lib.hid (show ∀ q, rg' = some q → w.heap.size ≤ q from fun q e => by
        rcases hr9 with h | ⟨g, h, hg⟩
        · exact HRW.out q (by rw [← h, e])
        · rw [h] at e; injection e with e; omega)
      have HRT9 := Lib.hid (show rg' ≠ some tb from fun e => by
        rcases hr9 with h | ⟨g, h, hg⟩
        · exact HRT.out (by rw [← h, e])
        · rw [h] at e; injection e with e; omega)
      have c0' := (at_chg_cell (j := o + i * 2) hc9 (hnl b q0) q1).trans c0
      have c1' := (at_chg_cell (j := o + i * 2 + 1) hc9 (hnl b q0) q1).trans c1
      have q9 : b < w9.heap.size := Nat.lt_of_lt_of_le q1 hc9.size
      have htb3 : ¬ (b = tb) := by omega
      clear c0 c1 q1 HP9 hlk hc9 hr9 ha9
      refine wp_at ?_
      intro W9 hW
      obtain rfl : w9 = W9 := hW.symm
      refine wp_region_held_drew (S := fun w' => Chg (fun q => q = tb) w9 w') (by kernel_rfl) (Chg.drew (Chg.refl _ _)) (fun hHeld => ?_)
      refine wpAnyH_take' (i := 0) (v := ?v0_698) (some 63) rfl rfl (by kernel_rfl) (by kernel_rfl) (by kernel_rfl) (fun _ _ _ h => h) (Or.inl ⟨by kernel_rfl, ?y0_698⟩) (hHeld) ?_
      case y0_698 =>
        intro w' hSw
        go_simp
        try with_reducible rfl
      refine wpAnyH_take' (i := 1) (v := ?v1_699) (some 64) rfl rfl (by kernel_rfl) (by kernel_rfl) (by kernel_rfl) (fun _ _ _ h => h) (Or.inl ⟨by kernel_rfl, ?y1_699⟩) (hHeld) ?_
      case y1_699 =>
        intro w' hSw
        go_simp
        try with_reducible rfl
      refine wpAnyH_take' (i := 2) (v := ?v2_700) (some 65) rfl rfl (by kernel_rfl) (by kernel_rfl) (by kernel_rfl) (fun _ _ _ h => h) (Or.inl ⟨by kernel_rfl, ?y2_700⟩) (hHeld) ?_
      case y2_700 =>
        intro w' hSw
        go_simp
        try with_reducible rfl
      refine wpAnyH_take' (i := 3) (v := ?v3_701) (some 66) rfl rfl (by kernel_rfl) (by kernel_rfl) (by kernel_rfl) (fun _ _ _ h => h) (Or.inl ⟨by kernel_rfl, ?y3_701⟩) (hHeld) ?_
      case y3_701 =>
        intro w' hSw
        go_simp
        try with_reducible rfl
      refine wpAnyH_take' (i := 4) (v := ?v4_702) (some 67) rfl rfl (by kernel_rfl) (by kernel_rfl) (by kernel_rfl) (fun _ _ _ h => h) (Or.inl ⟨by kernel_rfl, ?y4_702⟩) (hHeld) ?_
      case y4_702 =>
        intro w' hSw
        go_simp
        try with_reducible rfl
      refine wpAnyH_take' (i := 5) (v := ?v5_703) (some 68) rfl rfl (by kernel_rfl) (by kernel_rfl) (by kernel_rfl) (fun _ _ _ h => h) (Or.inl ⟨by kernel_rfl, ?y5_703⟩) (hHeld) ?_
      case y5_703 =>
        intro w' hSw
        have r0' := (at_chg_cell hSw htb3 q9).trans c0'; have r1' := (at_chg_cell hSw htb3 q9).trans c1'; go_simp
        try with_reducible rfl
      refine wpAnyH_take' (i := 6) (v := ?v6_704) (some 69) rfl rfl (by kernel_rfl) (by kernel_rfl) (by kernel_rfl) (fun _ _ _ h => h) (Or.inl ⟨by kernel_rfl, ?y6_704⟩) (hHeld) ?_
      case y6_704 =>
        intro w' hSw
        go_simp
        try with_reducible rfl
      refine wpAnyH_take' (i := 7) (v := ?v7_705) (some 70) rfl rfl (by kernel_rfl) (by kernel_rfl) (by kernel_rfl) (fun _ _ _ h => h) (Or.inl ⟨by kernel_rfl, ?y7_705⟩) (hHeld) ?_
      case y7_705 =>
        intro w' hSw
        go_simp
        try with_reducible rfl
      refine wpAnyH_take' (i := 8) (v := ?v8_706) (some 71) rfl rfl (by kernel_rfl) (by kernel_rfl) (by kernel_rfl) (fun _ _ _ h => h) (Or.inl ⟨by kernel_rfl, ?y8_706⟩) (hHeld) ?_
      case y8_706 =>
        intro w' hSw
        go_simp
        try with_reducible rfl
      refine wpAnyH_take' (i := 9) (v := ?v9_707) (some 72) rfl rfl (by kernel_rfl) (by kernel_rfl) (by kernel_rfl) (fun _ _ _ h => h) (Or.inl ⟨by kernel_rfl, ?y9_707⟩) (hHeld) ?_
      case y9_707 =>
        intro w' hSw
        go_simp
        try with_reducible rfl
      refine wpAnyH_take' (i := 10) (v := ?v10_708) (some 73) rfl rfl (by kernel_rfl) (by kernel_rfl) (by kernel_rfl) (fun _ _ _ h => h) (Or.inl ⟨by kernel_rfl, ?y10_708⟩) (hHeld) ?_
      case y10_708 =>
        intro w' hSw
        have r0' := (at_chg_cell hSw htb3 q9).trans c0'; have r1' := (at_chg_cell hSw htb3 q9).trans c1'; go_simp
        try with_reducible rfl
      have hm13 := HM9.out.chg (Chg.drew (Chg.refl (fun _ => False) w9)) (fun h => h)
      obtain ⟨w14, hrun14, hm14, hc14, hz14⟩ := run_mput (P := Try.prog) Try.underlying25 Try.underlying3 hm13 x.id (.int .i64 x.due)
      refine wpAnyH_ready (rs := [11]) (by kernel_rfl) (by simp) ?_
      refine AllReadyH.cons rfl (fun K hK => ?_) AllReadyH.nil
      rw [if_pos (by kernel_rfl)]
      go_simp
      refine hK.out _ _ (hHeld.trans hc14) (fun hS => ?_)
      clear hK
      refine wpAnyH_done (by kernel_rfl) ?_ _
      go_simp
      go_wp2
      go_roundg (min l.length 300 - (i + 1))
      case measure => omega
      case rel => exact ⟨i + 1, _, rg', by go_num, by omega, by rw [HMK.out]; exact HA9.out.chg hS (show ¬ (hb = tb) by omega) (show ¬ (mb = tb) by omega) (fun q e (h : q = tb) => HRT9.out (by rw [e, h])), hm14, by rw [HMK.out]; exact thM_ins HTH.out HA3.out.ids HF.out, ext_chg HX9.out hS (fun q (h : q = tb) => by omega), HRW9.out, HRT9.out⟩
    · rename_i y
      rw [hf] at hlk hmk
      simp only [Option.map_some, Option.getD_some, Option.isSome_some, if_true] at hlk hmk
      have he : putE S 1000 x = 40 := by unfold putE; rw [hf]; simp
      have HE := Lib.hid he
      have HSS := Lib.hid (show putS S 1000 x = S by unfold putS; rw [he]; rfl)
      have HMK := Lib.hid hmk
      clear he hmk hf
      go_upto_region 7 with (go_at_call 22; refine (put_calls x hb mb rg S 1000 _ (HA3.out.ext (by repeat (first | exact ext_refl _ | assumption | refine ext_more' ?_ _ _ | refine ext_drew ?_ | refine ext_drewN ?_ _ | refine ext_alloc ?_ _)))).mono ?_; rw [HE.out, HSS.out]; rintro e w9 ⟨rfl, hp9⟩; have HP9 := Lib.hid hp9; clear hp9)
      obtain ⟨rg', ha9, hc9, hr9⟩ := HP9.out
      have hnt : ¬ (tb = hb ∨ tb = mb ∨ rg = some tb) := by
        rintro (h | h | h)
        · exact htb1 h
        · exact htb2 h
        · exact HRT.out h
      have hnl : ∀ q, q < w.heap.size → ¬ (q = hb ∨ q = mb ∨ rg = some q) := by
        intro q hq h
        rcases h with h | h | h
        · omega
        · omega
        · have := HRW.out _ h; omega
      have HA9 := Lib.hid ha9
      have HM9 := Lib.hid (HM3.out.chg hc9 hnt)
      have HX9 := Lib.hid (ext_chg HX3.out hc9 (fun q h => Nat.le_of_not_lt fun hq => hnl q hq h))
      have hz9 := HX3.out.size
      have htl : tb < wr.heap.size := HM3.out.lt
      have HRW9 := Lib.hid (show ∀ q, rg' = some q → w.heap.size ≤ q from fun q e => by
        rcases hr9 with h | ⟨g, h, hg⟩
        · exact HRW.out q (by rw [← h, e])
        · rw [h] at e; injection e with e; omega)
      have HRT9 := Lib.hid (show rg' ≠ some tb from fun e => by
        rcases hr9 with h | ⟨g, h, hg⟩
        · exact HRT.out (by rw [← h, e])
        · rw [h] at e; injection e with e; omega)
      clear c0 c1 q1 HP9 hlk hc9 hr9 ha9
      refine wp_at ?_
      intro W9 hW
      obtain rfl : w9 = W9 := hW.symm
      go_wp2
      go_roundg (min l.length 300 - (i + 1))
      case measure => omega
      case rel => exact ⟨i + 1, M, rg', by go_num, by omega, by rw [HMK.out]; exact HA9.out, HM9.out, by rw [HMK.out]; exact HTH.out, HX9.out, HRW9.out, HRT9.out⟩
end Go.Proofs.Ytkicofagjebnjaa

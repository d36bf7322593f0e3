/- What an event does to a history: something over, a signal. -/
import Derived.Test.YthpgmefjgidkgaaK12
namespace Go.Proofs.Ythpgmefjgidkgaa
open Go.RowKit
set_option linter.unusedVariables false
set_option linter.unusedSimpArgs false

set_option maxRecDepth 100000 in
set_option maxHeartbeats 4000000 in
theorem put_over (prog : ByteArray) (arg ost ov len last : Int) (cs ts ks ss : Option Addr) (cl tl kl sl cc tc kc sc : Nat) (st clo : Bool) (bx : Nat) (L : List Kno) (base : Nat) (at' n p a b : Int) (s : ByteArray) (w : World) (h : At w bx #[.string prog, .int .i64 arg, .slice cs cl cc, .slice ts tl tc, .slice ks L.length kc, .slice ss sl sc, .bool st, .bool clo, .int .i64 ost, .int .i64 ov, .int .i64 len, .int .i64 last]) (hl : 0 ≤ len) (hl2 : len ≤ 1000000) (ho : OwnX w base bx 44 3 (.slice ks L.length kc) L.length (L.flatMap knoC)) (hbs : base ≤ w.heap.size) (hL : L.length ≤ 1000000) :
    Calls Try.prog 23 #[.pointer (some ⟨bx, 0, none⟩), .agg #[.int .u8 4, .int .i64 at', .int .i64 n, .int .i64 p, .int .i64 a, .int .i64 b, .string s]] w fun e w' => e = .returned (.tuple #[]) ∧ Chg (fun q => q = bx ∨ base ≤ q) w w' ∧ KeepT base bx 44 w w' ∧
      ∃ ms' cap', At w' bx #[.string prog, .int .i64 arg, .slice cs cl cc, .slice ts tl tc, .slice ms' (L.length + 1) cap', .slice ss sl sc, .bool st, .bool clo, .int .i64 ost, .int .i64 ov, .int .i64 (len + 1), .int .i64 at'] ∧ OwnX w' base bx 44 3 (.slice ms' (L.length + 1) cap') (L.length + 1) ((L ++ [(⟨n, ⟨p, a⟩⟩ : Kno)]).flatMap knoC) := by
  have HO := Lib.hid ho; clear ho
  obtain ⟨i0, hi0, hz0, hz1, hz2⟩ := info_parts kno_info
  have M63 := Lib.hid (show L.length + 1 ≤ maxLen by unfold maxLen; omega)
  have M47 := Lib.hid (show (L.length + 1) * 24 ≤ 140737488355328 by omega)
  have lb := at_lt h (by simp)
  go_enter Try.func23, Try.ntmps23
  go_upto_region 1 with fail
  refine wp_at ?_
  intro W1 hW
  have hx : Ext w W1 := by rw [hW]; repeat (first | exact ext_refl _ | assumption | refine ext_more' ?_ _ _ | refine ext_drew ?_ | refine ext_drewN ?_ _ | refine ext_alloc ?_ _)
  have he := at_new (by rw [hW]; repeat (first | exact ext_refl _ | assumption | refine ext_more' ?_ _ _ | refine ext_drew ?_ | refine ext_drewN ?_ _ | refine ext_alloc ?_ _) : Ext (World.alloc w (.cells _ _)) W1)
  clear hW
  have h1 := at_ext h (by simp) hx
  have hne : w.heap.size ≠ bx := by omega
  have g1 : Chg (fun q => q = bx) w W1 := Chg.ofExt hx
  have ke := he.1
  have le := at_lt he (by simp)
  have k1 := h1.1
  have f1 := h1.2
  have l1 := at_lt h1 (by simp)
  go_region
  all_goals
    refine then_at ?_
    intro W2 hW
    have h2 : At W2 bx #[.string prog, .int .i64 arg, .slice cs cl cc, .slice ts tl tc, .slice ks L.length kc, .slice ss sl sc, .bool st, .bool clo, .int .i64 ost, .int .i64 ov, .int .i64 (len + 1), .int .i64 at'] := by rw [hW]; exact at_drewI (at_put (at_put h1 (by simp) rfl) (by simp) rfl)
    have he2 := show At W2 w.heap.size _ by rw [hW]; exact at_drewI (at_other (at_other he hne) hne)
    have g2 : Chg (fun q => q = bx) w W2 := by rw [hW]; exact Chg.drew (chg_put (chg_put g1))
    clear hW ke le k1 f1 l1 he h1 g1 hx
    have ke := he2.1
    have le := at_lt he2 (by simp)
    have k1 := h2.1
    have f1 := h2.2
    have l1 := at_lt h2 (by simp)
    have hbs2 : base ≤ W2.heap.size := by have := g2.size; omega
    go_upto_region 11 with fail
    refine wp_region_held_drew (S := fun w' => At w' w.heap.size #[.int .u8 4, .int .i64 at', .int .i64 n, .int .i64 p, .int .i64 a, .int .i64 b, .string s]) (by kernel_rfl) (show At _ _ _ from he2) (fun hHeld => ?_)
    refine wpAnyH_take' (i := 0) (v := ?v0) (some 77) rfl rfl (by kernel_rfl) (by kernel_rfl) (by kernel_rfl) (fun _ _ _ h => h) (Or.inl ⟨by rfl, ?y0⟩) (show At _ _ _ from he2) ?_
    case y0 =>
      intro w' hSw
      go_simp
      try with_reducible rfl
    refine wpAnyH_take' (i := 1) (v := ?v1) (some 78) rfl rfl (by kernel_rfl) (by kernel_rfl) (by kernel_rfl) (fun _ _ _ h => h) (Or.inl ⟨by rfl, ?y1⟩) (show At _ _ _ from he2) ?_
    case y1 =>
      intro w' hSw
      go_simp
      try with_reducible rfl
    refine wpAnyH_take' (i := 2) (v := ?v2) (some 79) rfl rfl (by kernel_rfl) (by kernel_rfl) (by kernel_rfl) (fun _ _ _ h => h) (Or.inl ⟨by rfl, ?y2⟩) (show At _ _ _ from he2) ?_
    case y2 =>
      intro w' hSw
      go_simp
      try with_reducible rfl
    refine wpAnyH_take' (i := 3) (v := ?v3) (some 80) rfl rfl (by kernel_rfl) (by kernel_rfl) (by kernel_rfl) (fun _ _ _ h => h) (Or.inl ⟨by rfl, ?y3⟩) (show At _ _ _ from he2) ?_
    case y3 =>
      intro w' hSw
      go_simp
      try with_reducible rfl
    refine wpAnyH_take' (i := 5) (v := ?v5) (some 82) rfl rfl (by kernel_rfl) (by kernel_rfl) (by kernel_rfl) (fun _ _ _ h => h) (Or.inl ⟨by rfl, ?y5⟩) (show At _ _ _ from he2) ?_
    case y5 =>
      intro w' hSw
      go_simp
      try with_reducible rfl
    refine wpAnyH_take' (i := 6) (v := ?v6) (some 83) rfl rfl (by kernel_rfl) (by kernel_rfl) (by kernel_rfl) (fun _ _ _ h => h) (Or.inl ⟨by rfl, ?y6⟩) (show At _ _ _ from he2) ?_
    case y6 =>
      intro w' hSw
      have ke := hSw.1
      go_simp
      try with_reducible rfl
    refine wpAnyH_take' (i := 7) (v := ?v7) (some 84) rfl rfl (by kernel_rfl) (by kernel_rfl) (by kernel_rfl) (fun _ _ _ h => h) (Or.inl ⟨by rfl, ?y7⟩) (show At _ _ _ from he2) ?_
    case y7 =>
      intro w' hSw
      go_simp
      try with_reducible rfl
    refine wpAnyH_take' (i := 8) (v := ?v8) (some 85) rfl rfl (by kernel_rfl) (by kernel_rfl) (by kernel_rfl) (fun _ _ _ h => h) (Or.inl ⟨by rfl, ?y8⟩) (show At _ _ _ from he2) ?_
    case y8 =>
      intro w' hSw
      have ke := hSw.1
      go_simp
      try with_reducible rfl
    refine wpAnyH_take' (i := 9) (v := ?v9) (some 86) rfl rfl (by kernel_rfl) (by kernel_rfl) (by kernel_rfl) (fun _ _ _ h => h) (Or.inl ⟨by rfl, ?y9⟩) (show At _ _ _ from he2) ?_
    case y9 =>
      intro w' hSw
      go_simp
      try with_reducible rfl
    refine wpAnyH_take' (i := 10) (v := ?v10) (some 87) rfl rfl (by kernel_rfl) (by kernel_rfl) (by kernel_rfl) (fun _ _ _ h => h) (Or.inl ⟨by rfl, ?y10⟩) (show At _ _ _ from he2) ?_
    case y10 =>
      intro w' hSw
      have ke := hSw.1
      go_simp
      try with_reducible rfl
    refine wpAnyH_take' (i := 11) (v := ?v11) (some 88) rfl rfl (by kernel_rfl) (by kernel_rfl) (by kernel_rfl) (fun _ _ _ h => h) (Or.inl ⟨by rfl, ?y11⟩) (show At _ _ _ from he2) ?_
    case y11 =>
      intro w' hSw
      go_simp
      try with_reducible rfl
    refine wpAnyH_take' (i := 12) (v := ?v12) (some 89) rfl rfl (by kernel_rfl) (by kernel_rfl) (by kernel_rfl) (fun _ _ _ h => h) (Or.inl ⟨by rfl, ?y12⟩) (show At _ _ _ from he2) ?_
    case y12 =>
      intro w' hSw
      go_simp
      try with_reducible rfl
    refine wpAnyH_at 18 (fun a0 W L' a' w' => ∃ u81 u90 u91 u92 u93 : Value, a' = frm [(81, u81), (90, u90), (91, u91), (92, u92), (93, u93)] a0 ∧ At w' w.heap.size #[.int .u8 4, .int .i64 at', .int .i64 n, .int .i64 p, .int .i64 a, .int .i64 b, .string s] ∧ At w' bx #[.string prog, .int .i64 arg, .slice cs cl cc, .slice ts tl tc, (bif L' 17 then u91 else .slice ks L.length kc), .slice ss sl sc, .bool st, .bool clo, .int .i64 ost, .int .i64 ov, .int .i64 (len + 1), .int .i64 at'] ∧ Chg (fun q => q = bx ∨ base ≤ q) w w' ∧ Bef (L' 14) (OwnX w' base bx 44 3 (.slice ks L.length kc) L.length (L.flatMap knoC)) ∧ KeepT base bx 44 w w' ∧ Aft (L' 4) (u81 = .slice ks L.length kc) ∧ Aft (L' 13) (Bef (L' 14) (∃ bn, u90 = .slice (some ⟨bn, 0, none⟩) 1 1 ∧ Rds w' (some ⟨bn, 0, none⟩) 1 3 (knoC (⟨n, ⟨p, a⟩⟩ : Kno)))) ∧ Aft (L' 14) (∃ ms' cap', u91 = .slice ms' (L.length + 1) cap' ∧ OwnX w' base bx 44 3 (.slice ms' (L.length + 1) cap') (L.length + 1) ((L ++ [(⟨n, ⟨p, a⟩⟩ : Kno)]).flatMap knoC)) ∧ Aft (L' 15) (u92 = .pointer (some ⟨bx, 0, none⟩)) ∧ Aft (L' 16) (u93 = .pointer (some ⟨bx, 4, none⟩))) [4, 13, 14, 15, 16, 17] [0, 1, 2, 3, 4, 5, 6, 7, 8, 9, 10, 11, 12, 13, 14, 15, 16, 17] (by kernel_rfl) (by kernel_rfl) (by kernel_rfl) (fun _ _ _ h => by obtain ⟨_, _, _, _, _, _, hE, _⟩ := h; exact hE) ?i0 ?st ?en
    case i0 => exact ⟨_, _, _, _, _, (frm_rd [81, 90, 91, 92, 93] _).symm, (show At _ _ _ from he2), (show At _ _ _ from h2), (Chg.drew (chg_b g2)), (Bef.new (show OwnX _ _ _ _ _ _ _ _ from HO.out.chg (Chg.drew g2))), (keep_chg (Chg.drew g2)), (Aft.no (by kernel_rfl)), (Aft.no (by kernel_rfl)), (Aft.no (by kernel_rfl)), (Aft.no (by kernel_rfl)), (Aft.no (by kernel_rfl))⟩
    case st =>
      refine StepsI.cons [] [14, 15, 16, 17] 18 rfl (by kernel_rfl) (by kernel_rfl) ?s4 ?_
      case s4 =>
        rintro L' a' w' K' hi hp hn ⟨u81, u90, u91, u92, u93, rfl, hE, hB, hC, hO, hKp, h4, h13, h14, h15, h16⟩ hK
        have n17 := hn 17 (by simp)
        have hB0 := hB
        simp only [n17, cond_false] at hB0
        have kb := hB0.1
        refine Stp.mk ?_
        rw [if_pos (by rfl)]
        go_simp
        exact hK.out _ _ ⟨(.slice ks L.length kc), u90, u91, u92, u93, by kernel_rfl, hE, hB, hC, hO, hKp, (Aft.new rfl), h13, h14, h15, h16⟩
      refine StepsI.cons [] [14, 15, 16, 17] 18 rfl (by kernel_rfl) (by kernel_rfl) ?s13 ?_
      case s13 =>
        rintro L' a' w' K' hi hp hn ⟨u81, u90, u91, u92, u93, rfl, hE, hB, hC, hO, hKp, h4, h13, h14, h15, h16⟩ hK
        have n17 := hn 17 (by simp)
        have hB0 := hB
        simp only [n17, cond_false] at hB0
        refine Stp.mk ?_
        rw [if_pos (by rfl)]
        go_simp
        exact hK.out _ _ ⟨u81, (.slice (some ⟨w'.heap.size, 0, none⟩) 1 1), u91, u92, u93, by kernel_rfl, (at_ext hE (by simp) (ext_alloc (ext_refl _) _)), (at_ext hB (by simp) (ext_alloc (ext_refl _) _)), (hC.trans (Chg.ofExt (ext_alloc (ext_refl _) _))), (hO.map fun h => h.ext (ext_alloc (ext_refl _) _)), (hKp.ext (ext_alloc (ext_refl _) _)), h4, (Aft.new (Bef.new ⟨_, rfl, rds_newV (X := w') (ext_refl _) rfl⟩)), (h14.map fun ⟨ms', cap', e, h⟩ => ⟨ms', cap', e, h.ext (ext_alloc (ext_refl _) _)⟩), h15, h16⟩
      refine StepsI.cons [4, 13] [15, 16, 17] 18 rfl (by kernel_rfl) (by kernel_rfl) ?s14 ?_
      case s14 =>
        rintro L' a' w' K' hi hp hn ⟨u81, u90, u91, u92, u93, rfl, hE, hB, hC, hO, hKp, h4, h13, h14, h15, h16⟩ hK
        have n17 := hn 17 (by simp)
        have hB0 := hB
        simp only [n17, cond_false] at hB0
        have e1 := h4.get (hp 4 (by simp))
        have q2 := (h13.get (hp 13 (by simp))).get hi
        obtain ⟨bn, e2, hr2⟩ := q2
        have ho := hO.get hi
        have hbsz : base ≤ w'.heap.size := by have := hC.size; omega
        refine Stp.mk ?_
        refine step_app3 (by rfl) (.tmp 81) (.tmp 90) 27 (by rfl) base 44 i0 _ 3 24 Try.underlying27 hi0 hz0 hz1 hz2 rfl (by decide) (.slice ks L.length kc) L.length (L.flatMap knoC) u81 (by kernel_rfl) e1 ho.1 (some ⟨bn, 0, none⟩) 1 1 (knoC (⟨n, ⟨p, a⟩⟩ : Kno)) u90 (by kernel_rfl) e2 hr2 (oneCell_kno _) M63.out M47.out hbsz ?_
        intro v4 w4 hown4 hg4 hbk4
        obtain ⟨ms', cap', rfl⟩ := own_slice hown4
        have hfl : (L ++ [(⟨n, ⟨p, a⟩⟩ : Kno)]).flatMap knoC = L.flatMap knoC ++ knoC (⟨n, ⟨p, a⟩⟩ : Kno) := by simp
        have hcg := chg_grown (bx := bx) hg4 (fun k e => (ho.1.lt k e).1)
        have hbxl := at_lt hB0 (by simp)
        have hox : (Value.slice ms' (L.length + 1) cap').ownBlock ≠ some bx := by
          rcases hbk4 with h | h
          · rw [h]; exact ho.2
          · rw [h]; intro e; injection e with e; omega
        exact hK.out _ _ ⟨u81, u90, (.slice ms' (L.length + 1) cap'), u92, u93, by kernel_rfl, (grown_at hg4 hE (by simp) (fun e => by have := (HO.out.1.lt _ e).2; omega)), (by simp only [show upd L' 14 17 = false from n17, cond_false]; exact grown_at hg4 hB0 (by simp) ho.2), (hC.trans hcg), (Bef.no rfl), (hKp.trans (keep_grown ho.1 hg4)), h4, (Aft.new (Bef.no rfl)), (Aft.new ⟨ms', cap', rfl, ⟨by rw [hfl]; exact hown4, hox⟩⟩), h15, h16⟩
      refine StepsI.cons [4, 13, 14] [16, 17] 18 rfl (by kernel_rfl) (by kernel_rfl) ?s15 ?_
      case s15 =>
        rintro L' a' w' K' hi hp hn ⟨u81, u90, u91, u92, u93, rfl, hE, hB, hC, hO, hKp, h4, h13, h14, h15, h16⟩ hK
        refine Stp.mk ?_
        rw [if_pos (by rfl)]
        go_simp
        exact hK.out _ _ ⟨u81, u90, u91, (.pointer (some ⟨bx, 0, none⟩)), u93, by kernel_rfl, hE, hB, hC, hO, hKp, h4, h13, h14, (Aft.new rfl), h16⟩
      refine StepsI.cons [4, 13, 14, 15] [17] 18 rfl (by kernel_rfl) (by kernel_rfl) ?s16 ?_
      case s16 =>
        rintro L' a' w' K' hi hp hn ⟨u81, u90, u91, u92, u93, rfl, hE, hB, hC, hO, hKp, h4, h13, h14, h15, h16⟩ hK
        have e1 := h15.get (hp 15 (by simp))
        refine Stp.mk ?_
        rw [if_pos (by rfl)]
        go_simp
        exact hK.out _ _ ⟨u81, u90, u91, (.pointer (some ⟨bx, 0, none⟩)), (.pointer (some ⟨bx, 4, none⟩)), by kernel_rfl, hE, hB, hC, hO, hKp, h4, h13, h14, (Aft.new rfl), (Aft.new rfl)⟩
      refine StepsI.cons [4, 13, 14, 15, 16] [] 18 rfl (by kernel_rfl) (by kernel_rfl) ?s17 ?_
      case s17 =>
        rintro L' a' w' K' hi hp hn ⟨u81, u90, u91, u92, u93, rfl, hE, hB, hC, hO, hKp, h4, h13, h14, h15, h16⟩ hK
        have hB0 := hB
        simp only [hi, cond_false] at hB0
        have e1 := h16.get (hp 16 (by simp))
        have q2 := h14.get (hp 14 (by simp))
        obtain ⟨ms', cap', e2, ho⟩ := q2
        have kb := hB0.1
        have fb := hB0.2
        have lb2 := at_lt hB0 (by simp)
        refine Stp.mk ?_
        rw [if_pos (by rfl)]
        go_simp
        exact hK.out _ _ ⟨u81, u90, (.slice ms' (L.length + 1) cap'), u92, (.pointer (some ⟨bx, 4, none⟩)), by kernel_rfl, (at_other hE hne), (at_put hB0 (by simp) rfl), (hC.setCell (.inr (.inl rfl)) _), (Bef.no (hp 14 (by simp))), (hKp.trans (keep_chg (chg_put (Chg.refl _ _)))), h4, (Aft.new (Bef.no (hp 14 (by simp)))), (Aft.new ⟨ms', cap', rfl, ho.chg (chg_put (Chg.refl _ _))⟩), h15, (Aft.new rfl)⟩
      exact StepsI.nil
    case en =>
      rintro L' a' w' hL ⟨u81, u90, u91, u92, u93, rfl, hE, hB, hC, hO, hKp, h4, h13, h14, h15, h16⟩
      have l1 := hL 17 (by decide)
      simp only [l1, cond_true] at hB
      have q2 := h14.get (hL 14 (by decide))
      obtain ⟨ms', cap', e2, ho⟩ := q2
      subst e2
      have HB := Lib.hid hB; have HC := Lib.hid hC; have HK := Lib.hid hKp; have HO' := Lib.hid ho; have HE := Lib.hid hE
      clear hB hC hKp ho hO h4 h13 h14 h15 h16 hL l1 hHeld hE ke k1 f1 le
      simp only [frm_cons, frm_nil]
      go_wp2
      go_end0
      exact ⟨rfl, HC.out, HK.out, ms', cap', HB.out, HO'.out⟩

set_option maxRecDepth 100000 in
set_option maxHeartbeats 4000000 in
theorem put_signal (prog : ByteArray) (arg ost ov len last : Int) (cs ts ks ss : Option Addr) (cl tl kl sl cc tc kc sc : Nat) (st clo : Bool) (bx : Nat) (L : List Int) (base : Nat) (at' n p a b : Int) (s : ByteArray) (w : World) (h : At w bx #[.string prog, .int .i64 arg, .slice cs cl cc, .slice ts tl tc, .slice ks kl kc, .slice ss L.length sc, .bool st, .bool clo, .int .i64 ost, .int .i64 ov, .int .i64 len, .int .i64 last]) (hl : 0 ≤ len) (hl2 : len ≤ 1000000) (ho : OwnX w base bx 2 1 (.slice ss L.length sc) L.length (L.flatMap numC)) (hbs : base ≤ w.heap.size) (hL : L.length ≤ 1000000) :
    Calls Try.prog 23 #[.pointer (some ⟨bx, 0, none⟩), .agg #[.int .u8 5, .int .i64 at', .int .i64 n, .int .i64 p, .int .i64 a, .int .i64 b, .string s]] w fun e w' => e = .returned (.tuple #[]) ∧ Chg (fun q => q = bx ∨ base ≤ q) w w' ∧ KeepT base bx 2 w w' ∧
      ∃ ms' cap', At w' bx #[.string prog, .int .i64 arg, .slice cs cl cc, .slice ts tl tc, .slice ks kl kc, .slice ms' (L.length + 1) cap', .bool st, .bool clo, .int .i64 ost, .int .i64 ov, .int .i64 (len + 1), .int .i64 at'] ∧ OwnX w' base bx 2 1 (.slice ms' (L.length + 1) cap') (L.length + 1) ((L ++ [(a : Int)]).flatMap numC) := by
  have HO := Lib.hid ho; clear ho
  obtain ⟨i0, hi0, hz0, hz1, hz2⟩ := info_parts int64_info
  have M63 := Lib.hid (show L.length + 1 ≤ maxLen by unfold maxLen; omega)
  have M47 := Lib.hid (show (L.length + 1) * 8 ≤ 140737488355328 by omega)
  have lb := at_lt h (by simp)
  go_enter Try.func23, Try.ntmps23
  go_upto_region 1 with fail
  refine wp_at ?_
  intro W1 hW
  have hx : Ext w W1 := by rw [hW]; repeat (first | exact ext_refl _ | assumption | refine ext_more' ?_ _ _ | refine ext_drew ?_ | refine ext_drewN ?_ _ | refine ext_alloc ?_ _)
  have he := at_new (by rw [hW]; repeat (first | exact ext_refl _ | assumption | refine ext_more' ?_ _ _ | refine ext_drew ?_ | refine ext_drewN ?_ _ | refine ext_alloc ?_ _) : Ext (World.alloc w (.cells _ _)) W1)
  clear hW
  have h1 := at_ext h (by simp) hx
  have hne : w.heap.size ≠ bx := by omega
  have g1 : Chg (fun q => q = bx) w W1 := Chg.ofExt hx
  have ke := he.1
  have le := at_lt he (by simp)
  have k1 := h1.1
  have f1 := h1.2
  have l1 := at_lt h1 (by simp)
  go_region
  all_goals
    refine then_at ?_
    intro W2 hW
    have h2 : At W2 bx #[.string prog, .int .i64 arg, .slice cs cl cc, .slice ts tl tc, .slice ks kl kc, .slice ss L.length sc, .bool st, .bool clo, .int .i64 ost, .int .i64 ov, .int .i64 (len + 1), .int .i64 at'] := by rw [hW]; exact at_drewI (at_put (at_put h1 (by simp) rfl) (by simp) rfl)
    have he2 := show At W2 w.heap.size _ by rw [hW]; exact at_drewI (at_other (at_other he hne) hne)
    have g2 : Chg (fun q => q = bx) w W2 := by rw [hW]; exact Chg.drew (chg_put (chg_put g1))
    clear hW ke le k1 f1 l1 he h1 g1 hx
    have ke := he2.1
    have le := at_lt he2 (by simp)
    have k1 := h2.1
    have f1 := h2.2
    have l1 := at_lt h2 (by simp)
    have hbs2 : base ≤ W2.heap.size := by have := g2.size; omega
    go_upto_region 13 with fail
    refine wp_region_held_drew (S := fun w' => At w' w.heap.size #[.int .u8 5, .int .i64 at', .int .i64 n, .int .i64 p, .int .i64 a, .int .i64 b, .string s]) (by kernel_rfl) (show At _ _ _ from he2) (fun hHeld => ?_)
    refine wpAnyH_take' (i := 0) (v := ?v0) (some 96) rfl rfl (by kernel_rfl) (by kernel_rfl) (by kernel_rfl) (fun _ _ _ h => h) (Or.inl ⟨by rfl, ?y0⟩) (show At _ _ _ from he2) ?_
    case y0 =>
      intro w' hSw
      go_simp
      try with_reducible rfl
    refine wpAnyH_take' (i := 1) (v := ?v1) (some 97) rfl rfl (by kernel_rfl) (by kernel_rfl) (by kernel_rfl) (fun _ _ _ h => h) (Or.inl ⟨by rfl, ?y1⟩) (show At _ _ _ from he2) ?_
    case y1 =>
      intro w' hSw
      go_simp
      try with_reducible rfl
    refine wpAnyH_take' (i := 2) (v := ?v2) (some 98) rfl rfl (by kernel_rfl) (by kernel_rfl) (by kernel_rfl) (fun _ _ _ h => h) (Or.inl ⟨by rfl, ?y2⟩) (show At _ _ _ from he2) ?_
    case y2 =>
      intro w' hSw
      go_simp
      try with_reducible rfl
    refine wpAnyH_take' (i := 3) (v := ?v3) (some 99) rfl rfl (by kernel_rfl) (by kernel_rfl) (by kernel_rfl) (fun _ _ _ h => h) (Or.inl ⟨by rfl, ?y3⟩) (show At _ _ _ from he2) ?_
    case y3 =>
      intro w' hSw
      go_simp
      try with_reducible rfl
    refine wpAnyH_take' (i := 5) (v := ?v5) (some 101) rfl rfl (by kernel_rfl) (by kernel_rfl) (by kernel_rfl) (fun _ _ _ h => h) (Or.inl ⟨by rfl, ?y5⟩) (show At _ _ _ from he2) ?_
    case y5 =>
      intro w' hSw
      go_simp
      try with_reducible rfl
    refine wpAnyH_take' (i := 6) (v := ?v6) (some 102) rfl rfl (by kernel_rfl) (by kernel_rfl) (by kernel_rfl) (fun _ _ _ h => h) (Or.inl ⟨by rfl, ?y6⟩) (show At _ _ _ from he2) ?_
    case y6 =>
      intro w' hSw
      have ke := hSw.1
      go_simp
      try with_reducible rfl
    refine wpAnyH_at 12 (fun a0 W L' a' w' => ∃ u100 u103 u104 u105 u106 : Value, a' = frm [(100, u100), (103, u103), (104, u104), (105, u105), (106, u106)] a0 ∧ At w' w.heap.size #[.int .u8 5, .int .i64 at', .int .i64 n, .int .i64 p, .int .i64 a, .int .i64 b, .string s] ∧ At w' bx #[.string prog, .int .i64 arg, .slice cs cl cc, .slice ts tl tc, .slice ks kl kc, (bif L' 11 then u104 else .slice ss L.length sc), .bool st, .bool clo, .int .i64 ost, .int .i64 ov, .int .i64 (len + 1), .int .i64 at'] ∧ Chg (fun q => q = bx ∨ base ≤ q) w w' ∧ Bef (L' 8) (OwnX w' base bx 2 1 (.slice ss L.length sc) L.length (L.flatMap numC)) ∧ KeepT base bx 2 w w' ∧ Aft (L' 4) (u100 = .slice ss L.length sc) ∧ Aft (L' 7) (Bef (L' 8) (∃ bn, u103 = .slice (some ⟨bn, 0, none⟩) 1 1 ∧ Rds w' (some ⟨bn, 0, none⟩) 1 1 (numC (a : Int)))) ∧ Aft (L' 8) (∃ ms' cap', u104 = .slice ms' (L.length + 1) cap' ∧ OwnX w' base bx 2 1 (.slice ms' (L.length + 1) cap') (L.length + 1) ((L ++ [(a : Int)]).flatMap numC)) ∧ Aft (L' 9) (u105 = .pointer (some ⟨bx, 0, none⟩)) ∧ Aft (L' 10) (u106 = .pointer (some ⟨bx, 5, none⟩))) [4, 7, 8, 9, 10, 11] [0, 1, 2, 3, 4, 5, 6, 7, 8, 9, 10, 11] (by kernel_rfl) (by kernel_rfl) (by kernel_rfl) (fun _ _ _ h => by obtain ⟨_, _, _, _, _, _, hE, _⟩ := h; exact hE) ?i0 ?st ?en
    case i0 => exact ⟨_, _, _, _, _, (frm_rd [100, 103, 104, 105, 106] _).symm, (show At _ _ _ from he2), (show At _ _ _ from h2), (Chg.drew (chg_b g2)), (Bef.new (show OwnX _ _ _ _ _ _ _ _ from HO.out.chg (Chg.drew g2))), (keep_chg (Chg.drew g2)), (Aft.no (by kernel_rfl)), (Aft.no (by kernel_rfl)), (Aft.no (by kernel_rfl)), (Aft.no (by kernel_rfl)), (Aft.no (by kernel_rfl))⟩
    case st =>
      refine StepsI.cons [] [8, 9, 10, 11] 12 rfl (by kernel_rfl) (by kernel_rfl) ?s4 ?_
      case s4 =>
        rintro L' a' w' K' hi hp hn ⟨u100, u103, u104, u105, u106, rfl, hE, hB, hC, hO, hKp, h4, h7, h8, h9, h10⟩ hK
        have n11 := hn 11 (by simp)
        have hB0 := hB
        simp only [n11, cond_false] at hB0
        have kb := hB0.1
        refine Stp.mk ?_
        rw [if_pos (by rfl)]
        go_simp
        exact hK.out _ _ ⟨(.slice ss L.length sc), u103, u104, u105, u106, by kernel_rfl, hE, hB, hC, hO, hKp, (Aft.new rfl), h7, h8, h9, h10⟩
      refine StepsI.cons [] [8, 9, 10, 11] 12 rfl (by kernel_rfl) (by kernel_rfl) ?s7 ?_
      case s7 =>
        rintro L' a' w' K' hi hp hn ⟨u100, u103, u104, u105, u106, rfl, hE, hB, hC, hO, hKp, h4, h7, h8, h9, h10⟩ hK
        have n11 := hn 11 (by simp)
        have hB0 := hB
        simp only [n11, cond_false] at hB0
        refine Stp.mk ?_
        rw [if_pos (by rfl)]
        go_simp
        exact hK.out _ _ ⟨u100, (.slice (some ⟨w'.heap.size, 0, none⟩) 1 1), u104, u105, u106, by kernel_rfl, (at_ext hE (by simp) (ext_alloc (ext_refl _) _)), (at_ext hB (by simp) (ext_alloc (ext_refl _) _)), (hC.trans (Chg.ofExt (ext_alloc (ext_refl _) _))), (hO.map fun h => h.ext (ext_alloc (ext_refl _) _)), (hKp.ext (ext_alloc (ext_refl _) _)), h4, (Aft.new (Bef.new ⟨_, rfl, rds_newV (X := w') (ext_refl _) rfl⟩)), (h8.map fun ⟨ms', cap', e, h⟩ => ⟨ms', cap', e, h.ext (ext_alloc (ext_refl _) _)⟩), h9, h10⟩
      refine StepsI.cons [4, 7] [9, 10, 11] 12 rfl (by kernel_rfl) (by kernel_rfl) ?s8 ?_
      case s8 =>
        rintro L' a' w' K' hi hp hn ⟨u100, u103, u104, u105, u106, rfl, hE, hB, hC, hO, hKp, h4, h7, h8, h9, h10⟩ hK
        have n11 := hn 11 (by simp)
        have hB0 := hB
        simp only [n11, cond_false] at hB0
        have e1 := h4.get (hp 4 (by simp))
        have q2 := (h7.get (hp 7 (by simp))).get hi
        obtain ⟨bn, e2, hr2⟩ := q2
        have ho := hO.get hi
        have hbsz : base ≤ w'.heap.size := by have := hC.size; omega
        refine Stp.mk ?_
        refine step_app3 (by rfl) (.tmp 100) (.tmp 103) 28 (by rfl) base 2 i0 _ 1 8 Try.underlying28 hi0 hz0 hz1 hz2 rfl (by decide) (.slice ss L.length sc) L.length (L.flatMap numC) u100 (by kernel_rfl) e1 ho.1 (some ⟨bn, 0, none⟩) 1 1 (numC (a : Int)) u103 (by kernel_rfl) e2 hr2 (oneCell_num _) M63.out M47.out hbsz ?_
        intro v4 w4 hown4 hg4 hbk4
        obtain ⟨ms', cap', rfl⟩ := own_slice hown4
        have hfl : (L ++ [(a : Int)]).flatMap numC = L.flatMap numC ++ numC (a : Int) := by simp
        have hcg := chg_grown (bx := bx) hg4 (fun k e => (ho.1.lt k e).1)
        have hbxl := at_lt hB0 (by simp)
        have hox : (Value.slice ms' (L.length + 1) cap').ownBlock ≠ some bx := by
          rcases hbk4 with h | h
          · rw [h]; exact ho.2
          · rw [h]; intro e; injection e with e; omega
        exact hK.out _ _ ⟨u100, u103, (.slice ms' (L.length + 1) cap'), u105, u106, by kernel_rfl, (grown_at hg4 hE (by simp) (fun e => by have := (HO.out.1.lt _ e).2; omega)), (by simp only [show upd L' 8 11 = false from n11, cond_false]; exact grown_at hg4 hB0 (by simp) ho.2), (hC.trans hcg), (Bef.no rfl), (hKp.trans (keep_grown ho.1 hg4)), h4, (Aft.new (Bef.no rfl)), (Aft.new ⟨ms', cap', rfl, ⟨by rw [hfl]; exact hown4, hox⟩⟩), h9, h10⟩
      refine StepsI.cons [4, 7, 8] [10, 11] 12 rfl (by kernel_rfl) (by kernel_rfl) ?s9 ?_
      case s9 =>
        rintro L' a' w' K' hi hp hn ⟨u100, u103, u104, u105, u106, rfl, hE, hB, hC, hO, hKp, h4, h7, h8, h9, h10⟩ hK
        refine Stp.mk ?_
        rw [if_pos (by rfl)]
        go_simp
        exact hK.out _ _ ⟨u100, u103, u104, (.pointer (some ⟨bx, 0, none⟩)), u106, by kernel_rfl, hE, hB, hC, hO, hKp, h4, h7, h8, (Aft.new rfl), h10⟩
      refine StepsI.cons [4, 7, 8, 9] [11] 12 rfl (by kernel_rfl) (by kernel_rfl) ?s10 ?_
      case s10 =>
        rintro L' a' w' K' hi hp hn ⟨u100, u103, u104, u105, u106, rfl, hE, hB, hC, hO, hKp, h4, h7, h8, h9, h10⟩ hK
        have e1 := h9.get (hp 9 (by simp))
        refine Stp.mk ?_
        rw [if_pos (by rfl)]
        go_simp
        exact hK.out _ _ ⟨u100, u103, u104, (.pointer (some ⟨bx, 0, none⟩)), (.pointer (some ⟨bx, 5, none⟩)), by kernel_rfl, hE, hB, hC, hO, hKp, h4, h7, h8, (Aft.new rfl), (Aft.new rfl)⟩
      refine StepsI.cons [4, 7, 8, 9, 10] [] 12 rfl (by kernel_rfl) (by kernel_rfl) ?s11 ?_
      case s11 =>
        rintro L' a' w' K' hi hp hn ⟨u100, u103, u104, u105, u106, rfl, hE, hB, hC, hO, hKp, h4, h7, h8, h9, h10⟩ hK
        have hB0 := hB
        simp only [hi, cond_false] at hB0
        have e1 := h10.get (hp 10 (by simp))
        have q2 := h8.get (hp 8 (by simp))
        obtain ⟨ms', cap', e2, ho⟩ := q2
        have kb := hB0.1
        have fb := hB0.2
        have lb2 := at_lt hB0 (by simp)
        refine Stp.mk ?_
        rw [if_pos (by rfl)]
        go_simp
        exact hK.out _ _ ⟨u100, u103, (.slice ms' (L.length + 1) cap'), u105, (.pointer (some ⟨bx, 5, none⟩)), by kernel_rfl, (at_other hE hne), (at_put hB0 (by simp) rfl), (hC.setCell (.inr (.inl rfl)) _), (Bef.no (hp 8 (by simp))), (hKp.trans (keep_chg (chg_put (Chg.refl _ _)))), h4, (Aft.new (Bef.no (hp 8 (by simp)))), (Aft.new ⟨ms', cap', rfl, ho.chg (chg_put (Chg.refl _ _))⟩), h9, (Aft.new rfl)⟩
      exact StepsI.nil
    case en =>
      rintro L' a' w' hL ⟨u100, u103, u104, u105, u106, rfl, hE, hB, hC, hO, hKp, h4, h7, h8, h9, h10⟩
      have l1 := hL 11 (by decide)
      simp only [l1, cond_true] at hB
      have q2 := h8.get (hL 8 (by decide))
      obtain ⟨ms', cap', e2, ho⟩ := q2
      subst e2
      have HB := Lib.hid hB; have HC := Lib.hid hC; have HK := Lib.hid hKp; have HO' := Lib.hid ho; have HE := Lib.hid hE
      clear hB hC hKp ho hO h4 h7 h8 h9 h10 hL l1 hHeld hE ke k1 f1 le
      simp only [frm_cons, frm_nil]
      go_wp2
      go_end0
      exact ⟨rfl, HC.out, HK.out, ms', cap', HB.out, HO'.out⟩
end Go.Proofs.Ythpgmefjgidkgaa

/- What an event does to a history: a command. -/
import Derived.Test.YthpgmefjgidkgaaM12
namespace Go.Proofs.Ythpgmefjgidkgaa
open Go.RowKit
set_option linter.unusedVariables false
set_option linter.unusedSimpArgs false

set_option maxRecDepth 100000 in
set_option maxHeartbeats 4000000 in
theorem put_begin (prog : ByteArray) (arg ost ov len last : Int) (cs ts ks ss : Option Addr) (cl tl kl sl cc tc kc sc : Nat) (st clo : Bool) (bx : Nat) (L : List Cmd) (LT : List Int) (base : Nat) (at' n p a b : Int) (s : ByteArray) (w : World) (h : At w bx #[.string prog, .int .i64 arg, .slice cs L.length cc, .slice ts LT.length tc, .slice ks kl kc, .slice ss sl sc, .bool st, .bool clo, .int .i64 ost, .int .i64 ov, .int .i64 len, .int .i64 last]) (hl : 0 ≤ len) (hl2 : len ≤ 1000000) (hp0 : 0 ≤ p) (hp3 : p ≤ 3) (ho : OwnX w base bx 56 5 (.slice cs L.length cc) L.length (L.flatMap cmdC)) (ht : OwnX w base bx 3 1 (.slice ts LT.length tc) LT.length (LT.flatMap numC)) (hbs : base ≤ w.heap.size) (hL : L.length ≤ 1000000) (hLT : LT.length ≤ 1000000) :
    Calls Try.prog 23 #[.pointer (some ⟨bx, 0, none⟩), .agg #[.int .u8 2, .int .i64 at', .int .i64 n, .int .i64 p, .int .i64 a, .int .i64 b, .string s]] w fun e w' => e = .returned (.tuple #[]) ∧ Chg (fun q => q = bx ∨ base ≤ q) w w' ∧ (∀ (T' : TypeId) (sz : Nat) (v : Value) (n : Nat) (xs : List Value), T' ≠ 56 → T' ≠ 3 → OwnX w base bx T' sz v n xs → OwnX w' base bx T' sz v n xs) ∧
      ∃ ms' cap' mt' ct', At w' bx #[.string prog, .int .i64 arg, .slice ms' (L.length + 1) cap', .slice mt' (LT.length + 1) ct', .slice ks kl kc, .slice ss sl sc, .bool st, .bool clo, .int .i64 ost, .int .i64 ov, .int .i64 (len + 1), .int .i64 at'] ∧ OwnX w' base bx 56 5 (.slice ms' (L.length + 1) cap') (L.length + 1) ((L ++ [(⟨n, p, s, a, b⟩ : Cmd)]).flatMap cmdC) ∧ OwnX w' base bx 3 1 (.slice mt' (LT.length + 1) ct') (LT.length + 1) ((LT ++ [0]).flatMap numC) := by
  have HO := Lib.hid ho; clear ho
  have HT := Lib.hid ht; clear ht
  obtain ⟨i0, hi0, hz0, hz1, hz2⟩ := info_parts cmd_info
  have M63 := Lib.hid (show L.length + 1 ≤ maxLen by unfold maxLen; omega)
  have M47 := Lib.hid (show (L.length + 1) * 48 ≤ 140737488355328 by omega)
  have MT63 := Lib.hid (show LT.length + 1 ≤ maxLen by unfold maxLen; omega)
  have MT47 := Lib.hid (show (LT.length + 1) * 8 ≤ 140737488355328 by omega)
  have lb := at_lt h (by simp)
  go_enter Try.func23, Try.ntmps23
  go_upto_region 1 with fail
  refine wp_at ?_
  intro W1 hW
  have hx : Ext w W1 := by rw [hW]; repeat (first | exact ext_refl _ | assumption | refine ext_more' ?_ _ _ | refine ext_drew ?_ | refine ext_drewN ?_ _ | refine ext_alloc ?_ _)
  have he := at_new (by rw [hW]; repeat (first | exact ext_refl _ | assumption | refine ext_more' ?_ _ _ | refine ext_drew ?_ | refine ext_drewN ?_ _ | refine ext_alloc ?_ _) : Ext (World.alloc w (.cells _ _)) W1)
  clear hW
  have h1 := at_ext h (by simp) hx
  have hne : w.heap.size ≠ bx := by omega
  have g1 : Chg (fun q => q = bx) w W1 := Chg.ofExt hx
  have ke := he.1
  have le := at_lt he (by simp)
  have k1 := h1.1
  have f1 := h1.2
  have l1 := at_lt h1 (by simp)
  go_region
  all_goals
    refine then_at ?_
    intro W2 hW
    have h2 : At W2 bx #[.string prog, .int .i64 arg, .slice cs L.length cc, .slice ts LT.length tc, .slice ks kl kc, .slice ss sl sc, .bool st, .bool clo, .int .i64 ost, .int .i64 ov, .int .i64 (len + 1), .int .i64 at'] := by rw [hW]; exact at_drewI (at_put (at_put h1 (by simp) rfl) (by simp) rfl)
    have he2 := show At W2 w.heap.size _ by rw [hW]; exact at_drewI (at_other (at_other he hne) hne)
    have g2 : Chg (fun q => q = bx) w W2 := by rw [hW]; exact Chg.drew (chg_put (chg_put g1))
    clear hW ke le k1 f1 l1 he h1 g1 hx
    have ke := he2.1
    have le := at_lt he2 (by simp)
    have k1 := h2.1
    have f1 := h2.2
    have l1 := at_lt h2 (by simp)
    have hbs2 : base ≤ W2.heap.size := by have := g2.size; omega
    go_upto_region 6 with fail
    have hwr : IntKind.u8.wrap p = p := IntWalk.u8_in _ (by omega)
    refine wp_region_held_drew (S := fun w' => At w' w.heap.size #[.int .u8 2, .int .i64 at', .int .i64 n, .int .i64 p, .int .i64 a, .int .i64 b, .string s]) (by kernel_rfl) (show At _ _ _ from he2) (fun hHeld => ?_)
    refine wpAnyH_take' (i := 0) (v := ?v0) (some 33) rfl rfl (by kernel_rfl) (by kernel_rfl) (by kernel_rfl) (fun _ _ _ h => h) (Or.inl ⟨by rfl, ?y0⟩) (show At _ _ _ from he2) ?_
    case y0 =>
      intro w' hSw
      go_simp
      try with_reducible rfl
    refine wpAnyH_take' (i := 1) (v := ?v1) (some 34) rfl rfl (by kernel_rfl) (by kernel_rfl) (by kernel_rfl) (fun _ _ _ h => h) (Or.inl ⟨by rfl, ?y1⟩) (show At _ _ _ from he2) ?_
    case y1 =>
      intro w' hSw
      go_simp
      try with_reducible rfl
    refine wpAnyH_take' (i := 2) (v := ?v2) (some 35) rfl rfl (by kernel_rfl) (by kernel_rfl) (by kernel_rfl) (fun _ _ _ h => h) (Or.inl ⟨by rfl, ?y2⟩) (show At _ _ _ from he2) ?_
    case y2 =>
      intro w' hSw
      go_simp
      try with_reducible rfl
    refine wpAnyH_take' (i := 3) (v := ?v3) (some 36) rfl rfl (by kernel_rfl) (by kernel_rfl) (by kernel_rfl) (fun _ _ _ h => h) (Or.inl ⟨by rfl, ?y3⟩) (show At _ _ _ from he2) ?_
    case y3 =>
      intro w' hSw
      go_simp
      try with_reducible rfl
    refine wpAnyH_take' (i := 5) (v := ?v5) (some 38) rfl rfl (by kernel_rfl) (by kernel_rfl) (by kernel_rfl) (fun _ _ _ h => h) (Or.inl ⟨by rfl, ?y5⟩) (show At _ _ _ from he2) ?_
    case y5 =>
      intro w' hSw
      go_simp
      try with_reducible rfl
    refine wpAnyH_take' (i := 6) (v := ?v6) (some 39) rfl rfl (by kernel_rfl) (by kernel_rfl) (by kernel_rfl) (fun _ _ _ h => h) (Or.inl ⟨by rfl, ?y6⟩) (show At _ _ _ from he2) ?_
    case y6 =>
      intro w' hSw
      have ke := hSw.1
      go_simp
      try with_reducible rfl
    refine wpAnyH_take' (i := 7) (v := ?v7) (some 40) rfl rfl (by kernel_rfl) (by kernel_rfl) (by kernel_rfl) (fun _ _ _ h => h) (Or.inl ⟨by rfl, ?y7⟩) (show At _ _ _ from he2) ?_
    case y7 =>
      intro w' hSw
      go_simp
      try with_reducible rfl
    refine wpAnyH_take' (i := 8) (v := ?v8) (some 41) rfl rfl (by kernel_rfl) (by kernel_rfl) (by kernel_rfl) (fun _ _ _ h => h) (Or.inl ⟨by rfl, ?y8⟩) (show At _ _ _ from he2) ?_
    case y8 =>
      intro w' hSw
      have ke := hSw.1
      go_simp
      try with_reducible rfl
    refine wpAnyH_take' (i := 9) (v := ?v9) (some 42) rfl rfl (by kernel_rfl) (by kernel_rfl) (by kernel_rfl) (fun _ _ _ h => h) (Or.inl ⟨by rfl, ?y9⟩) (show At _ _ _ from he2) ?_
    case y9 =>
      intro w' hSw
      go_simp
      try with_reducible rfl
    refine wpAnyH_take' (i := 10) (v := ?v10) (some 43) rfl rfl (by kernel_rfl) (by kernel_rfl) (by kernel_rfl) (fun _ _ _ h => h) (Or.inl ⟨by rfl, ?y10⟩) (show At _ _ _ from he2) ?_
    case y10 =>
      intro w' hSw
      go_simp
      try with_reducible rfl
    refine wpAnyH_take' (i := 11) (v := ?v11) (some 44) rfl rfl (by kernel_rfl) (by kernel_rfl) (by kernel_rfl) (fun _ _ _ h => h) (Or.inl ⟨by rfl, ?y11⟩) (show At _ _ _ from he2) ?_
    case y11 =>
      intro w' hSw
      have ke := hSw.1
      go_simp
      try with_reducible rfl
    refine wpAnyH_take' (i := 12) (v := ?v12) (some 45) rfl rfl (by kernel_rfl) (by kernel_rfl) (by kernel_rfl) (fun _ _ _ h => h) (Or.inl ⟨by rfl, ?y12⟩) (show At _ _ _ from he2) ?_
    case y12 =>
      intro w' hSw
      go_simp
      try with_reducible rfl
    refine wpAnyH_take' (i := 13) (v := ?v13) (some 46) rfl rfl (by kernel_rfl) (by kernel_rfl) (by kernel_rfl) (fun _ _ _ h => h) (Or.inl ⟨by rfl, ?y13⟩) (show At _ _ _ from he2) ?_
    case y13 =>
      intro w' hSw
      have ke := hSw.1
      go_simp
      try with_reducible rfl
    refine wpAnyH_take' (i := 14) (v := ?v14) (some 47) rfl rfl (by kernel_rfl) (by kernel_rfl) (by kernel_rfl) (fun _ _ _ h => h) (Or.inl ⟨by rfl, ?y14⟩) (show At _ _ _ from he2) ?_
    case y14 =>
      intro w' hSw
      go_simp
      try with_reducible rfl
    refine wpAnyH_take' (i := 15) (v := ?v15) (some 48) rfl rfl (by kernel_rfl) (by kernel_rfl) (by kernel_rfl) (fun _ _ _ h => h) (Or.inl ⟨by rfl, ?y15⟩) (show At _ _ _ from he2) ?_
    case y15 =>
      intro w' hSw
      have ke := hSw.1
      go_simp
      try with_reducible rfl
    refine wpAnyH_take' (i := 16) (v := ?v16) (some 49) rfl rfl (by kernel_rfl) (by kernel_rfl) (by kernel_rfl) (fun _ _ _ h => h) (Or.inl ⟨by rfl, ?y16⟩) (show At _ _ _ from he2) ?_
    case y16 =>
      intro w' hSw
      go_simp
      try with_reducible rfl
    refine wpAnyH_at 22 (fun a0 W L' a' w' => ∃ u37 u50 u51 u52 u53 : Value, a' = frm [(37, u37), (50, u50), (51, u51), (52, u52), (53, u53)] a0 ∧ At w' w.heap.size #[.int .u8 2, .int .i64 at', .int .i64 n, .int .i64 p, .int .i64 a, .int .i64 b, .string s] ∧ At w' bx #[.string prog, .int .i64 arg, (bif L' 21 then u51 else .slice cs L.length cc), .slice ts LT.length tc, .slice ks kl kc, .slice ss sl sc, .bool st, .bool clo, .int .i64 ost, .int .i64 ov, .int .i64 (len + 1), .int .i64 at'] ∧ Chg (fun q => q = bx ∨ base ≤ q) w w' ∧ Bef (L' 18) (OwnX w' base bx 56 5 (.slice cs L.length cc) L.length (L.flatMap cmdC)) ∧ KeepT base bx 56 w w' ∧ Aft (L' 4) (u37 = .slice cs L.length cc) ∧ Aft (L' 17) (Bef (L' 18) (∃ bn, u50 = .slice (some ⟨bn, 0, none⟩) 1 1 ∧ Rds w' (some ⟨bn, 0, none⟩) 1 5 (cmdC (⟨n, p, s, a, b⟩ : Cmd)))) ∧ Aft (L' 18) (∃ ms' cap', u51 = .slice ms' (L.length + 1) cap' ∧ OwnX w' base bx 56 5 (.slice ms' (L.length + 1) cap') (L.length + 1) ((L ++ [(⟨n, p, s, a, b⟩ : Cmd)]).flatMap cmdC)) ∧ Aft (L' 19) (u52 = .pointer (some ⟨bx, 0, none⟩)) ∧ Aft (L' 20) (u53 = .pointer (some ⟨bx, 2, none⟩))) [4, 17, 18, 19, 20, 21] [0, 1, 2, 3, 4, 5, 6, 7, 8, 9, 10, 11, 12, 13, 14, 15, 16, 17, 18, 19, 20, 21] (by kernel_rfl) (by kernel_rfl) (by kernel_rfl) (fun _ _ _ h => by obtain ⟨_, _, _, _, _, _, hE, _⟩ := h; exact hE) ?i0 ?st ?en
    case i0 => exact ⟨_, _, _, _, _, (frm_rd [37, 50, 51, 52, 53] _).symm, (show At _ _ _ from he2), (show At _ _ _ from h2), (Chg.drew (chg_b g2)), (Bef.new (show OwnX _ _ _ _ _ _ _ _ from HO.out.chg (Chg.drew g2))), (keep_chg (Chg.drew g2)), (Aft.no (by kernel_rfl)), (Aft.no (by kernel_rfl)), (Aft.no (by kernel_rfl)), (Aft.no (by kernel_rfl)), (Aft.no (by kernel_rfl))⟩
    case st =>
      refine StepsI.cons [] [18, 19, 20, 21] 22 rfl (by kernel_rfl) (by kernel_rfl) ?s4 ?_
      case s4 =>
        rintro L' a' w' K' hi hp hn ⟨u37, u50, u51, u52, u53, rfl, hE, hB, hC, hO, hKp, h4, h17, h18, h19, h20⟩ hK
        have n21 := hn 21 (by simp)
        have hB0 := hB
        simp only [n21, cond_false] at hB0
        have kb := hB0.1
        refine Stp.mk ?_
        rw [if_pos (by rfl)]
        go_simp
        exact hK.out _ _ ⟨(.slice cs L.length cc), u50, u51, u52, u53, by kernel_rfl, hE, hB, hC, hO, hKp, (Aft.new rfl), h17, h18, h19, h20⟩
      refine StepsI.cons [] [18, 19, 20, 21] 22 rfl (by kernel_rfl) (by kernel_rfl) ?s17 ?_
      case s17 =>
        rintro L' a' w' K' hi hp hn ⟨u37, u50, u51, u52, u53, rfl, hE, hB, hC, hO, hKp, h4, h17, h18, h19, h20⟩ hK
        have n21 := hn 21 (by simp)
        have hB0 := hB
        simp only [n21, cond_false] at hB0
        refine Stp.mk ?_
        rw [if_pos (by rfl)]
        go_simp
        exact hK.out _ _ ⟨u37, (.slice (some ⟨w'.heap.size, 0, none⟩) 1 1), u51, u52, u53, by kernel_rfl, (at_ext hE (by simp) (ext_alloc (ext_refl _) _)), (at_ext hB (by simp) (ext_alloc (ext_refl _) _)), (hC.trans (Chg.ofExt (ext_alloc (ext_refl _) _))), (hO.map fun h => h.ext (ext_alloc (ext_refl _) _)), (hKp.ext (ext_alloc (ext_refl _) _)), h4, (Aft.new (Bef.new ⟨_, rfl, rds_newV (X := w') (ext_refl _) rfl⟩)), (h18.map fun ⟨ms', cap', e, h⟩ => ⟨ms', cap', e, h.ext (ext_alloc (ext_refl _) _)⟩), h19, h20⟩
      refine StepsI.cons [4, 17] [19, 20, 21] 22 rfl (by kernel_rfl) (by kernel_rfl) ?s18 ?_
      case s18 =>
        rintro L' a' w' K' hi hp hn ⟨u37, u50, u51, u52, u53, rfl, hE, hB, hC, hO, hKp, h4, h17, h18, h19, h20⟩ hK
        have n21 := hn 21 (by simp)
        have hB0 := hB
        simp only [n21, cond_false] at hB0
        have e1 := h4.get (hp 4 (by simp))
        have q2 := (h17.get (hp 17 (by simp))).get hi
        obtain ⟨bn, e2, hr2⟩ := q2
        have ho := hO.get hi
        have hbsz : base ≤ w'.heap.size := by have := hC.size; omega
        refine Stp.mk ?_
        refine step_app3 (by rfl) (.tmp 37) (.tmp 50) 25 (by rfl) base 56 i0 _ 5 48 Try.underlying25 hi0 hz0 hz1 hz2 rfl (by decide) (.slice cs L.length cc) L.length (L.flatMap cmdC) u37 (by kernel_rfl) e1 ho.1 (some ⟨bn, 0, none⟩) 1 1 (cmdC (⟨n, p, s, a, b⟩ : Cmd)) u50 (by kernel_rfl) e2 hr2 (oneCell_cmd _) M63.out M47.out hbsz ?_
        intro v4 w4 hown4 hg4 hbk4
        obtain ⟨ms', cap', rfl⟩ := own_slice hown4
        have hfl : (L ++ [(⟨n, p, s, a, b⟩ : Cmd)]).flatMap cmdC = L.flatMap cmdC ++ cmdC (⟨n, p, s, a, b⟩ : Cmd) := by simp
        have hcg := chg_grown (bx := bx) hg4 (fun k e => (ho.1.lt k e).1)
        have hbxl := at_lt hB0 (by simp)
        have hox : (Value.slice ms' (L.length + 1) cap').ownBlock ≠ some bx := by
          rcases hbk4 with h | h
          · rw [h]; exact ho.2
          · rw [h]; intro e; injection e with e; omega
        exact hK.out _ _ ⟨u37, u50, (.slice ms' (L.length + 1) cap'), u52, u53, by kernel_rfl, (grown_at hg4 hE (by simp) (fun e => by have := (HO.out.1.lt _ e).2; omega)), (by simp only [show upd L' 18 21 = false from n21, cond_false]; exact grown_at hg4 hB0 (by simp) ho.2), (hC.trans hcg), (Bef.no rfl), (hKp.trans (keep_grown ho.1 hg4)), h4, (Aft.new (Bef.no rfl)), (Aft.new ⟨ms', cap', rfl, ⟨by rw [hfl]; exact hown4, hox⟩⟩), h19, h20⟩
      refine StepsI.cons [4, 17, 18] [20, 21] 22 rfl (by kernel_rfl) (by kernel_rfl) ?s19 ?_
      case s19 =>
        rintro L' a' w' K' hi hp hn ⟨u37, u50, u51, u52, u53, rfl, hE, hB, hC, hO, hKp, h4, h17, h18, h19, h20⟩ hK
        refine Stp.mk ?_
        rw [if_pos (by rfl)]
        go_simp
        exact hK.out _ _ ⟨u37, u50, u51, (.pointer (some ⟨bx, 0, none⟩)), u53, by kernel_rfl, hE, hB, hC, hO, hKp, h4, h17, h18, (Aft.new rfl), h20⟩
      refine StepsI.cons [4, 17, 18, 19] [21] 22 rfl (by kernel_rfl) (by kernel_rfl) ?s20 ?_
      case s20 =>
        rintro L' a' w' K' hi hp hn ⟨u37, u50, u51, u52, u53, rfl, hE, hB, hC, hO, hKp, h4, h17, h18, h19, h20⟩ hK
        have e1 := h19.get (hp 19 (by simp))
        refine Stp.mk ?_
        rw [if_pos (by rfl)]
        go_simp
        exact hK.out _ _ ⟨u37, u50, u51, (.pointer (some ⟨bx, 0, none⟩)), (.pointer (some ⟨bx, 2, none⟩)), by kernel_rfl, hE, hB, hC, hO, hKp, h4, h17, h18, (Aft.new rfl), (Aft.new rfl)⟩
      refine StepsI.cons [4, 17, 18, 19, 20] [] 22 rfl (by kernel_rfl) (by kernel_rfl) ?s21 ?_
      case s21 =>
        rintro L' a' w' K' hi hp hn ⟨u37, u50, u51, u52, u53, rfl, hE, hB, hC, hO, hKp, h4, h17, h18, h19, h20⟩ hK
        have hB0 := hB
        simp only [hi, cond_false] at hB0
        have e1 := h20.get (hp 20 (by simp))
        have q2 := h18.get (hp 18 (by simp))
        obtain ⟨ms', cap', e2, ho⟩ := q2
        have kb := hB0.1
        have fb := hB0.2
        have lb2 := at_lt hB0 (by simp)
        refine Stp.mk ?_
        rw [if_pos (by rfl)]
        go_simp
        exact hK.out _ _ ⟨u37, u50, (.slice ms' (L.length + 1) cap'), u52, (.pointer (some ⟨bx, 2, none⟩)), by kernel_rfl, (at_other hE hne), (at_put hB0 (by simp) rfl), (hC.setCell (.inr (.inl rfl)) _), (Bef.no (hp 18 (by simp))), (hKp.trans (keep_chg (chg_put (Chg.refl _ _)))), h4, (Aft.new (Bef.no (hp 18 (by simp)))), (Aft.new ⟨ms', cap', rfl, ho.chg (chg_put (Chg.refl _ _))⟩), h19, (Aft.new rfl)⟩
      exact StepsI.nil
    case en =>
      rintro L' a' w' hL ⟨u37, u50, u51, u52, u53, rfl, hE, hB, hC, hO, hKp, h4, h17, h18, h19, h20⟩
      have l1 := hL 21 (by decide)
      simp only [l1, cond_true] at hB
      have q2 := h18.get (hL 18 (by decide))
      obtain ⟨ms', cap', e2, ho⟩ := q2
      subst e2
      have HB := Lib.hid hB; have HC := Lib.hid hC; have HK := Lib.hid hKp; have HO' := Lib.hid ho; have HE := Lib.hid hE
      clear hB hC hKp ho hO h4 h17 h18 h19 h20 hL l1 hHeld hE ke k1 f1 le
      simp only [frm_cons, frm_nil]
      have HT' := Lib.hid (HK.out 3 _ _ _ _ (by decide) HT.out)
      obtain ⟨w6, hw6⟩ : ∃ w6, w6 = w' := ⟨_, rfl⟩
      have kb := HB.out.1
      have fb := HB.out.2
      have lb6 := at_lt HB.out (by simp)
      have hbz : base ≤ w'.heap.size := by have := HC.out.size; omega
      have HN7 := Lib.hid (show ∀ x, Ext (w'.alloc (.cells #[.int .i64 0] 3)) x → Rds x (some ⟨w'.heap.size, 0, none⟩) 1 1 (numC 0) from fun x h' => rds_newV (X := w') h' rfl)
      obtain ⟨j0, hj0, hy0, hy1, hy2⟩ := info_parts int_info
      clear hw6
      go_wp2_with (at_builtin; refine list_app3 rfl (.tmp 58) (.tmp 59) 26 rfl base 3 j0 _ 1 8 Try.underlying26 hj0 hy0 hy1 hy2 rfl (by decide) (.slice ts LT.length tc) LT.length (LT.flatMap numC) rfl (own_ext HT'.out.1 (by repeat (first | exact ext_refl _ | assumption | refine ext_more' ?_ _ _ | refine ext_drew ?_ | refine ext_drewN ?_ _ | refine ext_alloc ?_ _))) _ 1 _ (numC 0) rfl (HN7.out _ (by repeat (first | exact ext_refl _ | assumption | refine ext_more' ?_ _ _ | refine ext_drew ?_ | refine ext_drewN ?_ _ | refine ext_alloc ?_ _))) (oneCell_num _) MT63.out MT47.out (by simp; omega) ?_; intro v7 w7 hown7 hg7 hbk7; have HBK := Lib.hid hbk7; clear hbk7; obtain ⟨mt', ct', rfl⟩ := own_slice hown7; have h7 := grown_at hg7 (at_ext HB.out (by simp) (by repeat (first | exact ext_refl _ | assumption | refine ext_more' ?_ _ _ | refine ext_drew ?_ | refine ext_drewN ?_ _ | refine ext_alloc ?_ _))) (by simp) HT'.out.2; have k7 := h7.1; have f7 := h7.2; have l7 := at_lt h7 (by simp); have H7 := Lib.hid h7; have HOWN7 := Lib.hid hown7; have HG7 := Lib.hid hg7; clear h7 hown7 hg7)
      go_end0
      have XA := ext_alloc (ext_refl w') (.cells #[.int .i64 0] 3)
      have KP : ∀ (T' : TypeId) (sz : Nat) (v : Value) (n : Nat) (xs : List Value), T' ≠ 3 → OwnX w' base bx T' sz v n xs → OwnX (w7.setCell ⟨bx, 3, none⟩ (.slice mt' (LT.length + 1) ct')) base bx T' sz v n xs := fun T' sz v n xs hT ho => ((ho.ext XA).grown (own_ext HT'.out.1 XA) hT HG7.out).chg (chg_put (Chg.refl _ _))
      refine ⟨rfl, ((HC.out.trans (Chg.ofExt XA)).trans (chg_grown (bx := bx) HG7.out (fun k e => (HT'.out.1.lt k e).1))).setCell (.inr (.inl rfl)) _, fun T' sz v n xs h1 h2 ho => KP T' sz v n xs h2 (HK.out T' sz v n xs h1 ho), ms', cap', mt', ct', at_put H7.out (by simp) rfl, KP _ _ _ _ _ (by decide) HO'.out, ?_⟩
      have hf : (LT ++ [0]).flatMap numC = LT.flatMap numC ++ numC 0 := by simp
      rw [hf]
      refine OwnX.chg ⟨HOWN7.out, ?_⟩ (chg_put (Chg.refl _ _))
      have hbl := at_lt HB.out (by simp)
      rcases HBK.out with h | h
      · rw [h]; exact HT'.out.2
      · rw [h]; intro e; injection e with e; rw [sz_alloc] at e; omega
end Go.Proofs.Ythpgmefjgidkgaa

/- A history in memory of its own. -/
import Derived.Test.YthpgmefjgidkgaaI12
import Derived.Test.YthpgmefjgidkgaaWj
namespace Go.Proofs.Ythpgmefjgidkgaa
open Go.RowKit
set_option linter.unusedVariables false
set_option linter.unusedSimpArgs false

/-- A history's lists are rows of one's own. -/
def OwnsH (w : World) (base : Nat) (h : Hs) (m : Hm) : Prop :=
  w.ownsRow base 56 5 (.slice m.cs h.cmds.length m.cc) h.cmds.length (h.cmds.flatMap cmdC) ∧ w.ownsRow base 3 1 (.slice m.ts h.tries.length m.tc) h.tries.length (h.tries.flatMap numC) ∧
    w.ownsRow base 44 3 (.slice m.ks h.known.length m.kc) h.known.length (h.known.flatMap knoC) ∧ w.ownsRow base 2 1 (.slice m.ss h.sigs.length m.sc) h.sigs.length (h.sigs.flatMap numC)
theorem own_box {w : World} {b j : Nat} {T : TypeId} {sz n : Nat} {v x : Value} {xs : List Value} (h : w.ownsRow (b + 2) T sz v n xs) : (w.setCell ⟨b, j, none⟩ x).ownsRow (b + 2) T sz v n xs :=
  own_chgS h (chg_set (b := b)) (fun k e hk => by have := (h.lt k e).1; omega)
theorem own_keepb {w : World} {b j : Nat} {T : TypeId} {sz n : Nat} {u x : Value} {xs : List Value} (h : ∃ ms cap, u = .slice ms n cap ∧ w.ownsRow (b + 2) T sz (.slice ms n cap) n xs) : ∃ ms cap, u = .slice ms n cap ∧ (w.setCell ⟨b, j, none⟩ x).ownsRow (b + 2) T sz (.slice ms n cap) n xs := by
  obtain ⟨ms, cap, e, h⟩ := h
  exact ⟨ms, cap, e, own_box h⟩
set_option maxRecDepth 100000 in
set_option maxHeartbeats 8000000 in
theorem own_calls (prog : ByteArray) (arg ost ov len last : Int) (cs ts ks ss : Option Addr) (cc tc kc sc : Nat) (cmds : List Cmd) (tries sigs : List Int) (known : List Kno) (st cl : Bool) (w : World)
    (hi : HsIn w ⟨prog, arg, cmds, tries, known, sigs, st, cl, ⟨ost, ov⟩, len, last⟩ ⟨cs, cc, ts, tc, ks, kc, ss, sc⟩) (h1 : cmds.length ≤ 1000000) (h2 : tries.length ≤ 1000000) (h3 : known.length ≤ 1000000) (h4 : sigs.length ≤ 1000000) :
    Calls Try.prog 21 #[.agg #[.string prog, .int .i64 arg, .slice cs cmds.length cc, .slice ts tries.length tc, .slice ks known.length kc, .slice ss sigs.length sc, .bool st, .bool cl, .int .i64 ost, .int .i64 ov, .int .i64 len, .int .i64 last]] w fun e w' =>
      ∃ m', e = .returned (.agg #[.string prog, .int .i64 arg, .slice m'.cs cmds.length m'.cc, .slice m'.ts tries.length m'.tc, .slice m'.ks known.length m'.kc, .slice m'.ss sigs.length m'.sc, .bool st, .bool cl, .int .i64 ost, .int .i64 ov, .int .i64 len, .int .i64 last]) ∧
        OwnsH w' w.heap.size ⟨prog, arg, cmds, tries, known, sigs, st, cl, ⟨ost, ov⟩, len, last⟩ m' ∧ Ext w w' := by
  have HI := Lib.hid hi; clear hi
  go_enter Try.func21, Try.ntmps21
  go_upto_region 1 with fail
  refine wp_at ?_
  intro W1 hW
  have X1 : Ext w W1 := by rw [hW]; repeat (first | exact ext_refl _ | assumption | refine ext_more' ?_ _ _ | refine ext_drew ?_ | refine ext_drewN ?_ _ | refine ext_alloc ?_ _)
  have hb1 := at_new (by rw [hW]; repeat (first | exact ext_refl _ | assumption | refine ext_more' ?_ _ _ | refine ext_drew ?_ | refine ext_drewN ?_ _ | refine ext_alloc ?_ _) : Ext (World.alloc w (.cells _ _)) W1)
  have hr1 := at_new (by rw [hW]; repeat (first | exact ext_refl _ | assumption | refine ext_more' ?_ _ _ | refine ext_drew ?_ | refine ext_drewN ?_ _ | refine ext_alloc ?_ _) : Ext ((World.alloc w (.cells _ _)).alloc (.cells _ _)) W1)
  simp only [sz_alloc] at hr1
  clear hW
  refine wp_region_held_drew (S := fun _ => True) (by kernel_rfl) (trivial) (fun hHeld => ?_)
  refine wpAnyH_take' (i := 0) (v := ?v0) (some 3) rfl rfl (by kernel_rfl) (by kernel_rfl) (by kernel_rfl) (fun _ _ _ h => h) (Or.inl ⟨by rfl, ?y0⟩) (trivial) ?_
  case y0 =>
    intro w' hSw
    go_simp
    try with_reducible rfl
  refine wpAnyH_take' (i := 3) (v := ?v3) (some 6) rfl rfl (by kernel_rfl) (by kernel_rfl) (by kernel_rfl) (fun _ _ _ h => h) (Or.inl ⟨by rfl, ?y3⟩) (trivial) ?_
  case y3 =>
    intro w' hSw
    go_simp
    try with_reducible rfl
  refine wpAnyH_take' (i := 6) (v := ?v6) (some 9) rfl rfl (by kernel_rfl) (by kernel_rfl) (by kernel_rfl) (fun _ _ _ h => h) (Or.inl ⟨by rfl, ?y6⟩) (trivial) ?_
  case y6 =>
    intro w' hSw
    go_simp
    try with_reducible rfl
  refine wpAnyH_take' (i := 9) (v := ?v9) (some 12) rfl rfl (by kernel_rfl) (by kernel_rfl) (by kernel_rfl) (fun _ _ _ h => h) (Or.inl ⟨by rfl, ?y9⟩) (trivial) ?_
  case y9 =>
    intro w' hSw
    go_simp
    try with_reducible rfl
  refine wpAnyH_at 20 (fun a0 W L a' w' => ∃ u4 u5 u7 u8 u10 u11 u13 u14 u15 u16 u17 u18 : Value, a' = frm [(4, u4), (5, u5), (7, u7), (8, u8), (10, u10), (11, u11), (13, u13), (14, u14), (15, u15), (16, u16), (17, u17), (18, u18)] a0 ∧ Ext w w' ∧ At w' (w.heap.size + 1) #[.string ⟨#[]⟩, .int .i64 0, .slice none 0 0, .slice none 0 0, .slice none 0 0, .slice none 0 0, .bool false, .bool false, .int .i64 0, .int .i64 0, .int .i64 0, .int .i64 0] ∧ At w' w.heap.size #[.string prog, .int .i64 arg, (bif L 13 then u5 else .slice cs cmds.length cc), (bif L 15 then u8 else .slice ts tries.length tc), (bif L 17 then u11 else .slice ks known.length kc), (bif L 19 then u14 else .slice ss sigs.length sc), .bool st, .bool cl, .int .i64 ost, .int .i64 ov, .int .i64 len, .int .i64 last] ∧ Aft (L 1) (u4 = .slice cs cmds.length cc) ∧ Aft (L 2) (∃ ms cap, u5 = .slice ms cmds.length cap ∧ w'.ownsRow (w.heap.size + 2) 56 5 (.slice ms cmds.length cap) cmds.length (cmds.flatMap cmdC)) ∧ Aft (L 4) (u7 = .slice ts tries.length tc) ∧ Aft (L 5) (∃ ms cap, u8 = .slice ms tries.length cap ∧ w'.ownsRow (w.heap.size + 2) 3 1 (.slice ms tries.length cap) tries.length (tries.flatMap numC)) ∧ Aft (L 7) (u10 = .slice ks known.length kc) ∧ Aft (L 8) (∃ ms cap, u11 = .slice ms known.length cap ∧ w'.ownsRow (w.heap.size + 2) 44 3 (.slice ms known.length cap) known.length (known.flatMap knoC)) ∧ Aft (L 10) (u13 = .slice ss sigs.length sc) ∧ Aft (L 11) (∃ ms cap, u14 = .slice ms sigs.length cap ∧ w'.ownsRow (w.heap.size + 2) 2 1 (.slice ms sigs.length cap) sigs.length (sigs.flatMap numC)) ∧ Aft (L 12) (u15 = .pointer (some ⟨w.heap.size, 2, none⟩)) ∧ Aft (L 14) (u16 = .pointer (some ⟨w.heap.size, 3, none⟩)) ∧ Aft (L 16) (u17 = .pointer (some ⟨w.heap.size, 4, none⟩)) ∧ Aft (L 18) (u18 = .pointer (some ⟨w.heap.size, 5, none⟩))) [1, 2, 4, 5, 7, 8, 10, 11, 12, 13, 14, 15, 16, 17, 18, 19] [0, 1, 2, 3, 4, 5, 6, 7, 8, 9, 10, 11, 12, 13, 14, 15, 16, 17, 18, 19] (by kernel_rfl) (by kernel_rfl) (by kernel_rfl) (fun _ _ _ _ => trivial) ?i0 ?st ?en
  case i0 => exact ⟨_, _, _, _, _, _, _, _, _, _, _, _, (frm_rd [4, 5, 7, 8, 10, 11, 13, 14, 15, 16, 17, 18] _).symm, (ext_drew X1), hr1, hb1, (Aft.no (by kernel_rfl)), (Aft.no (by kernel_rfl)), (Aft.no (by kernel_rfl)), (Aft.no (by kernel_rfl)), (Aft.no (by kernel_rfl)), (Aft.no (by kernel_rfl)), (Aft.no (by kernel_rfl)), (Aft.no (by kernel_rfl)), (Aft.no (by kernel_rfl)), (Aft.no (by kernel_rfl)), (Aft.no (by kernel_rfl)), (Aft.no (by kernel_rfl))⟩
  case st =>
    refine StepsI.cons [] [2, 5, 8, 11, 12, 13, 14, 15, 16, 17, 18, 19] 20 rfl (by kernel_rfl) (by kernel_rfl) ?s1 ?_
    case s1 =>
      rintro L a' w' K' hi hp hn ⟨u4, u5, u7, u8, u10, u11, u13, u14, u15, u16, u17, u18, rfl, hX, hR, hB, h1, h2, h4, h5, h7, h8, h10, h11, h12, h14, h16, h18⟩ hK
      have n13 := hn 13 (by simp)
      have n15 := hn 15 (by simp)
      have n17 := hn 17 (by simp)
      have n19 := hn 19 (by simp)
      have hB0 := hB
      simp only [n13, n15, n17, n19, cond_true, cond_false] at hB0
      have kb := hB0.1
      refine Stp.mk ?_
      rw [if_pos (by rfl)]
      go_simp
      exact hK.out _ _ ⟨(.slice cs cmds.length cc), u5, u7, u8, u10, u11, u13, u14, u15, u16, u17, u18, by kernel_rfl, hX, hR, hB, (Aft.new rfl), h2, h4, h5, h7, h8, h10, h11, h12, h14, h16, h18⟩
    refine StepsI.cons [1] [5, 8, 11, 12, 13, 14, 15, 16, 17, 18, 19] 20 rfl (by kernel_rfl) (by kernel_rfl) ?s2 ?_
    case s2 =>
      rintro L a' w' K' hi hp hn ⟨u4, u5, u7, u8, u10, u11, u13, u14, u15, u16, u17, u18, rfl, hX, hR, hB, h1, h2, h4, h5, h7, h8, h10, h11, h12, h14, h16, h18⟩ hK
      have n13 := hn 13 (by simp)
      have n15 := hn 15 (by simp)
      have n17 := hn 17 (by simp)
      have n19 := hn 19 (by simp)
      have hB0 := hB
      simp only [n13, n15, n17, n19, cond_true, cond_false] at hB0
      have e1 := h1.get (hp 1 (by simp))
      refine Stp.mk ?_
      rw [if_pos (by rfl)]
      go_simp
      go_at_call 44
      refine (clone_cmd cs cc cmds _ (rows_on2 HI.out.1 hX) (by omega)).mono ?_
      rintro e w1 ⟨ms, cap, rfl, ho, hb⟩
      exact hK.out _ _ ⟨(.slice cs cmds.length cc), (.slice ms cmds.length cap), u7, u8, u10, u11, u13, u14, u15, u16, u17, u18, by kernel_rfl, (ext_trans hX hb), (at_ext hR (by simp) hb), (by simp only [show upd L 2 13 = false from n13, show upd L 2 15 = false from n15, show upd L 2 17 = false from n17, show upd L 2 19 = false from n19, cond_false]; exact at_ext hB0 (by simp) hb), (Aft.new rfl), (Aft.new ⟨ms, cap, rfl, own_low ho (by have := at_lt hR (by simp); have := hb; omega)⟩), h4, (h5.map (own_keep hb)), h7, (h8.map (own_keep hb)), h10, (h11.map (own_keep hb)), h12, h14, h16, h18⟩
    refine StepsI.cons [] [5, 8, 11, 12, 13, 14, 15, 16, 17, 18, 19] 20 rfl (by kernel_rfl) (by kernel_rfl) ?s4 ?_
    case s4 =>
      rintro L a' w' K' hi hp hn ⟨u4, u5, u7, u8, u10, u11, u13, u14, u15, u16, u17, u18, rfl, hX, hR, hB, h1, h2, h4, h5, h7, h8, h10, h11, h12, h14, h16, h18⟩ hK
      have n13 := hn 13 (by simp)
      have n15 := hn 15 (by simp)
      have n17 := hn 17 (by simp)
      have n19 := hn 19 (by simp)
      have hB0 := hB
      simp only [n13, n15, n17, n19, cond_true, cond_false] at hB0
      have kb := hB0.1
      refine Stp.mk ?_
      rw [if_pos (by rfl)]
      go_simp
      exact hK.out _ _ ⟨u4, u5, (.slice ts tries.length tc), u8, u10, u11, u13, u14, u15, u16, u17, u18, by kernel_rfl, hX, hR, hB, h1, h2, (Aft.new rfl), h5, h7, h8, h10, h11, h12, h14, h16, h18⟩
    refine StepsI.cons [1, 2, 4] [8, 11, 13, 14, 15, 16, 17, 18, 19] 20 rfl (by kernel_rfl) (by kernel_rfl) ?s5 ?_
    case s5 =>
      rintro L a' w' K' hi hp hn ⟨u4, u5, u7, u8, u10, u11, u13, u14, u15, u16, u17, u18, rfl, hX, hR, hB, h1, h2, h4, h5, h7, h8, h10, h11, h12, h14, h16, h18⟩ hK
      have n13 := hn 13 (by simp)
      have n15 := hn 15 (by simp)
      have n17 := hn 17 (by simp)
      have n19 := hn 19 (by simp)
      have hB0 := hB
      simp only [n13, n15, n17, n19, cond_true, cond_false] at hB0
      have e4 := h4.get (hp 4 (by simp))
      refine Stp.mk ?_
      rw [if_pos (by rfl)]
      go_simp
      go_at_call 45
      refine (clone_int ts tc tries _ (rows_on2 HI.out.2.1 hX) (by omega)).mono ?_
      rintro e w1 ⟨ms, cap, rfl, ho, hb⟩
      exact hK.out _ _ ⟨u4, u5, (.slice ts tries.length tc), (.slice ms tries.length cap), u10, u11, u13, u14, u15, u16, u17, u18, by kernel_rfl, (ext_trans hX hb), (at_ext hR (by simp) hb), (by simp only [show upd L 5 13 = false from n13, show upd L 5 15 = false from n15, show upd L 5 17 = false from n17, show upd L 5 19 = false from n19, cond_false]; exact at_ext hB0 (by simp) hb), h1, (h2.map (own_keep hb)), (Aft.new rfl), (Aft.new ⟨ms, cap, rfl, own_low ho (by have := at_lt hR (by simp); have := hb; omega)⟩), h7, (h8.map (own_keep hb)), h10, (h11.map (own_keep hb)), h12, h14, h16, h18⟩
    refine StepsI.cons [] [8, 11, 12, 13, 14, 15, 16, 17, 18, 19] 20 rfl (by kernel_rfl) (by kernel_rfl) ?s7 ?_
    case s7 =>
      rintro L a' w' K' hi hp hn ⟨u4, u5, u7, u8, u10, u11, u13, u14, u15, u16, u17, u18, rfl, hX, hR, hB, h1, h2, h4, h5, h7, h8, h10, h11, h12, h14, h16, h18⟩ hK
      have n13 := hn 13 (by simp)
      have n15 := hn 15 (by simp)
      have n17 := hn 17 (by simp)
      have n19 := hn 19 (by simp)
      have hB0 := hB
      simp only [n13, n15, n17, n19, cond_true, cond_false] at hB0
      have kb := hB0.1
      refine Stp.mk ?_
      rw [if_pos (by rfl)]
      go_simp
      exact hK.out _ _ ⟨u4, u5, u7, u8, (.slice ks known.length kc), u11, u13, u14, u15, u16, u17, u18, by kernel_rfl, hX, hR, hB, h1, h2, h4, h5, (Aft.new rfl), h8, h10, h11, h12, h14, h16, h18⟩
    refine StepsI.cons [1, 2, 4, 5, 7] [11, 13, 14, 15, 16, 17, 18, 19] 20 rfl (by kernel_rfl) (by kernel_rfl) ?s8 ?_
    case s8 =>
      rintro L a' w' K' hi hp hn ⟨u4, u5, u7, u8, u10, u11, u13, u14, u15, u16, u17, u18, rfl, hX, hR, hB, h1, h2, h4, h5, h7, h8, h10, h11, h12, h14, h16, h18⟩ hK
      have n13 := hn 13 (by simp)
      have n15 := hn 15 (by simp)
      have n17 := hn 17 (by simp)
      have n19 := hn 19 (by simp)
      have hB0 := hB
      simp only [n13, n15, n17, n19, cond_true, cond_false] at hB0
      have e7 := h7.get (hp 7 (by simp))
      refine Stp.mk ?_
      rw [if_pos (by rfl)]
      go_simp
      go_at_call 46
      refine (clone_kno ks kc known _ (rows_on2 HI.out.2.2.1 hX) (by omega)).mono ?_
      rintro e w1 ⟨ms, cap, rfl, ho, hb⟩
      exact hK.out _ _ ⟨u4, u5, u7, u8, (.slice ks known.length kc), (.slice ms known.length cap), u13, u14, u15, u16, u17, u18, by kernel_rfl, (ext_trans hX hb), (at_ext hR (by simp) hb), (by simp only [show upd L 8 13 = false from n13, show upd L 8 15 = false from n15, show upd L 8 17 = false from n17, show upd L 8 19 = false from n19, cond_false]; exact at_ext hB0 (by simp) hb), h1, (h2.map (own_keep hb)), h4, (h5.map (own_keep hb)), (Aft.new rfl), (Aft.new ⟨ms, cap, rfl, own_low ho (by have := at_lt hR (by simp); have := hb; omega)⟩), h10, (h11.map (own_keep hb)), h12, h14, h16, h18⟩
    refine StepsI.cons [] [11, 12, 13, 14, 15, 16, 17, 18, 19] 20 rfl (by kernel_rfl) (by kernel_rfl) ?s10 ?_
    case s10 =>
      rintro L a' w' K' hi hp hn ⟨u4, u5, u7, u8, u10, u11, u13, u14, u15, u16, u17, u18, rfl, hX, hR, hB, h1, h2, h4, h5, h7, h8, h10, h11, h12, h14, h16, h18⟩ hK
      have n13 := hn 13 (by simp)
      have n15 := hn 15 (by simp)
      have n17 := hn 17 (by simp)
      have n19 := hn 19 (by simp)
      have hB0 := hB
      simp only [n13, n15, n17, n19, cond_true, cond_false] at hB0
      have kb := hB0.1
      refine Stp.mk ?_
      rw [if_pos (by rfl)]
      go_simp
      exact hK.out _ _ ⟨u4, u5, u7, u8, u10, u11, (.slice ss sigs.length sc), u14, u15, u16, u17, u18, by kernel_rfl, hX, hR, hB, h1, h2, h4, h5, h7, h8, (Aft.new rfl), h11, h12, h14, h16, h18⟩
    refine StepsI.cons [1, 2, 4, 5, 7, 8, 10] [13, 14, 15, 16, 17, 18, 19] 20 rfl (by kernel_rfl) (by kernel_rfl) ?s11 ?_
    case s11 =>
      rintro L a' w' K' hi hp hn ⟨u4, u5, u7, u8, u10, u11, u13, u14, u15, u16, u17, u18, rfl, hX, hR, hB, h1, h2, h4, h5, h7, h8, h10, h11, h12, h14, h16, h18⟩ hK
      have n13 := hn 13 (by simp)
      have n15 := hn 15 (by simp)
      have n17 := hn 17 (by simp)
      have n19 := hn 19 (by simp)
      have hB0 := hB
      simp only [n13, n15, n17, n19, cond_true, cond_false] at hB0
      have e10 := h10.get (hp 10 (by simp))
      refine Stp.mk ?_
      rw [if_pos (by rfl)]
      go_simp
      go_at_call 47
      refine (clone_i64 ss sc sigs _ (rows_on2 HI.out.2.2.2.1 hX) (by omega)).mono ?_
      rintro e w1 ⟨ms, cap, rfl, ho, hb⟩
      exact hK.out _ _ ⟨u4, u5, u7, u8, u10, u11, (.slice ss sigs.length sc), (.slice ms sigs.length cap), u15, u16, u17, u18, by kernel_rfl, (ext_trans hX hb), (at_ext hR (by simp) hb), (by simp only [show upd L 11 13 = false from n13, show upd L 11 15 = false from n15, show upd L 11 17 = false from n17, show upd L 11 19 = false from n19, cond_false]; exact at_ext hB0 (by simp) hb), h1, (h2.map (own_keep hb)), h4, (h5.map (own_keep hb)), h7, (h8.map (own_keep hb)), (Aft.new rfl), (Aft.new ⟨ms, cap, rfl, own_low ho (by have := at_lt hR (by simp); have := hb; omega)⟩), h12, h14, h16, h18⟩
    refine StepsI.cons [1, 2, 4, 7, 10] [13, 14, 15, 16, 17, 18, 19] 20 rfl (by kernel_rfl) (by kernel_rfl) ?s12 ?_
    case s12 =>
      rintro L a' w' K' hi hp hn ⟨u4, u5, u7, u8, u10, u11, u13, u14, u15, u16, u17, u18, rfl, hX, hR, hB, h1, h2, h4, h5, h7, h8, h10, h11, h12, h14, h16, h18⟩ hK
      refine Stp.mk ?_
      rw [if_pos (by rfl)]
      go_simp
      exact hK.out _ _ ⟨u4, u5, u7, u8, u10, u11, u13, u14, (.pointer (some ⟨w.heap.size, 2, none⟩)), u16, u17, u18, by kernel_rfl, hX, hR, hB, h1, h2, h4, h5, h7, h8, h10, h11, (Aft.new rfl), h14, h16, h18⟩
    refine StepsI.cons [1, 2, 4, 5, 7, 8, 10, 11, 12] [14, 15, 16, 17, 18, 19] 20 rfl (by kernel_rfl) (by kernel_rfl) ?s13 ?_
    case s13 =>
      rintro L a' w' K' hi hp hn ⟨u4, u5, u7, u8, u10, u11, u13, u14, u15, u16, u17, u18, rfl, hX, hR, hB, h1, h2, h4, h5, h7, h8, h10, h11, h12, h14, h16, h18⟩ hK
      have n13 := hi
      have n15 := hn 15 (by simp)
      have n17 := hn 17 (by simp)
      have n19 := hn 19 (by simp)
      have hB0 := hB
      simp only [n13, n15, n17, n19, cond_true, cond_false] at hB0
      have e12 := h12.get (hp 12 (by simp))
      have q2 := h2.get (hp 2 (by simp))
      obtain ⟨ms, cap, e2, ho⟩ := q2
      have lb := at_lt hB0 (by simp)
      have kb := hB0.1
      have fb := hB0.2
      refine Stp.mk ?_
      rw [if_pos (by rfl)]
      go_simp
      exact hK.out _ _ ⟨u4, (.slice ms cmds.length cap), u7, u8, u10, u11, u13, u14, (.pointer (some ⟨w.heap.size, 2, none⟩)), u16, u17, u18, by kernel_rfl, (ext_set hX (Nat.le_refl _) _), (at_other hR (by omega)), (at_put hB0 (by simp) (by simp [n15, n17, n19, upd])), h1, (Aft.new ⟨ms, cap, rfl, own_box ho⟩), h4, (h5.map own_keepb), h7, (h8.map own_keepb), h10, (h11.map own_keepb), (Aft.new rfl), h14, h16, h18⟩
    refine StepsI.cons [1, 2, 4, 5, 7, 8, 10, 11, 12, 13] [15, 16, 17, 18, 19] 20 rfl (by kernel_rfl) (by kernel_rfl) ?s14 ?_
    case s14 =>
      rintro L a' w' K' hi hp hn ⟨u4, u5, u7, u8, u10, u11, u13, u14, u15, u16, u17, u18, rfl, hX, hR, hB, h1, h2, h4, h5, h7, h8, h10, h11, h12, h14, h16, h18⟩ hK
      refine Stp.mk ?_
      rw [if_pos (by rfl)]
      go_simp
      exact hK.out _ _ ⟨u4, u5, u7, u8, u10, u11, u13, u14, u15, (.pointer (some ⟨w.heap.size, 3, none⟩)), u17, u18, by kernel_rfl, hX, hR, hB, h1, h2, h4, h5, h7, h8, h10, h11, h12, (Aft.new rfl), h16, h18⟩
    refine StepsI.cons [1, 2, 4, 5, 7, 8, 10, 11, 12, 13, 14] [16, 17, 18, 19] 20 rfl (by kernel_rfl) (by kernel_rfl) ?s15 ?_
    case s15 =>
      rintro L a' w' K' hi hp hn ⟨u4, u5, u7, u8, u10, u11, u13, u14, u15, u16, u17, u18, rfl, hX, hR, hB, h1, h2, h4, h5, h7, h8, h10, h11, h12, h14, h16, h18⟩ hK
      have p13 := hp 13 (by simp)
      have n15 := hi
      have n17 := hn 17 (by simp)
      have n19 := hn 19 (by simp)
      have hB0 := hB
      simp only [n15, n17, n19, p13, cond_true, cond_false] at hB0
      have e14 := h14.get (hp 14 (by simp))
      have q5 := h5.get (hp 5 (by simp))
      obtain ⟨ms, cap, e5, ho⟩ := q5
      have lb := at_lt hB0 (by simp)
      have kb := hB0.1
      have fb := hB0.2
      refine Stp.mk ?_
      rw [if_pos (by rfl)]
      go_simp
      exact hK.out _ _ ⟨u4, u5, u7, (.slice ms tries.length cap), u10, u11, u13, u14, u15, (.pointer (some ⟨w.heap.size, 3, none⟩)), u17, u18, by kernel_rfl, (ext_set hX (Nat.le_refl _) _), (at_other hR (by omega)), (at_put hB0 (by simp) (by simp [n17, n19, p13, upd])), h1, (h2.map own_keepb), h4, (Aft.new ⟨ms, cap, rfl, own_box ho⟩), h7, (h8.map own_keepb), h10, (h11.map own_keepb), h12, (Aft.new rfl), h16, h18⟩
    refine StepsI.cons [1, 2, 4, 5, 7, 8, 10, 11, 12, 13, 14, 15] [17, 18, 19] 20 rfl (by kernel_rfl) (by kernel_rfl) ?s16 ?_
    case s16 =>
      rintro L a' w' K' hi hp hn ⟨u4, u5, u7, u8, u10, u11, u13, u14, u15, u16, u17, u18, rfl, hX, hR, hB, h1, h2, h4, h5, h7, h8, h10, h11, h12, h14, h16, h18⟩ hK
      refine Stp.mk ?_
      rw [if_pos (by rfl)]
      go_simp
      exact hK.out _ _ ⟨u4, u5, u7, u8, u10, u11, u13, u14, u15, u16, (.pointer (some ⟨w.heap.size, 4, none⟩)), u18, by kernel_rfl, hX, hR, hB, h1, h2, h4, h5, h7, h8, h10, h11, h12, h14, (Aft.new rfl), h18⟩
    refine StepsI.cons [1, 2, 4, 5, 7, 8, 10, 11, 12, 13, 14, 15, 16] [18, 19] 20 rfl (by kernel_rfl) (by kernel_rfl) ?s17 ?_
    case s17 =>
      rintro L a' w' K' hi hp hn ⟨u4, u5, u7, u8, u10, u11, u13, u14, u15, u16, u17, u18, rfl, hX, hR, hB, h1, h2, h4, h5, h7, h8, h10, h11, h12, h14, h16, h18⟩ hK
      have p13 := hp 13 (by simp)
      have p15 := hp 15 (by simp)
      have n17 := hi
      have n19 := hn 19 (by simp)
      have hB0 := hB
      simp only [n17, n19, p13, p15, cond_true, cond_false] at hB0
      have e16 := h16.get (hp 16 (by simp))
      have q8 := h8.get (hp 8 (by simp))
      obtain ⟨ms, cap, e8, ho⟩ := q8
      have lb := at_lt hB0 (by simp)
      have kb := hB0.1
      have fb := hB0.2
      refine Stp.mk ?_
      rw [if_pos (by rfl)]
      go_simp
      exact hK.out _ _ ⟨u4, u5, u7, u8, u10, (.slice ms known.length cap), u13, u14, u15, u16, (.pointer (some ⟨w.heap.size, 4, none⟩)), u18, by kernel_rfl, (ext_set hX (Nat.le_refl _) _), (at_other hR (by omega)), (at_put hB0 (by simp) (by simp [n19, p13, p15, upd])), h1, (h2.map own_keepb), h4, (h5.map own_keepb), h7, (Aft.new ⟨ms, cap, rfl, own_box ho⟩), h10, (h11.map own_keepb), h12, h14, (Aft.new rfl), h18⟩
    refine StepsI.cons [1, 2, 4, 5, 7, 8, 10, 11, 12, 13, 14, 15, 16, 17] [19] 20 rfl (by kernel_rfl) (by kernel_rfl) ?s18 ?_
    case s18 =>
      rintro L a' w' K' hi hp hn ⟨u4, u5, u7, u8, u10, u11, u13, u14, u15, u16, u17, u18, rfl, hX, hR, hB, h1, h2, h4, h5, h7, h8, h10, h11, h12, h14, h16, h18⟩ hK
      refine Stp.mk ?_
      rw [if_pos (by rfl)]
      go_simp
      exact hK.out _ _ ⟨u4, u5, u7, u8, u10, u11, u13, u14, u15, u16, u17, (.pointer (some ⟨w.heap.size, 5, none⟩)), by kernel_rfl, hX, hR, hB, h1, h2, h4, h5, h7, h8, h10, h11, h12, h14, h16, (Aft.new rfl)⟩
    refine StepsI.cons [1, 2, 4, 5, 7, 8, 10, 11, 12, 13, 14, 15, 16, 17, 18] [] 20 rfl (by kernel_rfl) (by kernel_rfl) ?s19 ?_
    case s19 =>
      rintro L a' w' K' hi hp hn ⟨u4, u5, u7, u8, u10, u11, u13, u14, u15, u16, u17, u18, rfl, hX, hR, hB, h1, h2, h4, h5, h7, h8, h10, h11, h12, h14, h16, h18⟩ hK
      have p13 := hp 13 (by simp)
      have p15 := hp 15 (by simp)
      have p17 := hp 17 (by simp)
      have n19 := hi
      have hB0 := hB
      simp only [n19, p13, p15, p17, cond_true, cond_false] at hB0
      have e18 := h18.get (hp 18 (by simp))
      have q11 := h11.get (hp 11 (by simp))
      obtain ⟨ms, cap, e11, ho⟩ := q11
      have lb := at_lt hB0 (by simp)
      have kb := hB0.1
      have fb := hB0.2
      refine Stp.mk ?_
      rw [if_pos (by rfl)]
      go_simp
      exact hK.out _ _ ⟨u4, u5, u7, u8, u10, u11, u13, (.slice ms sigs.length cap), u15, u16, u17, (.pointer (some ⟨w.heap.size, 5, none⟩)), by kernel_rfl, (ext_set hX (Nat.le_refl _) _), (at_other hR (by omega)), (at_put hB0 (by simp) (by simp [p13, p15, p17, upd])), h1, (h2.map own_keepb), h4, (h5.map own_keepb), h7, (h8.map own_keepb), h10, (Aft.new ⟨ms, cap, rfl, own_box ho⟩), h12, h14, h16, (Aft.new rfl)⟩
    exact StepsI.nil
  case en =>
    rintro L a' w' hL ⟨u4, u5, u7, u8, u10, u11, u13, u14, u15, u16, u17, u18, rfl, hX, hR, hB, h1, h2, h4, h5, h7, h8, h10, h11, h12, h14, h16, h18⟩
    have l13 := hL 13 (by decide)
    have l15 := hL 15 (by decide)
    have l17 := hL 17 (by decide)
    have l19 := hL 19 (by decide)
    simp only [l13, l15, l17, l19, cond_true] at hB
    obtain ⟨m1, c1, rfl, o1⟩ := h2.get (hL 2 (by decide))
    obtain ⟨m2, c2, rfl, o2⟩ := h5.get (hL 5 (by decide))
    obtain ⟨m3, c3, rfl, o3⟩ := h8.get (hL 8 (by decide))
    obtain ⟨m4, c4, rfl, o4⟩ := h11.get (hL 11 (by decide))
    have O1 := Lib.hid o1; have O2 := Lib.hid o2; have O3 := Lib.hid o3; have O4 := Lib.hid o4
    have HX := Lib.hid hX
    clear o1 o2 o3 o4 h1 h4 h7 h10 h2 h5 h8 h11 h12 h14 h16 h18 l13 l15 l17 l19 hL hHeld HI hX
    have lb := at_lt hB (by simp)
    have kb := hB.1
    have lr := at_lt hR (by simp)
    have kr := hR.1
    have fr := hR.2
    simp only [frm_cons, frm_nil]
    go_wp2
    refine post_at ?_
    intro w9 hW
    have hcs : w9 = w'.setCells (w.heap.size + 1) 0 (#[.string prog, .int .i64 arg, .slice m1 cmds.length c1, .slice m2 tries.length c2, .slice m3 known.length c3, .slice m4 sigs.length c4, .bool st, .bool cl, .int .i64 ost, .int .i64 ov, .int .i64 len, .int .i64 last] : Array Value).toList := hW
    have hat9 := at_setCells (cells := #[.string prog, .int .i64 arg, .slice m1 cmds.length c1, .slice m2 tries.length c2, .slice m3 known.length c3, .slice m4 sigs.length c4, .bool st, .bool cl, .int .i64 ost, .int .i64 ov, .int .i64 len, .int .i64 last]) hR rfl
    rw [← hcs] at hat9
    have C9 := chg_setCells (w.heap.size + 1) (#[.string prog, .int .i64 arg, .slice m1 cmds.length c1, .slice m2 tries.length c2, .slice m3 known.length c3, .slice m4 sigs.length c4, .bool st, .bool cl, .int .i64 ost, .int .i64 ov, .int .i64 len, .int .i64 last] : Array Value).toList 0 w'
    rw [← hcs] at C9
    clear hcs
    clear hW kb kr fr
    have k9 := hat9.1
    have X9 := ext_chg HX.out C9 (fun i h => by omega)
    refine bodyPost_ret (by simp [results, Try.results21, go_sem, k9]) rfl ⟨⟨m1, c1, m2, c2, m3, c3, m4, c4⟩, rfl, ⟨?_, ?_, ?_, ?_⟩, X9⟩
    · exact own_chgS (own_low O1.out (by omega)) C9 (fun k e h => by have := (O1.out.lt k e).1; omega)
    · exact own_chgS (own_low O2.out (by omega)) C9 (fun k e h => by have := (O2.out.lt k e).1; omega)
    · exact own_chgS (own_low O3.out (by omega)) C9 (fun k e h => by have := (O3.out.lt k e).1; omega)
    · exact own_chgS (own_low O4.out (by omega)) C9 (fun k e h => by have := (O4.out.lt k e).1; omega)

end Go.Proofs.Ythpgmefjgidkgaa

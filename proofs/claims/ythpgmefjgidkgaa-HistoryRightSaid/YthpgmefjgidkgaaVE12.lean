/- HistoryRight. -/
import Derived.Test.YthpgmefjgidkgaaVE12b
namespace Go.Proofs.Ythpgmefjgidkgaa
open Go.RowKit
set_option linter.unusedVariables false
set_option linter.unusedSimpArgs false
set_option maxRecDepth 100000 in
set_option maxHeartbeats 8000000 in
theorem right_walk (s : Option Addr) (cap : Nat) (l : List Ev) (w : World) (hrows : Rows_ w s l.length 7 (fun i => evC (l.getD i default))) (hcap : l.length ≤ cap) (hmax : cap ≤ maxLen) (hu : ∀ i, i < l.length → 0 ≤ (l.getD i default).k ∧ (l.getD i default).k ≤ 255) :
    Calls Try.prog 3 #[.slice s l.length cap] w fun e w' => e = .returned (.bool true) ∧ Ext w w' := by
  have HROWS := Lib.hid hrows; have HU := Lib.hid hu
  clear hrows hu
  have hm : cap ≤ 9223372036854775807 := by unfold maxLen at hmax; exact hmax
  have hi12 : (Try.prog.info? 32).map (·.size) = some 12 := by kernel_rfl
  go_enter Try.func3, Try.ntmps3
  go_wp2_with fail
  refine (few_calls _ _ l _ hcap (by unfold maxLen at hmax; omega) HROWS.out).mono ?_
  rintro e w1 ⟨⟨g, rfl⟩, hb⟩
  have X1 := Lib.hid hb
  clear hb
  cases g
  · go_wp2_with (go_at_call 9; refine (awake12_calls _).mono ?_; rintro e w9 ⟨rfl, hb9⟩)
    go_ret
    exact ⟨rfl, ext_trans X1.out hb9⟩
  go_upto_region 5 with fail
  refine wp_at ?_
  intro W2 hW
  have x2 : Ext w1 W2 := by rw [hW]; repeat (first | exact ext_refl _ | assumption | refine ext_more' ?_ _ _ | refine ext_drew ?_ | refine ext_drewN ?_ _ | refine ext_alloc ?_ _)
  have hb2 := at_new (by rw [hW]; repeat (first | exact ext_refl _ | assumption | refine ext_more' ?_ _ _ | refine ext_drew ?_ | refine ext_drewN ?_ _ | refine ext_alloc ?_ _) : Ext (World.alloc w1 (.cells _ _)) W2)
  clear hW
  have HB2 := Lib.hid hb2
  have X2 := Lib.hid (ext_trans X1.out x2)
  clear hb2 x2
  go_wp2
  go_loopg [5, 4] l.length (fun g ki kt wr => ∃ (i t : Nat) (h : Hs) (m : Hm), ki = .int .i64 i ∧ kt = .int .i64 t ∧ g + i = l.length ∧ t ≤ i ∧ i ≤ 80 ∧ FhP h t ∧ Ext w wr ∧ At wr w1.heap.size (hC h m) ∧ OwnsH wr (w1.heap.size + 1) h m)
  case atStart => exact ⟨0, 0, _, ⟨none, 0, none, 0, none, 0, none, 0⟩, rfl, rfl, by omega, Nat.le_refl _, by omega, fhP0, X2.out, HB2.out, World.ownsRow_nil _ _ _ _, World.ownsRow_nil _ _ _ _, World.ownsRow_nil _ _ _ _, World.ownsRow_nil _ _ _ _⟩
  case round =>
    obtain ⟨i, t, h, m, rfl, rfl, hgi, hti, hi80, hf, hxr, hbr, how⟩ := hrel
    have HF := Lib.hid hf; have HXR := Lib.hid hxr; have HBR := Lib.hid hbr; have HOW := Lib.hid how
    clear hf hxr hbr how HB2 X2
    by_cases hi : i < l.length
    rotate_left
    · have hi3 : ¬ ((i : Int) < l.length) := by omega
      go_wp2_with (go_at_call 9; refine (awake12_calls _).mono ?_; rintro e w9 ⟨rfl, hb9⟩)
      go_ret
      exact ⟨rfl, ext_trans HXR.out hb9⟩
    have hi3 : (i : Int) < l.length := by omega
    by_cases h80 : i < 80
    rotate_left
    · have hi4 : ¬ ((i : Int) < 80) := by omega
      go_wp2_with (go_at_call 9; refine (awake12_calls _).mono ?_; rintro e w9 ⟨rfl, hb9⟩)
      go_ret
      exact ⟨rfl, ext_trans HXR.out hb9⟩
    have hi4 : (i : Int) < 80 := by omega
    obtain ⟨b, o, rfl, lr, c0, c1, c2, c3, c4, c5, c6⟩ := ev_cells HROWS.out HXR.out hi
    have hu := HU.out i hi
    obtain ⟨⟨k, at', n, p, a, b_, s_⟩, hee⟩ : ∃ e, e = l.getD i default := ⟨_, rfl⟩
    rw [← hee] at c0 c1 c2 c3 c4 c5 c6 hu
    simp only at c0 c1 c2 c3 c4 c5 c6 hu
    clear hee
    obtain ⟨⟨h2, c2'⟩, hn⟩ : ∃ x : Hs × Int, nextH h ⟨k, at', n, p, a, b_, s_⟩ = x := ⟨_, rfl⟩
    have HN := Lib.hid hn; clear hn
    obtain ⟨q2, hq2⟩ : ∃ q, q = c2' := ⟨_, rfl⟩
    rw [← hq2] at HN
    clear hq2
    go_upto_region 8 with fail
    refine wp_at ?_
    intro W8 hW
    have x8 : Ext wr W8 := by rw [hW]; repeat (first | exact ext_refl _ | assumption | refine ext_more' ?_ _ _ | refine ext_drew ?_ | refine ext_drewN ?_ _ | refine ext_alloc ?_ _)
    clear hW
    have hb8 := at_ext HBR.out (by simp [hC]) x8
    have e0 := (x8.cell (p := ⟨b, o + i * 7, none⟩) lr).trans c0
    have e1 := (x8.cell (p := ⟨b, o + i * 7 + 1, none⟩) lr).trans c1
    have e2 := (x8.cell (p := ⟨b, o + i * 7 + 2, none⟩) lr).trans c2
    have e3 := (x8.cell (p := ⟨b, o + i * 7 + 3, none⟩) lr).trans c3
    have e4 := (x8.cell (p := ⟨b, o + i * 7 + 4, none⟩) lr).trans c4
    have e5 := (x8.cell (p := ⟨b, o + i * 7 + 5, none⟩) lr).trans c5
    have e6 := (x8.cell (p := ⟨b, o + i * 7 + 6, none⟩) lr).trans c6
    have lr8 : b < W8.heap.size := Nat.lt_of_lt_of_le lr x8.size
    have ix0 : (0 : Int) ≤ (i : Int) := by omega
    clear c0 c1 c2 c3 c4 c5 c6 lr
    refine wp_region_held_drew (S := fun w' => Ext W8 w') (by kernel_rfl) (ext_drew (ext_refl _)) (fun hHeld => ?_)
    refine wpAnyH_take' (i := 0) (v := ?v0) (some 28) rfl rfl (by kernel_rfl) (by kernel_rfl) (by kernel_rfl) (fun _ _ _ h => h) (Or.inl ⟨by rfl, ?y0⟩) hHeld ?_
    case y0 =>
      intro w' hSw
      have kh := (at_ext hb8 (by simp [hC]) hSw).1
      unfold hC at kh
      go_simp
      try with_reducible rfl
    refine wpAnyH_take' (i := 1) (v := ?v1) (some 29) rfl rfl (by kernel_rfl) (by kernel_rfl) (by kernel_rfl) (fun _ _ _ h => h) (Or.inl ⟨by rfl, ?y1⟩) hHeld ?_
    case y1 =>
      intro w' hSw
      have kh := (at_ext hb8 (by simp [hC]) hSw).1
      unfold hC at kh
      go_simp
      try with_reducible rfl
    refine wpAnyH_take' (i := 2) (v := ?v2) (some 30) rfl rfl (by kernel_rfl) (by kernel_rfl) (by kernel_rfl) (fun _ _ _ h => h) (Or.inl ⟨by rfl, ?y2⟩) hHeld ?_
    case y2 =>
      intro w' hSw
      have kh := (at_ext hb8 (by simp [hC]) hSw).1
      unfold hC at kh
      go_simp
      try with_reducible rfl
    refine wpAnyH_take' (i := 3) (v := ?v3) (some 31) rfl rfl (by kernel_rfl) (by kernel_rfl) (by kernel_rfl) (fun _ _ _ h => h) (Or.inl ⟨by rfl, ?y3⟩) hHeld ?_
    case y3 =>
      intro w' hSw
      have kh := (at_ext hb8 (by simp [hC]) hSw).1
      unfold hC at kh
      have d0 := (hSw.cell (p := ⟨b, o + i * 7, none⟩) lr8).trans e0
      have d1 := (hSw.cell (p := ⟨b, o + i * 7 + 1, none⟩) lr8).trans e1
      have d2 := (hSw.cell (p := ⟨b, o + i * 7 + 2, none⟩) lr8).trans e2
      have d3 := (hSw.cell (p := ⟨b, o + i * 7 + 3, none⟩) lr8).trans e3
      have d4 := (hSw.cell (p := ⟨b, o + i * 7 + 4, none⟩) lr8).trans e4
      have d5 := (hSw.cell (p := ⟨b, o + i * 7 + 5, none⟩) lr8).trans e5
      have d6 := (hSw.cell (p := ⟨b, o + i * 7 + 6, none⟩) lr8).trans e6
      go_simp
      try with_reducible rfl
    refine wpAnyH_take' (i := 4) (v := ?v4) (some 32) rfl rfl (by kernel_rfl) (by kernel_rfl) (by kernel_rfl) (fun _ _ _ h => h) (Or.inl ⟨by rfl, ?y4⟩) hHeld ?_
    case y4 =>
      intro w' hSw
      have kh := (at_ext hb8 (by simp [hC]) hSw).1
      unfold hC at kh
      have d0 := (hSw.cell (p := ⟨b, o + i * 7, none⟩) lr8).trans e0
      have d1 := (hSw.cell (p := ⟨b, o + i * 7 + 1, none⟩) lr8).trans e1
      have d2 := (hSw.cell (p := ⟨b, o + i * 7 + 2, none⟩) lr8).trans e2
      have d3 := (hSw.cell (p := ⟨b, o + i * 7 + 3, none⟩) lr8).trans e3
      have d4 := (hSw.cell (p := ⟨b, o + i * 7 + 4, none⟩) lr8).trans e4
      have d5 := (hSw.cell (p := ⟨b, o + i * 7 + 5, none⟩) lr8).trans e5
      have d6 := (hSw.cell (p := ⟨b, o + i * 7 + 6, none⟩) lr8).trans e6
      go_simp
      try with_reducible rfl
    refine wpAnyH_at 12 (fun a0 W0 L' a' w' => ∃ u6 u7 u27 u33 u34 u35 : Value, a' = frm [(6, u6), (7, u7), (27, u27), (33, u33), (34, u34), (35, u35)] a0 ∧ Ext W8 w' ∧ Aft (L' 5) (∃ m2, u33 = .tuple #[.agg (hC h2 m2), .int .i64 q2] ∧ OwnsH w' W8.heap.size h2 m2) ∧ Aft (L' 6) (∃ m2, u27 = .tuple #[.agg (hC h2 m2), .int .i64 q2] ∧ OwnsH w' W8.heap.size h2 m2) ∧ Aft (L' 7) (∃ m2, u34 = .agg (hC h2 m2) ∧ OwnsH w' W8.heap.size h2 m2) ∧ Aft (L' 8) (u35 = .int .i64 q2) ∧ Aft (L' 9) (∃ bb, W8.heap.size ≤ bb ∧ u6 = .pointer (some ⟨bb, 0, none⟩) ∧ Bef (L' 10) (At w' bb #[.string ⟨#[]⟩, .int .i64 0, .slice none 0 0, .slice none 0 0, .slice none 0 0, .slice none 0 0, .bool false, .bool false, .int .i64 0, .int .i64 0, .int .i64 0, .int .i64 0] ∧ Typ w' bb 32)) ∧ Aft (L' 10) (∃ bb m2, u6 = .pointer (some ⟨bb, 0, none⟩) ∧ At w' bb (hC h2 m2) ∧ OwnsH w' W8.heap.size h2 m2 ∧ W8.heap.size ≤ bb) ∧ Aft (L' 11) (u7 = .int .i64 q2)) [5, 6, 7, 8, 9, 10, 11] [0, 1, 2, 3, 4, 5, 6, 7, 8, 9, 10, 11] (by kernel_rfl) (by kernel_rfl) (by kernel_rfl) (fun _ _ _ h => by obtain ⟨_, _, _, _, _, _, _, hX, _⟩ := h; exact hX) ?i0 ?st ?en
    case i0 => exact ⟨_, _, _, _, _, _, (frm_rd [6, 7, 27, 33, 34, 35] _).symm, hHeld, (Aft.no (by kernel_rfl)), (Aft.no (by kernel_rfl)), (Aft.no (by kernel_rfl)), (Aft.no (by kernel_rfl)), (Aft.no (by kernel_rfl)), (Aft.no (by kernel_rfl)), (Aft.no (by kernel_rfl))⟩
    case st =>
      refine StepsI.cons [] [6, 7, 8, 10, 11] 12 rfl (by kernel_rfl) (by kernel_rfl) ?s5 ?_
      case s5 =>
        rintro L' a' w' K' hi hp hn ⟨u6, u7, u27, u33, u34, u35, rfl, hX, h5, h6, h7, h8, h9, h10, h11⟩ hK
        refine Stp.mk ?_
        rw [if_pos (by rfl)]
        go_simp
        go_at_call 10
        refine (nextF_calls h m ⟨k, at', n, p, a, b_, s_⟩ _ t HF.out (by omega) (HOW.out.hsin.ext (ext_trans x8 hX)) hu.1 hu.2).mono ?_
        unfold NextPost
        rw [HN.out]
        rintro e w1 ⟨m2, rfl, hp0, hb⟩
        have hp : OwnsH w1 W8.heap.size h2 m2 := ⟨own_low hp0.1 hX.size, own_low hp0.2.1 hX.size, own_low hp0.2.2.1 hX.size, own_low hp0.2.2.2 hX.size⟩
        exact hK.out _ _ ⟨u6, u7, u27, (.tuple #[.agg (hC h2 m2), .int .i64 q2]), u34, u35, by kernel_rfl, (ext_trans hX hb), (Aft.new ⟨m2, rfl, hp⟩), (Aft.no (hn 6 (by simp))), (Aft.no (hn 7 (by simp))), h8, (h9.map fun ⟨bb, hl, e, h⟩ => ⟨bb, hl, e, h.map fun h => ⟨at_ext h.1 (by simp) hb, h.2.ext hb⟩⟩), (Aft.no (hn 10 (by simp))), h11⟩
      refine StepsI.cons [5] [7, 8, 10, 11] 12 rfl (by kernel_rfl) (by kernel_rfl) ?s6 ?_
      case s6 =>
        rintro L' a' w' K' hi hp hn ⟨u6, u7, u27, u33, u34, u35, rfl, hX, h5, h6, h7, h8, h9, h10, h11⟩ hK
        have q := h5.get (hp 5 (by simp))
        obtain ⟨m2, e1, hpp⟩ := q
        refine Stp.mk ?_
        rw [if_pos (by rfl)]
        go_simp
        exact hK.out _ _ ⟨u6, u7, (.tuple #[.agg (hC h2 m2), .int .i64 q2]), (.tuple #[.agg (hC h2 m2), .int .i64 q2]), u34, u35, by kernel_rfl, hX, (Aft.new ⟨m2, rfl, hpp⟩), (Aft.new ⟨m2, rfl, hpp⟩), h7, h8, h9, h10, h11⟩
      refine StepsI.cons [5, 6] [10, 11] 12 rfl (by kernel_rfl) (by kernel_rfl) ?s7 ?_
      case s7 =>
        rintro L' a' w' K' hi hp hn ⟨u6, u7, u27, u33, u34, u35, rfl, hX, h5, h6, h7, h8, h9, h10, h11⟩ hK
        have q := h6.get (hp 6 (by simp))
        obtain ⟨m2, e1, hpp⟩ := q
        refine Stp.mk ?_
        rw [if_pos (by rfl)]
        go_simp
        exact hK.out _ _ ⟨u6, u7, (.tuple #[.agg (hC h2 m2), .int .i64 q2]), u33, (.agg (hC h2 m2)), u35, by kernel_rfl, hX, h5, (Aft.new ⟨m2, rfl, hpp⟩), (Aft.new ⟨m2, rfl, hpp⟩), h8, h9, h10, h11⟩
      refine StepsI.cons [5, 6] [11] 12 rfl (by kernel_rfl) (by kernel_rfl) ?s8 ?_
      case s8 =>
        rintro L' a' w' K' hi hp hn ⟨u6, u7, u27, u33, u34, u35, rfl, hX, h5, h6, h7, h8, h9, h10, h11⟩ hK
        have q := h6.get (hp 6 (by simp))
        obtain ⟨m2, e1, hpp⟩ := q
        refine Stp.mk ?_
        rw [if_pos (by rfl)]
        go_simp
        exact hK.out _ _ ⟨u6, u7, (.tuple #[.agg (hC h2 m2), .int .i64 q2]), u33, u34, (.int .i64 q2), by kernel_rfl, hX, h5, (Aft.new ⟨m2, rfl, hpp⟩), h7, (Aft.new rfl), h9, h10, h11⟩
      refine StepsI.cons [] [10, 11] 12 rfl (by kernel_rfl) (by kernel_rfl) ?s9 ?_
      case s9 =>
        rintro L' a' w' K' hi hp hn ⟨u6, u7, u27, u33, u34, u35, rfl, hX, h5, h6, h7, h8, h9, h10, h11⟩ hK
        refine Stp.mk ?_
        rw [if_pos (by rfl)]
        go_simp
        exact hK.out _ _ ⟨(.pointer (some ⟨w'.heap.size, 0, none⟩)), u7, u27, u33, u34, u35, by kernel_rfl, (ext_alloc hX _), (h5.map fun ⟨m2, e, hp⟩ => ⟨m2, e, hp.ext (ext_alloc (ext_refl _) _)⟩), (h6.map fun ⟨m2, e, hp⟩ => ⟨m2, e, hp.ext (ext_alloc (ext_refl _) _)⟩), (h7.map fun ⟨m2, e, hp⟩ => ⟨m2, e, hp.ext (ext_alloc (ext_refl _) _)⟩), h8, (Aft.new ⟨_, hX.size, rfl, Bef.new ⟨at_new (ext_refl _), typ_new (ext_refl _)⟩⟩), (Aft.no (hn 10 (by simp))), h11⟩
      refine StepsI.cons [5, 6, 7, 9] [11] 12 rfl (by kernel_rfl) (by kernel_rfl) ?s10 ?_
      case s10 =>
        rintro L' a' w' K' hi hp hn ⟨u6, u7, u27, u33, u34, u35, rfl, hX, h5, h6, h7, h8, h9, h10, h11⟩ hK
        have q := h9.get (hp 9 (by simp))
        obtain ⟨bb, hlb, e1, hat0⟩ := q
        have hat := hat0.get hi
        have hty := hat.2
        replace hat := hat.1
        have q2 := h7.get (hp 7 (by simp))
        obtain ⟨m2, e2, hpp⟩ := q2
        refine Stp.mk ?_
        rw [if_pos (by rfl)]
        with_reducible refine wp_storeS 32 (.tmp 6) (.tmp 34) ?ax2x1 bb ?ax2x2 (hC h2 m2) ?ax2x3 ?ax2x4 ?ax2x5 ?ax2x6 ?ax2x7 ?ax2x8 ?ax2x9
        case ax2x1 => rfl
        case ax2x5 => exact hat
        case ax2x3 => exact Eq.trans (by kernel_rfl) e1
        case ax2x4 => exact Eq.trans (by kernel_rfl) e2
        case ax2x6 => exact (by rw [hC_size]; rfl)
        case ax2x7 => exact (by rw [hC_size]; exact hi12)
        case ax2x8 => exact (hC_one _ _)
        intro w1 hat1 hc1
        exact hK.out _ _ ⟨u6, u7, u27, u33, u34, u35, by kernel_rfl, (ext_chg hX hc1 (fun i h => by omega)), (h5.map fun ⟨m2, e, hp⟩ => ⟨m2, e, hp.chgT hc1 hty⟩), (h6.map fun ⟨m2, e, hp⟩ => ⟨m2, e, hp.chgT hc1 hty⟩), (h7.map fun ⟨m2, e, hp⟩ => ⟨m2, e, hp.chgT hc1 hty⟩), h8, (Aft.new ⟨bb, hlb, e1, Bef.no rfl⟩), (Aft.new ⟨bb, m2, e1, hat1, hpp.chgT hc1 hty, hlb⟩), h11⟩
      refine StepsI.cons [5, 6, 7, 8, 9, 10] [] 12 rfl (by kernel_rfl) (by kernel_rfl) ?s11 ?_
      case s11 =>
        rintro L' a' w' K' hi hp hn ⟨u6, u7, u27, u33, u34, u35, rfl, hX, h5, h6, h7, h8, h9, h10, h11⟩ hK
        have q := h8.get (hp 8 (by simp))
        refine Stp.mk ?_
        rw [if_pos (by rfl)]
        go_simp
        exact hK.out _ _ ⟨u6, (.int .i64 q2), u27, u33, u34, (.int .i64 q2), by kernel_rfl, hX, h5, h6, h7, (Aft.new rfl), h9, h10, (Aft.new rfl)⟩
      exact StepsI.nil
    rintro L' a' V hL ⟨u6, u7, u27, u33, u34, u35, rfl, hX, h5, h6, h7, h8, h9, h10, h11⟩
    have q := h10.get (hL 10 (by decide))
    obtain ⟨bb, m2, e1, hB, hP, hlb⟩ := q
    have e2 := h11.get (hL 11 (by decide))
    subst e1
    subst e2
    clear h5 h6 h7 h8 h9 h10 h11 hL hHeld
    have HV := Lib.hid hP
    have XV := Lib.hid (ext_trans HXR.out (ext_trans x8 hX))
    have HBH := Lib.hid (at_ext hb8 (by simp [hC]) hX)
    have HOWV := Lib.hid (HOW.out.ext (ext_trans x8 hX))
    have HB2 := Lib.hid hB
    have hz8 : w1.heap.size < W8.heap.size := at_lt hb8 (by simp [hC])
    have E0 := Lib.hid (show ∀ j, j < 7 → V.cell? ⟨b, o + i * 7 + j, none⟩ = (evC ⟨k, at', n, p, a, b_, s_⟩)[j]? from fun j hj => by
      rw [hX.cell (p := ⟨b, o + i * 7 + j, none⟩) lr8]
      have hj7 : j = 0 ∨ j = 1 ∨ j = 2 ∨ j = 3 ∨ j = 4 ∨ j = 5 ∨ j = 6 := by omega
      rcases hj7 with rfl | rfl | rfl | rfl | rfl | rfl | rfl
      · exact e0
      · exact e1
      · exact e2
      · exact e3
      · exact e4
      · exact e5
      · exact e6
      )
    have lrV : b < V.heap.size := Nat.lt_of_lt_of_le lr8 hX.size
    clear hP x8 hX hb8 hB e0 e1 e2 e3 e4 e5 e6 HBR HOW HXR
    simp only [frm_cons, frm_nil]
    cases he : evR ⟨k, at', n, p, a, b_, s_⟩
    · skip
      have hn := HN.out
      rw [nextH_event he] at hn
      injection hn with hn1 hn2
      subst hn1
      subst hn2
      have F2 := Lib.hid HF.out
      have HSM0 := Lib.hid (sm_of HF.out (by omega))
      have HE := Lib.hid he
      clear HN he
      have kh := HBH.out.1
      have kn := HB2.out.1
      have lh := at_lt HBH.out (by simp [hC])
      have ln := at_lt HB2.out (by simp [hC])
      have hHI := HOWV.out.hsin
      have hVI := HV.out.hsin
      unfold hC at kh kn
      have d0 : V.cell? ⟨b, o + i * 7, none⟩ = some (.int .u8 k) := E0.out 0 (by decide)
      have d1 : V.cell? ⟨b, o + i * 7 + 1, none⟩ = some (.int .i64 at') := E0.out 1 (by decide)
      have d2 : V.cell? ⟨b, o + i * 7 + 2, none⟩ = some (.int .i64 n) := E0.out 2 (by decide)
      have d3 : V.cell? ⟨b, o + i * 7 + 3, none⟩ = some (.int .i64 p) := E0.out 3 (by decide)
      have d4 : V.cell? ⟨b, o + i * 7 + 4, none⟩ = some (.int .i64 a) := E0.out 4 (by decide)
      have d5 : V.cell? ⟨b, o + i * 7 + 5, none⟩ = some (.int .i64 b_) := E0.out 5 (by decide)
      have d6 : V.cell? ⟨b, o + i * 7 + 6, none⟩ = some (.string s_) := E0.out 6 (by decide)
      go_upto_region 15 with (first | (go_at_call 11; refine (right_calls _ _ _ _ _ _ _ _ hu.1 hu.2).mono ?_; rw [HE.out]; rintro e w9 ⟨rfl, hb9⟩; obtain ⟨r, d, rfl⟩ := ext_form hb9; clear hb9) | (go_at_call 12; refine (same12_calls h m2 m _ HSM0.out (hVI.ext (by repeat (first | exact ext_refl _ | assumption | refine ext_more' ?_ _ _ | refine ext_drew ?_ | refine ext_drewN ?_ _ | refine ext_alloc ?_ _))) (hHI.ext (by repeat (first | exact ext_refl _ | assumption | refine ext_more' ?_ _ _ | refine ext_drew ?_ | refine ext_drewN ?_ _ | refine ext_alloc ?_ _)))).mono ?_; rintro e v13 ⟨rfl, hb13⟩; obtain ⟨r, d, rfl⟩ := ext_form hb13; clear hb13))
      clear kh kn lh ln d0 d1 d2 d3 d4 d5 d6 hHI hVI
      obtain ⟨cs, cc, ts, tc, ks, kc, ss, sc⟩ := m2
      refine wp_at ?_
      intro W15 hW
      have x15 : Ext V W15 := by rw [hW]; repeat (first | exact ext_refl _ | assumption | refine ext_more' ?_ _ _ | refine ext_drew ?_ | refine ext_drewN ?_ _ | refine ext_alloc ?_ _)
      clear hW
      have hb15 := at_ext HBH.out (by simp [hC]) x15
      have hn15 := at_ext HB2.out (by simp [hC]) x15
      have HV15 := Lib.hid (HV.out.ext x15)
      have X15 := Lib.hid (ext_trans XV.out x15)
      have z15 := x15.size
      unfold hC at hb15 hn15
      have kn := hn15.1
      have ln := at_lt hn15 (by simp)
      have kh := hb15.1
      have fh := hb15.2
      have lh := at_lt hb15 (by simp)
      clear x15
      go_upto_region 16 with fail
      refine wp_at ?_
      intro W16 hW
      have hcs : W16 = W15.setCells w1.heap.size 0 (hC h ⟨cs, cc, ts, tc, ks, kc, ss, sc⟩).toList := hW
      have hb16 := at_setCells (cells := hC h ⟨cs, cc, ts, tc, ks, kc, ss, sc⟩) (show At W15 w1.heap.size (hC h m) from hb15) rfl
      rw [← hcs] at hb16
      have C16 := chg_setCells w1.heap.size (hC h ⟨cs, cc, ts, tc, ks, kc, ss, sc⟩).toList 0 W15
      rw [← hcs] at C16
      clear hcs hW kn ln kh fh lh hb15 hn15
      have ho16 : OwnsH W16 (w1.heap.size + 1) h ⟨cs, cc, ts, tc, ks, kc, ss, sc⟩ := (HV15.out.low (by omega)).chgS C16 (fun k hk e => by omega)
      have HO16 := Lib.hid ho16
      have X16 := Lib.hid (ext_chg X15.out C16 (fun i hi => by have := X1.out.size; omega))
      have HB16 := Lib.hid hb16
      clear ho16 C16 HV15 X15
      unfold hC at hb16
      have kh := hb16.1
      have lh := at_lt hb16 (by simp)
      have gl : (h.len != (t : Int)) = false := by rw [F2.out.len]; simp
      have HSM := Lib.hid (sm_of F2.out (by omega))
      go_upto_region 18 with (go_at_call 13; refine (rightF_calls h _ _ HSM.out F2.out.kd (HO16.out.hsin.ext (by repeat (first | exact ext_refl _ | assumption | refine ext_more' ?_ _ _ | refine ext_drew ?_ | refine ext_drewN ?_ _ | refine ext_alloc ?_ _)))).mono ?_; rw [F2.out.right]; rintro e v16 ⟨rfl, hbv⟩; obtain ⟨r, d, rfl⟩ := ext_form hbv; clear hbv)
      clear gl
      refine wp_at ?_
      intro W18 hW
      have x18 : Ext W16 W18 := by rw [hW]; repeat (first | exact ext_refl _ | assumption | refine ext_more' ?_ _ _ | refine ext_drew ?_ | refine ext_drewN ?_ _ | refine ext_alloc ?_ _)
      clear hW kh lh hb16
      have hb18 := at_ext HB16.out (by simp [hC]) x18
      have HB18 := Lib.hid hb18
      have HI18 := Lib.hid (HO16.out.hsin.ext x18)
      have HO18 := Lib.hid (HO16.out.ext x18)
      have X18 := Lib.hid (ext_trans X16.out x18)
      clear x18 HB16 HO16 X16
      have pm : ∀ w : World, (Instr.makeMap 42 none).run Try.prog w = .ok (.map (some w.heap.size)) (w.alloc (.map #[] 0)) := fun _ => rfl
      go_upto_region 19 with fail
      refine wp_at ?_
      intro W19 hW
      have x19 : Ext W18 W19 := by rw [hW]; repeat (first | exact ext_refl _ | assumption | refine ext_more' ?_ _ _ | refine ext_drew ?_ | refine ext_drewN ?_ _ | refine ext_alloc ?_ _)
      have hm0 := mp_new (k := .i64) (by rw [hW]; repeat (first | exact ext_refl _ | assumption | refine ext_more' ?_ _ _ | refine ext_drew ?_ | refine ext_drewN ?_ _ | refine ext_alloc ?_ _) : Ext (W18.alloc (.map _ _)) W19)
      clear hW
      have HM0 := Lib.hid hm0
      have HX19 := Lib.hid x19
      have hb19 := at_ext HB18.out (by simp [hC]) x19
      have z19 := hm0.lt
      clear hm0 x19
      unfold hC at hb19
      have kh := hb19.1
      have lh := at_lt hb19 (by simp)
      have hkn : h.known.length ≤ 1000 := by have := F2.out.kl; omega
      go_wp2
      go_loopg [103] h.known.length (fun g kk wr => ∃ (j : Nat) (M : List (Int × Value)), kk = .int .i64 j ∧ g + j = h.known.length ∧ Ext W18 wr ∧ Mp wr W18.heap.size .i64 M ∧ SeenM h.known j M ∧ M.length = j)
      case atStart => exact ⟨0, [], rfl, by omega, HX19.out, HM0.out, seen0 _, rfl⟩
      case round =>
        obtain ⟨j, M, rfl, hgj, hxq, hmq, hse, hml⟩ := hrel
        have HXQ := Lib.hid hxq; have HMQ := Lib.hid hmq; have HSE := Lib.hid hse; have HML := Lib.hid hml
        clear kh lh hb19 HM0 HX19 hmq hse hml
        have hbq := at_ext HB18.out (by simp [hC]) hxq
        have HBQ := Lib.hid hbq
        unfold hC at hbq
        have kh := hbq.1
        have lh := at_lt hbq (by simp)
        have zq := hxq.size
        by_cases hj : j < h.known.length
        · have hj3 : (j : Int) < h.known.length := by omega
          obtain ⟨bk, ok, rfl, lk, c0, c1, c2⟩ := kno_cells HI18.out.2.2.1 hxq hj
          have hka := knO_at (kn_right F2.out.right) hj
          have hns := seen_not (kn_right F2.out.right) hj
          have hss := seen_succ hj HSE.out
          have hmg := fun v => mput_grow (v := v) (HSE.out (h.known.getD j default).n) hns
          obtain ⟨⟨kn, kst, kv⟩, hki⟩ : ∃ ki, ki = h.known.getD j default := ⟨_, rfl⟩
          rw [← hki] at c0 c1 c2 hka hns hss hmg
          simp only at c0 c1 c2 hka hns hss hmg
          have HKA := Lib.hid hka; have HNS := Lib.hid hns; have HSS := Lib.hid hss; have HMG := Lib.hid hmg
          clear hki hka hns hss hmg hbq hxq
          go_upto_region 22 with fail
          refine wp_at ?_
          intro W22 hW
          have x22 : Ext wr W22 := by rw [hW]; repeat (first | exact ext_refl _ | assumption | refine ext_more' ?_ _ _ | refine ext_drew ?_ | refine ext_drewN ?_ _ | refine ext_alloc ?_ _)
          have b22 := at_new (by rw [hW]; repeat (first | exact ext_refl _ | assumption | refine ext_more' ?_ _ _ | refine ext_drew ?_ | refine ext_drewN ?_ _ | refine ext_alloc ?_ _) : Ext (World.alloc wr (.cells _ _)) W22)
          clear hW kh lh c0 c1 c2 lk
          have HX22 := Lib.hid (ext_trans HXQ.out x22)
          have HB22 := Lib.hid b22
          have hbq := at_ext HBQ.out (by simp [hC]) x22
          unfold hC at hbq
          have kh := hbq.1
          have lh := at_lt hbq (by simp)
          have k22 := b22.1
          have l22 := at_lt b22 (by simp)
          have HM22 := Lib.hid (HMQ.out.ext x22)
          have HBQ2 := Lib.hid (at_ext HBQ.out (by simp [hC]) x22)
          clear b22 x22 hbq HXQ HBQ HMQ
          go_upto_region 23 with (go_at_call 14; refine (over_calls h _ kn _ (HI18.out.ext (ext_trans HX22.out (by repeat (first | exact ext_refl _ | assumption | refine ext_more' ?_ _ _ | refine ext_drew ?_ | refine ext_drewN ?_ _ | refine ext_alloc ?_ _)))) HSM.out).mono ?_; rw [HKA.out]; rintro e v23 ⟨rfl, hbv⟩; simp only [ovV, Option.isSome_none, Option.getD_none, Option.isSome_some, Option.getD_some])
          refine wp_at ?_
          intro W23 hW
          have x23 : Ext W22 W23 := by rw [hW]; repeat (first | exact ext_refl _ | assumption | refine ext_more' ?_ _ _ | refine ext_drew ?_ | refine ext_drewN ?_ _ | refine ext_alloc ?_ _)
          have b23 := at_new (by rw [hW]; repeat (first | exact ext_refl _ | assumption | refine ext_more' ?_ _ _ | refine ext_drew ?_ | refine ext_drewN ?_ _ | refine ext_alloc ?_ _) : Ext (World.alloc v23 (.cells _ _)) W23)
          clear hW kh lh k22 l22
          have HX23 := Lib.hid (ext_trans HX22.out x23)
          have b22 := at_ext HB22.out (by simp) x23
          have k22 := b22.1
          have l22 := at_lt b22 (by simp)
          have k23 := b23.1
          have l23 := at_lt b23 (by simp)
          have HM23 := Lib.hid (HM22.out.ext x23)
          have hlk := (run_mlook (P := Try.prog) Try.underlying42 Try.underlying3 HM23.out kn (int0z W23)).1
          rw [HSE.out kn, HNS.out] at hlk
          simp only [Bool.false_eq_true, if_false, Option.getD_none] at hlk
          clear x23 b22 b23 HX22 HB22 HM22
          go_wp2_with (refine list_mupd rfl (.tmp 129) (.tmp 131) (.const (.int .i64 1)) 42 rfl 3 3 .i64 Try.underlying42 Try.underlying3 W18.heap.size M rfl (HM23.out.ext (by repeat (first | exact ext_refl _ | assumption | refine ext_more' ?_ _ _ | refine ext_drew ?_ | refine ext_drewN ?_ _ | refine ext_alloc ?_ _))) kn _ rfl rfl ?_; intro w7 hm7 hc7; have HM7 := Lib.hid hm7; have X7 := Lib.hid (ext_chg (ext_trans HX23.out (by repeat (first | exact ext_refl _ | assumption | refine ext_more' ?_ _ _ | refine ext_drew ?_ | refine ext_drewN ?_ _ | refine ext_alloc ?_ _))) hc7 (fun i h => by omega)); clear hm7 hc7)
          go_roundg (gk - 1)
          case measure => omega
          case rel => exact ⟨j + 1, _, by go_num, by omega, X7.out, HM7.out, HSS.out, by rw [HMG.out, HML.out]⟩
        · have hj3 : ¬ ((j : Int) < h.known.length) := by omega
          have hje : j = h.known.length := by omega
          have hon := open_known (kn_right F2.out.right)
          have hml2 := HML.out
          have gq : (((openL h).length : Int) + (M.length : Int) != (h.cmds.length : Int)) = false := by rw [bne_eq_false_iff_eq]; omega
          have hol : (openL h).length ≤ 1000 := by have := F2.out.cl; omega
          have hMl : M.length ≤ 1000 := by omega
          have hcl2 : h.cmds.length ≤ 1000 := by have := F2.out.cl; omega
          have HBQ3 := box_all lh kh
          have hfl := fun w' (hx : Ext wr w') => run_mlen (P := Try.prog) (ty := 3) Try.underlying42 (HMQ.out.ext hx)
          have HGO := Lib.hid (fun w' (hx : Ext wr w') => openF_calls h ⟨cs, cc, ts, tc, ks, kc, ss, sc⟩ w' HSM.out (HI18.out.ext (ext_trans hxq hx)))
          have HXZ := Lib.hid hxq
          clear hje hon hml2 kh hbq hxq HSE HML HMQ
          obtain ⟨lo, hlo⟩ : ∃ lo, lo = (openL h).length := ⟨_, rfl⟩
          rw [← hlo] at gq hol HGO
          clear hlo
          have hwr : IntKind.i64.wrap ((lo : Int) + (M.length : Int)) = (lo : Int) + (M.length : Int) := IntWalk.i64_in _ (by omega)
          go_upto_region 27 with fail
          go_region_held3 (fun w' => Ext wr w') (repeat (first | exact ext_refl _ | assumption | refine ext_more' ?_ _ _ | refine ext_drew ?_ | refine ext_drewN ?_ _ | refine ext_alloc ?_ _)) ((go_at_call 15; (with_reducible refine (HGO.out _ ?lgo).mono ?_); (case lgo => repeat (first | exact ext_refl _ | assumption | refine ext_more' ?_ _ _ | refine ext_drew ?_ | refine ext_drewN ?_ _ | refine ext_alloc ?_ _)); rintro e v27 ⟨⟨ms27, cap27, rfl⟩, hb27⟩; obtain ⟨r, d, rfl⟩ := ext_form hb27; clear hb27))
          all_goals
            refine then_at ?_
            intro W28 hW
            have x28 : Ext wr W28 := by rw [hW]; repeat (first | exact ext_refl _ | assumption | refine ext_more' ?_ _ _ | refine ext_drew ?_ | refine ext_drewN ?_ _ | refine ext_alloc ?_ _)
            have hxr := ext_trans X18.out (ext_trans HXZ.out x28)
            have hbr := at_ext HBQ.out (by simp [hC]) x28
            have hor := HO18.out.ext (ext_trans HXZ.out x28)
            have HXR2 := Lib.hid hxr; have HBR2 := Lib.hid hbr; have HOR2 := Lib.hid hor
            clear hW HBQ3 hfl HGO x28 hxr hbr hor
            go_wp2
            go_roundg (l.length - (i + 1))
            case measure => omega
            case rel => exact ⟨i + 1, t, h, _, by go_num, by go_num, by omega, by omega, by omega, F2.out, HXR2.out, HBR2.out, HOR2.out⟩
    · cases hmm : mayB h ⟨k, at', n, p, a, b_, s_⟩
      · skip
        have hn := HN.out
        rw [nextH_order he hmm] at hn
        injection hn with hn1 hn2
        subst hn1
        subst hn2
        have F2 := Lib.hid HF.out
        have HSM0 := Lib.hid (sm_of HF.out (by omega))
        have HE := Lib.hid he
        clear HN he hmm
        have kh := HBH.out.1
        have kn := HB2.out.1
        have lh := at_lt HBH.out (by simp [hC])
        have ln := at_lt HB2.out (by simp [hC])
        have hHI := HOWV.out.hsin
        have hVI := HV.out.hsin
        unfold hC at kh kn
        have d0 : V.cell? ⟨b, o + i * 7, none⟩ = some (.int .u8 k) := E0.out 0 (by decide)
        have d1 : V.cell? ⟨b, o + i * 7 + 1, none⟩ = some (.int .i64 at') := E0.out 1 (by decide)
        have d2 : V.cell? ⟨b, o + i * 7 + 2, none⟩ = some (.int .i64 n) := E0.out 2 (by decide)
        have d3 : V.cell? ⟨b, o + i * 7 + 3, none⟩ = some (.int .i64 p) := E0.out 3 (by decide)
        have d4 : V.cell? ⟨b, o + i * 7 + 4, none⟩ = some (.int .i64 a) := E0.out 4 (by decide)
        have d5 : V.cell? ⟨b, o + i * 7 + 5, none⟩ = some (.int .i64 b_) := E0.out 5 (by decide)
        have d6 : V.cell? ⟨b, o + i * 7 + 6, none⟩ = some (.string s_) := E0.out 6 (by decide)
        go_upto_region 15 with (first | (go_at_call 11; refine (right_calls _ _ _ _ _ _ _ _ hu.1 hu.2).mono ?_; rw [HE.out]; rintro e w9 ⟨rfl, hb9⟩; obtain ⟨r, d, rfl⟩ := ext_form hb9; clear hb9) | (go_at_call 12; refine (same12_calls h m2 m _ HSM0.out (hVI.ext (by repeat (first | exact ext_refl _ | assumption | refine ext_more' ?_ _ _ | refine ext_drew ?_ | refine ext_drewN ?_ _ | refine ext_alloc ?_ _))) (hHI.ext (by repeat (first | exact ext_refl _ | assumption | refine ext_more' ?_ _ _ | refine ext_drew ?_ | refine ext_drewN ?_ _ | refine ext_alloc ?_ _)))).mono ?_; rintro e v13 ⟨rfl, hb13⟩; obtain ⟨r, d, rfl⟩ := ext_form hb13; clear hb13))
        clear kh kn lh ln d0 d1 d2 d3 d4 d5 d6 hHI hVI
        obtain ⟨cs, cc, ts, tc, ks, kc, ss, sc⟩ := m2
        refine wp_at ?_
        intro W15 hW
        have x15 : Ext V W15 := by rw [hW]; repeat (first | exact ext_refl _ | assumption | refine ext_more' ?_ _ _ | refine ext_drew ?_ | refine ext_drewN ?_ _ | refine ext_alloc ?_ _)
        clear hW
        have hb15 := at_ext HBH.out (by simp [hC]) x15
        have hn15 := at_ext HB2.out (by simp [hC]) x15
        have HV15 := Lib.hid (HV.out.ext x15)
        have X15 := Lib.hid (ext_trans XV.out x15)
        have z15 := x15.size
        unfold hC at hb15 hn15
        have kn := hn15.1
        have ln := at_lt hn15 (by simp)
        have kh := hb15.1
        have fh := hb15.2
        have lh := at_lt hb15 (by simp)
        clear x15
        go_upto_region 16 with fail
        refine wp_at ?_
        intro W16 hW
        have hcs : W16 = W15.setCells w1.heap.size 0 (hC h ⟨cs, cc, ts, tc, ks, kc, ss, sc⟩).toList := hW
        have hb16 := at_setCells (cells := hC h ⟨cs, cc, ts, tc, ks, kc, ss, sc⟩) (show At W15 w1.heap.size (hC h m) from hb15) rfl
        rw [← hcs] at hb16
        have C16 := chg_setCells w1.heap.size (hC h ⟨cs, cc, ts, tc, ks, kc, ss, sc⟩).toList 0 W15
        rw [← hcs] at C16
        clear hcs hW kn ln kh fh lh hb15 hn15
        have ho16 : OwnsH W16 (w1.heap.size + 1) h ⟨cs, cc, ts, tc, ks, kc, ss, sc⟩ := (HV15.out.low (by omega)).chgS C16 (fun k hk e => by omega)
        have HO16 := Lib.hid ho16
        have X16 := Lib.hid (ext_chg X15.out C16 (fun i hi => by have := X1.out.size; omega))
        have HB16 := Lib.hid hb16
        clear ho16 C16 HV15 X15
        unfold hC at hb16
        have kh := hb16.1
        have lh := at_lt hb16 (by simp)
        have gl : (h.len != (t : Int)) = false := by rw [F2.out.len]; simp
        have HSM := Lib.hid (sm_of F2.out (by omega))
        go_upto_region 18 with (go_at_call 13; refine (rightF_calls h _ _ HSM.out F2.out.kd (HO16.out.hsin.ext (by repeat (first | exact ext_refl _ | assumption | refine ext_more' ?_ _ _ | refine ext_drew ?_ | refine ext_drewN ?_ _ | refine ext_alloc ?_ _)))).mono ?_; rw [F2.out.right]; rintro e v16 ⟨rfl, hbv⟩; obtain ⟨r, d, rfl⟩ := ext_form hbv; clear hbv)
        clear gl
        refine wp_at ?_
        intro W18 hW
        have x18 : Ext W16 W18 := by rw [hW]; repeat (first | exact ext_refl _ | assumption | refine ext_more' ?_ _ _ | refine ext_drew ?_ | refine ext_drewN ?_ _ | refine ext_alloc ?_ _)
        clear hW kh lh hb16
        have hb18 := at_ext HB16.out (by simp [hC]) x18
        have HB18 := Lib.hid hb18
        have HI18 := Lib.hid (HO16.out.hsin.ext x18)
        have HO18 := Lib.hid (HO16.out.ext x18)
        have X18 := Lib.hid (ext_trans X16.out x18)
        clear x18 HB16 HO16 X16
        have pm : ∀ w : World, (Instr.makeMap 42 none).run Try.prog w = .ok (.map (some w.heap.size)) (w.alloc (.map #[] 0)) := fun _ => rfl
        go_upto_region 19 with fail
        refine wp_at ?_
        intro W19 hW
        have x19 : Ext W18 W19 := by rw [hW]; repeat (first | exact ext_refl _ | assumption | refine ext_more' ?_ _ _ | refine ext_drew ?_ | refine ext_drewN ?_ _ | refine ext_alloc ?_ _)
        have hm0 := mp_new (k := .i64) (by rw [hW]; repeat (first | exact ext_refl _ | assumption | refine ext_more' ?_ _ _ | refine ext_drew ?_ | refine ext_drewN ?_ _ | refine ext_alloc ?_ _) : Ext (W18.alloc (.map _ _)) W19)
        clear hW
        have HM0 := Lib.hid hm0
        have HX19 := Lib.hid x19
        have hb19 := at_ext HB18.out (by simp [hC]) x19
        have z19 := hm0.lt
        clear hm0 x19
        unfold hC at hb19
        have kh := hb19.1
        have lh := at_lt hb19 (by simp)
        have hkn : h.known.length ≤ 1000 := by have := F2.out.kl; omega
        go_wp2
        go_loopg [103] h.known.length (fun g kk wr => ∃ (j : Nat) (M : List (Int × Value)), kk = .int .i64 j ∧ g + j = h.known.length ∧ Ext W18 wr ∧ Mp wr W18.heap.size .i64 M ∧ SeenM h.known j M ∧ M.length = j)
        case atStart => exact ⟨0, [], rfl, by omega, HX19.out, HM0.out, seen0 _, rfl⟩
        case round =>
          obtain ⟨j, M, rfl, hgj, hxq, hmq, hse, hml⟩ := hrel
          have HXQ := Lib.hid hxq; have HMQ := Lib.hid hmq; have HSE := Lib.hid hse; have HML := Lib.hid hml
          clear kh lh hb19 HM0 HX19 hmq hse hml
          have hbq := at_ext HB18.out (by simp [hC]) hxq
          have HBQ := Lib.hid hbq
          unfold hC at hbq
          have kh := hbq.1
          have lh := at_lt hbq (by simp)
          have zq := hxq.size
          by_cases hj : j < h.known.length
          · have hj3 : (j : Int) < h.known.length := by omega
            obtain ⟨bk, ok, rfl, lk, c0, c1, c2⟩ := kno_cells HI18.out.2.2.1 hxq hj
            have hka := knO_at (kn_right F2.out.right) hj
            have hns := seen_not (kn_right F2.out.right) hj
            have hss := seen_succ hj HSE.out
            have hmg := fun v => mput_grow (v := v) (HSE.out (h.known.getD j default).n) hns
            obtain ⟨⟨kn, kst, kv⟩, hki⟩ : ∃ ki, ki = h.known.getD j default := ⟨_, rfl⟩
            rw [← hki] at c0 c1 c2 hka hns hss hmg
            simp only at c0 c1 c2 hka hns hss hmg
            have HKA := Lib.hid hka; have HNS := Lib.hid hns; have HSS := Lib.hid hss; have HMG := Lib.hid hmg
            clear hki hka hns hss hmg hbq hxq
            go_upto_region 22 with fail
            refine wp_at ?_
            intro W22 hW
            have x22 : Ext wr W22 := by rw [hW]; repeat (first | exact ext_refl _ | assumption | refine ext_more' ?_ _ _ | refine ext_drew ?_ | refine ext_drewN ?_ _ | refine ext_alloc ?_ _)
            have b22 := at_new (by rw [hW]; repeat (first | exact ext_refl _ | assumption | refine ext_more' ?_ _ _ | refine ext_drew ?_ | refine ext_drewN ?_ _ | refine ext_alloc ?_ _) : Ext (World.alloc wr (.cells _ _)) W22)
            clear hW kh lh c0 c1 c2 lk
            have HX22 := Lib.hid (ext_trans HXQ.out x22)
            have HB22 := Lib.hid b22
            have hbq := at_ext HBQ.out (by simp [hC]) x22
            unfold hC at hbq
            have kh := hbq.1
            have lh := at_lt hbq (by simp)
            have k22 := b22.1
            have l22 := at_lt b22 (by simp)
            have HM22 := Lib.hid (HMQ.out.ext x22)
            have HBQ2 := Lib.hid (at_ext HBQ.out (by simp [hC]) x22)
            clear b22 x22 hbq HXQ HBQ HMQ
            go_upto_region 23 with (go_at_call 14; refine (over_calls h _ kn _ (HI18.out.ext (ext_trans HX22.out (by repeat (first | exact ext_refl _ | assumption | refine ext_more' ?_ _ _ | refine ext_drew ?_ | refine ext_drewN ?_ _ | refine ext_alloc ?_ _)))) HSM.out).mono ?_; rw [HKA.out]; rintro e v23 ⟨rfl, hbv⟩; simp only [ovV, Option.isSome_none, Option.getD_none, Option.isSome_some, Option.getD_some])
            refine wp_at ?_
            intro W23 hW
            have x23 : Ext W22 W23 := by rw [hW]; repeat (first | exact ext_refl _ | assumption | refine ext_more' ?_ _ _ | refine ext_drew ?_ | refine ext_drewN ?_ _ | refine ext_alloc ?_ _)
            have b23 := at_new (by rw [hW]; repeat (first | exact ext_refl _ | assumption | refine ext_more' ?_ _ _ | refine ext_drew ?_ | refine ext_drewN ?_ _ | refine ext_alloc ?_ _) : Ext (World.alloc v23 (.cells _ _)) W23)
            clear hW kh lh k22 l22
            have HX23 := Lib.hid (ext_trans HX22.out x23)
            have b22 := at_ext HB22.out (by simp) x23
            have k22 := b22.1
            have l22 := at_lt b22 (by simp)
            have k23 := b23.1
            have l23 := at_lt b23 (by simp)
            have HM23 := Lib.hid (HM22.out.ext x23)
            have hlk := (run_mlook (P := Try.prog) Try.underlying42 Try.underlying3 HM23.out kn (int0z W23)).1
            rw [HSE.out kn, HNS.out] at hlk
            simp only [Bool.false_eq_true, if_false, Option.getD_none] at hlk
            clear x23 b22 b23 HX22 HB22 HM22
            go_wp2_with (refine list_mupd rfl (.tmp 129) (.tmp 131) (.const (.int .i64 1)) 42 rfl 3 3 .i64 Try.underlying42 Try.underlying3 W18.heap.size M rfl (HM23.out.ext (by repeat (first | exact ext_refl _ | assumption | refine ext_more' ?_ _ _ | refine ext_drew ?_ | refine ext_drewN ?_ _ | refine ext_alloc ?_ _))) kn _ rfl rfl ?_; intro w7 hm7 hc7; have HM7 := Lib.hid hm7; have X7 := Lib.hid (ext_chg (ext_trans HX23.out (by repeat (first | exact ext_refl _ | assumption | refine ext_more' ?_ _ _ | refine ext_drew ?_ | refine ext_drewN ?_ _ | refine ext_alloc ?_ _))) hc7 (fun i h => by omega)); clear hm7 hc7)
            go_roundg (gk - 1)
            case measure => omega
            case rel => exact ⟨j + 1, _, by go_num, by omega, X7.out, HM7.out, HSS.out, by rw [HMG.out, HML.out]⟩
          · have hj3 : ¬ ((j : Int) < h.known.length) := by omega
            have hje : j = h.known.length := by omega
            have hon := open_known (kn_right F2.out.right)
            have hml2 := HML.out
            have gq : (((openL h).length : Int) + (M.length : Int) != (h.cmds.length : Int)) = false := by rw [bne_eq_false_iff_eq]; omega
            have hol : (openL h).length ≤ 1000 := by have := F2.out.cl; omega
            have hMl : M.length ≤ 1000 := by omega
            have hcl2 : h.cmds.length ≤ 1000 := by have := F2.out.cl; omega
            have HBQ3 := box_all lh kh
            have hfl := fun w' (hx : Ext wr w') => run_mlen (P := Try.prog) (ty := 3) Try.underlying42 (HMQ.out.ext hx)
            have HGO := Lib.hid (fun w' (hx : Ext wr w') => openF_calls h ⟨cs, cc, ts, tc, ks, kc, ss, sc⟩ w' HSM.out (HI18.out.ext (ext_trans hxq hx)))
            have HXZ := Lib.hid hxq
            clear hje hon hml2 kh hbq hxq HSE HML HMQ
            obtain ⟨lo, hlo⟩ : ∃ lo, lo = (openL h).length := ⟨_, rfl⟩
            rw [← hlo] at gq hol HGO
            clear hlo
            have hwr : IntKind.i64.wrap ((lo : Int) + (M.length : Int)) = (lo : Int) + (M.length : Int) := IntWalk.i64_in _ (by omega)
            go_upto_region 27 with fail
            go_region_held3 (fun w' => Ext wr w') (repeat (first | exact ext_refl _ | assumption | refine ext_more' ?_ _ _ | refine ext_drew ?_ | refine ext_drewN ?_ _ | refine ext_alloc ?_ _)) ((go_at_call 15; (with_reducible refine (HGO.out _ ?lgo).mono ?_); (case lgo => repeat (first | exact ext_refl _ | assumption | refine ext_more' ?_ _ _ | refine ext_drew ?_ | refine ext_drewN ?_ _ | refine ext_alloc ?_ _)); rintro e v27 ⟨⟨ms27, cap27, rfl⟩, hb27⟩; obtain ⟨r, d, rfl⟩ := ext_form hb27; clear hb27))
            all_goals
              refine then_at ?_
              intro W28 hW
              have x28 : Ext wr W28 := by rw [hW]; repeat (first | exact ext_refl _ | assumption | refine ext_more' ?_ _ _ | refine ext_drew ?_ | refine ext_drewN ?_ _ | refine ext_alloc ?_ _)
              have hxr := ext_trans X18.out (ext_trans HXZ.out x28)
              have hbr := at_ext HBQ.out (by simp [hC]) x28
              have hor := HO18.out.ext (ext_trans HXZ.out x28)
              have HXR2 := Lib.hid hxr; have HBR2 := Lib.hid hbr; have HOR2 := Lib.hid hor
              clear hW HBQ3 hfl HGO x28 hxr hbr hor
              go_wp2
              go_roundg (l.length - (i + 1))
              case measure => omega
              case rel => exact ⟨i + 1, t, h, _, by go_num, by go_num, by omega, by omega, by omega, F2.out, HXR2.out, HBR2.out, HOR2.out⟩
      · have hn := HN.out
        rw [nextH_ok he hmm] at hn
        injection hn with hn1 hn2
        subst hn2
        have F2 := Lib.hid (hn1 ▸ fhP_put HF.out he hmm)
        have mp := may_parts hmm
        have hcl := mp.2.1
        have hla : h.last ≤ h2.last := by rw [← hn1, put_last]; exact mp.1
        have hle : (h2.len != h.len + 1) = false := by rw [← hn1, put_len]; simp
        have hlb1 : 0 ≤ h.len ∧ h.len ≤ 1000 := by have := HF.out.len; omega
        have HE := Lib.hid he
        clear hn1 mp he hmm HN
        have kh := HBH.out.1
        have kn := HB2.out.1
        have lh := at_lt HBH.out (by simp [hC])
        have ln := at_lt HB2.out (by simp [hC])
        unfold hC at kh kn
        have d0 : V.cell? ⟨b, o + i * 7, none⟩ = some (.int .u8 k) := E0.out 0 (by decide)
        have d1 : V.cell? ⟨b, o + i * 7 + 1, none⟩ = some (.int .i64 at') := E0.out 1 (by decide)
        have d2 : V.cell? ⟨b, o + i * 7 + 2, none⟩ = some (.int .i64 n) := E0.out 2 (by decide)
        have d3 : V.cell? ⟨b, o + i * 7 + 3, none⟩ = some (.int .i64 p) := E0.out 3 (by decide)
        have d4 : V.cell? ⟨b, o + i * 7 + 4, none⟩ = some (.int .i64 a) := E0.out 4 (by decide)
        have d5 : V.cell? ⟨b, o + i * 7 + 5, none⟩ = some (.int .i64 b_) := E0.out 5 (by decide)
        have d6 : V.cell? ⟨b, o + i * 7 + 6, none⟩ = some (.string s_) := E0.out 6 (by decide)
        go_upto_region 15 with (go_at_call 11; refine (right_calls _ _ _ _ _ _ _ _ hu.1 hu.2).mono ?_; rw [HE.out]; rintro e w9 ⟨rfl, hb9⟩)
        clear kh kn lh ln d0 d1 d2 d3 d4 d5 d6 hcl hle
        obtain ⟨cs, cc, ts, tc, ks, kc, ss, sc⟩ := m2
        refine wp_at ?_
        intro W15 hW
        have x15 : Ext V W15 := by rw [hW]; repeat (first | exact ext_refl _ | assumption | refine ext_more' ?_ _ _ | refine ext_drew ?_ | refine ext_drewN ?_ _ | refine ext_alloc ?_ _)
        clear hW
        have hb15 := at_ext HBH.out (by simp [hC]) x15
        have hn15 := at_ext HB2.out (by simp [hC]) x15
        have HV15 := Lib.hid (HV.out.ext x15)
        have X15 := Lib.hid (ext_trans XV.out x15)
        have z15 := x15.size
        unfold hC at hb15 hn15
        have kn := hn15.1
        have ln := at_lt hn15 (by simp)
        have kh := hb15.1
        have fh := hb15.2
        have lh := at_lt hb15 (by simp)
        clear x15
        go_upto_region 16 with fail
        refine wp_at ?_
        intro W16 hW
        have hcs : W16 = W15.setCells w1.heap.size 0 (hC h2 ⟨cs, cc, ts, tc, ks, kc, ss, sc⟩).toList := hW
        have hb16 := at_setCells (cells := hC h2 ⟨cs, cc, ts, tc, ks, kc, ss, sc⟩) (show At W15 w1.heap.size (hC h m) from hb15) rfl
        rw [← hcs] at hb16
        have C16 := chg_setCells w1.heap.size (hC h2 ⟨cs, cc, ts, tc, ks, kc, ss, sc⟩).toList 0 W15
        rw [← hcs] at C16
        clear hcs hW kn ln kh fh lh hb15 hn15
        have ho16 : OwnsH W16 (w1.heap.size + 1) h2 ⟨cs, cc, ts, tc, ks, kc, ss, sc⟩ := (HV15.out.low (by omega)).chgS C16 (fun k hk e => by omega)
        have HO16 := Lib.hid ho16
        have X16 := Lib.hid (ext_chg X15.out C16 (fun i hi => by have := X1.out.size; omega))
        have HB16 := Lib.hid hb16
        clear ho16 C16 HV15 X15
        unfold hC at hb16
        have kh := hb16.1
        have lh := at_lt hb16 (by simp)
        have gl : (h2.len != (t : Int) + 1) = false := by rw [F2.out.len]; simp
        have HSM := Lib.hid (sm_of F2.out (by omega))
        go_upto_region 18 with (go_at_call 13; refine (rightF_calls h2 _ _ HSM.out F2.out.kd (HO16.out.hsin.ext (by repeat (first | exact ext_refl _ | assumption | refine ext_more' ?_ _ _ | refine ext_drew ?_ | refine ext_drewN ?_ _ | refine ext_alloc ?_ _)))).mono ?_; rw [F2.out.right]; rintro e v16 ⟨rfl, hbv⟩; obtain ⟨r, d, rfl⟩ := ext_form hbv; clear hbv)
        clear gl
        refine wp_at ?_
        intro W18 hW
        have x18 : Ext W16 W18 := by rw [hW]; repeat (first | exact ext_refl _ | assumption | refine ext_more' ?_ _ _ | refine ext_drew ?_ | refine ext_drewN ?_ _ | refine ext_alloc ?_ _)
        clear hW kh lh hb16
        have hb18 := at_ext HB16.out (by simp [hC]) x18
        have HB18 := Lib.hid hb18
        have HI18 := Lib.hid (HO16.out.hsin.ext x18)
        have HO18 := Lib.hid (HO16.out.ext x18)
        have X18 := Lib.hid (ext_trans X16.out x18)
        clear x18 HB16 HO16 X16
        have pm : ∀ w : World, (Instr.makeMap 42 none).run Try.prog w = .ok (.map (some w.heap.size)) (w.alloc (.map #[] 0)) := fun _ => rfl
        go_upto_region 19 with fail
        refine wp_at ?_
        intro W19 hW
        have x19 : Ext W18 W19 := by rw [hW]; repeat (first | exact ext_refl _ | assumption | refine ext_more' ?_ _ _ | refine ext_drew ?_ | refine ext_drewN ?_ _ | refine ext_alloc ?_ _)
        have hm0 := mp_new (k := .i64) (by rw [hW]; repeat (first | exact ext_refl _ | assumption | refine ext_more' ?_ _ _ | refine ext_drew ?_ | refine ext_drewN ?_ _ | refine ext_alloc ?_ _) : Ext (W18.alloc (.map _ _)) W19)
        clear hW
        have HM0 := Lib.hid hm0
        have HX19 := Lib.hid x19
        have hb19 := at_ext HB18.out (by simp [hC]) x19
        have z19 := hm0.lt
        clear hm0 x19
        unfold hC at hb19
        have kh := hb19.1
        have lh := at_lt hb19 (by simp)
        have hkn : h2.known.length ≤ 1000 := by have := F2.out.kl; omega
        go_wp2
        go_loopg [103] h2.known.length (fun g kk wr => ∃ (j : Nat) (M : List (Int × Value)), kk = .int .i64 j ∧ g + j = h2.known.length ∧ Ext W18 wr ∧ Mp wr W18.heap.size .i64 M ∧ SeenM h2.known j M ∧ M.length = j)
        case atStart => exact ⟨0, [], rfl, by omega, HX19.out, HM0.out, seen0 _, rfl⟩
        case round =>
          obtain ⟨j, M, rfl, hgj, hxq, hmq, hse, hml⟩ := hrel
          have HXQ := Lib.hid hxq; have HMQ := Lib.hid hmq; have HSE := Lib.hid hse; have HML := Lib.hid hml
          clear kh lh hb19 HM0 HX19 hmq hse hml
          have hbq := at_ext HB18.out (by simp [hC]) hxq
          have HBQ := Lib.hid hbq
          unfold hC at hbq
          have kh := hbq.1
          have lh := at_lt hbq (by simp)
          have zq := hxq.size
          by_cases hj : j < h2.known.length
          · have hj3 : (j : Int) < h2.known.length := by omega
            obtain ⟨bk, ok, rfl, lk, c0, c1, c2⟩ := kno_cells HI18.out.2.2.1 hxq hj
            have hka := knO_at (kn_right F2.out.right) hj
            have hns := seen_not (kn_right F2.out.right) hj
            have hss := seen_succ hj HSE.out
            have hmg := fun v => mput_grow (v := v) (HSE.out (h2.known.getD j default).n) hns
            obtain ⟨⟨kn, kst, kv⟩, hki⟩ : ∃ ki, ki = h2.known.getD j default := ⟨_, rfl⟩
            rw [← hki] at c0 c1 c2 hka hns hss hmg
            simp only at c0 c1 c2 hka hns hss hmg
            have HKA := Lib.hid hka; have HNS := Lib.hid hns; have HSS := Lib.hid hss; have HMG := Lib.hid hmg
            clear hki hka hns hss hmg hbq hxq
            go_upto_region 22 with fail
            refine wp_at ?_
            intro W22 hW
            have x22 : Ext wr W22 := by rw [hW]; repeat (first | exact ext_refl _ | assumption | refine ext_more' ?_ _ _ | refine ext_drew ?_ | refine ext_drewN ?_ _ | refine ext_alloc ?_ _)
            have b22 := at_new (by rw [hW]; repeat (first | exact ext_refl _ | assumption | refine ext_more' ?_ _ _ | refine ext_drew ?_ | refine ext_drewN ?_ _ | refine ext_alloc ?_ _) : Ext (World.alloc wr (.cells _ _)) W22)
            clear hW kh lh c0 c1 c2 lk
            have HX22 := Lib.hid (ext_trans HXQ.out x22)
            have HB22 := Lib.hid b22
            have hbq := at_ext HBQ.out (by simp [hC]) x22
            unfold hC at hbq
            have kh := hbq.1
            have lh := at_lt hbq (by simp)
            have k22 := b22.1
            have l22 := at_lt b22 (by simp)
            have HM22 := Lib.hid (HMQ.out.ext x22)
            have HBQ2 := Lib.hid (at_ext HBQ.out (by simp [hC]) x22)
            clear b22 x22 hbq HXQ HBQ HMQ
            go_upto_region 23 with (go_at_call 14; refine (over_calls h2 _ kn _ (HI18.out.ext (ext_trans HX22.out (by repeat (first | exact ext_refl _ | assumption | refine ext_more' ?_ _ _ | refine ext_drew ?_ | refine ext_drewN ?_ _ | refine ext_alloc ?_ _)))) HSM.out).mono ?_; rw [HKA.out]; rintro e v23 ⟨rfl, hbv⟩; simp only [ovV, Option.isSome_none, Option.getD_none, Option.isSome_some, Option.getD_some])
            refine wp_at ?_
            intro W23 hW
            have x23 : Ext W22 W23 := by rw [hW]; repeat (first | exact ext_refl _ | assumption | refine ext_more' ?_ _ _ | refine ext_drew ?_ | refine ext_drewN ?_ _ | refine ext_alloc ?_ _)
            have b23 := at_new (by rw [hW]; repeat (first | exact ext_refl _ | assumption | refine ext_more' ?_ _ _ | refine ext_drew ?_ | refine ext_drewN ?_ _ | refine ext_alloc ?_ _) : Ext (World.alloc v23 (.cells _ _)) W23)
            clear hW kh lh k22 l22
            have HX23 := Lib.hid (ext_trans HX22.out x23)
            have b22 := at_ext HB22.out (by simp) x23
            have k22 := b22.1
            have l22 := at_lt b22 (by simp)
            have k23 := b23.1
            have l23 := at_lt b23 (by simp)
            have HM23 := Lib.hid (HM22.out.ext x23)
            have hlk := (run_mlook (P := Try.prog) Try.underlying42 Try.underlying3 HM23.out kn (int0z W23)).1
            rw [HSE.out kn, HNS.out] at hlk
            simp only [Bool.false_eq_true, if_false, Option.getD_none] at hlk
            clear x23 b22 b23 HX22 HB22 HM22
            go_wp2_with (refine list_mupd rfl (.tmp 129) (.tmp 131) (.const (.int .i64 1)) 42 rfl 3 3 .i64 Try.underlying42 Try.underlying3 W18.heap.size M rfl (HM23.out.ext (by repeat (first | exact ext_refl _ | assumption | refine ext_more' ?_ _ _ | refine ext_drew ?_ | refine ext_drewN ?_ _ | refine ext_alloc ?_ _))) kn _ rfl rfl ?_; intro w7 hm7 hc7; have HM7 := Lib.hid hm7; have X7 := Lib.hid (ext_chg (ext_trans HX23.out (by repeat (first | exact ext_refl _ | assumption | refine ext_more' ?_ _ _ | refine ext_drew ?_ | refine ext_drewN ?_ _ | refine ext_alloc ?_ _))) hc7 (fun i h => by omega)); clear hm7 hc7)
            go_roundg (gk - 1)
            case measure => omega
            case rel => exact ⟨j + 1, _, by go_num, by omega, X7.out, HM7.out, HSS.out, by rw [HMG.out, HML.out]⟩
          · have hj3 : ¬ ((j : Int) < h2.known.length) := by omega
            have hje : j = h2.known.length := by omega
            have hon := open_known (kn_right F2.out.right)
            have hml2 := HML.out
            have gq : (((openL h2).length : Int) + (M.length : Int) != (h2.cmds.length : Int)) = false := by rw [bne_eq_false_iff_eq]; omega
            have hol : (openL h2).length ≤ 1000 := by have := F2.out.cl; omega
            have hMl : M.length ≤ 1000 := by omega
            have hcl2 : h2.cmds.length ≤ 1000 := by have := F2.out.cl; omega
            have HBQ3 := box_all lh kh
            have hfl := fun w' (hx : Ext wr w') => run_mlen (P := Try.prog) (ty := 3) Try.underlying42 (HMQ.out.ext hx)
            have HGO := Lib.hid (fun w' (hx : Ext wr w') => openF_calls h2 ⟨cs, cc, ts, tc, ks, kc, ss, sc⟩ w' HSM.out (HI18.out.ext (ext_trans hxq hx)))
            have HXZ := Lib.hid hxq
            clear hje hon hml2 kh hbq hxq HSE HML HMQ
            obtain ⟨lo, hlo⟩ : ∃ lo, lo = (openL h2).length := ⟨_, rfl⟩
            rw [← hlo] at gq hol HGO
            clear hlo
            have hwr : IntKind.i64.wrap ((lo : Int) + (M.length : Int)) = (lo : Int) + (M.length : Int) := IntWalk.i64_in _ (by omega)
            go_upto_region 27 with fail
            go_region_held3 (fun w' => Ext wr w') (repeat (first | exact ext_refl _ | assumption | refine ext_more' ?_ _ _ | refine ext_drew ?_ | refine ext_drewN ?_ _ | refine ext_alloc ?_ _)) ((go_at_call 15; (with_reducible refine (HGO.out _ ?lgo).mono ?_); (case lgo => repeat (first | exact ext_refl _ | assumption | refine ext_more' ?_ _ _ | refine ext_drew ?_ | refine ext_drewN ?_ _ | refine ext_alloc ?_ _)); rintro e v27 ⟨⟨ms27, cap27, rfl⟩, hb27⟩; obtain ⟨r, d, rfl⟩ := ext_form hb27; clear hb27))
            all_goals
              refine then_at ?_
              intro W28 hW
              have x28 : Ext wr W28 := by rw [hW]; repeat (first | exact ext_refl _ | assumption | refine ext_more' ?_ _ _ | refine ext_drew ?_ | refine ext_drewN ?_ _ | refine ext_alloc ?_ _)
              have hxr := ext_trans X18.out (ext_trans HXZ.out x28)
              have hbr := at_ext HBQ.out (by simp [hC]) x28
              have hor := HO18.out.ext (ext_trans HXZ.out x28)
              have HXR2 := Lib.hid hxr; have HBR2 := Lib.hid hbr; have HOR2 := Lib.hid hor
              clear hW HBQ3 hfl HGO x28 hxr hbr hor
              go_wp2
              go_roundg (l.length - (i + 1))
              case measure => omega
              case rel => exact ⟨i + 1, t + 1, h2, _, by go_num, by go_num, by omega, by omega, by omega, F2.out, HXR2.out, HBR2.out, HOR2.out⟩
end Go.Proofs.Ythpgmefjgidkgaa

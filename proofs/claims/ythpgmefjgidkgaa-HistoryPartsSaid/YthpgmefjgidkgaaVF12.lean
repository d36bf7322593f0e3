/- HistoryParts. -/
import Derived.Test.YthpgmefjgidkgaaVE12b
import Derived.Test.YthpgmefjgidkgaaS12g
namespace Go.Proofs.Ythpgmefjgidkgaa
open Go.RowKit
set_option linter.unusedVariables false
set_option linter.unusedSimpArgs false

theorem run_window {P : Program} {t e : TypeId} (ht : P.underlying t = some (.slice e)) {z : Nat} (hz : ∀ w, (Go.sizeOf e).run P w = .ok z w) (s : Option Addr) (len cap k n : Nat) (hk : k ≤ n) (hn : n ≤ cap) (W : World) :
    (Instr.slice t (.slice s len cap) (some (.int .i64 k)) (some (.int .i64 n)) none).run P W = .ok (.slice (if cap = k then s else s.map (·.add (k * z))) (n - k) (cap - k)) W := by
  have h1 : (0 : Int) ≤ (n : Int) ∧ (n : Int) ≤ (cap : Int) := by omega
  have h2 : (0 : Int) ≤ (k : Int) ∧ (k : Int) ≤ (n : Int) := by omega
  unfold Instr.slice
  simp only [Sem.run_bind, run_underlying ht, Result.andThen, Instr.sliceBounds, Instr.sliceBound, asIntOf, Sem.run_pure, if_pos h1, Int.toNat_natCast, Option.isSome_none, Bool.false_eq_true, if_false, if_pos h2, hz, if_true]
theorem rows_window {w : World} {s : Option Addr} {len n : Nat} {f : Nat → List Value} (h : Rows_ w s len n f) (cap k m : Nat) (hk : k ≤ m) (hm : m ≤ len) (hc : len ≤ cap) : Rows_ w (if cap = k then s else s.map (·.add (k * n))) (m - k) n (fun i => f (k + i)) := fun hl => by
  obtain ⟨b, o, rfl, hb, hr⟩ := h (by omega)
  rw [if_neg (by omega)]
  refine ⟨b, o + k * n, ?_, hb, fun i hi => ⟨(hr _ (by omega)).1, fun j hj => ?_⟩⟩
  · simp only [Option.map_some, Addr.add]
    split
    · rename_i h0
      rw [h0]; rfl
    · rfl
  · have := (hr (k + i) (by omega)).2 j hj
    rw [← this, Nat.add_mul]
    simp only [Nat.add_assoc]
set_option maxRecDepth 100000 in
set_option maxHeartbeats 8000000 in
theorem parts_walk (s : Option Addr) (cap : Nat) (l : List Ev) (w : World) (hrows : Rows_ w s l.length 7 (fun i => evC (l.getD i default))) (hcap : l.length ≤ cap) (hmax : cap ≤ maxLen) (hu : ∀ i, i < l.length → 0 ≤ (l.getD i default).k ∧ (l.getD i default).k ≤ 255) (cut : Int) :
    Calls Try.prog 4 #[.slice s l.length cap, .int .i64 cut] w fun e w' => e = .returned (.bool true) ∧ Ext w w' := by
  have HROWS := Lib.hid hrows; have HU := Lib.hid hu
  clear hrows hu
  have hm : cap ≤ 9223372036854775807 := by unfold maxLen at hmax; exact hmax
  obtain ⟨L, hL⟩ : ∃ L, L = l.take 80 := ⟨_, rfl⟩
  have hLl : L.length = min l.length 80 := by rw [hL, List.length_take]; omega
  have hget : ∀ i, i < L.length → L.getD i default = l.getD i default := fun i hi => by
    rw [hL]; simp only [List.getD_eq_getElem?_getD]; rw [List.getElem?_take_of_lt (by omega)]
  have HRL := Lib.hid (show Rows_ w s L.length 7 (fun i => evC (L.getD i default)) from rows_cong2 (rows_take HROWS.out (by omega)) (fun i hi => by rw [hget i hi]))
  have HUL := Lib.hid (show ∀ i, i < L.length → 0 ≤ (L.getD i default).k ∧ (L.getD i default).k ≤ 255 from fun i hi => by rw [hget i hi]; exact HU.out i (by omega))
  have q1 : mn (l.length : Int) 80 = (L.length : Int) := by rw [show (80 : Int) = ((80 : Nat) : Int) from rfl, mn_castH, hLl]
  have hl80 : L.length ≤ 80 := by omega
  have hlc : L.length ≤ cap := by omega
  have hn : foldN L ≤ 80 := by have := foldN_le L; omega
  have hnl := foldN_le L
  obtain ⟨n, hnn⟩ : ∃ n, n = foldN L := ⟨_, rfl⟩
  have HOKS := Lib.hid (show ∀ j, j < n → okAt L j = true from by rw [hnn]; exact foldN_ok L)
  have HSTOP := Lib.hid (show n < L.length → okAt L n = false from by rw [hnn]; exact foldN_stop L)
  obtain ⟨h, hh⟩ : ∃ h, h = foldH L := ⟨_, rfl⟩
  have HFH := Lib.hid (show h = fh L n by rw [hh, hnn]; rfl)
  have HP := Lib.hid (show FhP h n by rw [HFH.out]; exact fh_P HOKS.out)
  obtain ⟨q, hq⟩ : ∃ q : Nat, (q : Int) = cut % ((n : Int) + 1) := ⟨(cut % ((n : Int) + 1)).toNat, by have := Int.emod_nonneg cut (show ((n : Int) + 1) ≠ 0 by omega); omega⟩
  have hqn : q ≤ n := by have := Int.emod_lt_of_pos cut (show 0 < ((n : Int) + 1) by omega); omega
  have HQ := Lib.hid hq.symm
  have HT1 := Lib.hid (show foldN (L.take q) = q from foldN_take (by rw [← hnn]; exact hqn))
  have HT2 := Lib.hid (show foldH (L.take q) = fh L q from foldH_take (by rw [← hnn]; exact hqn))
  have htl : (L.take q).length = q := by rw [List.length_take, hnn] at *; omega
  have HTL := Lib.hid htl
  have HPQ := Lib.hid (show FhP (fh L q) q from fh_P (fun j hj => HOKS.out j (by omega)))
  rw [← hnn] at hn hnl
  have HHH := Lib.hid hh.symm; have HNN := Lib.hid hnn.symm
  clear hL hLl hget hh hnn hq htl
  go_enter Try.func4, Try.ntmps4
  go_wp2_with fail
  refine (few_calls _ _ l _ hcap (by unfold maxLen at hmax; omega) HROWS.out).mono ?_
  rintro e w1 ⟨⟨g, rfl⟩, hb⟩
  have X1 := Lib.hid hb
  clear hb
  cases g
  · go_wp2_with (go_at_call 9; refine (awake12_calls _).mono ?_; rintro e w9 ⟨rfl, hb9⟩)
    go_ret
    exact ⟨rfl, ext_trans X1.out hb9⟩
  go_upto_region 5 with (go_at_call 16; refine (fold_calls _ cap L _ (rows_on2 HRL.out X1.out) (by omega) hlc HUL.out).mono ?_; rintro e v3 ⟨m3, rfl, hi3, hb3⟩; rw [HHH.out, HNN.out]; rw [HHH.out] at hi3; simp only [hC]; have HI3 := Lib.hid hi3; clear hi3)
  refine wp_at ?_
  intro W5 hW
  have x5 : Ext w1 W5 := by rw [hW]; repeat (first | exact ext_refl _ | assumption | refine ext_more' ?_ _ _ | refine ext_drew ?_ | refine ext_drewN ?_ _ | refine ext_alloc ?_ _)
  have bh := at_new (by rw [hW]; repeat (first | exact ext_refl _ | assumption | refine ext_more' ?_ _ _ | refine ext_drew ?_ | refine ext_drewN ?_ _ | refine ext_alloc ?_ _) : Ext (World.alloc v3 (.cells _ _)) W5)
  have y3 : Ext v3 W5 := by rw [hW]; repeat (first | exact ext_refl _ | assumption | refine ext_more' ?_ _ _ | refine ext_drew ?_ | refine ext_drewN ?_ _ | refine ext_alloc ?_ _)
  clear hW
  have HI5 := Lib.hid (HI3.out.ext y3)
  have HBH5 := Lib.hid (show At W5 v3.heap.size (hC h m3) from bh)
  have HX5 := Lib.hid (ext_trans X1.out x5)
  clear y3 HI3 hb3 x5 X1 bh
  go_upto_region 6 with (go_at_call 17; refine (pick_calls _ _ _ (by omega) (by omega)).mono ?_; rintro e w6 ⟨rfl, rfl⟩; rw [HQ.out])
  have HRT := Lib.hid (show Rows_ W5 s (L.take q).length 7 (fun i => evC ((L.take q).getD i default)) from by
    rw [HTL.out]
    exact rows_cong2 (rows_take (rows_on2 HRL.out HX5.out) (by omega)) (fun i hi => by rw [getD_take hi]))
  have HUT := Lib.hid (show ∀ i, i < (L.take q).length → 0 ≤ ((L.take q).getD i default).k ∧ ((L.take q).getD i default).k ≤ 255 from fun i hi => by
    rw [HTL.out] at hi
    rw [getD_take hi]; exact HUL.out i (by omega))
  have hF := fun w' (hx : Ext W5 w') => fold_calls s cap (L.take q) w' (rows_on2 HRT.out hx) (by rw [HTL.out]; omega) (by rw [HTL.out]; omega) HUT.out
  rw [HTL.out] at hF
  have HF := Lib.hid hF
  clear hF
  refine wp_at ?_
  intro W6 hW
  have x6 : Ext W5 W6 := by rw [hW]; repeat (first | exact ext_refl _ | assumption | refine ext_more' ?_ _ _ | refine ext_drew ?_ | refine ext_drewN ?_ _ | refine ext_alloc ?_ _)
  clear hW
  go_upto_region 7 with (go_at_call 16; refine (HF.out _ (by repeat (first | exact ext_refl _ | assumption | refine ext_more' ?_ _ _ | refine ext_drew ?_ | refine ext_drewN ?_ _ | refine ext_alloc ?_ _))).mono ?_; unfold FoldPost; rw [HT1.out, HT2.out]; rintro e v6 ⟨m6, rfl, hi6, hb6⟩; simp only [hC]; have HI6 := Lib.hid hi6; have HB6 := Lib.hid hb6; clear hi6)
  refine wp_at ?_
  intro W7 hW
  have x7 : Ext v6 W7 := by rw [hW]; repeat (first | exact ext_refl _ | assumption | refine ext_more' ?_ _ _ | refine ext_drew ?_ | refine ext_drewN ?_ _ | refine ext_alloc ?_ _)
  have bx := at_new (by rw [hW]; repeat (first | exact ext_refl _ | assumption | refine ext_more' ?_ _ _ | refine ext_drew ?_ | refine ext_drewN ?_ _ | refine ext_alloc ?_ _) : Ext (World.alloc v6 (.cells _ _)) W7)
  clear hW hb6
  have HI7 := Lib.hid (HI6.out.ext x7)
  have HBX7 := Lib.hid (show At W7 v6.heap.size (hC (fh L q) m6) from bx)
  have HX6 := Lib.hid (ext_trans HX5.out (ext_trans x6 HB6.out))
  have HBH6 := Lib.hid (at_ext HBH5.out (by simp [hC]) (ext_trans x6 HB6.out))
  have HIH6 := Lib.hid (HI5.out.ext (ext_trans x6 HB6.out))
  have HX7 := Lib.hid x7
  have HRW := Lib.hid (rows_window (rows_on2 HRL.out HX6.out) cap q n hqn hnl hlc)
  have hsl := fun W => run_window (P := Try.prog) Try.underlying22 (fun w => (by kernel_rfl : (Go.sizeOf 38).run Try.prog w = .ok 7 w)) s L.length cap q n hqn (by omega) W
  obtain ⟨s', hs'⟩ : ∃ s', s' = (if cap = q then s else s.map (·.add (q * 7))) := ⟨_, rfl⟩
  rw [← hs'] at HRW
  simp only [← hs'] at hsl
  clear hs' x6 x7 bx HI6 HB6 HX5 HBH5 HI5 HRT HUT HF
  go_wp2
  go_loopg [49] (n - q) (fun g kk wr => ∃ (i : Nat) (m : Hm), kk = .int .i64 i ∧ g + i = n - q ∧ Ext v6 wr ∧ At wr v6.heap.size (hC (fh L (q + i)) m) ∧ HsIn wr (fh L (q + i)) m)
  case atStart => exact ⟨0, m6, rfl, by omega, HX7.out, HBX7.out, HI7.out⟩
  case round =>
    obtain ⟨i, m, rfl, hgi, hxr, hbr, hir⟩ := hrel
    have HXR := Lib.hid hxr; have HBR := Lib.hid hbr; have HIR := Lib.hid hir
    have zr := hxr.size
    clear hbr hir HBX7 HI7 HX7 hsl hxr
    by_cases hi : i < n - q
    · obtain ⟨b, o, rfl, lr, c0, c1, c2, c3, c4, c5, c6⟩ := ev_cells (V := fun i => L.getD (q + i) default) HRW.out HXR.out hi
      have hu := HUL.out (q + i) (by omega)
      have HN := Lib.hid (next_ok (HOKS.out (q + i) (by omega)))
      have HPX := Lib.hid (show FhP (fh L (q + i)) (q + i) from fh_P (fun j hj => HOKS.out j (by omega)))
      obtain ⟨⟨ek, at', en, ep, ea, eb, es⟩, hee⟩ : ∃ e, e = L.getD (q + i) default := ⟨_, rfl⟩
      obtain ⟨x, hx⟩ : ∃ x, x = fh L (q + i) := ⟨_, rfl⟩
      obtain ⟨y, hy⟩ : ∃ y, y = fh L (q + i + 1) := ⟨_, rfl⟩
      rw [← hee] at hu HN c0 c1 c2 c3 c4 c5 c6
      rw [← hx] at HN HPX HBR HIR
      rw [← hy] at HN
      have HY := Lib.hid (show fh L (q + (i + 1)) = y from hy.symm)
      simp only at hu c0 c1 c2 c3 c4 c5 c6
      clear hee hx hy
      have hi3 : (i : Int) < ((n - q : Nat) : Int) := by omega
      go_upto_region 12 with fail
      refine wp_at ?_
      intro W12 hW
      have x12 : Ext wr W12 := by rw [hW]; repeat (first | exact ext_refl _ | assumption | refine ext_more' ?_ _ _ | refine ext_drew ?_ | refine ext_drewN ?_ _ | refine ext_alloc ?_ _)
      have be := at_new (by rw [hW]; repeat (first | exact ext_refl _ | assumption | refine ext_more' ?_ _ _ | refine ext_drew ?_ | refine ext_drewN ?_ _ | refine ext_alloc ?_ _) : Ext (World.alloc wr (.cells _ _)) W12)
      clear hW c0 c1 c2 c3 c4 c5 c6 lr
      have HX12 := Lib.hid (ext_trans HXR.out x12)
      have HI12 := Lib.hid (HIR.out.ext x12)
      have hbx := at_ext HBR.out (by simp [hC]) x12
      have HBX12 := Lib.hid hbx
      have z12 := x12.size
      unfold hC at hbx
      have kx := hbx.1
      have lx := at_lt hbx (by simp)
      have ke := be.1
      have le := at_lt be (by simp)
      clear hbx be x12 HBR HIR HXR
      go_upto_region 13 with (go_at_call 10; refine (nextF_calls x m ⟨ek, at', en, ep, ea, eb, es⟩ _ (q + i) HPX.out (by omega) (HI12.out.ext (by repeat (first | exact ext_refl _ | assumption | refine ext_more' ?_ _ _ | refine ext_drew ?_ | refine ext_drewN ?_ _ | refine ext_alloc ?_ _))) hu.1 hu.2).mono ?_; unfold NextPost; rw [HN.out]; rintro e w13 ⟨m2, rfl, hp0, hb⟩; simp only [hC]; have HO13 := Lib.hid hp0; clear hp0)
      refine wp_at ?_
      intro W13 hW
      have x13 : Ext W12 W13 := by rw [hW]; repeat (first | exact ext_refl _ | assumption | refine ext_more' ?_ _ _ | refine ext_drew ?_ | refine ext_drewN ?_ _ | refine ext_alloc ?_ _)
      have b13 := at_new (by rw [hW]; repeat (first | exact ext_refl _ | assumption | refine ext_more' ?_ _ _ | refine ext_drew ?_ | refine ext_drewN ?_ _ | refine ext_alloc ?_ _) : Ext (World.alloc w13 (.cells _ _)) W13)
      have y13 : Ext w13 W13 := by rw [hW]; repeat (first | exact ext_refl _ | assumption | refine ext_more' ?_ _ _ | refine ext_drew ?_ | refine ext_drewN ?_ _ | refine ext_alloc ?_ _)
      clear hW kx lx ke le
      have zb := hb.size
      clear hb
      have hox := HO13.out.ext y13
      have HO14 := Lib.hid (show OwnsH W13 (v6.heap.size + 1) y m2 from hox.low (by have := at_lt HBX12.out (by simp [hC]); first | omega | (simp; omega)))
      have HX13 := Lib.hid (ext_trans HX12.out x13)
      have hbx := at_ext HBX12.out (by simp [hC]) x13
      unfold hC at hbx
      have kx := hbx.1
      have fx := hbx.2
      have lx := at_lt hbx (by simp)
      have kn := b13.1
      have ln := at_lt b13 (by simp)
      clear x13 y13 HX12 HI12 hox HO13
      go_upto_region 16 with fail
      refine wp_at ?_
      intro W16 hW
      have hcs : W16 = W13.setCells v6.heap.size 0 (hC y m2).toList := hW
      have hb16 := at_setCells (cells := hC y m2) (show At W13 v6.heap.size (hC x m) from hbx) rfl
      rw [← hcs] at hb16
      have C16 := chg_setCells v6.heap.size (hC y m2).toList 0 W13
      rw [← hcs] at C16
      clear hcs hW kx fx lx kn ln hbx b13 HBX12
      have HI16 := Lib.hid (HO14.out.chgS C16 (fun k hk e => by omega)).hsin
      have HX16 := Lib.hid (ext_chg HX13.out C16 (fun i hi => by omega))
      have HB16 := Lib.hid hb16
      clear hb16 C16 HO14 HX13
      go_wp2
      go_roundg (gk - 1)
      case measure => omega
      case rel => exact ⟨i + 1, m2, by go_num, by omega, HX16.out, by rw [HY.out]; exact HB16.out, by rw [HY.out]; exact HI16.out⟩
    · have hi3 : ¬ ((i : Int) < ((n - q : Nat) : Int)) := by omega
      have hie : q + i = n := by omega
      rw [hie, ← HFH.out] at HBR HIR
      have HBHR := Lib.hid (at_ext HBH6.out (by simp [hC]) HXR.out)
      have HIHR := Lib.hid (HIH6.out.ext HXR.out)
      have HSM := Lib.hid (sm_of HP.out (by omega))
      have HXW := Lib.hid (ext_trans HX6.out HXR.out)
      have kx := HBR.out.1
      have lx := at_lt HBR.out (by simp [hC])
      have kh := HBHR.out.1
      have lh := at_lt HBHR.out (by simp [hC])
      unfold hC at kx kh
      clear hie
      go_upto_region 19 with (go_at_call 12; refine (same12_calls h m m3 _ HSM.out (HIR.out.ext (by repeat (first | exact ext_refl _ | assumption | refine ext_more' ?_ _ _ | refine ext_drew ?_ | refine ext_drewN ?_ _ | refine ext_alloc ?_ _))) (HIHR.out.ext (by repeat (first | exact ext_refl _ | assumption | refine ext_more' ?_ _ _ | refine ext_drew ?_ | refine ext_drewN ?_ _ | refine ext_alloc ?_ _)))).mono ?_; rintro e w18 ⟨rfl, hb18⟩; obtain ⟨r, d, rfl⟩ := ext_form hb18; clear hb18)
      refine wp_at ?_
      intro W19 hW
      have x19 : Ext wr W19 := by rw [hW]; repeat (first | exact ext_refl _ | assumption | refine ext_more' ?_ _ _ | refine ext_drew ?_ | refine ext_drewN ?_ _ | refine ext_alloc ?_ _)
      clear hW kx lx kh lh
      have HX19 := Lib.hid (ext_trans HXW.out x19)
      by_cases hnL : n < L.length
      · have hn3 : (n : Int) < L.length := by omega
        have hst := HSTOP.out hnL
        have hnz := next_stop hst
        rw [← HFH.out] at hnz
        obtain ⟨b, o, rfl, lr8, e0, e1, e2, e3, e4, e5, e6⟩ := ev_cells (V := fun i => L.getD i default) HRL.out HX19.out hnL
        have hu := HUL.out n hnL
        obtain ⟨⟨ek, at', en, ep, ea, eb, es⟩, hee⟩ : ∃ e, e = L.getD n default := ⟨_, rfl⟩
        rw [← hee] at hu e0 e1 e2 e3 e4 e5 e6 hnz
        simp only at hu e0 e1 e2 e3 e4 e5 e6
        obtain ⟨⟨h2, q2⟩, hnx⟩ : ∃ x : Hs × Int, nextH h ⟨ek, at', en, ep, ea, eb, es⟩ = x := ⟨_, rfl⟩
        rw [hnx] at hnz
        simp only at hnz
        have HN := Lib.hid hnx
        have gq : (q2 == 0) = false := by rw [beq_eq_false_iff_ne]; exact hnz
        clear hst hee hnx hnz
        have HBH20 := Lib.hid (at_ext HBHR.out (by simp [hC]) x19)
        have HI20 := Lib.hid (HIHR.out.ext x19)
        have hi12 : (Try.prog.info? 32).map (·.size) = some 12 := by kernel_rfl
        go_upto_region 20 with fail
        refine wp_at ?_
        intro W20 hW
        obtain rfl : W20 = W19 := hW
        refine wp_region_held_drew (S := fun w' => Ext W20 w') (by kernel_rfl) (ext_drew (ext_refl _)) (fun hHeld => ?_)
        refine wpAnyH_take' (i := 0) (v := ?v0) (some 72) rfl rfl (by kernel_rfl) (by kernel_rfl) (by kernel_rfl) (fun _ _ _ h => h) (Or.inl ⟨by rfl, ?y0⟩) hHeld ?_
        case y0 =>
          intro w' hSw
          have kh := (at_ext HBH20.out (by simp [hC]) hSw).1
          unfold hC at kh
          go_simp
          try with_reducible rfl
        refine wpAnyH_take' (i := 1) (v := ?v1) (some 73) rfl rfl (by kernel_rfl) (by kernel_rfl) (by kernel_rfl) (fun _ _ _ h => h) (Or.inl ⟨by rfl, ?y1⟩) hHeld ?_
        case y1 =>
          intro w' hSw
          have kh := (at_ext HBH20.out (by simp [hC]) hSw).1
          unfold hC at kh
          go_simp
          try with_reducible rfl
        refine wpAnyH_take' (i := 2) (v := ?v2) (some 74) rfl rfl (by kernel_rfl) (by kernel_rfl) (by kernel_rfl) (fun _ _ _ h => h) (Or.inl ⟨by rfl, ?y2⟩) hHeld ?_
        case y2 =>
          intro w' hSw
          have kh := (at_ext HBH20.out (by simp [hC]) hSw).1
          unfold hC at kh
          go_simp
          try with_reducible rfl
        refine wpAnyH_take' (i := 3) (v := ?v3) (some 75) rfl rfl (by kernel_rfl) (by kernel_rfl) (by kernel_rfl) (fun _ _ _ h => h) (Or.inl ⟨by rfl, ?y3⟩) hHeld ?_
        case y3 =>
          intro w' hSw
          have kh := (at_ext HBH20.out (by simp [hC]) hSw).1
          unfold hC at kh
          have d0 := (hSw.cell (p := ⟨b, o + n * 7, none⟩) lr8).trans e0
          have d1 := (hSw.cell (p := ⟨b, o + n * 7 + 1, none⟩) lr8).trans e1
          have d2 := (hSw.cell (p := ⟨b, o + n * 7 + 2, none⟩) lr8).trans e2
          have d3 := (hSw.cell (p := ⟨b, o + n * 7 + 3, none⟩) lr8).trans e3
          have d4 := (hSw.cell (p := ⟨b, o + n * 7 + 4, none⟩) lr8).trans e4
          have d5 := (hSw.cell (p := ⟨b, o + n * 7 + 5, none⟩) lr8).trans e5
          have d6 := (hSw.cell (p := ⟨b, o + n * 7 + 6, none⟩) lr8).trans e6
          go_simp
          try with_reducible rfl
        refine wpAnyH_take' (i := 4) (v := ?v4) (some 76) rfl rfl (by kernel_rfl) (by kernel_rfl) (by kernel_rfl) (fun _ _ _ h => h) (Or.inl ⟨by rfl, ?y4⟩) hHeld ?_
        case y4 =>
          intro w' hSw
          have kh := (at_ext HBH20.out (by simp [hC]) hSw).1
          unfold hC at kh
          have d0 := (hSw.cell (p := ⟨b, o + n * 7, none⟩) lr8).trans e0
          have d1 := (hSw.cell (p := ⟨b, o + n * 7 + 1, none⟩) lr8).trans e1
          have d2 := (hSw.cell (p := ⟨b, o + n * 7 + 2, none⟩) lr8).trans e2
          have d3 := (hSw.cell (p := ⟨b, o + n * 7 + 3, none⟩) lr8).trans e3
          have d4 := (hSw.cell (p := ⟨b, o + n * 7 + 4, none⟩) lr8).trans e4
          have d5 := (hSw.cell (p := ⟨b, o + n * 7 + 5, none⟩) lr8).trans e5
          have d6 := (hSw.cell (p := ⟨b, o + n * 7 + 6, none⟩) lr8).trans e6
          go_simp
          try with_reducible rfl
        refine wpAnyH_at 12 (fun a0 W0 L' a' w' => ∃ u14 u15 u71 u77 u78 u79 : Value, a' = frm [(14, u14), (15, u15), (71, u71), (77, u77), (78, u78), (79, u79)] a0 ∧ Ext W20 w' ∧ Aft (L' 5) (∃ m2, u77 = .tuple #[.agg (hC h2 m2), .int .i64 q2]) ∧ Aft (L' 6) (∃ m2, u71 = .tuple #[.agg (hC h2 m2), .int .i64 q2]) ∧ Aft (L' 7) (∃ m2, u78 = .agg (hC h2 m2)) ∧ Aft (L' 8) (u79 = .int .i64 q2) ∧ Aft (L' 9) (∃ bb, W20.heap.size ≤ bb ∧ u14 = .pointer (some ⟨bb, 0, none⟩) ∧ Bef (L' 10) (At w' bb #[.string ⟨#[]⟩, .int .i64 0, .slice none 0 0, .slice none 0 0, .slice none 0 0, .slice none 0 0, .bool false, .bool false, .int .i64 0, .int .i64 0, .int .i64 0, .int .i64 0])) ∧ Aft (L' 10) (∃ bb m2, u14 = .pointer (some ⟨bb, 0, none⟩) ∧ At w' bb (hC h2 m2) ∧ W20.heap.size ≤ bb) ∧ Aft (L' 11) (u15 = .int .i64 q2)) [5, 6, 7, 8, 9, 10, 11] [0, 1, 2, 3, 4, 5, 6, 7, 8, 9, 10, 11] (by kernel_rfl) (by kernel_rfl) (by kernel_rfl) (fun _ _ _ h => by obtain ⟨_, _, _, _, _, _, _, hX, _⟩ := h; exact hX) ?i0 ?st ?en
        case i0 => exact ⟨_, _, _, _, _, _, (frm_rd [14, 15, 71, 77, 78, 79] _).symm, hHeld, (Aft.no (by kernel_rfl)), (Aft.no (by kernel_rfl)), (Aft.no (by kernel_rfl)), (Aft.no (by kernel_rfl)), (Aft.no (by kernel_rfl)), (Aft.no (by kernel_rfl)), (Aft.no (by kernel_rfl))⟩
        case st =>
          refine StepsI.cons [] [6, 7, 8, 10, 11] 12 rfl (by kernel_rfl) (by kernel_rfl) ?s5 ?_
          case s5 =>
            rintro L' a' w' K' hi hp hn ⟨u14, u15, u71, u77, u78, u79, rfl, hX, h5, h6, h7, h8, h9, h10, h11⟩ hK
            refine Stp.mk ?_
            rw [if_pos (by rfl)]
            go_simp
            go_at_call 10
            refine (nextF_calls h m3 ⟨ek, at', en, ep, ea, eb, es⟩ _ n HP.out (by omega) (HI20.out.ext hX) hu.1 hu.2).mono ?_
            unfold NextPost
            rw [HN.out]
            rintro e w1 ⟨m2, rfl, hp0, hb⟩
            exact hK.out _ _ ⟨u14, u15, u71, (.tuple #[.agg (hC h2 m2), .int .i64 q2]), u78, u79, by kernel_rfl, (ext_trans hX hb), (Aft.new ⟨m2, rfl⟩), (Aft.no (hn 6 (by simp))), (Aft.no (hn 7 (by simp))), h8, (h9.map fun ⟨bb, hl, e, h⟩ => ⟨bb, hl, e, h.map fun h => at_ext h (by simp) hb⟩), (Aft.no (hn 10 (by simp))), h11⟩
          refine StepsI.cons [5] [7, 8, 10, 11] 12 rfl (by kernel_rfl) (by kernel_rfl) ?s6 ?_
          case s6 =>
            rintro L' a' w' K' hi hp hn ⟨u14, u15, u71, u77, u78, u79, rfl, hX, h5, h6, h7, h8, h9, h10, h11⟩ hK
            have q := h5.get (hp 5 (by simp))
            obtain ⟨m2, e1⟩ := q
            refine Stp.mk ?_
            rw [if_pos (by rfl)]
            go_simp
            exact hK.out _ _ ⟨u14, u15, (.tuple #[.agg (hC h2 m2), .int .i64 q2]), (.tuple #[.agg (hC h2 m2), .int .i64 q2]), u78, u79, by kernel_rfl, hX, (Aft.new ⟨m2, rfl⟩), (Aft.new ⟨m2, rfl⟩), h7, h8, h9, h10, h11⟩
          refine StepsI.cons [5, 6] [10, 11] 12 rfl (by kernel_rfl) (by kernel_rfl) ?s7 ?_
          case s7 =>
            rintro L' a' w' K' hi hp hn ⟨u14, u15, u71, u77, u78, u79, rfl, hX, h5, h6, h7, h8, h9, h10, h11⟩ hK
            have q := h6.get (hp 6 (by simp))
            obtain ⟨m2, e1⟩ := q
            refine Stp.mk ?_
            rw [if_pos (by rfl)]
            go_simp
            exact hK.out _ _ ⟨u14, u15, (.tuple #[.agg (hC h2 m2), .int .i64 q2]), u77, (.agg (hC h2 m2)), u79, by kernel_rfl, hX, h5, (Aft.new ⟨m2, rfl⟩), (Aft.new ⟨m2, rfl⟩), h8, h9, h10, h11⟩
          refine StepsI.cons [5, 6] [11] 12 rfl (by kernel_rfl) (by kernel_rfl) ?s8 ?_
          case s8 =>
            rintro L' a' w' K' hi hp hn ⟨u14, u15, u71, u77, u78, u79, rfl, hX, h5, h6, h7, h8, h9, h10, h11⟩ hK
            have q := h6.get (hp 6 (by simp))
            obtain ⟨m2, e1⟩ := q
            refine Stp.mk ?_
            rw [if_pos (by rfl)]
            go_simp
            exact hK.out _ _ ⟨u14, u15, (.tuple #[.agg (hC h2 m2), .int .i64 q2]), u77, u78, (.int .i64 q2), by kernel_rfl, hX, h5, (Aft.new ⟨m2, rfl⟩), h7, (Aft.new rfl), h9, h10, h11⟩
          refine StepsI.cons [] [10, 11] 12 rfl (by kernel_rfl) (by kernel_rfl) ?s9 ?_
          case s9 =>
            rintro L' a' w' K' hi hp hn ⟨u14, u15, u71, u77, u78, u79, rfl, hX, h5, h6, h7, h8, h9, h10, h11⟩ hK
            refine Stp.mk ?_
            rw [if_pos (by rfl)]
            go_simp
            exact hK.out _ _ ⟨(.pointer (some ⟨w'.heap.size, 0, none⟩)), u15, u71, u77, u78, u79, by kernel_rfl, (ext_alloc hX _), h5, h6, h7, h8, (Aft.new ⟨_, hX.size, rfl, Bef.new (at_new (ext_refl _))⟩), (Aft.no (hn 10 (by simp))), h11⟩
          refine StepsI.cons [5, 6, 7, 9] [11] 12 rfl (by kernel_rfl) (by kernel_rfl) ?s10 ?_
          case s10 =>
            rintro L' a' w' K' hi hp hn ⟨u14, u15, u71, u77, u78, u79, rfl, hX, h5, h6, h7, h8, h9, h10, h11⟩ hK
            have q := h9.get (hp 9 (by simp))
            obtain ⟨bb, hlb, e1, hat0⟩ := q
            have hat := hat0.get hi
            have q2 := h7.get (hp 7 (by simp))
            obtain ⟨m2, e2⟩ := q2
            refine Stp.mk ?_
            rw [if_pos (by rfl)]
            with_reducible refine wp_storeS 32 (.tmp 14) (.tmp 78) ?ax3x1 bb ?ax3x2 (hC h2 m2) ?ax3x3 ?ax3x4 ?ax3x5 ?ax3x6 ?ax3x7 ?ax3x8 ?ax3x9
            case ax3x1 => rfl
            case ax3x5 => exact hat
            case ax3x3 => exact Eq.trans (by kernel_rfl) e1
            case ax3x4 => exact Eq.trans (by kernel_rfl) e2
            case ax3x6 => exact (by rw [hC_size]; rfl)
            case ax3x7 => exact (by rw [hC_size]; exact hi12)
            case ax3x8 => exact (hC_one _ _)
            intro w1 hat1 hc1
            exact hK.out _ _ ⟨u14, u15, u71, u77, u78, u79, by kernel_rfl, (ext_chg hX hc1 (fun i h => by omega)), h5, h6, h7, h8, (Aft.new ⟨bb, hlb, e1, Bef.no rfl⟩), (Aft.new ⟨bb, m2, e1, hat1, hlb⟩), h11⟩
          refine StepsI.cons [5, 6, 7, 8, 9, 10] [] 12 rfl (by kernel_rfl) (by kernel_rfl) ?s11 ?_
          case s11 =>
            rintro L' a' w' K' hi hp hn ⟨u14, u15, u71, u77, u78, u79, rfl, hX, h5, h6, h7, h8, h9, h10, h11⟩ hK
            have q := h8.get (hp 8 (by simp))
            refine Stp.mk ?_
            rw [if_pos (by rfl)]
            go_simp
            exact hK.out _ _ ⟨u14, (.int .i64 q2), u71, u77, u78, (.int .i64 q2), by kernel_rfl, hX, h5, h6, h7, (Aft.new rfl), h9, h10, (Aft.new rfl)⟩
          exact StepsI.nil
        rintro L' a' V hL ⟨u14, u15, u71, u77, u78, u79, rfl, hX, h5, h6, h7, h8, h9, h10, h11⟩
        have q := h10.get (hL 10 (by decide))
        obtain ⟨bb, m2, e1, hB, hlb⟩ := q
        have e2 := h11.get (hL 11 (by decide))
        subst e1
        subst e2
        clear h5 h6 h7 h8 h9 h10 h11 hL hHeld
        have HX20 := Lib.hid (ext_trans HX19.out hX)
        clear hX HX19 hB
        simp only [frm_cons, frm_nil]
        go_wp2_with (go_at_call 9; refine (awake12_calls _).mono ?_; rintro e w9 ⟨rfl, hb9⟩)
        go_ret
        exact ⟨rfl, ext_trans HX20.out hb9⟩
      · have hn3 : ¬ ((n : Int) < L.length) := by omega
        go_wp2_with (go_at_call 9; refine (awake12_calls _).mono ?_; rintro e w9 ⟨rfl, hb9⟩)
        go_ret
        exact ⟨rfl, ext_trans HX19.out hb9⟩
end Go.Proofs.Ythpgmefjgidkgaa

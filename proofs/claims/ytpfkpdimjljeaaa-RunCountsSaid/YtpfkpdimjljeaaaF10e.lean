/- RunCounts. -/
import Derived.Test.YtpfkpdimjljeaaaP10e
import Derived.Test.YtpfkpdimjljeaaaH10d
import Derived.Test.YtpfkpdimjljeaaaK10x
namespace Go.Proofs.Ytpfkpdimjljeaaa
open Go.RowKit
set_option linter.unusedVariables false
set_option linter.unusedSimpArgs false

theorem ins_info : (Try.prog.info? 52).map (fun i => (i.zero, i.size, i.bytes)) = some (some (.agg #[.int .u8 0, .int .i64 0, .int .i64 0, .int .i64 0, .int .i64 0, .string ⟨#[]⟩]), 6, 56) := by kernel_rfl
theorem oneCell_ins (x : Ins) : ∀ u ∈ insC x, u.oneCell' = true := by
  intro u hu
  simp only [insC, List.mem_cons, List.not_mem_nil, or_false] at hu
  rcases hu with rfl | rfl | rfl | rfl | rfl | rfl <;> rfl
theorem rds_new {X W : World} {cs : Array Value} {T : TypeId} {m n : Nat} (h : Ext (X.alloc (.cells cs T)) W) (hc : cs.size = m * n) : Rds W (some ⟨X.heap.size, 0, none⟩) m n cs.toList := by
  obtain ⟨h1, h2⟩ := box_facts h
  refine ⟨by simpa using hc, fun _ => ⟨_, 0, rfl, h1, fun j u hu => ?_⟩⟩
  rw [Nat.zero_add, h2 j]
  simpa using hu
theorem num_cell {w W1 : World} {s : Option Addr} {len : Nat} {V : Nat → Int} (h : Rows_ w s len 1 (fun i => [.int .i64 (V i)])) (hx : Ext w W1) {i : Nat} (hi : i < len) : ∃ b o, s = some ⟨b, o, none⟩ ∧ b < W1.heap.size ∧ W1.cell? ⟨b, o + i, none⟩ = some (.int .i64 (V i)) := by
  obtain ⟨b, o, rfl, hb, hr⟩ := h (by omega)
  have := (hr i hi).2 0 (by decide)
  refine ⟨b, o, rfl, Nat.lt_of_lt_of_le hb hx.size, ?_⟩
  rw [hx.cell (p := ⟨b, o + i, none⟩) hb]
  simpa using this
theorem chg_mr {S : Nat → Prop} {a w : World} (h : Chg S a w) (r : Array Obj) (d : Nat) : Chg S a (more w r d) := h.trans (Chg.ofExt (ext_more w r d))
theorem rows_cut {w : World} {s : Option Addr} {len n : Nat} {f : Nat → List Value} (h : Rows_ w s len n f) {k cap : Nat} (hk : k ≤ len) (hc : len ≤ cap) : Rows_ w (if cap = k then s else s.map (·.add (k * n))) (len - k) n (fun i => f (i + k)) := fun hl => by
  obtain ⟨b, o, rfl, hb, hr⟩ := h (by omega)
  rw [if_neg (by omega)]
  refine ⟨b, o + k * n, ?_, hb, fun i hi => ⟨(hr _ (by omega)).1, fun q hq => ?_⟩⟩
  · simp only [Option.map_some, Addr.add]; split <;> simp_all
  · rw [← (hr (i + k) (by omega)).2 q hq]
    congr 2
    rw [Nat.add_mul]; omega
theorem cnt_post {w w' : World} {y : Rs} {e : Ending} {v : Int} {k : Nat} (h : RunPostC w y 0 e w') (y1 : y.st = 1) (y2 : y.os = 0) (y3 : y.ov = v) (y4 : y.cmds = cntCmd k) : ∃ ms cap on, ∃ (sig steps : Nat), e = .returned (.tuple #[.agg #[.int .i64 1, .int .i64 0, .int .i64 v, .int .i64 on, .slice ms k cap, .int .i64 sig, .int .i64 steps], .int .i64 0]) ∧ Ext w w' ∧ Rows_ w' ms k 5 (fun i => cmdC ⟨(i : Int) + 1, 1, oneS, 9, 0⟩) := by
  obtain ⟨ms, cap, he, hx, hr, _, _⟩ := h
  rw [y1, y2, y3, y4, cntCmd_len] at he
  rw [y4, cntCmd_len] at hr
  refine ⟨ms, cap, y.on, y.sig, y.steps, he, hx, rows_same hr fun i hi => ?_⟩
  unfold cntCmd
  rw [List.getD, List.getElem?_map, List.getElem?_range hi]; rfl
theorem cnt_post2 {w w' : World} {y : Rs} {e : Ending} {on : Int} (h : RunPostC w y 0 e w') (y1 : y.st = 2) (y2 : y.on = on) : ∃ ms len cap os ov, ∃ (sig steps : Nat), e = .returned (.tuple #[.agg #[.int .i64 2, .int .i64 os, .int .i64 ov, .int .i64 on, .slice ms len cap, .int .i64 sig, .int .i64 steps], .int .i64 0]) ∧ Ext w w' := by
  obtain ⟨ms, cap, he, hx, _⟩ := h
  rw [y1, y2] at he
  exact ⟨ms, _, cap, _, _, _, _, he, hx⟩
/-- The program that is made: its box, its code, in a row of the call's own. -/
def CntBox (w wr : World) (l : List Ins) (ms : Option Addr) (cap : Nat) : Prop := Ext w wr ∧ At wr w.heap.size #[.string sumS, .int .i64 6, .slice ms l.length cap] ∧ wr.ownsRow (w.heap.size + 1) 52 6 (.slice ms l.length cap) l.length (l.flatMap insC)
theorem cnt_at {w wr V w4 : World} {l : List Ins} {ms : Option Addr} {cap : Nat} (hb : CntBox w wr l ms cap) (hV : Ext wr V) (hg : V.grownBy w4 (Value.slice ms l.length cap).ownBlock) : At w4 w.heap.size #[.string sumS, .int .i64 6, .slice ms l.length cap] :=
  grown_at hg (at_ext hb.2.1 (by simp) hV) (by simp) (fun e => by have := (hb.2.2.lt _ e).1; omega)
theorem cnt_put {w wr V w4 W5 : World} {l l2 : List Ins} {ms ms' : Option Addr} {cap cap' m : Nat} (hb : CntBox w wr l ms cap) (hV : Ext wr V) (hg : V.grownBy w4 (Value.slice ms l.length cap).ownBlock)
    (ho : w4.ownsRow (w.heap.size + 1) 52 6 (.slice ms' (l.length + m) cap') (l.length + m) (l.flatMap insC ++ l2.flatMap insC)) (hm : l2.length = m) (hW : W5 = w4.setCell ⟨w.heap.size, 2, none⟩ (.slice ms' (l.length + m) cap')) : CntBox w W5 (l ++ l2) ms' cap' := by
  subst hm
  have hx : Ext w w4 := ext_grown (ext_trans hb.1 hV) hg (fun k e => by have := (hb.2.2.lt _ e).1; omega)
  have hl : (l ++ l2).length = l.length + l2.length := List.length_append
  refine ⟨?_, ?_, ?_⟩
  · rw [hW]; exact ext_set hx (Nat.le_refl _) _
  · rw [hW, hl]; exact at_put (cnt_at hb hV hg) (by simp) rfl
  · rw [hl, List.flatMap_append]
    refine own_chgS (S := fun k => k = w.heap.size) ho (by rw [hW]; exact chg_put (Chg.refl _ _)) (fun k e h => ?_)
    have := (ho.lt _ e).1; omega
/-- Another row of the call's own behind such an append. -/
theorem cnt_keep {w wr V w4 W5 : World} {l : List Ins} {ms : Option Addr} {cap n : Nat} {v u : Value} {xs : List Value} (hb : CntBox w wr l ms cap) (hk : wr.ownsRow (w.heap.size + 1) 47 3 v n xs) (hV : Ext wr V) (hg : V.grownBy w4 (Value.slice ms l.length cap).ownBlock)
    (hW : W5 = w4.setCell ⟨w.heap.size, 2, none⟩ u) : W5.ownsRow (w.heap.size + 1) 47 3 v n xs := by
  have h1 : w4.ownsRow (w.heap.size + 1) 47 3 v n xs := own_grown (own_ext hk hV) hg (fun k e e2 => own_apart hk hb.2.2 (by decide) k e e2)
  exact own_chgS (S := fun k => k = w.heap.size) h1 (by rw [hW]; exact chg_put (Chg.refl _ _)) (fun k e h => by have := (h1.lt _ e).1; omega)
/-- .. and the program behind an append to that other row. -/
theorem cnt_keep2 {w wr V w4 : World} {l : List Ins} {ms : Option Addr} {cap n : Nat} {v : Value} {xs : List Value} (hb : CntBox w wr l ms cap) (hk : wr.ownsRow (w.heap.size + 1) 47 3 v n xs) (hV : Ext wr V) (hg : V.grownBy w4 v.ownBlock) : CntBox w w4 l ms cap :=
  ⟨ext_grown (ext_trans hb.1 hV) hg (fun k e => by have := (hk.lt _ e).1; omega), grown_at hg (at_ext hb.2.1 (by simp) hV) (by simp) (fun e => by have := (hk.lt _ e).1; omega),
    own_grown (own_ext hb.2.2 hV) hg (fun k e e2 => own_apart hb.2.2 hk (by decide) k e e2)⟩
theorem cnt_ext {w wr W : World} {l : List Ins} {ms : Option Addr} {cap : Nat} (hb : CntBox w wr l ms cap) (h : Ext wr W) : CntBox w W l ms cap :=
  ⟨ext_trans hb.1 h, at_ext hb.2.1 (by simp) h, own_ext hb.2.2 h⟩

set_option maxRecDepth 100000 in
set_option maxHeartbeats 8000000 in
theorem counts_walk (n : Int) (vs : Option Addr) (vlen vcap : Nat) (V : Nat → Int) (w : World) (hn0 : 0 ≤ n) (hn1 : n ≤ 255) (hV : Rows_ w vs vlen 1 (fun i => [.int .i64 (V i)])) (hv : vlen ≤ vcap) :
    Calls Try.prog 7 #[.int .u8 n, .slice vs vlen vcap] w fun e w' => e = .returned (.bool true) ∧ Ext w w' := by
  have HV := Lib.hid hV; clear hV
  obtain ⟨k, hk⟩ : ∃ k : Nat, n % 21 = k := ⟨(n % 21).toNat, by omega⟩
  have hk20 : k ≤ 20 := by omega
  obtain ⟨i0, hi0, hz0, hz1, hz2⟩ := info_parts ins_info
  go_enter Try.func7, Try.ntmps7
  go_upto_region 4 with fail
  refine wp_at ?_
  intro W0 hW
  have B0 := Lib.hid (show CntBox w W0 (List.replicate 0 actI) none 0 from ⟨by rw [hW]; repeat (first | exact ext_refl _ | assumption | refine ext_more' ?_ _ _ | refine ext_drew ?_ | refine ext_drewN ?_ _ | refine ext_alloc ?_ _), at_new (by rw [hW]; repeat (first | exact ext_refl _ | assumption | refine ext_more' ?_ _ _ | refine ext_drew ?_ | refine ext_drewN ?_ _ | refine ext_alloc ?_ _)), ⟨rfl, .inl ⟨rfl, rfl⟩⟩⟩)
  clear hW hk
  go_loopg [20] k (fun g j wr => ∃ (i : Nat) (ms : Option Addr) (cap : Nat), j = .int .i64 i ∧ g + i = k ∧ CntBox w wr (List.replicate i actI) ms cap)
  case atStart => exact ⟨0, none, 0, rfl, by omega, B0.out⟩
  case round =>
    clear B0
    obtain ⟨j, ms, cap, rfl, hgj, hb⟩ := hrel
    obtain ⟨lc, hlc⟩ : ∃ lc, lc = List.replicate j actI := ⟨_, rfl⟩
    have hll : lc.length ≤ 20 := by rw [hlc, List.length_replicate]; omega
    rw [← hlc] at hb
    have HLC := Lib.hid hlc; have HB := Lib.hid hb
    clear hlc hb
    by_cases hj : j < k
    · have hj3 : (j : Int) < k := by omega
      have c := HB.out.2.1.1
      have f := HB.out.2.1.2
      have l := at_lt HB.out.2.1 (by simp)
      have M63 := Lib.hid (show (lc).length + 1 ≤ maxLen by unfold maxLen; omega); have M47 := Lib.hid (show ((lc).length + 1) * 56 ≤ 140737488355328 by omega)
      have hWr : w.heap.size + 1 ≤ wr.heap.size := by omega
      have HNI := Lib.hid (show ∀ w', Ext (wr.alloc (.cells #[.int .u8 10, .int .i64 1, .int .i64 0, .int .i64 0, .int .i64 0, .string oneS] 52)) w' → Rds w' (some ⟨wr.heap.size, 0, none⟩) 1 6 (([actI] : List Ins).flatMap insC) from fun w' h' => rds_new (X := wr) h' rfl)
      go_upto_region 6 with (at_builtin; refine list_app rfl (.tmp 23) (.tmp 25) 22 rfl (w.heap.size + 1) 52 i0 _ 6 56 Try.underlying22 hi0 hz0 hz1 hz2 rfl (by decide) (.slice ms (lc).length cap) (lc).length ((lc).flatMap insC) rfl (own_ext HB.out.2.2 (by repeat (first | exact ext_refl _ | assumption | refine ext_more' ?_ _ _ | refine ext_drew ?_ | refine ext_drewN ?_ _ | refine ext_alloc ?_ _))) _ 1 _ (([actI]).flatMap insC) rfl (HNI.out _ (by repeat (first | exact ext_refl _ | assumption | refine ext_more' ?_ _ _ | refine ext_drew ?_ | refine ext_drewN ?_ _ | refine ext_alloc ?_ _))) (flat_one oneCell_ins _) M63.out M47.out (by simp; omega) ?_; intro v4 w4 hown4 hg4; obtain ⟨ms', cap', rfl⟩ := own_slice hown4; have h4 := cnt_at HB.out (by repeat (first | exact ext_refl _ | assumption | refine ext_more' ?_ _ _ | refine ext_drew ?_ | refine ext_drewN ?_ _ | refine ext_alloc ?_ _)) hg4; have c4 := h4.1; have f4 := h4.2; have HOWN4 := Lib.hid hown4; have HG4 := Lib.hid hg4; clear hown4 hg4 h4)
      refine wp_at ?_
      intro W5 hW
      have HB5 := Lib.hid (cnt_put HB.out (by repeat (first | exact ext_refl _ | assumption | refine ext_more' ?_ _ _ | refine ext_drew ?_ | refine ext_drewN ?_ _ | refine ext_alloc ?_ _)) HG4.out HOWN4.out rfl hW)
      clear hW c f l c4 f4 HOWN4 HG4 HB HNI
      go_wp2
      go_roundg (gk - 1)
      case measure => omega
      case rel => exact ⟨j + 1, ms', cap', by go_num, by omega, by rw [List.replicate_succ', ← HLC.out]; exact HB5.out⟩
    · have hj3 : ¬ ((j : Int) < k) := by omega
      obtain rfl : k = j := by omega
      have hl0 : cntL k 0 = lc := by rw [HLC.out]; simp [cntL]
      have HB0 := Lib.hid (show CntBox w wr (cntL k 0) ms cap by rw [hl0]; exact HB.out)
      obtain ⟨k0, hk0, kz0, kz1, kz2⟩ := info_parts kno_info
      clear HLC HB hll hgj hj hl0
      go_upto_region 10 with fail
      go_loopg [7, 8, 9] k (fun g kv wv iv wr => ∃ (q : Nat) (ms : Option Addr) (cap : Nat) (ks : Option Addr) (kcap : Nat), iv = .int .i64 ((k - q : Nat) : Int) ∧ wv = .int .i64 (cntW V vlen k q) ∧ kv = .slice ks q kcap ∧ q ≤ k ∧ g + q = k ∧ CntBox w wr (cntL k q) ms cap ∧ wr.ownsRow (w.heap.size + 1) 47 3 (.slice ks q kcap) q (knoCs (cntK V vlen k q)))
      case atStart => exact ⟨0, ms, cap, none, 0, rfl, rfl, rfl, by omega, by omega, HB0.out, ⟨rfl, .inl ⟨rfl, rfl⟩⟩⟩
      case round =>
        clear HB0 hj3
        obtain ⟨q, ms, cap, ks, kcap, rfl, rfl, rfl, hqj, hgq, hb, hk⟩ := hrel
        obtain ⟨lc, hlc⟩ : ∃ lc, lc = cntL k q := ⟨_, rfl⟩
        obtain ⟨lk, hlk⟩ : ∃ lk, lk = cntK V vlen k q := ⟨_, rfl⟩
        have hlkl : lk.length = q := by rw [hlk, cntK_len]
        have hll : lc.length ≤ 100 := by rw [hlc, cntL_len]; omega
        rw [← hlc] at hb
        rw [← hlk] at hk
        generalize hm : k - q = m at *
        generalize hcw : cntW V vlen k q = cw at *
        subst hlkl
        have hlk20 : lk.length ≤ 20 := by omega
        have HB := Lib.hid hb; have HK := Lib.hid hk; have HM := Lib.hid hm; have HCW := Lib.hid hcw; have HLC := Lib.hid hlc; have HLK := Lib.hid hlk
        have hmq : m + lk.length = k := by omega
        clear hb hk hm hcw hlc hlk
        by_cases hq : 1 ≤ m
        · have hq3 : (1 : Int) ≤ m := by omega
          have K63 := Lib.hid (show lk.length + 1 ≤ maxLen by unfold maxLen; omega)
          have K47 := Lib.hid (show (lk.length + 1) * 24 ≤ 140737488355328 by omega)
          have M63 := Lib.hid (show (lc).length + 3 ≤ maxLen by unfold maxLen; omega); have M47 := Lib.hid (show ((lc).length + 3) * 56 ≤ 140737488355328 by omega)
          by_cases hv2 : m ≤ vlen
          · have hv3 : (m : Int) ≤ vlen := by omega
            obtain ⟨vb, vo, rfl, hvb, cv⟩ := num_cell HV.out HB.out.1 (show m - 1 < vlen by omega)
            have hvv : valF V vlen m = V (m - 1) := if_pos hv2
            generalize V (m - 1) = vv at *
            have HVV := Lib.hid hvv
            clear hvv
            go_upto_region 15 with fail
            refine wp_at ?_
            intro W2 hW
            have e2 : Ext wr W2 := by rw [hW]; repeat (first | exact ext_refl _ | assumption | refine ext_more' ?_ _ _ | refine ext_drew ?_ | refine ext_drewN ?_ _ | refine ext_alloc ?_ _)
            have HB2 := Lib.hid (cnt_ext HB.out e2); have HK2 := Lib.hid (own_ext HK.out e2)
            clear hW e2 HB HK
            have hW2 : w.heap.size + 1 ≤ W2.heap.size := by have := at_lt HB2.out.2.1 (by simp); omega
            have HNK := Lib.hid (show ∀ w', Ext (W2.alloc (.cells #[.int .i64 m, .int .i64 ((m : Int) % 3), .int .i64 vv] 47)) w' → Rds w' (some ⟨W2.heap.size, 0, none⟩) 1 3 (knoC ⟨m, ⟨(m : Int) % 3, vv⟩⟩) from fun w' h' => rds_new (X := W2) h' rfl)
            go_upto_region 16 with (at_builtin; refine list_app rfl (.tmp 44) (.tmp 51) 25 rfl (w.heap.size + 1) 47 k0 _ 3 24 Try.underlying25 hk0 kz0 kz1 kz2 rfl (by decide) (.slice ks lk.length kcap) lk.length (knoCs lk) rfl (own_ext HK2.out (by repeat (first | exact ext_refl _ | assumption | refine ext_more' ?_ _ _ | refine ext_drew ?_ | refine ext_drewN ?_ _ | refine ext_alloc ?_ _))) _ 1 _ (knoC _) rfl (HNK.out _ (by repeat (first | exact ext_refl _ | assumption | refine ext_more' ?_ _ _ | refine ext_drew ?_ | refine ext_drewN ?_ _ | refine ext_alloc ?_ _))) (oneCell_kno _) K63.out K47.out (by simp; omega) ?_; intro v4 w4 hown4 hg4; obtain ⟨ks', kcap', rfl⟩ := own_slice hown4; have HOWN4 := Lib.hid hown4; have HG4 := Lib.hid hg4; clear hown4 hg4)
            refine wp_at ?_
            intro W3 hW
            have HB3 := Lib.hid (show CntBox w W3 lc ms cap by rw [hW]; exact cnt_keep2 HB2.out HK2.out (by repeat (first | exact ext_refl _ | assumption | refine ext_more' ?_ _ _ | refine ext_drew ?_ | refine ext_drewN ?_ _ | refine ext_alloc ?_ _)) HG4.out)
            have HK3 := Lib.hid (show W3.ownsRow (w.heap.size + 1) 47 3 (.slice ks' (lk.length + 1) kcap') (lk.length + 1) (knoCs (lk ++ [⟨m, ⟨(m : Int) % 3, vv⟩⟩])) by rw [hW, knoCs_snoc]; exact HOWN4.out)
            clear hW HB2 HK2 HNK HOWN4 HG4 hW2
            go_upto_region 17 with fail
            have c := HB3.out.2.1.1
            have f := HB3.out.2.1.2
            have l := at_lt HB3.out.2.1 (by simp)
            have hW2 : w.heap.size + 1 ≤ W3.heap.size := by omega
            have HNI := Lib.hid (show ∀ w', Ext (W3.alloc (.cells #[.int .u8 1, .int .i64 2, .int .i64 0, .int .i64 0, .int .i64 m, .string ⟨#[]⟩, .int .u8 13, .int .i64 3, .int .i64 2, .int .i64 4, .int .i64 0, .string ⟨#[]⟩, .int .u8 3, .int .i64 5, .int .i64 5, .int .i64 3, .int .i64 0, .string ⟨#[]⟩] 52)) w' → Rds w' (some ⟨W3.heap.size, 0, none⟩) 3 6 (([setI m, wtI, addI] : List Ins).flatMap insC) from fun w' h' => rds_new (X := W3) h' rfl)
            go_upto_region 11 with (at_builtin; refine list_app rfl (.tmp 57) (.tmp 62) 22 rfl (w.heap.size + 1) 52 i0 _ 6 56 Try.underlying22 hi0 hz0 hz1 hz2 rfl (by decide) (.slice ms (lc).length cap) (lc).length ((lc).flatMap insC) rfl (own_ext HB3.out.2.2 (by repeat (first | exact ext_refl _ | assumption | refine ext_more' ?_ _ _ | refine ext_drew ?_ | refine ext_drewN ?_ _ | refine ext_alloc ?_ _))) _ 3 _ (([setI m, wtI, addI]).flatMap insC) rfl (HNI.out _ (by repeat (first | exact ext_refl _ | assumption | refine ext_more' ?_ _ _ | refine ext_drew ?_ | refine ext_drewN ?_ _ | refine ext_alloc ?_ _))) (flat_one oneCell_ins _) M63.out M47.out (by simp; omega) ?_; intro v4 w4 hown4 hg4; obtain ⟨ms', cap', rfl⟩ := own_slice hown4; have h4 := cnt_at HB3.out (by repeat (first | exact ext_refl _ | assumption | refine ext_more' ?_ _ _ | refine ext_drew ?_ | refine ext_drewN ?_ _ | refine ext_alloc ?_ _)) hg4; have c4 := h4.1; have f4 := h4.2; have HOWN4 := Lib.hid hown4; have HG4 := Lib.hid hg4; clear hown4 hg4 h4)
            refine wp_at ?_
            intro W5 hW
            have HB5 := Lib.hid (cnt_put HB3.out (by repeat (first | exact ext_refl _ | assumption | refine ext_more' ?_ _ _ | refine ext_drew ?_ | refine ext_drewN ?_ _ | refine ext_alloc ?_ _)) HG4.out HOWN4.out rfl hW)
            have HK5 := Lib.hid (cnt_keep HB3.out HK3.out (by repeat (first | exact ext_refl _ | assumption | refine ext_more' ?_ _ _ | refine ext_drew ?_ | refine ext_drewN ?_ _ | refine ext_alloc ?_ _)) HG4.out hW)
            clear hW c f l c4 f4 HOWN4 HG4 HB3 HK3 HNI hW2
            go_wp2
            go_roundg (gk - 1)
            case measure => omega
            case rel =>
              refine ⟨lk.length + 1, ms', cap', ks', kcap', ?_, ?_, rfl, by omega, by omega, ?_, ?_⟩
              · have : ((k - (lk.length + 1) : Nat) : Int) = (m : Int) - 1 := by omega
                rw [this]
              · show _ = Value.int .i64 (wrap64 (cntW V vlen k lk.length + valF V vlen (k - lk.length))); rw [HM.out, HCW.out, HVV.out]
              · rw [cntL_succ, HM.out, ← HLC.out]; exact HB5.out
              · rw [cntK_succ, HM.out, HVV.out, ← HLK.out]; exact HK5.out
          · have hv3 : ¬ ((m : Int) ≤ vlen) := by omega
            have HVV := Lib.hid (show valF V vlen m = m from if_neg hv2)
            go_upto_region 15 with fail
            refine wp_at ?_
            intro W2 hW
            have e2 : Ext wr W2 := by rw [hW]; repeat (first | exact ext_refl _ | assumption | refine ext_more' ?_ _ _ | refine ext_drew ?_ | refine ext_drewN ?_ _ | refine ext_alloc ?_ _)
            have HB2 := Lib.hid (cnt_ext HB.out e2); have HK2 := Lib.hid (own_ext HK.out e2)
            clear hW e2 HB HK
            have hW2 : w.heap.size + 1 ≤ W2.heap.size := by have := at_lt HB2.out.2.1 (by simp); omega
            have HNK := Lib.hid (show ∀ w', Ext (W2.alloc (.cells #[.int .i64 m, .int .i64 ((m : Int) % 3), .int .i64 (m : Int)] 47)) w' → Rds w' (some ⟨W2.heap.size, 0, none⟩) 1 3 (knoC ⟨m, ⟨(m : Int) % 3, (m : Int)⟩⟩) from fun w' h' => rds_new (X := W2) h' rfl)
            go_upto_region 16 with (at_builtin; refine list_app rfl (.tmp 44) (.tmp 51) 25 rfl (w.heap.size + 1) 47 k0 _ 3 24 Try.underlying25 hk0 kz0 kz1 kz2 rfl (by decide) (.slice ks lk.length kcap) lk.length (knoCs lk) rfl (own_ext HK2.out (by repeat (first | exact ext_refl _ | assumption | refine ext_more' ?_ _ _ | refine ext_drew ?_ | refine ext_drewN ?_ _ | refine ext_alloc ?_ _))) _ 1 _ (knoC _) rfl (HNK.out _ (by repeat (first | exact ext_refl _ | assumption | refine ext_more' ?_ _ _ | refine ext_drew ?_ | refine ext_drewN ?_ _ | refine ext_alloc ?_ _))) (oneCell_kno _) K63.out K47.out (by simp; omega) ?_; intro v4 w4 hown4 hg4; obtain ⟨ks', kcap', rfl⟩ := own_slice hown4; have HOWN4 := Lib.hid hown4; have HG4 := Lib.hid hg4; clear hown4 hg4)
            refine wp_at ?_
            intro W3 hW
            have HB3 := Lib.hid (show CntBox w W3 lc ms cap by rw [hW]; exact cnt_keep2 HB2.out HK2.out (by repeat (first | exact ext_refl _ | assumption | refine ext_more' ?_ _ _ | refine ext_drew ?_ | refine ext_drewN ?_ _ | refine ext_alloc ?_ _)) HG4.out)
            have HK3 := Lib.hid (show W3.ownsRow (w.heap.size + 1) 47 3 (.slice ks' (lk.length + 1) kcap') (lk.length + 1) (knoCs (lk ++ [⟨m, ⟨(m : Int) % 3, (m : Int)⟩⟩])) by rw [hW, knoCs_snoc]; exact HOWN4.out)
            clear hW HB2 HK2 HNK HOWN4 HG4 hW2
            go_upto_region 17 with fail
            have c := HB3.out.2.1.1
            have f := HB3.out.2.1.2
            have l := at_lt HB3.out.2.1 (by simp)
            have hW2 : w.heap.size + 1 ≤ W3.heap.size := by omega
            have HNI := Lib.hid (show ∀ w', Ext (W3.alloc (.cells #[.int .u8 1, .int .i64 2, .int .i64 0, .int .i64 0, .int .i64 m, .string ⟨#[]⟩, .int .u8 13, .int .i64 3, .int .i64 2, .int .i64 4, .int .i64 0, .string ⟨#[]⟩, .int .u8 3, .int .i64 5, .int .i64 5, .int .i64 3, .int .i64 0, .string ⟨#[]⟩] 52)) w' → Rds w' (some ⟨W3.heap.size, 0, none⟩) 3 6 (([setI m, wtI, addI] : List Ins).flatMap insC) from fun w' h' => rds_new (X := W3) h' rfl)
            go_upto_region 11 with (at_builtin; refine list_app rfl (.tmp 57) (.tmp 62) 22 rfl (w.heap.size + 1) 52 i0 _ 6 56 Try.underlying22 hi0 hz0 hz1 hz2 rfl (by decide) (.slice ms (lc).length cap) (lc).length ((lc).flatMap insC) rfl (own_ext HB3.out.2.2 (by repeat (first | exact ext_refl _ | assumption | refine ext_more' ?_ _ _ | refine ext_drew ?_ | refine ext_drewN ?_ _ | refine ext_alloc ?_ _))) _ 3 _ (([setI m, wtI, addI]).flatMap insC) rfl (HNI.out _ (by repeat (first | exact ext_refl _ | assumption | refine ext_more' ?_ _ _ | refine ext_drew ?_ | refine ext_drewN ?_ _ | refine ext_alloc ?_ _))) (flat_one oneCell_ins _) M63.out M47.out (by simp; omega) ?_; intro v4 w4 hown4 hg4; obtain ⟨ms', cap', rfl⟩ := own_slice hown4; have h4 := cnt_at HB3.out (by repeat (first | exact ext_refl _ | assumption | refine ext_more' ?_ _ _ | refine ext_drew ?_ | refine ext_drewN ?_ _ | refine ext_alloc ?_ _)) hg4; have c4 := h4.1; have f4 := h4.2; have HOWN4 := Lib.hid hown4; have HG4 := Lib.hid hg4; clear hown4 hg4 h4)
            refine wp_at ?_
            intro W5 hW
            have HB5 := Lib.hid (cnt_put HB3.out (by repeat (first | exact ext_refl _ | assumption | refine ext_more' ?_ _ _ | refine ext_drew ?_ | refine ext_drewN ?_ _ | refine ext_alloc ?_ _)) HG4.out HOWN4.out rfl hW)
            have HK5 := Lib.hid (cnt_keep HB3.out HK3.out (by repeat (first | exact ext_refl _ | assumption | refine ext_more' ?_ _ _ | refine ext_drew ?_ | refine ext_drewN ?_ _ | refine ext_alloc ?_ _)) HG4.out hW)
            clear hW c f l c4 f4 HOWN4 HG4 HB3 HK3 HNI hW2
            go_wp2
            go_roundg (gk - 1)
            case measure => omega
            case rel =>
              refine ⟨lk.length + 1, ms', cap', ks', kcap', ?_, ?_, rfl, by omega, by omega, ?_, ?_⟩
              · have : ((k - (lk.length + 1) : Nat) : Int) = (m : Int) - 1 := by omega
                rw [this]
              · show _ = Value.int .i64 (wrap64 (cntW V vlen k lk.length + valF V vlen (k - lk.length))); rw [HM.out, HCW.out, HVV.out]
              · rw [cntL_succ, HM.out, ← HLC.out]; exact HB5.out
              · rw [cntK_succ, HM.out, HVV.out, ← HLK.out]; exact HK5.out
        · obtain rfl : 0 = m := by omega
          have hq3 : ¬ ((1 : Int) ≤ (0 : Nat)) := by omega
          have c := HB.out.2.1.1
          have f := HB.out.2.1.2
          have l := at_lt HB.out.2.1 (by simp)
          have M63 := Lib.hid (show (lc).length + 1 ≤ maxLen by unfold maxLen; omega); have M47 := Lib.hid (show ((lc).length + 1) * 56 ≤ 140737488355328 by omega)
          have hWr : w.heap.size + 1 ≤ wr.heap.size := by omega
          obtain rfl : lk.length = k := by omega
          have HNI := Lib.hid (show ∀ w', Ext (wr.alloc (.cells #[.int .u8 15, .int .i64 5, .int .i64 0, .int .i64 0, .int .i64 0, .string ⟨#[]⟩] 52)) w' → Rds w' (some ⟨wr.heap.size, 0, none⟩) 1 6 (([doneI] : List Ins).flatMap insC) from fun w' h' => rds_new (X := wr) h' rfl)
          go_upto_region 19 with (at_builtin; refine list_app rfl (.tmp 66) (.tmp 68) 22 rfl (w.heap.size + 1) 52 i0 _ 6 56 Try.underlying22 hi0 hz0 hz1 hz2 rfl (by decide) (.slice ms (lc).length cap) (lc).length ((lc).flatMap insC) rfl (own_ext HB.out.2.2 (by repeat (first | exact ext_refl _ | assumption | refine ext_more' ?_ _ _ | refine ext_drew ?_ | refine ext_drewN ?_ _ | refine ext_alloc ?_ _))) _ 1 _ (([doneI]).flatMap insC) rfl (HNI.out _ (by repeat (first | exact ext_refl _ | assumption | refine ext_more' ?_ _ _ | refine ext_drew ?_ | refine ext_drewN ?_ _ | refine ext_alloc ?_ _))) (flat_one oneCell_ins _) M63.out M47.out (by simp; omega) ?_; intro v4 w4 hown4 hg4; obtain ⟨ms', cap', rfl⟩ := own_slice hown4; have h4 := cnt_at HB.out (by repeat (first | exact ext_refl _ | assumption | refine ext_more' ?_ _ _ | refine ext_drew ?_ | refine ext_drewN ?_ _ | refine ext_alloc ?_ _)) hg4; have c4 := h4.1; have f4 := h4.2; have HOWN4 := Lib.hid hown4; have HG4 := Lib.hid hg4; clear hown4 hg4 h4)
          refine wp_at ?_
          intro W5 hW
          have HB5 := Lib.hid (cnt_put HB.out (by repeat (first | exact ext_refl _ | assumption | refine ext_more' ?_ _ _ | refine ext_drew ?_ | refine ext_drewN ?_ _ | refine ext_alloc ?_ _)) HG4.out HOWN4.out rfl hW)
          have HK5 := Lib.hid (cnt_keep HB.out HK.out (by repeat (first | exact ext_refl _ | assumption | refine ext_more' ?_ _ _ | refine ext_drew ?_ | refine ext_drewN ?_ _ | refine ext_alloc ?_ _)) HG4.out hW)
          have hlc : lc ++ [doneI] = cntC lk.length := by rw [HLC.out]; rfl
          rw [hlc] at HB5
          have hll2 : lc.length + 1 = (cntC lk.length).length := by rw [← hlc]; simp
          rw [hll2]
          clear hW c f l c4 f4 HOWN4 HG4 HB HK HNI hWr hll2 hlc
          have c := HB5.out.2.1.1
          have l := at_lt HB5.out.2.1 (by simp)
          have RI := Lib.hid (rows_of_own (g := insC) (fun _ => rfl) HB5.out.2.2)
          have RK := Lib.hid (rows_of_own (g := knoC) (fun _ => rfl) HK5.out)
          have Hc := Lib.hid (show checkN sumS 6 (cntC lk.length).length (fun i => (cntC lk.length).getD i default) 20 = true from cnt_check _ hk20)
          have HE := Lib.hid (show runE sumS 6 (cntC lk.length).length (fun i => (cntC lk.length).getD i default) 10000 = 0 by unfold runE; rw [Hc.out]; rfl)
          have hlkk : lk = cntK V vlen lk.length lk.length := HLK.out
          obtain ⟨y, hy, y1, y2, y3, y4⟩ := cnt_run lk.length hk20 V vlen (lookK (fun i => lk.getD i default) lk.length) (sgF (fun _ => 0) 0) (by
            intro q hq
            have := cnt_look V vlen lk.length q hq
            rw [← hlkk] at this; exact this)
          have HYS := Lib.hid (show runS sumS 6 (cntC lk.length).length (fun i => (cntC lk.length).getD i default) (lookK (fun i => lk.getD i default) lk.length) (sgF (fun _ => 0) 0) 9 10000 = y by
            unfold runS; rw [Hc.out, if_pos rfl, if_pos (by decide)]; exact hy)
          have HY := Lib.hid (And.intro y1 (And.intro y2 (And.intro y3 y4)))
          clear hy y1 y2 y3 y4 hlkk
          go_wp2_with fail
          refine (run_callsC sumS 6 9 10000 ms' ks none _ cap' lk.length kcap 0 0 (fun i => (cntC lk.length).getD i default) (fun i => lk.getD i default) (fun _ => 0) _ RI.out RK.out (fun h => absurd h (by decide)) (by omega)).mono ?_
          rw [HYS.out, HE.out]
          rintro e w6 hp
          obtain ⟨h1, h2, h3, h4⟩ := HY.out
          obtain ⟨msq, capq, on, sig, steps, rfl, hb, hr⟩ := cnt_post hp h1 h2 (h3.trans HCW.out) h4
          clear hp h1 h2 h3 h4 HY c l
          go_upto_region 20 with fail
          refine wp_at ?_
          intro W6 hW
          have e6 : Ext w6 W6 := by rw [hW]; repeat (first | exact ext_refl _ | assumption | refine ext_more' ?_ _ _ | refine ext_drew ?_ | refine ext_drewN ?_ _ | refine ext_alloc ?_ _)
          have a11 := at_new (by rw [hW]; repeat (first | exact ext_refl _ | assumption | refine ext_more' ?_ _ _ | refine ext_drew ?_ | refine ext_drewN ?_ _ | refine ext_alloc ?_ _) : Ext (World.alloc w6 (.cells _ _)) W6)
          have RQ := Lib.hid (rows_on2 hr e6)
          have HBX := Lib.hid (show Ext (World.alloc w6 (.cells _ _)) W6 by rw [hW]; repeat (first | exact ext_refl _ | assumption | refine ext_more' ?_ _ _ | refine ext_drew ?_ | refine ext_drewN ?_ _ | refine ext_alloc ?_ _))
          have HBw := Lib.hid (cnt_ext HB5.out hb)
          have RIw := Lib.hid (rows_on2 RI.out hb)
          have RKw := Lib.hid (rows_on2 RK.out hb)
          have e56 := ext_trans hb e6
          have np : w.heap.size < w6.heap.size := by have := at_lt HB5.out.2.1 (by simp); have := hb.size; omega
          have HB6 := Lib.hid (cnt_ext HB5.out e56)
          have HK6 := Lib.hid (own_ext HK5.out e56)
          have RI6 := Lib.hid (rows_on2 RI.out e56)
          have RK6 := Lib.hid (rows_on2 RK.out e56)
          clear hW e6 e56 hb hr HB5 HK5 RI RK HYS
          have k11 := a11.1
          have l11 := at_lt a11 (by simp)
          go_upto_region 23 with fail
          have HX6 := Lib.hid (ext_refl W6)
          go_loopg [101] lk.length (fun g iv wr => ∃ (i : Nat), iv = .int .i64 i ∧ g + i = lk.length ∧ Ext W6 wr)
          case atStart => exact ⟨0, rfl, by omega, HX6.out⟩
          case round =>
            clear HX6 k11 l11
            obtain ⟨i, rfl, hgi, hx⟩ := hrel
            have HX := Lib.hid hx; clear hx
            by_cases hi : i < lk.length
            · have hi3 : (i : Int) < lk.length := by omega
              obtain ⟨bq, oq, rfl, hbq, d0, d1, d2, d3, d4⟩ := cmd_cells RQ.out HX.out hi
              simp only at d0 d1 d2 d3 d4
              go_wp2
              go_roundg (gk - 1)
              case measure => omega
              case rel => exact ⟨i + 1, by go_num, by omega, by have hx := HX.out; repeat (first | exact ext_refl _ | assumption | refine ext_more' ?_ _ _ | refine ext_drew ?_ | refine ext_drewN ?_ _ | refine ext_alloc ?_ _)⟩
            · have hi3 : ¬ ((i : Int) < lk.length) := by omega
              by_cases hp : 0 < lk.length
              · have hp3 : (0 : Int) < lk.length := by omega
                go_upto_region 29 with fail
                have HKC := (cap_of_own HK6.out).1
                have RK7' := rows_cut RKw.out (show 1 ≤ lk.length by omega) HKC
                have XF := ext_trans HBX.out HX.out
                by_cases hk1 : kcap = 1
                · subst hk1
                  rw [if_pos rfl] at RK7'
                  have RK7 := Lib.hid RK7'
                  clear RK7'
                  have hc1 : (1 : Int) ≤ (1 : Nat) := by omega
                  have hl1 : (1 : Int) ≤ lk.length := by omega
                  have hlkk : lk = cntK V vlen lk.length lk.length := HLK.out
                  obtain ⟨y, hy, y1, y2⟩ := cnt_wait lk.length hk20 hp (lookK (fun i => lk.getD (i + 1) default) (lk.length - 1)) (sgF (fun _ => 0) 0) (by
                    have := cnt_look1 V vlen lk.length hp
                    rw [← hlkk] at this; exact this)
                  have HYS := Lib.hid (show runS sumS 6 (cntC lk.length).length (fun i => (cntC lk.length).getD i default) (lookK (fun i => lk.getD (i + 1) default) (lk.length - 1)) (sgF (fun _ => 0) 0) 9 10000 = y by
                    unfold runS; rw [Hc.out, if_pos rfl, if_pos (by decide)]; exact hy)
                  have HY := Lib.hid (And.intro y1 y2)
                  clear hy y1 y2 hlkk hi3 hgi HKC
                  have KB := fun w' (h : Ext w6 w') => (at_ext HBw.out.2.1 (by simp) h).1
                  have lB := at_lt HBw.out.2.1 (by simp)
                  obtain ⟨r0, d0, rfl⟩ := ext_form XF
                  clear XF a11
                  have kB := KB _ (by repeat (first | exact ext_refl _ | assumption | refine ext_more' ?_ _ _ | refine ext_drew ?_ | refine ext_drewN ?_ _ | refine ext_alloc ?_ _))
                  go_region_held3 (fun w' => Ext w6 w') (repeat (first | exact ext_refl _ | assumption | refine ext_more' ?_ _ _ | refine ext_drew ?_ | refine ext_drewN ?_ _ | refine ext_alloc ?_ _)) ((go_at_call 17; refine (run_callsC sumS 6 9 10000 ms' _ none _ cap' _ _ 0 0 (fun i => (cntC lk.length).getD i default) (fun i => lk.getD (i + 1) default) (fun _ => 0) _ (rows_on2 RIw.out (by repeat (first | exact ext_refl _ | assumption | refine ext_more' ?_ _ _ | refine ext_drew ?_ | refine ext_drewN ?_ _ | refine ext_alloc ?_ _))) (rows_on2 RK7.out (by repeat (first | exact ext_refl _ | assumption | refine ext_more' ?_ _ _ | refine ext_drew ?_ | refine ext_drewN ?_ _ | refine ext_alloc ?_ _))) (fun h => absurd h (by decide)) (by omega)).mono ?_; rw [HYS.out, HE.out]; rintro e w8 hp8; obtain ⟨msz, lz, cz, oz, vz, sz, tz, rfl, hb8⟩ := cnt_post2 hp8 HY.out.1 HY.out.2; obtain ⟨r, d, rfl⟩ := ext_form hb8; clear hp8 hb8))
                  all_goals
                    refine then_at ?_
                    intro W9 hW
                    have hx9 : Ext w W9 := by rw [hW]; exact ext_trans HBw.out.1 (by repeat (first | exact ext_refl _ | assumption | refine ext_more' ?_ _ _ | refine ext_drew ?_ | refine ext_drewN ?_ _ | refine ext_alloc ?_ _))
                    have a9 := at_new (by rw [hW]; repeat (first | exact ext_refl _ | assumption | refine ext_more' ?_ _ _ | refine ext_drew ?_ | refine ext_drewN ?_ _ | refine ext_alloc ?_ _) : Ext (World.alloc w6 (.cells _ _)) W9)
                    have k9 := a9.1
                    have l9 := at_lt a9 (by simp)
                    clear hW
                    go_wp2_with (go_at_call 11; refine (awake10_calls _).mono ?_; rintro e w1 ⟨rfl, hb⟩; obtain ⟨r, d, rfl⟩ := ext_form hb; clear hb)
                    go_ret
                    exact ⟨rfl, by have hx := hx9; repeat (first | exact ext_refl _ | assumption | refine ext_more' ?_ _ _ | refine ext_drew ?_ | refine ext_drewN ?_ _ | refine ext_alloc ?_ _)⟩
                · rw [if_neg hk1] at RK7'
                  have RK7 := Lib.hid RK7'
                  clear RK7'
                  have hc1 : (1 : Int) ≤ kcap := by omega
                  have hl1 : (1 : Int) ≤ lk.length := by omega
                  have hlkk : lk = cntK V vlen lk.length lk.length := HLK.out
                  obtain ⟨y, hy, y1, y2⟩ := cnt_wait lk.length hk20 hp (lookK (fun i => lk.getD (i + 1) default) (lk.length - 1)) (sgF (fun _ => 0) 0) (by
                    have := cnt_look1 V vlen lk.length hp
                    rw [← hlkk] at this; exact this)
                  have HYS := Lib.hid (show runS sumS 6 (cntC lk.length).length (fun i => (cntC lk.length).getD i default) (lookK (fun i => lk.getD (i + 1) default) (lk.length - 1)) (sgF (fun _ => 0) 0) 9 10000 = y by
                    unfold runS; rw [Hc.out, if_pos rfl, if_pos (by decide)]; exact hy)
                  have HY := Lib.hid (And.intro y1 y2)
                  clear hy y1 y2 hlkk hi3 hgi HKC
                  have KB := fun w' (h : Ext w6 w') => (at_ext HBw.out.2.1 (by simp) h).1
                  have lB := at_lt HBw.out.2.1 (by simp)
                  obtain ⟨r0, d0, rfl⟩ := ext_form XF
                  clear XF a11
                  have kB := KB _ (by repeat (first | exact ext_refl _ | assumption | refine ext_more' ?_ _ _ | refine ext_drew ?_ | refine ext_drewN ?_ _ | refine ext_alloc ?_ _))
                  go_region_held3 (fun w' => Ext w6 w') (repeat (first | exact ext_refl _ | assumption | refine ext_more' ?_ _ _ | refine ext_drew ?_ | refine ext_drewN ?_ _ | refine ext_alloc ?_ _)) ((go_at_call 17; refine (run_callsC sumS 6 9 10000 ms' _ none _ cap' _ _ 0 0 (fun i => (cntC lk.length).getD i default) (fun i => lk.getD (i + 1) default) (fun _ => 0) _ (rows_on2 RIw.out (by repeat (first | exact ext_refl _ | assumption | refine ext_more' ?_ _ _ | refine ext_drew ?_ | refine ext_drewN ?_ _ | refine ext_alloc ?_ _))) (rows_on2 RK7.out (by repeat (first | exact ext_refl _ | assumption | refine ext_more' ?_ _ _ | refine ext_drew ?_ | refine ext_drewN ?_ _ | refine ext_alloc ?_ _))) (fun h => absurd h (by decide)) (by omega)).mono ?_; rw [HYS.out, HE.out]; rintro e w8 hp8; obtain ⟨msz, lz, cz, oz, vz, sz, tz, rfl, hb8⟩ := cnt_post2 hp8 HY.out.1 HY.out.2; obtain ⟨r, d, rfl⟩ := ext_form hb8; clear hp8 hb8))
                  all_goals
                    refine then_at ?_
                    intro W9 hW
                    have hx9 : Ext w W9 := by rw [hW]; exact ext_trans HBw.out.1 (by repeat (first | exact ext_refl _ | assumption | refine ext_more' ?_ _ _ | refine ext_drew ?_ | refine ext_drewN ?_ _ | refine ext_alloc ?_ _))
                    have a9 := at_new (by rw [hW]; repeat (first | exact ext_refl _ | assumption | refine ext_more' ?_ _ _ | refine ext_drew ?_ | refine ext_drewN ?_ _ | refine ext_alloc ?_ _) : Ext (World.alloc w6 (.cells _ _)) W9)
                    have k9 := a9.1
                    have l9 := at_lt a9 (by simp)
                    clear hW
                    go_wp2_with (go_at_call 11; refine (awake10_calls _).mono ?_; rintro e w1 ⟨rfl, hb⟩; obtain ⟨r, d, rfl⟩ := ext_form hb; clear hb)
                    go_ret
                    exact ⟨rfl, by have hx := hx9; repeat (first | exact ext_refl _ | assumption | refine ext_more' ?_ _ _ | refine ext_drew ?_ | refine ext_drewN ?_ _ | refine ext_alloc ?_ _)⟩
              · have hp3 : ¬ ((0 : Int) < lk.length) := by omega
                go_wp2_with (go_at_call 11; refine (awake10_calls _).mono ?_; rintro e w1 ⟨rfl, hb⟩; obtain ⟨r, d, rfl⟩ := ext_form hb; clear hb)
                go_ret
                exact ⟨rfl, by have hx := ext_trans HB6.out.1 HX.out; repeat (first | exact ext_refl _ | assumption | refine ext_more' ?_ _ _ | refine ext_drew ?_ | refine ext_drewN ?_ _ | refine ext_alloc ?_ _)⟩
end Go.Proofs.Ytpfkpdimjljeaaa

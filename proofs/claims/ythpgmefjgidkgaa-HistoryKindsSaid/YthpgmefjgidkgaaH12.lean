/- How a command ended. -/
import Derived.Test.YthpgmefjgidkgaaWv
import Derived.Test.YthpgmefjgidkgaaG12
namespace Go.Proofs.Ythpgmefjgidkgaa
open Go.RowKit
set_option linter.unusedVariables false
set_option linter.unusedSimpArgs false

/-- Where a history's lists lie. -/
structure Hm where
  cs : Option Addr
  cc : Nat
  ts : Option Addr
  tc : Nat
  ks : Option Addr
  kc : Nat
  ss : Option Addr
  sc : Nat
/-- A history lies in memory. -/
def HsIn (w : World) (h : Hs) (m : Hm) : Prop :=
  Rows_ w m.cs h.cmds.length 5 (fun i => cmdC (h.cmds.getD i default)) ∧ Rows_ w m.ts h.tries.length 1 (fun i => numC (h.tries.getD i default)) ∧ Rows_ w m.ks h.known.length 3 (fun i => knoC (h.known.getD i default)) ∧ Rows_ w m.ss h.sigs.length 1 (fun i => numC (h.sigs.getD i default)) ∧
    h.cmds.length ≤ m.cc ∧ h.tries.length ≤ m.tc ∧ h.known.length ≤ m.kc ∧ h.sigs.length ≤ m.sc
/-- .. and is no longer than it may be. -/
def HsSm (h : Hs) : Prop := h.cmds.length ≤ 1000000 ∧ h.tries.length ≤ 1000000 ∧ h.known.length ≤ 1000000 ∧ h.sigs.length ≤ 1000000
theorem rows_on {w W1 : World} {s : Option Addr} {len n : Nat} {f : Nat → List Value} (h : Rows_ w s len n f) (hx : Ext w W1) : Rows_ W1 s len n f := rows_on2 h hx
theorem HsIn.ext {w w' : World} {h : Hs} {m : Hm} (hi : HsIn w h m) (hx : Ext w w') : HsIn w' h m := by
  obtain ⟨h1, h2, h3, h4, h5⟩ := hi
  exact ⟨rows_on2 h1 hx, rows_on2 h2 hx, rows_on2 h3 hx, rows_on2 h4 hx, h5⟩
theorem isn_calls (k st v m : Int) (bn : Nat) (w : World) (ln : bn < w.heap.size) (cn : w.cell? ⟨bn, 0, none⟩ = some (.int .i64 m)) :
    Calls Try.prog 43 #[.agg #[.int .i64 k, .int .i64 st, .int .i64 v], .pointer (some ⟨bn, 0, none⟩)] w fun e w' => e = .returned (.bool (decide (k = m))) ∧ Ext w w' := by
  go_enter Try.func43, Try.ntmps43
  go_wp2
  go_ret
  exact ⟨by first | rfl | simp, by repeat (first | exact ext_refl _ | assumption | refine ext_more' ?_ _ _ | refine ext_drew ?_ | refine ext_drewN ?_ _ | refine ext_alloc ?_ _)⟩
set_option maxRecDepth 100000 in
set_option maxHeartbeats 4000000 in
theorem index_calls (s : Option Addr) (cap : Nat) (L : List Kno) (m : Int) (bn : Nat) (w : World) (ln : bn < w.heap.size) (cn : w.cell? ⟨bn, 0, none⟩ = some (.int .i64 m)) (hlen : L.length ≤ 1000000) (hrows : Rows_ w s L.length 3 (fun i => knoC (L.getD i default))) :
    Calls Try.prog 42 #[.slice s L.length cap, .func (.func 43) #[] #[.pointer (some ⟨bn, 0, none⟩)]] w fun e w' => e = .returned (.int .i64 (idxI (knI L m))) ∧ Ext w w' := by
  have HROWS := Lib.hid hrows; clear hrows
  go_enter Try.func42, Try.ntmps42
  go_wp2_with fail
  go_loopg [8] L.length (fun g k wr => ∃ (i : Nat) (r : Array Obj) (d : Nat), wr = more w r d ∧ k = .int .i64 i ∧ g + i = L.length ∧ ∀ j, j < i → (L.getD j default).n ≠ m)
  case atStart => exact ⟨0, ext_ex (ext_refl _) ⟨rfl, by omega, fun j hj => by omega⟩⟩
  case round =>
    obtain ⟨i, r, d, rfl, rfl, hgi, hall⟩ := hrel
    have HALL := Lib.hid hall; clear hall
    by_cases hi : i < L.length
    · obtain ⟨b, o, rfl, hb, c0, c1, c2⟩ := kno_cells HROWS.out (ext_refl w) hi
      have hi3 : (i : Int) < L.length := by omega
      have hcn : (more w r d).cell? ⟨bn, 0, none⟩ = some (.int .i64 m) := by rw [more_cell _ _ _ _ _ ln]; exact cn
      have hln : bn < (more w r d).heap.size := by simp; omega
      have HK0 := Lib.hid (fun h => knI_some (m := m) hi h HALL.out)
      obtain ⟨kk, hkk⟩ : ∃ kk, kk = L.getD i default := ⟨_, rfl⟩
      rw [← hkk] at c0 c1 c2 HK0
      have HKK := Lib.hid hkk; clear hkk
      by_cases hk : kk.n = m
      · have HK := Lib.hid (HK0.out hk)
        have HB := Lib.hid (show decide (kk.n = m) = true by simpa using hk)
        clear hk HK0
        go_wp2_with (go_at_call 43; refine (isn_calls _ _ _ m bn _ hln hcn).mono ?_; rw [HB.out]; rintro e w1 ⟨rfl, hb⟩; obtain ⟨r, d, rfl⟩ := ext_form hb; clear hb)
        go_ret
        refine ⟨?_, by repeat (first | exact ext_refl _ | assumption | refine ext_more' ?_ _ _ | refine ext_drew ?_ | refine ext_drewN ?_ _ | refine ext_alloc ?_ _)⟩
        refine ret_int ?_
        rw [HK.out]; rfl
      · have HB := Lib.hid (show decide (kk.n = m) = false by simpa using hk)
        have HK := Lib.hid hk
        clear hk HK0
        go_wp2_with (go_at_call 43; refine (isn_calls _ _ _ m bn _ hln hcn).mono ?_; rw [HB.out]; rintro e w1 ⟨rfl, hb⟩; obtain ⟨r, d, rfl⟩ := ext_form hb; clear hb)
        go_roundg (gk - 1)
        case measure => omega
        case rel => exact ⟨i + 1, ext_ex (by repeat (first | exact ext_refl _ | assumption | refine ext_more' ?_ _ _ | refine ext_drew ?_ | refine ext_drewN ?_ _ | refine ext_alloc ?_ _)) ⟨by go_num, by omega, fun j hj => by
          rcases Nat.lt_succ_iff_lt_or_eq.1 hj with h | rfl
          · exact HALL.out j h
          · rw [← HKK.out]; exact HK.out⟩⟩
    · have hi3 : ¬ ((i : Int) < L.length) := by omega
      have HK := Lib.hid (knI_none (L := L) (m := m) (fun j hj => HALL.out j (by omega)))
      go_wp2
      go_ret
      refine ⟨?_, by repeat (first | exact ext_refl _ | assumption | refine ext_more' ?_ _ _ | refine ext_drew ?_ | refine ext_drewN ?_ _ | refine ext_alloc ?_ _)⟩
      refine ret_int ?_
      rw [HK.out]; rfl
/-- What Over answers. -/
def ovV (o : Option Out) : Value := .tuple #[.agg #[.int .i64 (o.getD ⟨0, 0⟩).st, .int .i64 (o.getD ⟨0, 0⟩).v], .bool o.isSome]
set_option maxRecDepth 100000 in
set_option maxHeartbeats 4000000 in
theorem over_calls (h : Hs) (m : Hm) (n : Int) (w : World) (hi : HsIn w h m) (hs : HsSm h) : Calls Try.prog 14 #[.agg #[.string h.prog, .int .i64 h.arg, .slice m.cs h.cmds.length m.cc, .slice m.ts h.tries.length m.tc, .slice m.ks h.known.length m.kc, .slice m.ss h.sigs.length m.sc, .bool h.stopped, .bool h.closed, .int .i64 h.out.st, .int .i64 h.out.v, .int .i64 h.len, .int .i64 h.last], .int .i64 n] w fun e w' => e = .returned (ovV (knO h.known n)) ∧ Ext w w' := by
  obtain ⟨prog, arg, cmds, tries, known, sigs, stopped, closed, ⟨ost, ov⟩, len, last⟩ := h
  obtain ⟨cs, cc, ts, tc, ks, kc, ss, sc⟩ := m
  have HR := Lib.hid hi.2.2.1
  have hk : known.length ≤ 1000000 := hs.2.2.1
  have hcap : known.length ≤ kc := hi.2.2.2.2.2.2.1
  clear hi hs
  have HSP := Lib.hid (knI_spec known n)
  go_enter Try.func14, Try.ntmps14
  go_upto_region 1 with fail
  refine wp_at ?_
  intro W1 hW
  have hx := Lib.hid (show Ext w W1 by rw [hW]; repeat (first | exact ext_refl _ | assumption | refine ext_more' ?_ _ _ | refine ext_drew ?_ | refine ext_drewN ?_ _ | refine ext_alloc ?_ _))
  have b0 := at_new (by rw [hW]; repeat (first | exact ext_refl _ | assumption | refine ext_more' ?_ _ _ | refine ext_drew ?_ | refine ext_drewN ?_ _ | refine ext_alloc ?_ _) : Ext (World.alloc w (.cells _ _)) W1)
  have b1 := at_new (by rw [hW]; repeat (first | exact ext_refl _ | assumption | refine ext_more' ?_ _ _ | refine ext_drew ?_ | refine ext_drewN ?_ _ | refine ext_alloc ?_ _) : Ext ((World.alloc w (.cells _ _)).alloc (.cells _ _)) W1)
  have HB2 := Lib.hid (show Ext (((World.alloc w (.cells _ _)).alloc (.cells _ _)).alloc (.cells _ _)) W1 by rw [hW]; repeat (first | exact ext_refl _ | assumption | refine ext_more' ?_ _ _ | refine ext_drew ?_ | refine ext_drewN ?_ _ | refine ext_alloc ?_ _))
  simp only [sz_alloc] at b1
  clear hW
  have k0 := b0.1
  have k1 := b1.1
  have l0 := at_lt b0 (by simp)
  have l1 := at_lt b1 (by simp)
  have k10 := k1 0
  have HR1 := Lib.hid (rows_on2 HR.out hx.out)
  go_wp2_with fail
  refine (index_calls ks kc known n (w.heap.size + 1) _ l1 k10 hk HR1.out).mono ?_
  rintro e w2 ⟨rfl, hb⟩
  have b0' := at_ext b0 (by simp) hb
  have HR2 := Lib.hid (rows_on2 HR1.out hb)
  have X2 := Lib.hid (ext_trans hx.out hb)
  have HB3 := Lib.hid (ext_trans HB2.out hb)
  clear b0 b1 k0 k1 l0 l1 k10 hb HR1 hx HB2 HR
  have k0 := b0'.1
  have l0 := at_lt b0' (by simp)
  obtain ⟨r, d, rfl⟩ := ext_form HB3.out
  rcases HSP.out with ⟨h1, h2, h3⟩ | ⟨i, h0, h1, h2, h3, h4⟩
  · have HO := Lib.hid h2
    rw [h1]
    clear h1 h2 h3
    simp only [idxI]
    go_wp2
    refine post_at ?_
    intro W5 hW
    have hx5 : Ext w W5 := by rw [hW]; repeat (first | exact ext_refl _ | assumption | refine ext_more' ?_ _ _ | refine ext_drew ?_ | refine ext_drewN ?_ _ | refine ext_alloc ?_ _)
    have b5 := at_new (by rw [hW]; repeat (first | exact ext_refl _ | assumption | refine ext_more' ?_ _ _ | refine ext_drew ?_ | refine ext_drewN ?_ _ | refine ext_alloc ?_ _) : Ext (((World.alloc w (.cells _ _)).alloc (.cells _ _)).alloc (.cells _ _)) W5)
    simp only [sz_alloc] at b5
    clear hW
    have k5 := b5.1
    refine bodyPost_ret (by simp [results, Try.results14, go_sem, k5]; rfl) rfl ?_
    exact ⟨by simp [ovV, HO.out], hx5⟩
  · have HO := Lib.hid h2
    rw [h1]
    obtain ⟨b, o, rfl, hb, c0, c1, c2⟩ := kno_cells HR2.out (ext_refl _) h0
    have hi3 : (i : Int) < known.length := by omega
    clear h1 h2 h3 h4
    simp only [idxI]
    go_wp2
    refine post_at ?_
    intro W5 hW
    have hx5 : Ext w W5 := by rw [hW]; repeat (first | exact ext_refl _ | assumption | refine ext_more' ?_ _ _ | refine ext_drew ?_ | refine ext_drewN ?_ _ | refine ext_alloc ?_ _)
    have b5 := at_new (by rw [hW]; repeat (first | exact ext_refl _ | assumption | refine ext_more' ?_ _ _ | refine ext_drew ?_ | refine ext_drewN ?_ _ | refine ext_alloc ?_ _) : Ext (((World.alloc w (.cells _ _)).alloc (.cells _ _)).alloc (.cells _ _)) W5)
    simp only [sz_alloc] at b5
    clear hW
    have k5 := b5.1
    refine bodyPost_ret (by simp [results, Try.results14, go_sem, k5]; rfl) rfl ?_
    exact ⟨by rw [HO.out]; simp [ovV, List.getElem?_eq_getElem h0], hx5⟩
end Go.Proofs.Ythpgmefjgidkgaa

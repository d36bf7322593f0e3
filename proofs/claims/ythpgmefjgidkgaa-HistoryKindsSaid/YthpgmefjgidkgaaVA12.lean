/- The laws' helpers of layer 12. -/
import Derived.Test.YthpgmefjgidkgaaI12
import Derived.Test.YthpgmefjgidkgaaS12b
import Derived.Test.YthpgmefjgidkgaaWj
namespace Go.Proofs.Ythpgmefjgidkgaa
open Go.RowKit
set_option linter.unusedVariables false
set_option linter.unusedSimpArgs false

set_option maxRecDepth 100000 in
set_option maxHeartbeats 4000000 in
theorem samecmds_c (s1 s2 : Option Addr) (c1 c2 : Nat) (L : List Cmd) (w : World) (hl : L.length ≤ 1000000) (h1 : Rows_ w s1 L.length 5 (fun i => cmdC (L.getD i default))) (h2 : Rows_ w s2 L.length 5 (fun i => cmdC (L.getD i default))) :
    Calls Try.prog 35 #[.slice s1 L.length c1, .slice s2 L.length c2] w fun e w' => e = .returned (.bool true) ∧ Ext w w' := by
  have H1 := Lib.hid h1; have H2 := Lib.hid h2; clear h1 h2
  go_enter Try.func35, Try.ntmps35
  go_wp2
  go_loopg [5] L.length (fun g k wr => ∃ (i : Nat), k = .int .i64 i ∧ g + i = L.length ∧ Ext w wr)
  case atStart => exact ⟨0, rfl, by omega, ext_refl _⟩
  case round =>
    obtain ⟨i, rfl, hgi, hx⟩ := hrel
    have HX := Lib.hid hx; clear hx
    by_cases hi : i < L.length
    · obtain ⟨b, o, rfl, hb, c0, c1, c2, c3, c4⟩ := cmd_cells H1.out HX.out hi
      obtain ⟨b', o', rfl, hb', d0, d1, d2, d3, d4⟩ := cmd_cells H2.out HX.out hi
      obtain ⟨x, hx⟩ : ∃ x, x = L.getD i default := ⟨_, rfl⟩
      rw [← hx] at c0 c1 c2 c3 c4 d0 d1 d2 d3 d4
      clear hx
      have hi3 : (i : Int) < L.length := by omega
      go_wp2_with fail
      go_region
      go_wp2
      go_roundg (gk - 1)
      case measure => omega
      case rel => exact ⟨i + 1, by go_num, by omega, by have hx := HX.out; repeat (first | exact ext_refl _ | assumption | refine ext_more' ?_ _ _ | refine ext_drew ?_ | refine ext_drewN ?_ _ | refine ext_alloc ?_ _)⟩
    · have hi3 : ¬ ((i : Int) < L.length) := by omega
      go_wp2
      go_ret
      exact ⟨rfl, HX.out⟩

set_option maxRecDepth 100000 in
set_option maxHeartbeats 4000000 in
theorem samekns_c (s1 s2 : Option Addr) (c1 c2 : Nat) (L : List Kno) (w : World) (hl : L.length ≤ 1000000) (h1 : Rows_ w s1 L.length 3 (fun i => knoC (L.getD i default))) (h2 : Rows_ w s2 L.length 3 (fun i => knoC (L.getD i default))) :
    Calls Try.prog 37 #[.slice s1 L.length c1, .slice s2 L.length c2] w fun e w' => e = .returned (.bool true) ∧ Ext w w' := by
  have H1 := Lib.hid h1; have H2 := Lib.hid h2; clear h1 h2
  go_enter Try.func37, Try.ntmps37
  go_wp2
  go_loopg [5] L.length (fun g k wr => ∃ (i : Nat), k = .int .i64 i ∧ g + i = L.length ∧ Ext w wr)
  case atStart => exact ⟨0, rfl, by omega, ext_refl _⟩
  case round =>
    obtain ⟨i, rfl, hgi, hx⟩ := hrel
    have HX := Lib.hid hx; clear hx
    by_cases hi : i < L.length
    · obtain ⟨b, o, rfl, hb, c0, c1, c2⟩ := kno_cells H1.out HX.out hi
      obtain ⟨b', o', rfl, hb', d0, d1, d2⟩ := kno_cells H2.out HX.out hi
      obtain ⟨x, hx⟩ : ∃ x, x = L.getD i default := ⟨_, rfl⟩
      rw [← hx] at c0 c1 c2 d0 d1 d2
      clear hx
      have hi3 : (i : Int) < L.length := by omega
      go_wp2_with fail
      go_region
      go_wp2
      go_roundg (gk - 1)
      case measure => omega
      case rel => exact ⟨i + 1, by go_num, by omega, by have hx := HX.out; repeat (first | exact ext_refl _ | assumption | refine ext_more' ?_ _ _ | refine ext_drew ?_ | refine ext_drewN ?_ _ | refine ext_alloc ?_ _)⟩
    · have hi3 : ¬ ((i : Int) < L.length) := by omega
      go_wp2
      go_ret
      exact ⟨rfl, HX.out⟩

set_option maxRecDepth 100000 in
set_option maxHeartbeats 4000000 in
theorem sameints_c (s1 s2 : Option Addr) (c1 c2 : Nat) (L : List Int) (w : World) (hl : L.length ≤ 1000000) (h1 : Rows_ w s1 L.length 1 (fun i => numC (L.getD i default))) (h2 : Rows_ w s2 L.length 1 (fun i => numC (L.getD i default))) :
    Calls Try.prog 36 #[.slice s1 L.length c1, .slice s2 L.length c2] w fun e w' => e = .returned (.bool true) ∧ Ext w w' := by
  have H1 := Lib.hid h1; have H2 := Lib.hid h2; clear h1 h2
  go_enter Try.func36, Try.ntmps36
  go_wp2
  go_loopg [5] L.length (fun g k wr => ∃ (i : Nat), k = .int .i64 i ∧ g + i = L.length ∧ Ext w wr)
  case atStart => exact ⟨0, rfl, by omega, ext_refl _⟩
  case round =>
    obtain ⟨i, rfl, hgi, hx⟩ := hrel
    have HX := Lib.hid hx; clear hx
    by_cases hi : i < L.length
    · obtain ⟨b, o, rfl, hb, c0⟩ := num_cell H1.out HX.out hi
      obtain ⟨b', o', rfl, hb', d0⟩ := num_cell H2.out HX.out hi
      obtain ⟨x, hx⟩ : ∃ x, x = L.getD i default := ⟨_, rfl⟩
      rw [← hx] at c0 d0
      clear hx
      have hi3 : (i : Int) < L.length := by omega
      go_wp2_with fail
      go_region
      go_wp2
      go_roundg (gk - 1)
      case measure => omega
      case rel => exact ⟨i + 1, by go_num, by omega, by have hx := HX.out; repeat (first | exact ext_refl _ | assumption | refine ext_more' ?_ _ _ | refine ext_drew ?_ | refine ext_drewN ?_ _ | refine ext_alloc ?_ _)⟩
    · have hi3 : ¬ ((i : Int) < L.length) := by omega
      go_wp2
      go_ret
      exact ⟨rfl, HX.out⟩

set_option maxRecDepth 100000 in
set_option maxHeartbeats 4000000 in
theorem samenums_c (s1 s2 : Option Addr) (c1 c2 : Nat) (L : List Int) (w : World) (hl : L.length ≤ 1000000) (h1 : Rows_ w s1 L.length 1 (fun i => numC (L.getD i default))) (h2 : Rows_ w s2 L.length 1 (fun i => numC (L.getD i default))) :
    Calls Try.prog 38 #[.slice s1 L.length c1, .slice s2 L.length c2] w fun e w' => e = .returned (.bool true) ∧ Ext w w' := by
  have H1 := Lib.hid h1; have H2 := Lib.hid h2; clear h1 h2
  go_enter Try.func38, Try.ntmps38
  go_wp2
  go_loopg [5] L.length (fun g k wr => ∃ (i : Nat), k = .int .i64 i ∧ g + i = L.length ∧ Ext w wr)
  case atStart => exact ⟨0, rfl, by omega, ext_refl _⟩
  case round =>
    obtain ⟨i, rfl, hgi, hx⟩ := hrel
    have HX := Lib.hid hx; clear hx
    by_cases hi : i < L.length
    · obtain ⟨b, o, rfl, hb, c0⟩ := num_cell H1.out HX.out hi
      obtain ⟨b', o', rfl, hb', d0⟩ := num_cell H2.out HX.out hi
      obtain ⟨x, hx⟩ : ∃ x, x = L.getD i default := ⟨_, rfl⟩
      rw [← hx] at c0 d0
      clear hx
      have hi3 : (i : Int) < L.length := by omega
      go_wp2_with fail
      go_region
      go_wp2
      go_roundg (gk - 1)
      case measure => omega
      case rel => exact ⟨i + 1, by go_num, by omega, by have hx := HX.out; repeat (first | exact ext_refl _ | assumption | refine ext_more' ?_ _ _ | refine ext_drew ?_ | refine ext_drewN ?_ _ | refine ext_alloc ?_ _)⟩
    · have hi3 : ¬ ((i : Int) < L.length) := by omega
      go_wp2
      go_ret
      exact ⟨rfl, HX.out⟩

set_option maxRecDepth 100000 in
set_option maxHeartbeats 4000000 in
theorem copycmds_c (s1 : Option Addr) (c1 : Nat) (L : List Cmd) (w : World) (hl : L.length ≤ 1000000) (hc : L.length ≤ c1) (h1 : Rows_ w s1 L.length 5 (fun i => cmdC (L.getD i default))) :
    Calls Try.prog 18 #[.slice s1 L.length c1] w (ClonePost w 56 5 L.length (L.flatMap cmdC)) := by
  have H1 := Lib.hid h1; clear h1
  obtain ⟨i0, hi0, hz0, hz1, hz2⟩ := info_parts cmd_info
  go_enter Try.func18, Try.ntmps18
  go_wp2
  go_loopg [4, 3] L.length (fun gg k v wr => ∃ (i : Nat) (ms : Option Addr) (cap : Nat), k = .int .i64 i ∧ v = .slice ms i cap ∧ gg + i = L.length ∧ Ext w wr ∧ wr.ownsRow w.heap.size 56 5 (.slice ms i cap) i ((L.take i).flatMap cmdC))
  case atStart => exact ⟨0, none, 0, rfl, rfl, by omega, ext_refl _, World.ownsRow_nil _ _ _ _⟩
  case round =>
    obtain ⟨i, ms, cap, rfl, rfl, hgi, hx, ho⟩ := hrel
    have HX := Lib.hid hx; have HO := Lib.hid ho
    have hsz := hx.size
    clear hx ho
    by_cases hi : i < L.length
    · obtain ⟨b, o, rfl, hb, c0, c1, c2, c3, c4⟩ := cmd_cells H1.out HX.out hi
      have htk : (L.take (i + 1)).flatMap cmdC = (L.take i).flatMap cmdC ++ cmdC (L.getD i default) := by
        rw [List.take_add_one, List.flatMap_append, List.getElem?_eq_getElem hi]
        simp [List.getD_eq_getElem?_getD, hi]
      obtain ⟨x, hx⟩ : ∃ x, x = L.getD i default := ⟨_, rfl⟩
      rw [← hx] at c0 c1 c2 c3 c4 htk
      have HTK := Lib.hid htk
      clear hx htk
      have hi3 : (i : Int) < L.length := by omega
      have M63 := Lib.hid (show i + 1 ≤ maxLen by unfold maxLen; omega)
      have M47 := Lib.hid (show (i + 1) * 48 ≤ 140737488355328 by omega)
      have HN := Lib.hid (show ∀ w', Ext (wr.alloc (.cells #[.int .i64 x.n, .int .u8 x.kind, .string x.s, .int .i64 x.arg, .int .i64 x.policy] 56)) w' → Rds w' (some ⟨wr.heap.size, 0, none⟩) 1 5 (cmdC x) from fun w' h' => rds_newV (X := wr) h' rfl)
      go_wp2_with (at_builtin; refine list_app rfl (.tmp 11) (.tmp 16) 25 rfl w.heap.size 56 i0 _ 5 48 Try.underlying25 hi0 hz0 hz1 hz2 rfl (by decide) (.slice ms i cap) i ((L.take i).flatMap cmdC) rfl (own_ext HO.out (by repeat (first | exact ext_refl _ | assumption | refine ext_more' ?_ _ _ | refine ext_drew ?_ | refine ext_drewN ?_ _ | refine ext_alloc ?_ _))) _ 1 _ (cmdC x) rfl (HN.out _ (by repeat (first | exact ext_refl _ | assumption | refine ext_more' ?_ _ _ | refine ext_drew ?_ | refine ext_drewN ?_ _ | refine ext_alloc ?_ _))) (oneCell_cmd _) M63.out M47.out (by simp; omega) ?_; intro v8 w8 hown8 hg8; obtain ⟨ms8, cap8, rfl⟩ := own_slice hown8; have HOWN8 := Lib.hid hown8; have HG8 := Lib.hid hg8; clear hown8 hg8)
      have hx8 : Ext w w8 := ext_grown (ext_trans HX.out (by repeat (first | exact ext_refl _ | assumption | refine ext_more' ?_ _ _ | refine ext_drew ?_ | refine ext_drewN ?_ _ | refine ext_alloc ?_ _))) HG8.out (fun k e => (HO.out.lt k e).1)
      have HX8 := Lib.hid hx8
      clear hx8 HG8
      go_roundg (gk - 1)
      case measure => omega
      case rel => exact ⟨i + 1, ms8, cap8, by go_num, rfl, by omega, HX8.out, by rw [HTK.out]; exact HOWN8.out⟩
    · have hi3 : ¬ ((i : Int) < L.length) := by omega
      have hie : i = L.length := by omega
      subst hie
      have HO2 := Lib.hid (show wr.ownsRow w.heap.size 56 5 (.slice ms L.length cap) L.length (L.flatMap cmdC) by have := HO.out; rw [List.take_length] at this; exact this)
      clear HO
      go_wp2
      go_ret
      exact ⟨ms, cap, rfl, HO2.out, HX.out⟩

set_option maxRecDepth 100000 in
set_option maxHeartbeats 4000000 in
theorem copyints_c (s1 : Option Addr) (c1 : Nat) (L : List Int) (w : World) (hl : L.length ≤ 1000000) (hc : L.length ≤ c1) (h1 : Rows_ w s1 L.length 1 (fun i => numC (L.getD i default))) :
    Calls Try.prog 19 #[.slice s1 L.length c1] w (ClonePost w 3 1 L.length (L.flatMap numC)) := by
  have H1 := Lib.hid h1; clear h1
  obtain ⟨i0, hi0, hz0, hz1, hz2⟩ := info_parts int_info
  go_enter Try.func19, Try.ntmps19
  go_wp2
  go_loopg [4, 3] L.length (fun gg k v wr => ∃ (i : Nat) (ms : Option Addr) (cap : Nat), k = .int .i64 i ∧ v = .slice ms i cap ∧ gg + i = L.length ∧ Ext w wr ∧ wr.ownsRow w.heap.size 3 1 (.slice ms i cap) i ((L.take i).flatMap numC))
  case atStart => exact ⟨0, none, 0, rfl, rfl, by omega, ext_refl _, World.ownsRow_nil _ _ _ _⟩
  case round =>
    obtain ⟨i, ms, cap, rfl, rfl, hgi, hx, ho⟩ := hrel
    have HX := Lib.hid hx; have HO := Lib.hid ho
    have hsz := hx.size
    clear hx ho
    by_cases hi : i < L.length
    · obtain ⟨b, o, rfl, hb, c0⟩ := num_cell H1.out HX.out hi
      have htk : (L.take (i + 1)).flatMap numC = (L.take i).flatMap numC ++ numC (L.getD i default) := by
        rw [List.take_add_one, List.flatMap_append, List.getElem?_eq_getElem hi]
        simp [List.getD_eq_getElem?_getD, hi]
      obtain ⟨x, hx⟩ : ∃ x, x = L.getD i default := ⟨_, rfl⟩
      rw [← hx] at c0 htk
      have HTK := Lib.hid htk
      clear hx htk
      have hi3 : (i : Int) < L.length := by omega
      have M63 := Lib.hid (show i + 1 ≤ maxLen by unfold maxLen; omega)
      have M47 := Lib.hid (show (i + 1) * 8 ≤ 140737488355328 by omega)
      have HN := Lib.hid (show ∀ w', Ext (wr.alloc (.cells #[.int .i64 x] 3)) w' → Rds w' (some ⟨wr.heap.size, 0, none⟩) 1 1 (numC x) from fun w' h' => rds_newV (X := wr) h' rfl)
      go_wp2_with (at_builtin; refine list_app rfl (.tmp 11) (.tmp 16) 26 rfl w.heap.size 3 i0 _ 1 8 Try.underlying26 hi0 hz0 hz1 hz2 rfl (by decide) (.slice ms i cap) i ((L.take i).flatMap numC) rfl (own_ext HO.out (by repeat (first | exact ext_refl _ | assumption | refine ext_more' ?_ _ _ | refine ext_drew ?_ | refine ext_drewN ?_ _ | refine ext_alloc ?_ _))) _ 1 _ (numC x) rfl (HN.out _ (by repeat (first | exact ext_refl _ | assumption | refine ext_more' ?_ _ _ | refine ext_drew ?_ | refine ext_drewN ?_ _ | refine ext_alloc ?_ _))) (oneCell_num _) M63.out M47.out (by simp; omega) ?_; intro v8 w8 hown8 hg8; obtain ⟨ms8, cap8, rfl⟩ := own_slice hown8; have HOWN8 := Lib.hid hown8; have HG8 := Lib.hid hg8; clear hown8 hg8)
      have hx8 : Ext w w8 := ext_grown (ext_trans HX.out (by repeat (first | exact ext_refl _ | assumption | refine ext_more' ?_ _ _ | refine ext_drew ?_ | refine ext_drewN ?_ _ | refine ext_alloc ?_ _))) HG8.out (fun k e => (HO.out.lt k e).1)
      have HX8 := Lib.hid hx8
      clear hx8 HG8
      go_roundg (gk - 1)
      case measure => omega
      case rel => exact ⟨i + 1, ms8, cap8, by go_num, rfl, by omega, HX8.out, by rw [HTK.out]; exact HOWN8.out⟩
    · have hi3 : ¬ ((i : Int) < L.length) := by omega
      have hie : i = L.length := by omega
      subst hie
      have HO2 := Lib.hid (show wr.ownsRow w.heap.size 3 1 (.slice ms L.length cap) L.length (L.flatMap numC) by have := HO.out; rw [List.take_length] at this; exact this)
      clear HO
      go_wp2
      go_ret
      exact ⟨ms, cap, rfl, HO2.out, HX.out⟩

set_option maxRecDepth 100000 in
set_option maxHeartbeats 4000000 in
theorem copykns_c (s1 : Option Addr) (c1 : Nat) (L : List Kno) (w : World) (hl : L.length ≤ 1000000) (hc : L.length ≤ c1) (h1 : Rows_ w s1 L.length 3 (fun i => knoC (L.getD i default))) :
    Calls Try.prog 20 #[.slice s1 L.length c1] w (ClonePost w 44 3 L.length (L.flatMap knoC)) := by
  have H1 := Lib.hid h1; clear h1
  obtain ⟨i0, hi0, hz0, hz1, hz2⟩ := info_parts kno_info
  go_enter Try.func20, Try.ntmps20
  go_wp2
  go_loopg [4, 3] L.length (fun gg k v wr => ∃ (i : Nat) (ms : Option Addr) (cap : Nat), k = .int .i64 i ∧ v = .slice ms i cap ∧ gg + i = L.length ∧ Ext w wr ∧ wr.ownsRow w.heap.size 44 3 (.slice ms i cap) i ((L.take i).flatMap knoC))
  case atStart => exact ⟨0, none, 0, rfl, rfl, by omega, ext_refl _, World.ownsRow_nil _ _ _ _⟩
  case round =>
    obtain ⟨i, ms, cap, rfl, rfl, hgi, hx, ho⟩ := hrel
    have HX := Lib.hid hx; have HO := Lib.hid ho
    have hsz := hx.size
    clear hx ho
    by_cases hi : i < L.length
    · obtain ⟨b, o, rfl, hb, c0, c1, c2⟩ := kno_cells H1.out HX.out hi
      have htk : (L.take (i + 1)).flatMap knoC = (L.take i).flatMap knoC ++ knoC (L.getD i default) := by
        rw [List.take_add_one, List.flatMap_append, List.getElem?_eq_getElem hi]
        simp [List.getD_eq_getElem?_getD, hi]
      obtain ⟨x, hx⟩ : ∃ x, x = L.getD i default := ⟨_, rfl⟩
      rw [← hx] at c0 c1 c2 htk
      have HTK := Lib.hid htk
      clear hx htk
      have hi3 : (i : Int) < L.length := by omega
      have M63 := Lib.hid (show i + 1 ≤ maxLen by unfold maxLen; omega)
      have M47 := Lib.hid (show (i + 1) * 24 ≤ 140737488355328 by omega)
      have HN := Lib.hid (show ∀ w', Ext (wr.alloc (.cells #[.int .i64 x.n, .int .i64 x.out.st, .int .i64 x.out.v] 44)) w' → Rds w' (some ⟨wr.heap.size, 0, none⟩) 1 3 (knoC x) from fun w' h' => rds_newV (X := wr) h' rfl)
      go_wp2_with (at_builtin; refine list_app rfl (.tmp 11) (.tmp 16) 27 rfl w.heap.size 44 i0 _ 3 24 Try.underlying27 hi0 hz0 hz1 hz2 rfl (by decide) (.slice ms i cap) i ((L.take i).flatMap knoC) rfl (own_ext HO.out (by repeat (first | exact ext_refl _ | assumption | refine ext_more' ?_ _ _ | refine ext_drew ?_ | refine ext_drewN ?_ _ | refine ext_alloc ?_ _))) _ 1 _ (knoC x) rfl (HN.out _ (by repeat (first | exact ext_refl _ | assumption | refine ext_more' ?_ _ _ | refine ext_drew ?_ | refine ext_drewN ?_ _ | refine ext_alloc ?_ _))) (oneCell_kno _) M63.out M47.out (by simp; omega) ?_; intro v8 w8 hown8 hg8; obtain ⟨ms8, cap8, rfl⟩ := own_slice hown8; have HOWN8 := Lib.hid hown8; have HG8 := Lib.hid hg8; clear hown8 hg8)
      have hx8 : Ext w w8 := ext_grown (ext_trans HX.out (by repeat (first | exact ext_refl _ | assumption | refine ext_more' ?_ _ _ | refine ext_drew ?_ | refine ext_drewN ?_ _ | refine ext_alloc ?_ _))) HG8.out (fun k e => (HO.out.lt k e).1)
      have HX8 := Lib.hid hx8
      clear hx8 HG8
      go_roundg (gk - 1)
      case measure => omega
      case rel => exact ⟨i + 1, ms8, cap8, by go_num, rfl, by omega, HX8.out, by rw [HTK.out]; exact HOWN8.out⟩
    · have hi3 : ¬ ((i : Int) < L.length) := by omega
      have hie : i = L.length := by omega
      subst hie
      have HO2 := Lib.hid (show wr.ownsRow w.heap.size 44 3 (.slice ms L.length cap) L.length (L.flatMap knoC) by have := HO.out; rw [List.take_length] at this; exact this)
      clear HO
      go_wp2
      go_ret
      exact ⟨ms, cap, rfl, HO2.out, HX.out⟩
theorem pick_calls (x n : Int) (w : World) (hn : 1 ≤ n) (hn' : n ≤ 9223372036854775806) :
    Calls Try.prog 17 #[.int .i64 x, .int .i64 n] w fun e w' => e = .returned (.int .i64 (x % n)) ∧ w = w' := by
  have h0 : ¬ (n < 1) := by omega
  have h1 : ¬ (n = 0) := by omega
  have hb := Int.emod_nonneg x (show n ≠ 0 by omega)
  have hc := Int.emod_lt_of_pos x (show 0 < n by omega)
  have hd : (0 ≤ x.tmod n ∧ x.tmod n = x % n) ∨ (x.tmod n < 0 ∧ -n < x.tmod n ∧ x.tmod n + n = x % n) := by
    rw [Int.tmod_eq_emod]
    split
    · left; omega
    · have hna : (n.natAbs : Int) = n := by omega
      have hz : x % n ≠ 0 := by
        rename_i h
        intro h2
        exact h (.inr (Int.dvd_of_emod_eq_zero h2))
      right; omega
  rcases hd with ⟨d1, d2⟩ | ⟨d1, d2, d3⟩
  · go_enter Try.func17, Try.ntmps17
    go_wp2
    go_ret
    exact ⟨rfl, rfl⟩
  · go_enter Try.func17, Try.ntmps17
    go_wp2
    go_ret
    exact ⟨rfl, rfl⟩
end Go.Proofs.Ythpgmefjgidkgaa

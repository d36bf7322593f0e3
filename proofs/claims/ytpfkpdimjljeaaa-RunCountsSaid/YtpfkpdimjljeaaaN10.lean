/- What run's functions do: the first of some outcomes. -/
import Derived.Test.YtpfkpdimjljeaaaM10
import Derived.Test.YtpfkpdimjljeaaaOp2
namespace Go.Proofs.Ytpfkpdimjljeaaa
open Go.RowKit
set_option linter.unusedVariables false
set_option linter.unusedSimpArgs false

def knoC (x : Kno) : List Value := [.int .i64 x.n, .int .i64 x.out.st, .int .i64 x.out.v]
/-- The first of some outcomes that is a number's; -1: none. -/
def idxF (K : Nat → Kno) (len : Nat) (m : Int) : Int := match (List.range len).find? (fun i => decide ((K i).n = m)) with | some i => (i : Int) | none => -1
theorem idxF_some {K : Nat → Kno} {len i : Nat} {m : Int} (hi : i < len) (h : (K i).n = m) (hn : ∀ j, j < i → (K j).n ≠ m) : idxF K len m = i := by
  have : (List.range len).find? (fun i => decide ((K i).n = m)) = some i := by
    rw [List.find?_eq_some_iff_getElem]
    refine ⟨by simpa using h, i, by simpa using hi, by simp, fun j hj => ?_⟩
    simpa using hn j hj
  unfold idxF; rw [this]
theorem idxF_none {K : Nat → Kno} {len : Nat} {m : Int} (hn : ∀ j, j < len → (K j).n ≠ m) : idxF K len m = -1 := by
  have : (List.range len).find? (fun i => decide ((K i).n = m)) = none := by
    rw [List.find?_eq_none]; intro j hj; simpa using hn j (List.mem_range.1 hj)
  unfold idxF; rw [this]
theorem kno_cells {w W1 : World} {s : Option Addr} {len : Nat} {K : Nat → Kno} (h : Rows_ w s len 3 (fun i => knoC (K i))) (hx : Ext w W1) {i : Nat} (hi : i < len) :
    ∃ b o, s = some ⟨b, o, none⟩ ∧ b < W1.heap.size ∧ W1.cell? ⟨b, o + i * 3, none⟩ = some (.int .i64 (K i).n) ∧ W1.cell? ⟨b, o + i * 3 + 1, none⟩ = some (.int .i64 (K i).out.st) ∧ W1.cell? ⟨b, o + i * 3 + 2, none⟩ = some (.int .i64 (K i).out.v) := by
  obtain ⟨b, o, rfl, hb, hr⟩ := h (by omega)
  have hk : ∀ k, k < 3 → W1.cell? ⟨b, o + i * 3 + k, none⟩ = (knoC (K i))[k]? := fun k hk => by
    rw [hx.cell (p := ⟨b, o + i * 3 + k, none⟩) hb, ← (hr i hi).2 k hk, Nat.add_assoc]
  exact ⟨b, o, rfl, Nat.lt_of_lt_of_le hb hx.size, hk 0 (by decide), hk 1 (by decide), hk 2 (by decide)⟩
theorem isn_calls (k st v m : Int) (bn : Nat) (w : World) (ln : bn < w.heap.size) (cn : w.cell? ⟨bn, 0, none⟩ = some (.int .i64 m)) :
    Calls Try.prog 46 #[.agg #[.int .i64 k, .int .i64 st, .int .i64 v], .pointer (some ⟨bn, 0, none⟩)] w fun e w' => e = .returned (.bool (decide (k = m))) ∧ Ext w w' := by
  go_enter Try.func46, Try.ntmps46
  go_wp2
  go_ret
  exact ⟨by first | rfl | simp, by repeat (first | exact ext_refl _ | assumption | refine ext_more' ?_ _ _ | refine ext_drew ?_ | refine ext_drewN ?_ _ | refine ext_alloc ?_ _)⟩
set_option maxRecDepth 100000 in
set_option maxHeartbeats 8000000 in
theorem index_calls (s : Option Addr) (len cap : Nat) (K : Nat → Kno) (m : Int) (bn : Nat) (w : World) (ln : bn < w.heap.size) (cn : w.cell? ⟨bn, 0, none⟩ = some (.int .i64 m)) (hlen : len ≤ 1000000) (hrows : Rows_ w s len 3 (fun i => knoC (K i))) :
    Calls Try.prog 45 #[.slice s len cap, .func (.func 46) #[] #[.pointer (some ⟨bn, 0, none⟩)]] w fun e w' => e = .returned (.int .i64 (idxF K len m)) ∧ Ext w w' := by
  have HROWS := Lib.hid hrows; clear hrows
  go_enter Try.func45, Try.ntmps45
  go_wp2_with fail
  go_loopg [8] len (fun g k wr => ∃ (i : Nat) (r : Array Obj) (d : Nat), wr = more w r d ∧ k = .int .i64 i ∧ g + i = len ∧ ∀ j, j < i → (K j).n ≠ m)
  case atStart => exact ⟨0, ext_ex (ext_refl _) ⟨rfl, by omega, fun j hj => by omega⟩⟩
  case round =>
    obtain ⟨i, r, d, rfl, rfl, hgi, hall⟩ := hrel
    have HALL := Lib.hid hall; clear hall
    by_cases hi : i < len
    · obtain ⟨b, o, rfl, hb, c0, c1, c2⟩ := kno_cells HROWS.out (ext_refl w) hi
      have hi3 : (i : Int) < len := by omega
      have hcn : (more w r d).cell? ⟨bn, 0, none⟩ = some (.int .i64 m) := by rw [more_cell _ _ _ _ _ ln]; exact cn
      have hln : bn < (more w r d).heap.size := by simp; omega
      by_cases hk : (K i).n = m
      · have HK := Lib.hid (idxF_some hi hk HALL.out)
        have HB := Lib.hid (show decide ((K i).n = m) = true by simpa using hk)
        clear hk
        go_wp2_with (go_at_call 46; refine (isn_calls _ _ _ m bn _ hln hcn).mono ?_; rw [HB.out]; rintro e w1 ⟨rfl, hb⟩; obtain ⟨r, d, rfl⟩ := ext_form hb; clear hb)
        go_ret
        refine ⟨?_, by repeat (first | exact ext_refl _ | assumption | refine ext_more' ?_ _ _ | refine ext_drew ?_ | refine ext_drewN ?_ _ | refine ext_alloc ?_ _)⟩
        refine ret_int ?_
        rw [HK.out]
      · have HB := Lib.hid (show decide ((K i).n = m) = false by simpa using hk)
        have HK := Lib.hid hk
        clear hk
        go_wp2_with (go_at_call 46; refine (isn_calls _ _ _ m bn _ hln hcn).mono ?_; rw [HB.out]; rintro e w1 ⟨rfl, hb⟩; obtain ⟨r, d, rfl⟩ := ext_form hb; clear hb)
        go_roundg (gk - 1)
        case measure => omega
        case rel => exact ⟨i + 1, ext_ex (by repeat (first | exact ext_refl _ | assumption | refine ext_more' ?_ _ _ | refine ext_drew ?_ | refine ext_drewN ?_ _ | refine ext_alloc ?_ _)) ⟨by go_num, by omega, fun j hj => by
          rcases Nat.lt_succ_iff_lt_or_eq.1 hj with h | rfl
          · exact HALL.out j h
          · exact HK.out⟩⟩
    · have hi3 : ¬ ((i : Int) < len) := by omega
      have HK := Lib.hid (idxF_none (K := K) (len := len) (m := m) (fun j hj => HALL.out j (by omega)))
      go_wp2
      go_ret
      refine ⟨?_, by repeat (first | exact ext_refl _ | assumption | refine ext_more' ?_ _ _ | refine ext_drew ?_ | refine ext_drewN ?_ _ | refine ext_alloc ?_ _)⟩
      refine ret_int ?_
      rw [HK.out]
end Go.Proofs.Ytpfkpdimjljeaaa

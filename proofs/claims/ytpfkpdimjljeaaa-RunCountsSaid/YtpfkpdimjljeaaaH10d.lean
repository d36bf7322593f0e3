/- The laws' helpers of layer 10: a run by what is given. -/
import Derived.Test.YtpfkpdimjljeaaaH10a
import Derived.Test.YtpfkpdimjljeaaaH10c
namespace Go.Proofs.Ytpfkpdimjljeaaa
open Go.RowKit
set_option linter.unusedVariables false
set_option linter.unusedSimpArgs false

theorem st_no_u8 (j : Nat) (k : Int) : ¬ (#[.int .i64 0, .int .i64 0, .int .i64 0, .int .i64 0, .slice none 0 0, .int .i64 0, .int .i64 0] : Array Value)[j]? = some (.int .u8 k) := by
  rcases j with _ | _ | _ | _ | _ | _ | _ | j
  all_goals simp
theorem alloc_more (W0 : World) (o o' : Obj) (r : Array Obj) (d d' : Nat) (k : Nat) (hk : k ≠ W0.heap.size) : (more (W0.alloc o') r d').heap[k]? = (more (W0.alloc o) r d).heap[k]? := by
  show (W0.heap.push o' ++ r)[k]? = (W0.heap.push o ++ r)[k]?
  rw [Array.getElem?_append, Array.getElem?_append, Array.getElem?_push, Array.getElem?_push, Array.size_push, Array.size_push, if_neg hk, if_neg hk]
/-- Commands' rows do not lie in a stand's own box. -/
theorem rows_more {W0 : World} {t : TypeId} {cs' : Obj} {r : Array Obj} {d d' : Nat} {s : Option Addr} {len : Nat} {C : Nat → Cmd} (h : Rows_ (more (W0.alloc (.cells #[.int .i64 0, .int .i64 0, .int .i64 0, .int .i64 0, .slice none 0 0, .int .i64 0, .int .i64 0] t)) r d) s len 5 (fun i => cmdC (C i))) : Rows_ (more (W0.alloc cs') r d') s len 5 (fun i => cmdC (C i)) := by
  intro hl
  obtain ⟨b, o, hs, hb, hr⟩ := h hl
  have hne : b ≠ W0.heap.size := by
    intro hbe
    have h1 := (hr 0 hl).2 1 (by decide)
    rw [hbe, (box_facts (ext_more _ _ _)).2] at h1
    exact st_no_u8 _ _ h1
  refine ⟨b, o, hs, by have h2 : b < (W0.heap.push _ ++ r).size := hb; show b < (W0.heap.push _ ++ r).size; rw [Array.size_append, Array.size_push] at h2 ⊢; exact h2, fun i hi => ⟨(hr i hi).1, fun k hk => ?_⟩⟩
  rw [← (hr i hi).2 k hk]
  exact World.cell?_of_block (alloc_more W0 _ _ r d d' b hne)
theorem mn_cast (a b : Nat) : mn (a : Int) (b : Int) = ((min a b : Nat) : Int) := by unfold mn; split <;> omega
set_option maxRecDepth 100000 in
set_option maxHeartbeats 4000000 in
theorem of_calls (p0 : ByteArray) (regs arg fuel : Int) (cs ks ss : Option Addr) (clen ccap klen kcap slen scap : Nat) (I : Nat → Ins) (K : Nat → Kno) (S : Nat → Int) (w : World) (hrows : Rows_ w cs clen 6 (fun i => insC (I i))) (hK : Rows_ w ks klen 3 (fun i => knoC (K i))) (hS : Rows_ w ss slen 1 (fun i => [.int .i64 (S i)])) (hk1 : klen ≤ kcap) (hs1 : slen ≤ scap) :
    Calls Try.prog 12 #[.agg #[.string p0, .int .i64 regs, .slice cs clen ccap], .agg #[.int .i64 arg, .slice ks klen kcap, .slice ss slen scap, .int .i64 fuel]] w (RunPostC w (runS p0 regs clen I (lookK K (min klen 300)) (sgF S (min slen 300)) arg fuel) (runE p0 regs clen I fuel)) := by
  have HROWS := Lib.hid hrows; have HK := Lib.hid hK; have HS := Lib.hid hS
  clear hrows hK hS
  have q1 : mn (klen : Int) 300 = ((min klen 300 : Nat) : Int) := mn_cast klen 300
  have q2 : mn (slen : Int) 300 = ((min slen 300 : Nat) : Int) := mn_cast slen 300
  have b1 : min klen 300 ≤ klen ∧ min klen 300 ≤ 300 := by omega
  have b2 : min slen 300 ≤ slen ∧ min slen 300 ≤ 300 := by omega
  generalize min klen 300 = m1 at *
  generalize min slen 300 = m2 at *
  obtain ⟨b1, b1'⟩ := b1
  obtain ⟨b2, b2'⟩ := b2
  have u1 : m1 ≤ kcap := by omega
  have u2 : m2 ≤ scap := by omega
  have v1 : (m1 : Int) ≤ kcap := by omega
  have v2 : (m2 : Int) ≤ scap := by omega
  go_enter Try.func12, Try.ntmps12
  go_upto_region 1 with fail
  obtain ⟨W0, hW, hxw, hall1, hall2⟩ := box2 w #[.string p0, .int .i64 regs, .slice cs clen ccap] 24 #[.int .i64 arg, .slice ks klen kcap, .slice ss slen scap, .int .i64 fuel] 28
  have l1 : w.heap.size < W0.heap.size := by rw [hW]; simp; omega
  have l2 : w.heap.size + 1 < W0.heap.size := by rw [hW]; simp
  have l3 : W0.heap.size = w.heap.size + 1 + 1 := by rw [hW]; simp
  rw [← hW]; clear hW
  rw [← l3]
  have L3 := Lib.hid l3; clear l3
  have HX := Lib.hid hxw
  have hx := ext_refl W0
  go_wp2_with fail
  go_region_held3 (fun w' => Ext W0 w') (repeat (first | exact ext_refl _ | assumption | refine ext_more' ?_ _ _ | refine ext_drew ?_ | refine ext_drewN ?_ _ | refine ext_alloc ?_ _)) (first | (go_at_call 17; refine (run_callsC p0 regs arg fuel cs ks ss clen ccap m1 kcap m2 scap I K S _ (rows_on2 HROWS.out (ext_trans HX.out (by repeat (first | exact ext_refl _ | assumption | refine ext_more' ?_ _ _ | refine ext_drew ?_ | refine ext_drewN ?_ _ | refine ext_alloc ?_ _)))) (ins_slice (rows_on2 HK.out (ext_trans HX.out (by repeat (first | exact ext_refl _ | assumption | refine ext_more' ?_ _ _ | refine ext_drew ?_ | refine ext_drewN ?_ _ | refine ext_alloc ?_ _)))) b1) (ins_slice (rows_on2 HS.out (ext_trans HX.out (by repeat (first | exact ext_refl _ | assumption | refine ext_more' ?_ _ _ | refine ext_drew ?_ | refine ext_drewN ?_ _ | refine ext_alloc ?_ _)))) b2) (by omega)).mono ?_; rintro e w2 ⟨ms, cap, rfl, hb, hr, hcap⟩; obtain ⟨r, d, rfl⟩ := ext_form hb; clear hb; have HR := Lib.hid hr; have HCAP := Lib.hid hcap; clear hr hcap))
  all_goals
    go_wp2
  all_goals
    refine post_at ?_
    intro W3 hW
    have x3 : Ext W0 W3 := by rw [hW]; repeat (first | exact ext_refl _ | assumption | refine ext_more' ?_ _ _ | refine ext_drew ?_ | refine ext_drewN ?_ _ | refine ext_alloc ?_ _)
    obtain ⟨l4, k4⟩ := box_facts (by rw [hW]; repeat (first | exact ext_refl _ | assumption | refine ext_more' ?_ _ _ | refine ext_drew ?_ | refine ext_drewN ?_ _ | refine ext_alloc ?_ _) : Ext (W0.alloc (.cells _ _)) W3)
    refine bodyPost_ret (by simp [results, Try.results12, go_sem, k4]; rfl) rfl ?_
    refine ⟨ms, cap, rfl, ext_trans HX.out x3, ?_⟩
    refine ⟨?_, HCAP.out⟩
    rw [hW]
    exact rows_more HR.out
end Go.Proofs.Ytpfkpdimjljeaaa

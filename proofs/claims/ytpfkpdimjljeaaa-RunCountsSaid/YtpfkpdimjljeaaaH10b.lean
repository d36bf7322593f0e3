/- The laws' helpers of layer 10: the chapter's examples. -/
import Derived.Test.YtpfkpdimjljeaaaH10a
namespace Go.Proofs.Ytpfkpdimjljeaaa
open Go.RowKit
set_option linter.unusedVariables false
set_option linter.unusedSimpArgs false

def payI : Nat → Ins
  | 0 => ⟨10, 1, 0, 0, 0, ⟨#[112, 97, 121]⟩⟩
  | 1 => ⟨13, 0, 1, 2, 0, ⟨#[]⟩⟩
  | _ => ⟨15, 0, 0, 0, 0, ⟨#[]⟩⟩

theorem rows_of_box {w : World} {b n m : Nat} {cs : Array Value} {f : Nat → List Value} (hb : b < w.heap.size) (hc : ∀ i, w.cell? ⟨b, i, none⟩ = cs[i]?) (hf : ∀ i, i < n → (f i).length = m ∧ ∀ k, k < m → cs[i * m + k]? = (f i)[k]?) : Rows_ w (some ⟨b, 0, none⟩) n m f := fun _ =>
  ⟨b, 0, rfl, hb, fun i hi => ⟨(hf i hi).1, fun k hk => by rw [Nat.zero_add, hc]; exact (hf i hi).2 k hk⟩⟩
def PayPost (w : World) (e : Ending) (w' : World) : Prop := ∃ b, e = .returned (.agg #[.string ⟨#[112]⟩, .int .i64 3, .slice (some ⟨b, 0, none⟩) 3 3]) ∧ Ext w w' ∧ Rows_ w' (some ⟨b, 0, none⟩) 3 6 (fun i => insC (payI i))
set_option maxHeartbeats 4000000 in
theorem pay_calls (w : World) : Calls Try.prog 20 #[] w (PayPost w) := by
  go_enter Try.func20, Try.ntmps20
  go_wp2
  refine post_at ?_
  intro W1 hW
  have hx : Ext w W1 := by rw [hW]; repeat (first | exact ext_refl _ | assumption | refine ext_more' ?_ _ _ | refine ext_drew ?_ | refine ext_drewN ?_ _ | refine ext_alloc ?_ _)
  obtain ⟨l1, k1⟩ := box_facts (by rw [hW]; repeat (first | exact ext_refl _ | assumption | refine ext_more' ?_ _ _ | refine ext_drew ?_ | refine ext_drewN ?_ _ | refine ext_alloc ?_ _) : Ext (World.alloc w (.cells _ _)) W1)
  obtain ⟨l2, k2⟩ := box_facts (by rw [hW]; repeat (first | exact ext_refl _ | assumption | refine ext_more' ?_ _ _ | refine ext_drew ?_ | refine ext_drewN ?_ _ | refine ext_alloc ?_ _) : Ext ((World.alloc w (.cells _ _)).alloc (.cells _ _)) W1)
  simp only [sz_alloc] at l2 k2
  clear hW
  refine bodyPost_ret (by simp [results, Try.results20, go_sem, k1]; rfl) rfl ?_
  refine ⟨w.heap.size + 1, rfl, hx, rows_of_box l2 k2 fun i hi => ⟨rfl, fun k hk => ?_⟩⟩
  have hi' : i = 0 ∨ i = 1 ∨ i = 2 := by omega
  have hk' : k = 0 ∨ k = 1 ∨ k = 2 ∨ k = 3 ∨ k = 4 ∨ k = 5 := by omega
  rcases hi' with rfl | rfl | rfl <;> rcases hk' with rfl | rfl | rfl | rfl | rfl | rfl <;> rfl

def paC : Cmd := ⟨1, 1, ⟨#[112, 97, 121]⟩, 5, 0⟩
def kno1 : Nat → Kno := fun _ => ⟨1, ⟨0, 7⟩⟩
def jmpI : Nat → Ins := fun _ => ⟨8, 0, 0, 0, 0, ⟨#[]⟩⟩
def RunAt (w : World) (st os ov on : Int) (n : Nat) (C : Nat → Cmd) (sig steps : Int) (e : Ending) (w' : World) : Prop :=
  ∃ ms cap, e = .returned (.tuple #[.agg #[.int .i64 st, .int .i64 os, .int .i64 ov, .int .i64 on, .slice ms n cap, .int .i64 sig, .int .i64 steps], .int .i64 0]) ∧ Ext w w' ∧ Rows_ w' ms n 5 (fun i => cmdC (C i))
theorem run_at_of {w w' : World} {y : Rs} {e : Ending} {st os ov on : Int} {l : List Cmd} {sig steps : Nat} (h : RunPostC w y 0 e w') (h1 : y.st = st) (h2 : y.os = os) (h3 : y.ov = ov) (h4 : y.on = on) (h5 : y.cmds = l) (h6 : y.sig = sig) (h7 : y.steps = steps) :
    RunAt w st os ov on l.length (fun i => l.getD i default) sig steps e w' := by
  obtain ⟨ms, cap, he, hx, hr, _⟩ := h
  rw [h5] at hr he
  rw [h1, h2, h3, h4, h6, h7] at he
  exact ⟨ms, cap, he, hx, hr⟩
theorem no_rows (w : World) (n : Nat) (f : Nat → List Value) : Rows_ w none 0 n f := fun h => absurd h (by decide)
theorem ex_a (b : Nat) (w : World) (h : Rows_ w (some ⟨b, 0, none⟩) 3 6 (fun i => insC (payI i))) :
    Calls Try.prog 17 #[.agg #[.string ⟨#[112]⟩, .int .i64 3, .slice (some ⟨b, 0, none⟩) 3 3], .int .i64 5, .slice none 0 0, .slice none 0 0, .int .i64 100] w (RunAt w 2 0 0 1 1 (fun i => [paC].getD i default) 0 1) :=
  (run_callsC ⟨#[112]⟩ 3 5 100 (some ⟨b, 0, none⟩) none none 3 3 0 0 0 0 payI kno1 (fun _ => 0) w h (no_rows _ _ _) (no_rows _ _ _) (by decide)).mono fun e w' hp => run_at_of (l := [paC]) (sig := 0) (steps := 1) (by
    have : runE ⟨#[112]⟩ 3 3 payI 100 = 0 := by rfl
    rw [this] at hp; exact hp) (by rfl) (by rfl) (by rfl) (by rfl) (by rfl) (by rfl) (by rfl)
theorem ex_b (b k : Nat) (w : World) (h : Rows_ w (some ⟨b, 0, none⟩) 3 6 (fun i => insC (payI i))) (hk : Rows_ w (some ⟨k, 0, none⟩) 1 3 (fun i => knoC (kno1 i))) :
    Calls Try.prog 17 #[.agg #[.string ⟨#[112]⟩, .int .i64 3, .slice (some ⟨b, 0, none⟩) 3 3], .int .i64 5, .slice (some ⟨k, 0, none⟩) 1 1, .slice none 0 0, .int .i64 100] w (RunAt w 1 0 7 0 1 (fun i => [paC].getD i default) 0 3) :=
  (run_callsC ⟨#[112]⟩ 3 5 100 (some ⟨b, 0, none⟩) (some ⟨k, 0, none⟩) none 3 3 1 1 0 0 payI kno1 (fun _ => 0) w h hk (no_rows _ _ _) (by decide)).mono fun e w' hp => run_at_of (l := [paC]) (sig := 0) (steps := 3) (by
    have : runE ⟨#[112]⟩ 3 3 payI 100 = 0 := by rfl
    rw [this] at hp; exact hp) (by rfl) (by rfl) (by rfl) (by rfl) (by rfl) (by rfl) (by rfl)
theorem ex_c (b : Nat) (w : World) (h : Rows_ w (some ⟨b, 0, none⟩) 1 6 (fun i => insC (jmpI i))) :
    Calls Try.prog 17 #[.agg #[.string ⟨#[112]⟩, .int .i64 1, .slice (some ⟨b, 0, none⟩) 1 1], .int .i64 0, .slice none 0 0, .slice none 0 0, .int .i64 9] w (RunAt w 4 0 0 0 0 (fun i => [].getD i default) 0 9) :=
  (run_callsC ⟨#[112]⟩ 1 0 9 (some ⟨b, 0, none⟩) none none 1 1 0 0 0 0 jmpI kno1 (fun _ => 0) w h (no_rows _ _ _) (no_rows _ _ _) (by decide)).mono fun e w' hp => run_at_of (l := []) (sig := 0) (steps := 9) (by
    have : runE ⟨#[112]⟩ 1 1 jmpI 9 = 0 := by rfl
    rw [this] at hp; exact hp) (by rfl) (by rfl) (by rfl) (by rfl) (by rfl) (by rfl) (by rfl)
end Go.Proofs.Ytpfkpdimjljeaaa

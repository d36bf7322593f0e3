/- What program's functions do: the letters of an Op. -/
import Derived.Test.YtpfkpdimjljeaaaS10
import Derived.Test.YtpfkpdimjljeaaaWm
namespace Go.Proofs.Ytpfkpdimjljeaaa
open Go.RowKit
set_option linter.unusedVariables false
set_option linter.unusedSimpArgs false

def shStr (o : Int) : ByteArray :=
  if o = 1 then ⟨#[114, 45, 45, 110, 45]⟩ else
  if o = 2 then ⟨#[114, 114, 45, 45, 45]⟩ else
  if o = 3 then ⟨#[114, 114, 114, 45, 45]⟩ else
  if o = 4 then ⟨#[114, 114, 114, 45, 45]⟩ else
  if o = 5 then ⟨#[114, 114, 114, 45, 45]⟩ else
  if o = 6 then ⟨#[114, 114, 114, 45, 45]⟩ else
  if o = 7 then ⟨#[114, 114, 114, 45, 45]⟩ else
  if o = 8 then ⟨#[45, 45, 45, 106, 45]⟩ else
  if o = 9 then ⟨#[114, 45, 45, 106, 45]⟩ else
  if o = 10 then ⟨#[114, 114, 112, 45, 115]⟩ else
  if o = 11 then ⟨#[114, 114, 45, 45, 45]⟩ else
  if o = 12 then ⟨#[114, 114, 45, 45, 115]⟩ else
  if o = 13 then ⟨#[114, 114, 114, 45, 45]⟩ else
  if o = 14 then ⟨#[114, 45, 45, 45, 45]⟩ else
  if o = 15 then ⟨#[114, 45, 45, 45, 45]⟩ else
  if o = 16 then ⟨#[114, 45, 45, 45, 45]⟩ else ⟨#[]⟩
def shE (k : Nat) : Array MapEntry := ((List.range k).map fun (j : Nat) => ({ key := .int .u8 ((j : Int) + 1), val := .agg #[.string (shStr ((j : Int) + 1))], born := j } : MapEntry)).toArray
theorem sh_make (w : World) : (Instr.makeMap 84 none).run Try.prog w = .ok (.map (some w.heap.size)) (w.alloc (.map (shE 0) 0)) := rfl
theorem sh_put1 (W : World) : (Instr.mapUpdate 84 (.map (some W.heap.size)) (.int .u8 1) (.agg #[.string ⟨#[114, 45, 45, 110, 45]⟩])).run Try.prog (W.alloc (.map (shE 0) 0)) = .ok () (W.alloc (.map (shE 1) 1)) :=
  (insert_top (key := .int .u8 1) (val := .agg #[.string ⟨#[114, 45, 45, 110, 45]⟩]) (es := shE 0) (c := 0) Try.underlying84 Try.underlying50 (show IntKind.u8 = IntKind.u8 from rfl) (by kernel_rfl)).trans (by rfl)
theorem sh_put2 (W : World) : (Instr.mapUpdate 84 (.map (some W.heap.size)) (.int .u8 2) (.agg #[.string ⟨#[114, 114, 45, 45, 45]⟩])).run Try.prog (W.alloc (.map (shE 1) 1)) = .ok () (W.alloc (.map (shE 2) 2)) :=
  (insert_top (key := .int .u8 2) (val := .agg #[.string ⟨#[114, 114, 45, 45, 45]⟩]) (es := shE 1) (c := 1) Try.underlying84 Try.underlying50 (show IntKind.u8 = IntKind.u8 from rfl) (by kernel_rfl)).trans (by rfl)
theorem sh_put3 (W : World) : (Instr.mapUpdate 84 (.map (some W.heap.size)) (.int .u8 3) (.agg #[.string ⟨#[114, 114, 114, 45, 45]⟩])).run Try.prog (W.alloc (.map (shE 2) 2)) = .ok () (W.alloc (.map (shE 3) 3)) :=
  (insert_top (key := .int .u8 3) (val := .agg #[.string ⟨#[114, 114, 114, 45, 45]⟩]) (es := shE 2) (c := 2) Try.underlying84 Try.underlying50 (show IntKind.u8 = IntKind.u8 from rfl) (by kernel_rfl)).trans (by rfl)
theorem sh_put4 (W : World) : (Instr.mapUpdate 84 (.map (some W.heap.size)) (.int .u8 4) (.agg #[.string ⟨#[114, 114, 114, 45, 45]⟩])).run Try.prog (W.alloc (.map (shE 3) 3)) = .ok () (W.alloc (.map (shE 4) 4)) :=
  (insert_top (key := .int .u8 4) (val := .agg #[.string ⟨#[114, 114, 114, 45, 45]⟩]) (es := shE 3) (c := 3) Try.underlying84 Try.underlying50 (show IntKind.u8 = IntKind.u8 from rfl) (by kernel_rfl)).trans (by rfl)
theorem sh_put5 (W : World) : (Instr.mapUpdate 84 (.map (some W.heap.size)) (.int .u8 5) (.agg #[.string ⟨#[114, 114, 114, 45, 45]⟩])).run Try.prog (W.alloc (.map (shE 4) 4)) = .ok () (W.alloc (.map (shE 5) 5)) :=
  (insert_top (key := .int .u8 5) (val := .agg #[.string ⟨#[114, 114, 114, 45, 45]⟩]) (es := shE 4) (c := 4) Try.underlying84 Try.underlying50 (show IntKind.u8 = IntKind.u8 from rfl) (by kernel_rfl)).trans (by rfl)
theorem sh_put6 (W : World) : (Instr.mapUpdate 84 (.map (some W.heap.size)) (.int .u8 6) (.agg #[.string ⟨#[114, 114, 114, 45, 45]⟩])).run Try.prog (W.alloc (.map (shE 5) 5)) = .ok () (W.alloc (.map (shE 6) 6)) :=
  (insert_top (key := .int .u8 6) (val := .agg #[.string ⟨#[114, 114, 114, 45, 45]⟩]) (es := shE 5) (c := 5) Try.underlying84 Try.underlying50 (show IntKind.u8 = IntKind.u8 from rfl) (by kernel_rfl)).trans (by rfl)
theorem sh_put7 (W : World) : (Instr.mapUpdate 84 (.map (some W.heap.size)) (.int .u8 7) (.agg #[.string ⟨#[114, 114, 114, 45, 45]⟩])).run Try.prog (W.alloc (.map (shE 6) 6)) = .ok () (W.alloc (.map (shE 7) 7)) :=
  (insert_top (key := .int .u8 7) (val := .agg #[.string ⟨#[114, 114, 114, 45, 45]⟩]) (es := shE 6) (c := 6) Try.underlying84 Try.underlying50 (show IntKind.u8 = IntKind.u8 from rfl) (by kernel_rfl)).trans (by rfl)
theorem sh_put8 (W : World) : (Instr.mapUpdate 84 (.map (some W.heap.size)) (.int .u8 8) (.agg #[.string ⟨#[45, 45, 45, 106, 45]⟩])).run Try.prog (W.alloc (.map (shE 7) 7)) = .ok () (W.alloc (.map (shE 8) 8)) :=
  (insert_top (key := .int .u8 8) (val := .agg #[.string ⟨#[45, 45, 45, 106, 45]⟩]) (es := shE 7) (c := 7) Try.underlying84 Try.underlying50 (show IntKind.u8 = IntKind.u8 from rfl) (by kernel_rfl)).trans (by rfl)
theorem sh_put9 (W : World) : (Instr.mapUpdate 84 (.map (some W.heap.size)) (.int .u8 9) (.agg #[.string ⟨#[114, 45, 45, 106, 45]⟩])).run Try.prog (W.alloc (.map (shE 8) 8)) = .ok () (W.alloc (.map (shE 9) 9)) :=
  (insert_top (key := .int .u8 9) (val := .agg #[.string ⟨#[114, 45, 45, 106, 45]⟩]) (es := shE 8) (c := 8) Try.underlying84 Try.underlying50 (show IntKind.u8 = IntKind.u8 from rfl) (by kernel_rfl)).trans (by rfl)
theorem sh_put10 (W : World) : (Instr.mapUpdate 84 (.map (some W.heap.size)) (.int .u8 10) (.agg #[.string ⟨#[114, 114, 112, 45, 115]⟩])).run Try.prog (W.alloc (.map (shE 9) 9)) = .ok () (W.alloc (.map (shE 10) 10)) :=
  (insert_top (key := .int .u8 10) (val := .agg #[.string ⟨#[114, 114, 112, 45, 115]⟩]) (es := shE 9) (c := 9) Try.underlying84 Try.underlying50 (show IntKind.u8 = IntKind.u8 from rfl) (by kernel_rfl)).trans (by rfl)
theorem sh_put11 (W : World) : (Instr.mapUpdate 84 (.map (some W.heap.size)) (.int .u8 11) (.agg #[.string ⟨#[114, 114, 45, 45, 45]⟩])).run Try.prog (W.alloc (.map (shE 10) 10)) = .ok () (W.alloc (.map (shE 11) 11)) :=
  (insert_top (key := .int .u8 11) (val := .agg #[.string ⟨#[114, 114, 45, 45, 45]⟩]) (es := shE 10) (c := 10) Try.underlying84 Try.underlying50 (show IntKind.u8 = IntKind.u8 from rfl) (by kernel_rfl)).trans (by rfl)
theorem sh_put12 (W : World) : (Instr.mapUpdate 84 (.map (some W.heap.size)) (.int .u8 12) (.agg #[.string ⟨#[114, 114, 45, 45, 115]⟩])).run Try.prog (W.alloc (.map (shE 11) 11)) = .ok () (W.alloc (.map (shE 12) 12)) :=
  (insert_top (key := .int .u8 12) (val := .agg #[.string ⟨#[114, 114, 45, 45, 115]⟩]) (es := shE 11) (c := 11) Try.underlying84 Try.underlying50 (show IntKind.u8 = IntKind.u8 from rfl) (by kernel_rfl)).trans (by rfl)
theorem sh_put13 (W : World) : (Instr.mapUpdate 84 (.map (some W.heap.size)) (.int .u8 13) (.agg #[.string ⟨#[114, 114, 114, 45, 45]⟩])).run Try.prog (W.alloc (.map (shE 12) 12)) = .ok () (W.alloc (.map (shE 13) 13)) :=
  (insert_top (key := .int .u8 13) (val := .agg #[.string ⟨#[114, 114, 114, 45, 45]⟩]) (es := shE 12) (c := 12) Try.underlying84 Try.underlying50 (show IntKind.u8 = IntKind.u8 from rfl) (by kernel_rfl)).trans (by rfl)
theorem sh_put14 (W : World) : (Instr.mapUpdate 84 (.map (some W.heap.size)) (.int .u8 14) (.agg #[.string ⟨#[114, 45, 45, 45, 45]⟩])).run Try.prog (W.alloc (.map (shE 13) 13)) = .ok () (W.alloc (.map (shE 14) 14)) :=
  (insert_top (key := .int .u8 14) (val := .agg #[.string ⟨#[114, 45, 45, 45, 45]⟩]) (es := shE 13) (c := 13) Try.underlying84 Try.underlying50 (show IntKind.u8 = IntKind.u8 from rfl) (by kernel_rfl)).trans (by rfl)
theorem sh_put15 (W : World) : (Instr.mapUpdate 84 (.map (some W.heap.size)) (.int .u8 15) (.agg #[.string ⟨#[114, 45, 45, 45, 45]⟩])).run Try.prog (W.alloc (.map (shE 14) 14)) = .ok () (W.alloc (.map (shE 15) 15)) :=
  (insert_top (key := .int .u8 15) (val := .agg #[.string ⟨#[114, 45, 45, 45, 45]⟩]) (es := shE 14) (c := 14) Try.underlying84 Try.underlying50 (show IntKind.u8 = IntKind.u8 from rfl) (by kernel_rfl)).trans (by rfl)
theorem sh_put16 (W : World) : (Instr.mapUpdate 84 (.map (some W.heap.size)) (.int .u8 16) (.agg #[.string ⟨#[114, 45, 45, 45, 45]⟩])).run Try.prog (W.alloc (.map (shE 15) 15)) = .ok () (W.alloc (.map (shE 16) 16)) :=
  (insert_top (key := .int .u8 16) (val := .agg #[.string ⟨#[114, 45, 45, 45, 45]⟩]) (es := shE 15) (c := 15) Try.underlying84 Try.underlying50 (show IntKind.u8 = IntKind.u8 from rfl) (by kernel_rfl)).trans (by rfl)

theorem sh_find (o : Int) : ∃ r, Instr.findNow (.int .u8) (.int .u8 o) (shE 16).toList 0 = some r ∧ foundOr (.agg #[.string ⟨#[]⟩]) r = .agg #[.string (shStr o)] := by
  by_cases h : 1 ≤ o ∧ o ≤ 16
  · have h : o = 1 ∨ o = 2 ∨ o = 3 ∨ o = 4 ∨ o = 5 ∨ o = 6 ∨ o = 7 ∨ o = 8 ∨ o = 9 ∨ o = 10 ∨ o = 11 ∨ o = 12 ∨ o = 13 ∨ o = 14 ∨ o = 15 ∨ o = 16 := by omega
    rcases h with rfl | rfl | rfl | rfl | rfl | rfl | rfl | rfl | rfl | rfl | rfl | rfl | rfl | rfl | rfl | rfl
    all_goals exact ⟨_, by rfl, by rfl⟩
  · refine ⟨none, ?_, ?_⟩
    · have : ∀ l : List MapEntry, (∀ x ∈ l, ∃ j : Int, x.key = .int .u8 j ∧ j ≠ o) → ∀ i, Instr.findNow (.int .u8) (.int .u8 o) l i = some none := by
        intro l
        induction l with
        | nil => intro _ i; rfl
        | cons x l ih =>
          intro hx i
          obtain ⟨j, hj, hne⟩ := hx x (by simp)
          unfold Instr.findNow
          rw [hj]
          have : Instr.sameNow (.int .u8) (.int .u8 o) (.int .u8 j) = some false := by simp [Instr.sameNow]; omega
          rw [this]
          exact ih (fun y hy => hx y (by simp [hy])) (i + 1)
      refine this _ (fun x hx => ?_) 0
      simp only [shE, List.mem_map, List.mem_range] at hx
      obtain ⟨j, hj, rfl⟩ := hx
      exact ⟨(j : Int) + 1, rfl, by omega⟩
    · have hs : shStr o = ⟨#[]⟩ := by
        unfold shStr
        rw [if_neg (by omega : ¬ o = 1)]; rw [if_neg (by omega : ¬ o = 2)]; rw [if_neg (by omega : ¬ o = 3)]; rw [if_neg (by omega : ¬ o = 4)]; rw [if_neg (by omega : ¬ o = 5)]; rw [if_neg (by omega : ¬ o = 6)]; rw [if_neg (by omega : ¬ o = 7)]; rw [if_neg (by omega : ¬ o = 8)]; rw [if_neg (by omega : ¬ o = 9)]; rw [if_neg (by omega : ¬ o = 10)]; rw [if_neg (by omega : ¬ o = 11)]; rw [if_neg (by omega : ¬ o = 12)]; rw [if_neg (by omega : ¬ o = 13)]; rw [if_neg (by omega : ¬ o = 14)]; rw [if_neg (by omega : ¬ o = 15)]; rw [if_neg (by omega : ¬ o = 16)]
      rw [hs]; rfl
theorem sh_look (W : World) (o : Int) : (Instr.lookup 84 (.map (some W.heap.size)) (.int .u8 o) false).run Try.prog (W.alloc (.map (shE 16) 16)) = .ok (.agg #[.string (shStr o)]) (W.alloc (.map (shE 16) 16)) := by
  obtain ⟨r, h1, h2⟩ := sh_find o
  rw [← h2]
  exact lookup_at (key := .int .u8 o) Try.underlying84 Try.underlying50 (show IntKind.u8 = IntKind.u8 from rfl) (MapKept.heap_alloc W _).1 (by kernel_rfl) h1

set_option maxRecDepth 100000 in
set_option maxHeartbeats 8000000 in
theorem shape_calls (o : Int) (w : World) :
    Calls Try.prog 38 #[.int .u8 o] w fun e w' => e = .returned (.string (shStr o)) ∧ Ext w w' := by
  have p1 := sh_put1
  have p2 := sh_put2
  have p3 := sh_put3
  have p4 := sh_put4
  have p5 := sh_put5
  have p6 := sh_put6
  have p7 := sh_put7
  have p8 := sh_put8
  have p9 := sh_put9
  have p10 := sh_put10
  have p11 := sh_put11
  have p12 := sh_put12
  have p13 := sh_put13
  have p14 := sh_put14
  have p15 := sh_put15
  have p16 := sh_put16
  have pm := sh_make
  have pl := fun W => sh_look W o
  have pf : ∀ (s : ByteArray) w, (Instr.field 83 (.agg #[.string s]) 0).run Try.prog w = .ok (.string s) w := fun _ _ => by kernel_rfl
  go_enter Try.func38, Try.ntmps38
  go_wp2
  go_ret
  exact ⟨rfl, by repeat (first | exact ext_refl _ | assumption | refine ext_more' ?_ _ _ | refine ext_drew ?_ | refine ext_drewN ?_ _ | refine ext_alloc ?_ _)⟩
end Go.Proofs.Ytpfkpdimjljeaaa

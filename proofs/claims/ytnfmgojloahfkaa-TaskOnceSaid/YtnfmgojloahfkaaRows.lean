/-
  No cell of these rows narrows 'for every input' (looked for: loops, veiled, ifaces, maps, wideKeys, modest, calm, conditions, laid).
  DERIVED. THE GIVEN ROWS OF THIS SEAT. 5 by the template 'for every input the law returns true; each argument reads behind the call as it read before'; 0 by the template 'total and deterministic' (their statements: YtnfmgojloahfkaaTotals.lean).
  GIVEN WITH THE SEED: the statements are not yours to turn. If you find one false, say at which input.
  Laid BY PROGRAM, IN A SANDBOX (cutbox-rows.mjs): the forced cells as the released guide's own fill.sh prints them over the translation a4c91f2cbc162ee5… (all of the seat's roots in one cut). By AI agents, Wed Nov 11 2026. No macro, syntax, notation, axiom, sorry.
-/
import Derived.Test.YtnfmgojloahfkaaChecked
import GoSem.Claim
import GoSem.ClaimJoined
import GoSem.ClaimMapViews
import Derived.JoinedTies
import Derived.KernelRfl
namespace Go.Proofs.Ytnfmgojloahfkaa
/- THE CELL 'sum', in the pinned program and in every row, IS THE sha256 OF THE DUMP (.gsa) THAT YtnfmgojloahfkaaProg.lean LOADS. Nothing in Lean hashes anything: it is a label: what it is worth is what the hold of that sum in a sandbox is worth. -/
noncomputable def Try.pinned : Pinned := { name := "ytnfmgojloahfkaa", sum := "a4c91f2cbc162ee58b0a8e62193022f24398223c25083da71fe79b0f4d736657", checked := Try.checked }
namespace Rows
def none {H : Type} : Left H := { results := [], args := [] }

/-- 'millwheellaw16.TaskLife': WHATEVER THE INPUT: true; the input reads as it did. -/
def taskLifeSpec : ChangeSpec := { name := "taskLife", fn := fun _ => fun
  | [d1, d2, d3] => { results := [.lit (.bool true)], args := [d1, d2, d3] }
  | _ => none }
def taskLifeRow : OpenClaim := { program := "ytnfmgojloahfkaa", sum := "a4c91f2cbc162ee58b0a8e62193022f24398223c25083da71fe79b0f4d736657", func := "millwheel/millwheellaw16.TaskLife", spec := "taskLife", unfollowed := true, recurses := true, apart := false }
def TaskLifeSaid : Prop := taskLifeRow.holds Try.pinned (OpenSpec.ofChange taskLifeSpec)

/-- ITS FALSE NEIGHBOUR: 'it returns false'. Refute it at one input. -/
def taskLifeWrong : ChangeSpec := { name := "taskLife", fn := fun _ => fun
  | [d1, d2, d3] => { results := [.lit (.bool false)], args := [d1, d2, d3] }
  | _ => none }
def TaskLifeWrongFalsely : Prop := taskLifeRow.holds Try.pinned (OpenSpec.ofChange taskLifeWrong)

/-- 'millwheellaw16.TaskTells': WHATEVER THE INPUT: true; the input reads as it did. -/
def taskTellsSpec : ChangeSpec := { name := "taskTells", fn := fun _ => fun
  | [d1, d2, d3] => { results := [.lit (.bool true)], args := [d1, d2, d3] }
  | _ => none }
def taskTellsRow : OpenClaim := { program := "ytnfmgojloahfkaa", sum := "a4c91f2cbc162ee58b0a8e62193022f24398223c25083da71fe79b0f4d736657", func := "millwheel/millwheellaw16.TaskTells", spec := "taskTells", unfollowed := true, recurses := true, apart := false }
def TaskTellsSaid : Prop := taskTellsRow.holds Try.pinned (OpenSpec.ofChange taskTellsSpec)

/-- ITS FALSE NEIGHBOUR: 'it returns false'. Refute it at one input. -/
def taskTellsWrong : ChangeSpec := { name := "taskTells", fn := fun _ => fun
  | [d1, d2, d3] => { results := [.lit (.bool false)], args := [d1, d2, d3] }
  | _ => none }
def TaskTellsWrongFalsely : Prop := taskTellsRow.holds Try.pinned (OpenSpec.ofChange taskTellsWrong)

/-- 'millwheellaw16.TaskOnce': WHATEVER THE INPUT: true; the input reads as it did. -/
def taskOnceSpec : ChangeSpec := { name := "taskOnce", fn := fun _ => fun
  | [d1, d2] => { results := [.lit (.bool true)], args := [d1, d2] }
  | _ => none }
def taskOnceRow : OpenClaim := { program := "ytnfmgojloahfkaa", sum := "a4c91f2cbc162ee58b0a8e62193022f24398223c25083da71fe79b0f4d736657", func := "millwheel/millwheellaw16.TaskOnce", spec := "taskOnce", unfollowed := true, recurses := true, apart := false }
def TaskOnceSaid : Prop := taskOnceRow.holds Try.pinned (OpenSpec.ofChange taskOnceSpec)

/-- ITS FALSE NEIGHBOUR: 'it returns false'. Refute it at one input. -/
def taskOnceWrong : ChangeSpec := { name := "taskOnce", fn := fun _ => fun
  | [d1, d2] => { results := [.lit (.bool false)], args := [d1, d2] }
  | _ => none }
def TaskOnceWrongFalsely : Prop := taskOnceRow.holds Try.pinned (OpenSpec.ofChange taskOnceWrong)

/-- 'millwheellaw16.TaskTokens': WHATEVER THE INPUT: true; the input reads as it did. -/
def taskTokensSpec : ChangeSpec := { name := "taskTokens", fn := fun _ => fun
  | [d1, d2, d3] => { results := [.lit (.bool true)], args := [d1, d2, d3] }
  | _ => none }
def taskTokensRow : OpenClaim := { program := "ytnfmgojloahfkaa", sum := "a4c91f2cbc162ee58b0a8e62193022f24398223c25083da71fe79b0f4d736657", func := "millwheel/millwheellaw16.TaskTokens", spec := "taskTokens", unfollowed := true, recurses := true, apart := false }
def TaskTokensSaid : Prop := taskTokensRow.holds Try.pinned (OpenSpec.ofChange taskTokensSpec)

/-- ITS FALSE NEIGHBOUR: 'it returns false'. Refute it at one input. -/
def taskTokensWrong : ChangeSpec := { name := "taskTokens", fn := fun _ => fun
  | [d1, d2, d3] => { results := [.lit (.bool false)], args := [d1, d2, d3] }
  | _ => none }
def TaskTokensWrongFalsely : Prop := taskTokensRow.holds Try.pinned (OpenSpec.ofChange taskTokensWrong)

/-- 'millwheellaw16.TaskTicks': WHATEVER THE INPUT: true; the input reads as it did. -/
def taskTicksSpec : ChangeSpec := { name := "taskTicks", fn := fun _ => fun
  | [d1, d2] => { results := [.lit (.bool true)], args := [d1, d2] }
  | _ => none }
def taskTicksRow : OpenClaim := { program := "ytnfmgojloahfkaa", sum := "a4c91f2cbc162ee58b0a8e62193022f24398223c25083da71fe79b0f4d736657", func := "millwheel/millwheellaw16.TaskTicks", spec := "taskTicks", unfollowed := true, recurses := true, apart := false }
def TaskTicksSaid : Prop := taskTicksRow.holds Try.pinned (OpenSpec.ofChange taskTicksSpec)

/-- ITS FALSE NEIGHBOUR: 'it returns false'. Refute it at one input. -/
def taskTicksWrong : ChangeSpec := { name := "taskTicks", fn := fun _ => fun
  | [d1, d2] => { results := [.lit (.bool false)], args := [d1, d2] }
  | _ => none }
def TaskTicksWrongFalsely : Prop := taskTicksRow.holds Try.pinned (OpenSpec.ofChange taskTicksWrong)

/- THE SECOND FORM. 'bulk': how many values and letters a reading holds, each counted each time it is reached (what is shared counts as often as it is met; a slice's spare places count too). A statement '..UptoSaid' is the law's where the arguments, and the package variables that the reading takes, are together of bulk at most 1048576: NARROWER than '..Said'. Prove '..Said' where nothing that the law and all that it calls make is longer than what came in: it says more and counts as full. Else prove '..UptoSaid'. A law counts once. -/
mutual
def uptoBulk {H : Type} : DataW H → Nat
  | .lit (.string bytes) => bytes.length + 1
  | .lit _ => 1
  | .nil => 1
  | .ptr d => uptoBulk d + 1
  | .slice elems spare => uptoBulkAll elems + uptoBulkAll spare + 1
  | .agg parts => uptoBulkAll parts + 1
  | .iface _ d => uptoBulk d + 1
  | .map entries => uptoBulkEntries entries + 1
  | .held _ => 1
def uptoBulkAll {H : Type} : List (DataW H) → Nat
  | [] => 0
  | d :: r => uptoBulk d + uptoBulkAll r
def uptoBulkEntries {H : Type} : List (Lit × DataW H) → Nat
  | [] => 0
  | x :: r => uptoBulkEntry x + uptoBulkEntries r
def uptoBulkEntry {H : Type} : Lit × DataW H → Nat
  | (.string bytes, d) => bytes.length + uptoBulk d + 1
  | (_, d) => uptoBulk d + 1
 end
def uptoSmall : (H : Type) → List (DataW H) → Bool := fun _ ds => decide (uptoBulkAll ds ≤ 1048576)
def OpenSpec.upto (s : _root_.Go.ChangeSpec) : _root_.Go.OpenSpec := { _root_.Go.OpenSpec.ofChange s with cond := some uptoSmall }

/-- 'millwheellaw16.TaskLife', WHERE WHAT IT READS IS OF BULK AT MOST 1048576: true; the input reads as it did. -/
def taskLifeUptoRow : OpenClaim := { program := "ytnfmgojloahfkaa", sum := "a4c91f2cbc162ee58b0a8e62193022f24398223c25083da71fe79b0f4d736657", func := "millwheel/millwheellaw16.TaskLife", spec := "taskLife", unfollowed := true, recurses := true, apart := false, narrowed := true }
def TaskLifeUptoSaid : Prop := taskLifeUptoRow.holds Try.pinned (OpenSpec.upto taskLifeSpec)

/-- 'millwheellaw16.TaskTells', WHERE WHAT IT READS IS OF BULK AT MOST 1048576: true; the input reads as it did. -/
def taskTellsUptoRow : OpenClaim := { program := "ytnfmgojloahfkaa", sum := "a4c91f2cbc162ee58b0a8e62193022f24398223c25083da71fe79b0f4d736657", func := "millwheel/millwheellaw16.TaskTells", spec := "taskTells", unfollowed := true, recurses := true, apart := false, narrowed := true }
def TaskTellsUptoSaid : Prop := taskTellsUptoRow.holds Try.pinned (OpenSpec.upto taskTellsSpec)

/-- 'millwheellaw16.TaskOnce', WHERE WHAT IT READS IS OF BULK AT MOST 1048576: true; the input reads as it did. -/
def taskOnceUptoRow : OpenClaim := { program := "ytnfmgojloahfkaa", sum := "a4c91f2cbc162ee58b0a8e62193022f24398223c25083da71fe79b0f4d736657", func := "millwheel/millwheellaw16.TaskOnce", spec := "taskOnce", unfollowed := true, recurses := true, apart := false, narrowed := true }
def TaskOnceUptoSaid : Prop := taskOnceUptoRow.holds Try.pinned (OpenSpec.upto taskOnceSpec)

/-- 'millwheellaw16.TaskTokens', WHERE WHAT IT READS IS OF BULK AT MOST 1048576: true; the input reads as it did. -/
def taskTokensUptoRow : OpenClaim := { program := "ytnfmgojloahfkaa", sum := "a4c91f2cbc162ee58b0a8e62193022f24398223c25083da71fe79b0f4d736657", func := "millwheel/millwheellaw16.TaskTokens", spec := "taskTokens", unfollowed := true, recurses := true, apart := false, narrowed := true }
def TaskTokensUptoSaid : Prop := taskTokensUptoRow.holds Try.pinned (OpenSpec.upto taskTokensSpec)

/-- 'millwheellaw16.TaskTicks', WHERE WHAT IT READS IS OF BULK AT MOST 1048576: true; the input reads as it did. -/
def taskTicksUptoRow : OpenClaim := { program := "ytnfmgojloahfkaa", sum := "a4c91f2cbc162ee58b0a8e62193022f24398223c25083da71fe79b0f4d736657", func := "millwheel/millwheellaw16.TaskTicks", spec := "taskTicks", unfollowed := true, recurses := true, apart := false, narrowed := true }
def TaskTicksUptoSaid : Prop := taskTicksUptoRow.holds Try.pinned (OpenSpec.upto taskTicksSpec)

end Rows
end Go.Proofs.Ytnfmgojloahfkaa

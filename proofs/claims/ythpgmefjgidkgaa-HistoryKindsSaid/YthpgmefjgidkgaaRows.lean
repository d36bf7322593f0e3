/-
  No cell of these rows narrows 'for every input' (looked for: loops, veiled, ifaces, maps, wideKeys, modest, calm, conditions, laid).
  DERIVED. THE GIVEN ROWS OF THIS SEAT. 5 by the template 'for every input the law returns true; each argument reads behind the call as it read before'; 0 by the template 'total and deterministic' (their statements: YthpgmefjgidkgaaTotals.lean).
  GIVEN WITH THE SEED: the statements are not yours to turn. If you find one false, say at which input.
  Laid BY PROGRAM, IN A SANDBOX (cutbox-rows.mjs): the forced cells as the released guide's own fill.sh prints them over the translation ed57327dcd3006f6… (all of the seat's roots in one cut). By AI agents, Wed Nov 11 2026. No macro, syntax, notation, axiom, sorry.
-/
import Derived.Test.YthpgmefjgidkgaaChecked
import GoSem.Claim
import GoSem.ClaimJoined
import GoSem.ClaimMapViews
import Derived.JoinedTies
import Derived.KernelRfl
namespace Go.Proofs.Ythpgmefjgidkgaa
/- THE CELL 'sum', in the pinned program and in every row, IS THE sha256 OF THE DUMP (.gsa) THAT YthpgmefjgidkgaaProg.lean LOADS. Nothing in Lean hashes anything: it is a label: what it is worth is what the hold of that sum in a sandbox is worth. -/
noncomputable def Try.pinned : Pinned := { name := "ythpgmefjgidkgaa", sum := "ed57327dcd3006f6d4add45cc4e219c660e23a10a4736885af8b4c1be36381e0", checked := Try.checked }
namespace Rows
def none {H : Type} : Left H := { results := [], args := [] }

/-- 'millwheellaw12.HistoryRight': WHATEVER THE INPUT: true; the input reads as it did. -/
def historyRightSpec : ChangeSpec := { name := "historyRight", fn := fun _ => fun
  | [d] => { results := [.lit (.bool true)], args := [d] }
  | _ => none }
def historyRightRow : OpenClaim := { program := "ythpgmefjgidkgaa", sum := "ed57327dcd3006f6d4add45cc4e219c660e23a10a4736885af8b4c1be36381e0", func := "millwheel/millwheellaw12.HistoryRight", spec := "historyRight", unfollowed := true, recurses := true, apart := false }
def HistoryRightSaid : Prop := historyRightRow.holds Try.pinned (OpenSpec.ofChange historyRightSpec)

/-- ITS FALSE NEIGHBOUR: 'it returns false'. Refute it at one input. -/
def historyRightWrong : ChangeSpec := { name := "historyRight", fn := fun _ => fun
  | [d] => { results := [.lit (.bool false)], args := [d] }
  | _ => none }
def HistoryRightWrongFalsely : Prop := historyRightRow.holds Try.pinned (OpenSpec.ofChange historyRightWrong)

/-- 'millwheellaw12.HistoryParts': WHATEVER THE INPUT: true; the input reads as it did. -/
def historyPartsSpec : ChangeSpec := { name := "historyParts", fn := fun _ => fun
  | [d1, d2] => { results := [.lit (.bool true)], args := [d1, d2] }
  | _ => none }
def historyPartsRow : OpenClaim := { program := "ythpgmefjgidkgaa", sum := "ed57327dcd3006f6d4add45cc4e219c660e23a10a4736885af8b4c1be36381e0", func := "millwheel/millwheellaw12.HistoryParts", spec := "historyParts", unfollowed := true, recurses := true, apart := false }
def HistoryPartsSaid : Prop := historyPartsRow.holds Try.pinned (OpenSpec.ofChange historyPartsSpec)

/-- ITS FALSE NEIGHBOUR: 'it returns false'. Refute it at one input. -/
def historyPartsWrong : ChangeSpec := { name := "historyParts", fn := fun _ => fun
  | [d1, d2] => { results := [.lit (.bool false)], args := [d1, d2] }
  | _ => none }
def HistoryPartsWrongFalsely : Prop := historyPartsRow.holds Try.pinned (OpenSpec.ofChange historyPartsWrong)

/-- 'millwheellaw12.HistoryWrong': WHATEVER THE INPUT: true; the input reads as it did. -/
def historyWrongSpec : ChangeSpec := { name := "historyWrong", fn := fun _ => fun
  | [d1, d2] => { results := [.lit (.bool true)], args := [d1, d2] }
  | _ => none }
def historyWrongRow : OpenClaim := { program := "ythpgmefjgidkgaa", sum := "ed57327dcd3006f6d4add45cc4e219c660e23a10a4736885af8b4c1be36381e0", func := "millwheel/millwheellaw12.HistoryWrong", spec := "historyWrong", unfollowed := true, recurses := true, apart := false }
def HistoryWrongSaid : Prop := historyWrongRow.holds Try.pinned (OpenSpec.ofChange historyWrongSpec)

/-- ITS FALSE NEIGHBOUR: 'it returns false'. Refute it at one input. -/
def historyWrongWrong : ChangeSpec := { name := "historyWrong", fn := fun _ => fun
  | [d1, d2] => { results := [.lit (.bool false)], args := [d1, d2] }
  | _ => none }
def HistoryWrongWrongFalsely : Prop := historyWrongRow.holds Try.pinned (OpenSpec.ofChange historyWrongWrong)

/-- 'millwheellaw12.HistoryKinds': WHATEVER THE INPUT: true; the input reads as it did. -/
def historyKindsSpec : ChangeSpec := { name := "historyKinds", fn := fun _ => fun
  | [d] => { results := [.lit (.bool true)], args := [d] }
  | _ => none }
def historyKindsRow : OpenClaim := { program := "ythpgmefjgidkgaa", sum := "ed57327dcd3006f6d4add45cc4e219c660e23a10a4736885af8b4c1be36381e0", func := "millwheel/millwheellaw12.HistoryKinds", spec := "historyKinds", unfollowed := true, recurses := true, apart := false }
def HistoryKindsSaid : Prop := historyKindsRow.holds Try.pinned (OpenSpec.ofChange historyKindsSpec)

/-- ITS FALSE NEIGHBOUR: 'it returns false'. Refute it at one input. -/
def historyKindsWrong : ChangeSpec := { name := "historyKinds", fn := fun _ => fun
  | [d] => { results := [.lit (.bool false)], args := [d] }
  | _ => none }
def HistoryKindsWrongFalsely : Prop := historyKindsRow.holds Try.pinned (OpenSpec.ofChange historyKindsWrong)

/-- 'millwheellaw12.HistoryStops': WHATEVER THE INPUT: true; the input reads as it did. -/
def historyStopsSpec : ChangeSpec := { name := "historyStops", fn := fun _ => fun
  | [d] => { results := [.lit (.bool true)], args := [d] }
  | _ => none }
def historyStopsRow : OpenClaim := { program := "ythpgmefjgidkgaa", sum := "ed57327dcd3006f6d4add45cc4e219c660e23a10a4736885af8b4c1be36381e0", func := "millwheel/millwheellaw12.HistoryStops", spec := "historyStops", unfollowed := true, recurses := true, apart := false }
def HistoryStopsSaid : Prop := historyStopsRow.holds Try.pinned (OpenSpec.ofChange historyStopsSpec)

/-- ITS FALSE NEIGHBOUR: 'it returns false'. Refute it at one input. -/
def historyStopsWrong : ChangeSpec := { name := "historyStops", fn := fun _ => fun
  | [d] => { results := [.lit (.bool false)], args := [d] }
  | _ => none }
def HistoryStopsWrongFalsely : Prop := historyStopsRow.holds Try.pinned (OpenSpec.ofChange historyStopsWrong)

/- THE SECOND FORM. 'bulk': how many values and letters a reading holds, each counted each time it is reached (what is shared counts as often as it is met; a slice's spare places count too). A statement '..UptoSaid' is the law's where the arguments, and the package variables that the reading takes, are together of bulk at most 1048576: NARROWER than '..Said'. Prove '..Said' where nothing that the law and all that it calls make is longer than what came in: it says more and counts as full. Else prove '..UptoSaid'. A law counts once. -/
mutual
def uptoBulk {H : Type} : DataW H → Nat
  | .lit (.string bytes) => bytes.length + 1
  | .lit _ => 1
  | .nil => 1
  | .ptr d => uptoBulk d + 1
  | .slice elems spare => uptoBulkAll elems + uptoBulkAll spare + 1
  | .agg parts => uptoBulkAll parts + 1
  | .iface _ d => uptoBulk d + 1
  | .map entries => uptoBulkEntries entries + 1
  | .held _ => 1
def uptoBulkAll {H : Type} : List (DataW H) → Nat
  | [] => 0
  | d :: r => uptoBulk d + uptoBulkAll r
def uptoBulkEntries {H : Type} : List (Lit × DataW H) → Nat
  | [] => 0
  | x :: r => uptoBulkEntry x + uptoBulkEntries r
def uptoBulkEntry {H : Type} : Lit × DataW H → Nat
  | (.string bytes, d) => bytes.length + uptoBulk d + 1
  | (_, d) => uptoBulk d + 1
 end
def uptoSmall : (H : Type) → List (DataW H) → Bool := fun _ ds => decide (uptoBulkAll ds ≤ 1048576)
def OpenSpec.upto (s : _root_.Go.ChangeSpec) : _root_.Go.OpenSpec := { _root_.Go.OpenSpec.ofChange s with cond := some uptoSmall }

/-- 'millwheellaw12.HistoryRight', WHERE WHAT IT READS IS OF BULK AT MOST 1048576: true; the input reads as it did. -/
def historyRightUptoRow : OpenClaim := { program := "ythpgmefjgidkgaa", sum := "ed57327dcd3006f6d4add45cc4e219c660e23a10a4736885af8b4c1be36381e0", func := "millwheel/millwheellaw12.HistoryRight", spec := "historyRight", unfollowed := true, recurses := true, apart := false, narrowed := true }
def HistoryRightUptoSaid : Prop := historyRightUptoRow.holds Try.pinned (OpenSpec.upto historyRightSpec)

/-- 'millwheellaw12.HistoryParts', WHERE WHAT IT READS IS OF BULK AT MOST 1048576: true; the input reads as it did. -/
def historyPartsUptoRow : OpenClaim := { program := "ythpgmefjgidkgaa", sum := "ed57327dcd3006f6d4add45cc4e219c660e23a10a4736885af8b4c1be36381e0", func := "millwheel/millwheellaw12.HistoryParts", spec := "historyParts", unfollowed := true, recurses := true, apart := false, narrowed := true }
def HistoryPartsUptoSaid : Prop := historyPartsUptoRow.holds Try.pinned (OpenSpec.upto historyPartsSpec)

/-- 'millwheellaw12.HistoryWrong', WHERE WHAT IT READS IS OF BULK AT MOST 1048576: true; the input reads as it did. -/
def historyWrongUptoRow : OpenClaim := { program := "ythpgmefjgidkgaa", sum := "ed57327dcd3006f6d4add45cc4e219c660e23a10a4736885af8b4c1be36381e0", func := "millwheel/millwheellaw12.HistoryWrong", spec := "historyWrong", unfollowed := true, recurses := true, apart := false, narrowed := true }
def HistoryWrongUptoSaid : Prop := historyWrongUptoRow.holds Try.pinned (OpenSpec.upto historyWrongSpec)

/-- 'millwheellaw12.HistoryKinds', WHERE WHAT IT READS IS OF BULK AT MOST 1048576: true; the input reads as it did. -/
def historyKindsUptoRow : OpenClaim := { program := "ythpgmefjgidkgaa", sum := "ed57327dcd3006f6d4add45cc4e219c660e23a10a4736885af8b4c1be36381e0", func := "millwheel/millwheellaw12.HistoryKinds", spec := "historyKinds", unfollowed := true, recurses := true, apart := false, narrowed := true }
def HistoryKindsUptoSaid : Prop := historyKindsUptoRow.holds Try.pinned (OpenSpec.upto historyKindsSpec)

/-- 'millwheellaw12.HistoryStops', WHERE WHAT IT READS IS OF BULK AT MOST 1048576: true; the input reads as it did. -/
def historyStopsUptoRow : OpenClaim := { program := "ythpgmefjgidkgaa", sum := "ed57327dcd3006f6d4add45cc4e219c660e23a10a4736885af8b4c1be36381e0", func := "millwheel/millwheellaw12.HistoryStops", spec := "historyStops", unfollowed := true, recurses := true, apart := false, narrowed := true }
def HistoryStopsUptoSaid : Prop := historyStopsUptoRow.holds Try.pinned (OpenSpec.upto historyStopsSpec)

end Rows
end Go.Proofs.Ythpgmefjgidkgaa

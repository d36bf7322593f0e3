/-
  No cell of these rows narrows 'for every input' (looked for: loops, veiled, ifaces, maps, wideKeys, modest, calm, conditions, laid).
  DERIVED. THE GIVEN ROWS OF THIS SEAT. 7 by the template 'for every input the law returns true; each argument reads behind the call as it read before'; 0 by the template 'total and deterministic' (their statements: YtpfkpdimjljeaaaTotals.lean).
  GIVEN WITH THE SEED: the statements are not yours to turn. If you find one false, say at which input.
  Laid BY PROGRAM, IN A SANDBOX (cutbox-rows.mjs): the forced cells as the released guide's own fill.sh prints them over the translation 63f3d4af6e93c278… (all of the seat's roots in one cut). By AI agents, Wed Nov 11 2026. No macro, syntax, notation, axiom, sorry.
-/
import Derived.Test.YtpfkpdimjljeaaaChecked
import GoSem.Claim
import GoSem.ClaimJoined
import GoSem.ClaimMapViews
import Derived.JoinedTies
import Derived.KernelRfl
namespace Go.Proofs.Ytpfkpdimjljeaaa
/- THE CELL 'sum', in the pinned program and in every row, IS THE sha256 OF THE DUMP (.gsa) THAT YtpfkpdimjljeaaaProg.lean LOADS. Nothing in Lean hashes anything: it is a label: what it is worth is what the hold of that sum in a sandbox is worth. -/
noncomputable def Try.pinned : Pinned := { name := "ytpfkpdimjljeaaa", sum := "63f3d4af6e93c2788488d5087a0db17d261df3ea5f0004635a3e07ec3fc68bc1", checked := Try.checked }
namespace Rows
def none {H : Type} : Left H := { results := [], args := [] }

/-- 'millwheellaw10.RunTells': WHATEVER THE INPUT: true; the input reads as it did. -/
def runTellsSpec : ChangeSpec := { name := "runTells", fn := fun _ => fun
  | [d1, d2] => { results := [.lit (.bool true)], args := [d1, d2] }
  | _ => none }
def runTellsRow : OpenClaim := { program := "ytpfkpdimjljeaaa", sum := "63f3d4af6e93c2788488d5087a0db17d261df3ea5f0004635a3e07ec3fc68bc1", func := "millwheel/millwheellaw10.RunTells", spec := "runTells", unfollowed := true, recurses := true, apart := false }
def RunTellsSaid : Prop := runTellsRow.holds Try.pinned (OpenSpec.ofChange runTellsSpec)

/-- ITS FALSE NEIGHBOUR: 'it returns false'. Refute it at one input. -/
def runTellsWrong : ChangeSpec := { name := "runTells", fn := fun _ => fun
  | [d1, d2] => { results := [.lit (.bool false)], args := [d1, d2] }
  | _ => none }
def RunTellsWrongFalsely : Prop := runTellsRow.holds Try.pinned (OpenSpec.ofChange runTellsWrong)

/-- 'millwheellaw10.RunGrows': WHATEVER THE INPUT: true; the input reads as it did. -/
def runGrowsSpec : ChangeSpec := { name := "runGrows", fn := fun _ => fun
  | [d1, d2, d3] => { results := [.lit (.bool true)], args := [d1, d2, d3] }
  | _ => none }
def runGrowsRow : OpenClaim := { program := "ytpfkpdimjljeaaa", sum := "63f3d4af6e93c2788488d5087a0db17d261df3ea5f0004635a3e07ec3fc68bc1", func := "millwheel/millwheellaw10.RunGrows", spec := "runGrows", unfollowed := true, recurses := true, apart := false }
def RunGrowsSaid : Prop := runGrowsRow.holds Try.pinned (OpenSpec.ofChange runGrowsSpec)

/-- ITS FALSE NEIGHBOUR: 'it returns false'. Refute it at one input. -/
def runGrowsWrong : ChangeSpec := { name := "runGrows", fn := fun _ => fun
  | [d1, d2, d3] => { results := [.lit (.bool false)], args := [d1, d2, d3] }
  | _ => none }
def RunGrowsWrongFalsely : Prop := runGrowsRow.holds Try.pinned (OpenSpec.ofChange runGrowsWrong)

/-- 'millwheellaw10.RunFuel': WHATEVER THE INPUT: true; the input reads as it did. -/
def runFuelSpec : ChangeSpec := { name := "runFuel", fn := fun _ => fun
  | [d1, d2, d3] => { results := [.lit (.bool true)], args := [d1, d2, d3] }
  | _ => none }
def runFuelRow : OpenClaim := { program := "ytpfkpdimjljeaaa", sum := "63f3d4af6e93c2788488d5087a0db17d261df3ea5f0004635a3e07ec3fc68bc1", func := "millwheel/millwheellaw10.RunFuel", spec := "runFuel", unfollowed := true, recurses := true, apart := false }
def RunFuelSaid : Prop := runFuelRow.holds Try.pinned (OpenSpec.ofChange runFuelSpec)

/-- ITS FALSE NEIGHBOUR: 'it returns false'. Refute it at one input. -/
def runFuelWrong : ChangeSpec := { name := "runFuel", fn := fun _ => fun
  | [d1, d2, d3] => { results := [.lit (.bool false)], args := [d1, d2, d3] }
  | _ => none }
def RunFuelWrongFalsely : Prop := runFuelRow.holds Try.pinned (OpenSpec.ofChange runFuelWrong)

/-- 'millwheellaw10.RunOrder': WHATEVER THE INPUT: true; the input reads as it did. -/
def runOrderSpec : ChangeSpec := { name := "runOrder", fn := fun _ => fun
  | [d1, d2, d3] => { results := [.lit (.bool true)], args := [d1, d2, d3] }
  | _ => none }
def runOrderRow : OpenClaim := { program := "ytpfkpdimjljeaaa", sum := "63f3d4af6e93c2788488d5087a0db17d261df3ea5f0004635a3e07ec3fc68bc1", func := "millwheel/millwheellaw10.RunOrder", spec := "runOrder", unfollowed := true, recurses := true, apart := false }
def RunOrderSaid : Prop := runOrderRow.holds Try.pinned (OpenSpec.ofChange runOrderSpec)

/-- ITS FALSE NEIGHBOUR: 'it returns false'. Refute it at one input. -/
def runOrderWrong : ChangeSpec := { name := "runOrder", fn := fun _ => fun
  | [d1, d2, d3] => { results := [.lit (.bool false)], args := [d1, d2, d3] }
  | _ => none }
def RunOrderWrongFalsely : Prop := runOrderRow.holds Try.pinned (OpenSpec.ofChange runOrderWrong)

/-- 'millwheellaw10.RunCounts': WHATEVER THE INPUT: true; the input reads as it did. -/
def runCountsSpec : ChangeSpec := { name := "runCounts", fn := fun _ => fun
  | [d1, d2] => { results := [.lit (.bool true)], args := [d1, d2] }
  | _ => none }
def runCountsRow : OpenClaim := { program := "ytpfkpdimjljeaaa", sum := "63f3d4af6e93c2788488d5087a0db17d261df3ea5f0004635a3e07ec3fc68bc1", func := "millwheel/millwheellaw10.RunCounts", spec := "runCounts", unfollowed := true, recurses := true, apart := false }
def RunCountsSaid : Prop := runCountsRow.holds Try.pinned (OpenSpec.ofChange runCountsSpec)

/-- ITS FALSE NEIGHBOUR: 'it returns false'. Refute it at one input. -/
def runCountsWrong : ChangeSpec := { name := "runCounts", fn := fun _ => fun
  | [d1, d2] => { results := [.lit (.bool false)], args := [d1, d2] }
  | _ => none }
def RunCountsWrongFalsely : Prop := runCountsRow.holds Try.pinned (OpenSpec.ofChange runCountsWrong)

/-- 'millwheellaw10.RunWaits': WHATEVER THE INPUT: true; the input reads as it did. -/
def runWaitsSpec : ChangeSpec := { name := "runWaits", fn := fun _ => fun
  | [d1, d2] => { results := [.lit (.bool true)], args := [d1, d2] }
  | _ => none }
def runWaitsRow : OpenClaim := { program := "ytpfkpdimjljeaaa", sum := "63f3d4af6e93c2788488d5087a0db17d261df3ea5f0004635a3e07ec3fc68bc1", func := "millwheel/millwheellaw10.RunWaits", spec := "runWaits", unfollowed := true, recurses := true, apart := false }
def RunWaitsSaid : Prop := runWaitsRow.holds Try.pinned (OpenSpec.ofChange runWaitsSpec)

/-- ITS FALSE NEIGHBOUR: 'it returns false'. Refute it at one input. -/
def runWaitsWrong : ChangeSpec := { name := "runWaits", fn := fun _ => fun
  | [d1, d2] => { results := [.lit (.bool false)], args := [d1, d2] }
  | _ => none }
def RunWaitsWrongFalsely : Prop := runWaitsRow.holds Try.pinned (OpenSpec.ofChange runWaitsWrong)

/-- 'millwheellaw10.RunSigns': WHATEVER THE INPUT: true; the input reads as it did. -/
def runSignsSpec : ChangeSpec := { name := "runSigns", fn := fun _ => fun
  | [d1, d2] => { results := [.lit (.bool true)], args := [d1, d2] }
  | _ => none }
def runSignsRow : OpenClaim := { program := "ytpfkpdimjljeaaa", sum := "63f3d4af6e93c2788488d5087a0db17d261df3ea5f0004635a3e07ec3fc68bc1", func := "millwheel/millwheellaw10.RunSigns", spec := "runSigns", unfollowed := true, recurses := true, apart := false }
def RunSignsSaid : Prop := runSignsRow.holds Try.pinned (OpenSpec.ofChange runSignsSpec)

/-- ITS FALSE NEIGHBOUR: 'it returns false'. Refute it at one input. -/
def runSignsWrong : ChangeSpec := { name := "runSigns", fn := fun _ => fun
  | [d1, d2] => { results := [.lit (.bool false)], args := [d1, d2] }
  | _ => none }
def RunSignsWrongFalsely : Prop := runSignsRow.holds Try.pinned (OpenSpec.ofChange runSignsWrong)

/- THE SECOND FORM. 'bulk': how many values and letters a reading holds, each counted each time it is reached (what is shared counts as often as it is met; a slice's spare places count too). A statement '..UptoSaid' is the law's where the arguments, and the package variables that the reading takes, are together of bulk at most 1048576: NARROWER than '..Said'. Prove '..Said' where nothing that the law and all that it calls make is longer than what came in: it says more and counts as full. Else prove '..UptoSaid'. A law counts once. -/
mutual
def uptoBulk {H : Type} : DataW H → Nat
  | .lit (.string bytes) => bytes.length + 1
  | .lit _ => 1
  | .nil => 1
  | .ptr d => uptoBulk d + 1
  | .slice elems spare => uptoBulkAll elems + uptoBulkAll spare + 1
  | .agg parts => uptoBulkAll parts + 1
  | .iface _ d => uptoBulk d + 1
  | .map entries => uptoBulkEntries entries + 1
  | .held _ => 1
def uptoBulkAll {H : Type} : List (DataW H) → Nat
  | [] => 0
  | d :: r => uptoBulk d + uptoBulkAll r
def uptoBulkEntries {H : Type} : List (Lit × DataW H) → Nat
  | [] => 0
  | x :: r => uptoBulkEntry x + uptoBulkEntries r
def uptoBulkEntry {H : Type} : Lit × DataW H → Nat
  | (.string bytes, d) => bytes.length + uptoBulk d + 1
  | (_, d) => uptoBulk d + 1
 end
def uptoSmall : (H : Type) → List (DataW H) → Bool := fun _ ds => decide (uptoBulkAll ds ≤ 1048576)
def OpenSpec.upto (s : _root_.Go.ChangeSpec) : _root_.Go.OpenSpec := { _root_.Go.OpenSpec.ofChange s with cond := some uptoSmall }

/-- 'millwheellaw10.RunTells', WHERE WHAT IT READS IS OF BULK AT MOST 1048576: true; the input reads as it did. -/
def runTellsUptoRow : OpenClaim := { program := "ytpfkpdimjljeaaa", sum := "63f3d4af6e93c2788488d5087a0db17d261df3ea5f0004635a3e07ec3fc68bc1", func := "millwheel/millwheellaw10.RunTells", spec := "runTells", unfollowed := true, recurses := true, apart := false, narrowed := true }
def RunTellsUptoSaid : Prop := runTellsUptoRow.holds Try.pinned (OpenSpec.upto runTellsSpec)

/-- 'millwheellaw10.RunGrows', WHERE WHAT IT READS IS OF BULK AT MOST 1048576: true; the input reads as it did. -/
def runGrowsUptoRow : OpenClaim := { program := "ytpfkpdimjljeaaa", sum := "63f3d4af6e93c2788488d5087a0db17d261df3ea5f0004635a3e07ec3fc68bc1", func := "millwheel/millwheellaw10.RunGrows", spec := "runGrows", unfollowed := true, recurses := true, apart := false, narrowed := true }
def RunGrowsUptoSaid : Prop := runGrowsUptoRow.holds Try.pinned (OpenSpec.upto runGrowsSpec)

/-- 'millwheellaw10.RunFuel', WHERE WHAT IT READS IS OF BULK AT MOST 1048576: true; the input reads as it did. -/
def runFuelUptoRow : OpenClaim := { program := "ytpfkpdimjljeaaa", sum := "63f3d4af6e93c2788488d5087a0db17d261df3ea5f0004635a3e07ec3fc68bc1", func := "millwheel/millwheellaw10.RunFuel", spec := "runFuel", unfollowed := true, recurses := true, apart := false, narrowed := true }
def RunFuelUptoSaid : Prop := runFuelUptoRow.holds Try.pinned (OpenSpec.upto runFuelSpec)

/-- 'millwheellaw10.RunOrder', WHERE WHAT IT READS IS OF BULK AT MOST 1048576: true; the input reads as it did. -/
def runOrderUptoRow : OpenClaim := { program := "ytpfkpdimjljeaaa", sum := "63f3d4af6e93c2788488d5087a0db17d261df3ea5f0004635a3e07ec3fc68bc1", func := "millwheel/millwheellaw10.RunOrder", spec := "runOrder", unfollowed := true, recurses := true, apart := false, narrowed := true }
def RunOrderUptoSaid : Prop := runOrderUptoRow.holds Try.pinned (OpenSpec.upto runOrderSpec)

/-- 'millwheellaw10.RunCounts', WHERE WHAT IT READS IS OF BULK AT MOST 1048576: true; the input reads as it did. -/
def runCountsUptoRow : OpenClaim := { program := "ytpfkpdimjljeaaa", sum := "63f3d4af6e93c2788488d5087a0db17d261df3ea5f0004635a3e07ec3fc68bc1", func := "millwheel/millwheellaw10.RunCounts", spec := "runCounts", unfollowed := true, recurses := true, apart := false, narrowed := true }
def RunCountsUptoSaid : Prop := runCountsUptoRow.holds Try.pinned (OpenSpec.upto runCountsSpec)

/-- 'millwheellaw10.RunWaits', WHERE WHAT IT READS IS OF BULK AT MOST 1048576: true; the input reads as it did. -/
def runWaitsUptoRow : OpenClaim := { program := "ytpfkpdimjljeaaa", sum := "63f3d4af6e93c2788488d5087a0db17d261df3ea5f0004635a3e07ec3fc68bc1", func := "millwheel/millwheellaw10.RunWaits", spec := "runWaits", unfollowed := true, recurses := true, apart := false, narrowed := true }
def RunWaitsUptoSaid : Prop := runWaitsUptoRow.holds Try.pinned (OpenSpec.upto runWaitsSpec)

/-- 'millwheellaw10.RunSigns', WHERE WHAT IT READS IS OF BULK AT MOST 1048576: true; the input reads as it did. -/
def runSignsUptoRow : OpenClaim := { program := "ytpfkpdimjljeaaa", sum := "63f3d4af6e93c2788488d5087a0db17d261df3ea5f0004635a3e07ec3fc68bc1", func := "millwheel/millwheellaw10.RunSigns", spec := "runSigns", unfollowed := true, recurses := true, apart := false, narrowed := true }
def RunSignsUptoSaid : Prop := runSignsUptoRow.holds Try.pinned (OpenSpec.upto runSignsSpec)

end Rows
end Go.Proofs.Ytpfkpdimjljeaaa

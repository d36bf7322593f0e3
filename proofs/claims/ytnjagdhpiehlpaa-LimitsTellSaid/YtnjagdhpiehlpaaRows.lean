/-
  No cell of these rows narrows 'for every input' (looked for: loops, veiled, ifaces, maps, wideKeys, modest, calm, conditions, laid).
  DERIVED. THE GIVEN ROWS OF THIS SEAT. 9 by the template 'for every input the law returns true; each argument reads behind the call as it read before'; 0 by the template 'total and deterministic' (their statements: YtnjagdhpiehlpaaTotals.lean).
  GIVEN WITH THE SEED: the statements are not yours to turn. If you find one false, say at which input.
  Laid BY PROGRAM, IN A SANDBOX (cutbox-rows.mjs): the forced cells as the released guide's own fill.sh prints them over the translation 1c8c124959e2d07d… (all of the seat's roots in one cut). By AI agents, Wed Nov 11 2026. No macro, syntax, notation, axiom, sorry.
-/
import Derived.Test.YtnjagdhpiehlpaaChecked
import GoSem.Claim
import GoSem.ClaimJoined
import GoSem.ClaimMapViews
import Derived.JoinedTies
import Derived.KernelRfl
namespace Go.Proofs.Ytnjagdhpiehlpaa
/- THE CELL 'sum', in the pinned program and in every row, IS THE sha256 OF THE DUMP (.gsa) THAT YtnjagdhpiehlpaaProg.lean LOADS. Nothing in Lean hashes anything: it is a label: what it is worth is what the hold of that sum in a sandbox is worth. -/
noncomputable def Try.pinned : Pinned := { name := "ytnjagdhpiehlpaa", sum := "1c8c124959e2d07d0d8d9f54ec4ade8922869e1817cbb3ff681e198b93385c46", checked := Try.checked }
namespace Rows
def none {H : Type} : Left H := { results := [], args := [] }

/-- 'millwheellaw14.RetryWaits': WHATEVER THE INPUT: true; the input reads as it did. -/
def retryWaitsSpec : ChangeSpec := { name := "retryWaits", fn := fun _ => fun
  | [d1, d2, d3] => { results := [.lit (.bool true)], args := [d1, d2, d3] }
  | _ => none }
def retryWaitsRow : OpenClaim := { program := "ytnjagdhpiehlpaa", sum := "1c8c124959e2d07d0d8d9f54ec4ade8922869e1817cbb3ff681e198b93385c46", func := "millwheel/millwheellaw14.RetryWaits", spec := "retryWaits", apart := false }
def RetryWaitsSaid : Prop := retryWaitsRow.holds Try.pinned (OpenSpec.ofChange retryWaitsSpec)

/-- ITS FALSE NEIGHBOUR: 'it returns false'. Refute it at one input. -/
def retryWaitsWrong : ChangeSpec := { name := "retryWaits", fn := fun _ => fun
  | [d1, d2, d3] => { results := [.lit (.bool false)], args := [d1, d2, d3] }
  | _ => none }
def RetryWaitsWrongFalsely : Prop := retryWaitsRow.holds Try.pinned (OpenSpec.ofChange retryWaitsWrong)

/-- 'millwheellaw14.RetryDoubles': WHATEVER THE INPUT: true; the input reads as it did. -/
def retryDoublesSpec : ChangeSpec := { name := "retryDoubles", fn := fun _ => fun
  | [d1, d2] => { results := [.lit (.bool true)], args := [d1, d2] }
  | _ => none }
def retryDoublesRow : OpenClaim := { program := "ytnjagdhpiehlpaa", sum := "1c8c124959e2d07d0d8d9f54ec4ade8922869e1817cbb3ff681e198b93385c46", func := "millwheel/millwheellaw14.RetryDoubles", spec := "retryDoubles", apart := false }
def RetryDoublesSaid : Prop := retryDoublesRow.holds Try.pinned (OpenSpec.ofChange retryDoublesSpec)

/-- ITS FALSE NEIGHBOUR: 'it returns false'. Refute it at one input. -/
def retryDoublesWrong : ChangeSpec := { name := "retryDoubles", fn := fun _ => fun
  | [d1, d2] => { results := [.lit (.bool false)], args := [d1, d2] }
  | _ => none }
def RetryDoublesWrongFalsely : Prop := retryDoublesRow.holds Try.pinned (OpenSpec.ofChange retryDoublesWrong)

/-- 'millwheellaw14.RetryPlus': WHATEVER THE INPUT: true; the input reads as it did. -/
def retryPlusSpec : ChangeSpec := { name := "retryPlus", fn := fun _ => fun
  | [d1, d2, d3] => { results := [.lit (.bool true)], args := [d1, d2, d3] }
  | _ => none }
def retryPlusRow : OpenClaim := { program := "ytnjagdhpiehlpaa", sum := "1c8c124959e2d07d0d8d9f54ec4ade8922869e1817cbb3ff681e198b93385c46", func := "millwheel/millwheellaw14.RetryPlus", spec := "retryPlus", apart := false }
def RetryPlusSaid : Prop := retryPlusRow.holds Try.pinned (OpenSpec.ofChange retryPlusSpec)

/-- ITS FALSE NEIGHBOUR: 'it returns false'. Refute it at one input. -/
def retryPlusWrong : ChangeSpec := { name := "retryPlus", fn := fun _ => fun
  | [d1, d2, d3] => { results := [.lit (.bool false)], args := [d1, d2, d3] }
  | _ => none }
def RetryPlusWrongFalsely : Prop := retryPlusRow.holds Try.pinned (OpenSpec.ofChange retryPlusWrong)

/-- 'millwheellaw14.RetryTells': WHATEVER THE INPUT: true; the input reads as it did. -/
def retryTellsSpec : ChangeSpec := { name := "retryTells", fn := fun _ => fun
  | [d1, d2, d3] => { results := [.lit (.bool true)], args := [d1, d2, d3] }
  | _ => none }
def retryTellsRow : OpenClaim := { program := "ytnjagdhpiehlpaa", sum := "1c8c124959e2d07d0d8d9f54ec4ade8922869e1817cbb3ff681e198b93385c46", func := "millwheel/millwheellaw14.RetryTells", spec := "retryTells", apart := false }
def RetryTellsSaid : Prop := retryTellsRow.holds Try.pinned (OpenSpec.ofChange retryTellsSpec)

/-- ITS FALSE NEIGHBOUR: 'it returns false'. Refute it at one input. -/
def retryTellsWrong : ChangeSpec := { name := "retryTells", fn := fun _ => fun
  | [d1, d2, d3] => { results := [.lit (.bool false)], args := [d1, d2, d3] }
  | _ => none }
def RetryTellsWrongFalsely : Prop := retryTellsRow.holds Try.pinned (OpenSpec.ofChange retryTellsWrong)

/-- 'millwheellaw14.RetrySum': WHATEVER THE INPUT: true; the input reads as it did. -/
def retrySumSpec : ChangeSpec := { name := "retrySum", fn := fun _ => fun
  | [d] => { results := [.lit (.bool true)], args := [d] }
  | _ => none }
def retrySumRow : OpenClaim := { program := "ytnjagdhpiehlpaa", sum := "1c8c124959e2d07d0d8d9f54ec4ade8922869e1817cbb3ff681e198b93385c46", func := "millwheel/millwheellaw14.RetrySum", spec := "retrySum", apart := false }
def RetrySumSaid : Prop := retrySumRow.holds Try.pinned (OpenSpec.ofChange retrySumSpec)

/-- ITS FALSE NEIGHBOUR: 'it returns false'. Refute it at one input. -/
def retrySumWrong : ChangeSpec := { name := "retrySum", fn := fun _ => fun
  | [d] => { results := [.lit (.bool false)], args := [d] }
  | _ => none }
def RetrySumWrongFalsely : Prop := retrySumRow.holds Try.pinned (OpenSpec.ofChange retrySumWrong)

/-- 'millwheellaw15.LimitsFirst': WHATEVER THE INPUT: true; the input reads as it did. -/
def limitsFirstSpec : ChangeSpec := { name := "limitsFirst", fn := fun _ => fun
  | [d1, d2] => { results := [.lit (.bool true)], args := [d1, d2] }
  | _ => none }
def limitsFirstRow : OpenClaim := { program := "ytnjagdhpiehlpaa", sum := "1c8c124959e2d07d0d8d9f54ec4ade8922869e1817cbb3ff681e198b93385c46", func := "millwheel/millwheellaw15.LimitsFirst", spec := "limitsFirst", unfollowed := true, recurses := true, apart := false }
def LimitsFirstSaid : Prop := limitsFirstRow.holds Try.pinned (OpenSpec.ofChange limitsFirstSpec)

/-- ITS FALSE NEIGHBOUR: 'it returns false'. Refute it at one input. -/
def limitsFirstWrong : ChangeSpec := { name := "limitsFirst", fn := fun _ => fun
  | [d1, d2] => { results := [.lit (.bool false)], args := [d1, d2] }
  | _ => none }
def LimitsFirstWrongFalsely : Prop := limitsFirstRow.holds Try.pinned (OpenSpec.ofChange limitsFirstWrong)

/-- 'millwheellaw15.LimitsLater': WHATEVER THE INPUT: true; the input reads as it did. -/
def limitsLaterSpec : ChangeSpec := { name := "limitsLater", fn := fun _ => fun
  | [d1, d2, d3] => { results := [.lit (.bool true)], args := [d1, d2, d3] }
  | _ => none }
def limitsLaterRow : OpenClaim := { program := "ytnjagdhpiehlpaa", sum := "1c8c124959e2d07d0d8d9f54ec4ade8922869e1817cbb3ff681e198b93385c46", func := "millwheel/millwheellaw15.LimitsLater", spec := "limitsLater", unfollowed := true, recurses := true, apart := false }
def LimitsLaterSaid : Prop := limitsLaterRow.holds Try.pinned (OpenSpec.ofChange limitsLaterSpec)

/-- ITS FALSE NEIGHBOUR: 'it returns false'. Refute it at one input. -/
def limitsLaterWrong : ChangeSpec := { name := "limitsLater", fn := fun _ => fun
  | [d1, d2, d3] => { results := [.lit (.bool false)], args := [d1, d2, d3] }
  | _ => none }
def LimitsLaterWrongFalsely : Prop := limitsLaterRow.holds Try.pinned (OpenSpec.ofChange limitsLaterWrong)

/-- 'millwheellaw15.LimitsEach': WHATEVER THE INPUT: true; the input reads as it did. -/
def limitsEachSpec : ChangeSpec := { name := "limitsEach", fn := fun _ => fun
  | [d1, d2, d3, d4] => { results := [.lit (.bool true)], args := [d1, d2, d3, d4] }
  | _ => none }
def limitsEachRow : OpenClaim := { program := "ytnjagdhpiehlpaa", sum := "1c8c124959e2d07d0d8d9f54ec4ade8922869e1817cbb3ff681e198b93385c46", func := "millwheel/millwheellaw15.LimitsEach", spec := "limitsEach", unfollowed := true, recurses := true, apart := false }
def LimitsEachSaid : Prop := limitsEachRow.holds Try.pinned (OpenSpec.ofChange limitsEachSpec)

/-- ITS FALSE NEIGHBOUR: 'it returns false'. Refute it at one input. -/
def limitsEachWrong : ChangeSpec := { name := "limitsEach", fn := fun _ => fun
  | [d1, d2, d3, d4] => { results := [.lit (.bool false)], args := [d1, d2, d3, d4] }
  | _ => none }
def LimitsEachWrongFalsely : Prop := limitsEachRow.holds Try.pinned (OpenSpec.ofChange limitsEachWrong)

/-- 'millwheellaw15.LimitsTell': WHATEVER THE INPUT: true; the input reads as it did. -/
def limitsTellSpec : ChangeSpec := { name := "limitsTell", fn := fun _ => fun
  | [d1, d2, d3] => { results := [.lit (.bool true)], args := [d1, d2, d3] }
  | _ => none }
def limitsTellRow : OpenClaim := { program := "ytnjagdhpiehlpaa", sum := "1c8c124959e2d07d0d8d9f54ec4ade8922869e1817cbb3ff681e198b93385c46", func := "millwheel/millwheellaw15.LimitsTell", spec := "limitsTell", unfollowed := true, recurses := true, apart := false }
def LimitsTellSaid : Prop := limitsTellRow.holds Try.pinned (OpenSpec.ofChange limitsTellSpec)

/-- ITS FALSE NEIGHBOUR: 'it returns false'. Refute it at one input. -/
def limitsTellWrong : ChangeSpec := { name := "limitsTell", fn := fun _ => fun
  | [d1, d2, d3] => { results := [.lit (.bool false)], args := [d1, d2, d3] }
  | _ => none }
def LimitsTellWrongFalsely : Prop := limitsTellRow.holds Try.pinned (OpenSpec.ofChange limitsTellWrong)

/- THE SECOND FORM. 'bulk': how many values and letters a reading holds, each counted each time it is reached (what is shared counts as often as it is met; a slice's spare places count too). A statement '..UptoSaid' is the law's where the arguments, and the package variables that the reading takes, are together of bulk at most 1048576: NARROWER than '..Said'. Prove '..Said' where nothing that the law and all that it calls make is longer than what came in: it says more and counts as full. Else prove '..UptoSaid'. A law counts once. -/
mutual
def uptoBulk {H : Type} : DataW H → Nat
  | .lit (.string bytes) => bytes.length + 1
  | .lit _ => 1
  | .nil => 1
  | .ptr d => uptoBulk d + 1
  | .slice elems spare => uptoBulkAll elems + uptoBulkAll spare + 1
  | .agg parts => uptoBulkAll parts + 1
  | .iface _ d => uptoBulk d + 1
  | .map entries => uptoBulkEntries entries + 1
  | .held _ => 1
def uptoBulkAll {H : Type} : List (DataW H) → Nat
  | [] => 0
  | d :: r => uptoBulk d + uptoBulkAll r
def uptoBulkEntries {H : Type} : List (Lit × DataW H) → Nat
  | [] => 0
  | x :: r => uptoBulkEntry x + uptoBulkEntries r
def uptoBulkEntry {H : Type} : Lit × DataW H → Nat
  | (.string bytes, d) => bytes.length + uptoBulk d + 1
  | (_, d) => uptoBulk d + 1
 end
def uptoSmall : (H : Type) → List (DataW H) → Bool := fun _ ds => decide (uptoBulkAll ds ≤ 1048576)
def OpenSpec.upto (s : _root_.Go.ChangeSpec) : _root_.Go.OpenSpec := { _root_.Go.OpenSpec.ofChange s with cond := some uptoSmall }

/-- 'millwheellaw14.RetryWaits', WHERE WHAT IT READS IS OF BULK AT MOST 1048576: true; the input reads as it did. -/
def retryWaitsUptoRow : OpenClaim := { program := "ytnjagdhpiehlpaa", sum := "1c8c124959e2d07d0d8d9f54ec4ade8922869e1817cbb3ff681e198b93385c46", func := "millwheel/millwheellaw14.RetryWaits", spec := "retryWaits", apart := false, narrowed := true }
def RetryWaitsUptoSaid : Prop := retryWaitsUptoRow.holds Try.pinned (OpenSpec.upto retryWaitsSpec)

/-- 'millwheellaw14.RetryDoubles', WHERE WHAT IT READS IS OF BULK AT MOST 1048576: true; the input reads as it did. -/
def retryDoublesUptoRow : OpenClaim := { program := "ytnjagdhpiehlpaa", sum := "1c8c124959e2d07d0d8d9f54ec4ade8922869e1817cbb3ff681e198b93385c46", func := "millwheel/millwheellaw14.RetryDoubles", spec := "retryDoubles", apart := false, narrowed := true }
def RetryDoublesUptoSaid : Prop := retryDoublesUptoRow.holds Try.pinned (OpenSpec.upto retryDoublesSpec)

/-- 'millwheellaw14.RetryPlus', WHERE WHAT IT READS IS OF BULK AT MOST 1048576: true; the input reads as it did. -/
def retryPlusUptoRow : OpenClaim := { program := "ytnjagdhpiehlpaa", sum := "1c8c124959e2d07d0d8d9f54ec4ade8922869e1817cbb3ff681e198b93385c46", func := "millwheel/millwheellaw14.RetryPlus", spec := "retryPlus", apart := false, narrowed := true }
def RetryPlusUptoSaid : Prop := retryPlusUptoRow.holds Try.pinned (OpenSpec.upto retryPlusSpec)

/-- 'millwheellaw14.RetryTells', WHERE WHAT IT READS IS OF BULK AT MOST 1048576: true; the input reads as it did. -/
def retryTellsUptoRow : OpenClaim := { program := "ytnjagdhpiehlpaa", sum := "1c8c124959e2d07d0d8d9f54ec4ade8922869e1817cbb3ff681e198b93385c46", func := "millwheel/millwheellaw14.RetryTells", spec := "retryTells", apart := false, narrowed := true }
def RetryTellsUptoSaid : Prop := retryTellsUptoRow.holds Try.pinned (OpenSpec.upto retryTellsSpec)

/-- 'millwheellaw14.RetrySum', WHERE WHAT IT READS IS OF BULK AT MOST 1048576: true; the input reads as it did. -/
def retrySumUptoRow : OpenClaim := { program := "ytnjagdhpiehlpaa", sum := "1c8c124959e2d07d0d8d9f54ec4ade8922869e1817cbb3ff681e198b93385c46", func := "millwheel/millwheellaw14.RetrySum", spec := "retrySum", apart := false, narrowed := true }
def RetrySumUptoSaid : Prop := retrySumUptoRow.holds Try.pinned (OpenSpec.upto retrySumSpec)

/-- 'millwheellaw15.LimitsFirst', WHERE WHAT IT READS IS OF BULK AT MOST 1048576: true; the input reads as it did. -/
def limitsFirstUptoRow : OpenClaim := { program := "ytnjagdhpiehlpaa", sum := "1c8c124959e2d07d0d8d9f54ec4ade8922869e1817cbb3ff681e198b93385c46", func := "millwheel/millwheellaw15.LimitsFirst", spec := "limitsFirst", unfollowed := true, recurses := true, apart := false, narrowed := true }
def LimitsFirstUptoSaid : Prop := limitsFirstUptoRow.holds Try.pinned (OpenSpec.upto limitsFirstSpec)

/-- 'millwheellaw15.LimitsLater', WHERE WHAT IT READS IS OF BULK AT MOST 1048576: true; the input reads as it did. -/
def limitsLaterUptoRow : OpenClaim := { program := "ytnjagdhpiehlpaa", sum := "1c8c124959e2d07d0d8d9f54ec4ade8922869e1817cbb3ff681e198b93385c46", func := "millwheel/millwheellaw15.LimitsLater", spec := "limitsLater", unfollowed := true, recurses := true, apart := false, narrowed := true }
def LimitsLaterUptoSaid : Prop := limitsLaterUptoRow.holds Try.pinned (OpenSpec.upto limitsLaterSpec)

/-- 'millwheellaw15.LimitsEach', WHERE WHAT IT READS IS OF BULK AT MOST 1048576: true; the input reads as it did. -/
def limitsEachUptoRow : OpenClaim := { program := "ytnjagdhpiehlpaa", sum := "1c8c124959e2d07d0d8d9f54ec4ade8922869e1817cbb3ff681e198b93385c46", func := "millwheel/millwheellaw15.LimitsEach", spec := "limitsEach", unfollowed := true, recurses := true, apart := false, narrowed := true }
def LimitsEachUptoSaid : Prop := limitsEachUptoRow.holds Try.pinned (OpenSpec.upto limitsEachSpec)

/-- 'millwheellaw15.LimitsTell', WHERE WHAT IT READS IS OF BULK AT MOST 1048576: true; the input reads as it did. -/
def limitsTellUptoRow : OpenClaim := { program := "ytnjagdhpiehlpaa", sum := "1c8c124959e2d07d0d8d9f54ec4ade8922869e1817cbb3ff681e198b93385c46", func := "millwheel/millwheellaw15.LimitsTell", spec := "limitsTell", unfollowed := true, recurses := true, apart := false, narrowed := true }
def LimitsTellUptoSaid : Prop := limitsTellUptoRow.holds Try.pinned (OpenSpec.upto limitsTellSpec)

end Rows
end Go.Proofs.Ytnjagdhpiehlpaa

/-
  No cell of these rows narrows 'for every input' (looked for: loops, veiled, ifaces, maps, wideKeys, modest, calm, conditions, laid).
  DERIVED. THE GIVEN ROWS OF THIS SEAT. 6 by the template 'for every input the law returns true; each argument reads behind the call as it read before'; 0 by the template 'total and deterministic' (their statements: YtchmiljeidkkpaaTotals.lean).
  GIVEN WITH THE SEED: the statements are not yours to turn. If you find one false, say at which input.
  Laid BY PROGRAM, IN A SANDBOX (cutbox-rows.mjs): the forced cells as the released guide's own fill.sh prints them over the translation 5e87e4b574cfd10a… (all of the seat's roots in one cut). By AI agents, Wed Nov 11 2026. No macro, syntax, notation, axiom, sorry.
-/
import Derived.Test.YtchmiljeidkkpaaChecked
import GoSem.Claim
import GoSem.ClaimJoined
import GoSem.ClaimMapViews
import Derived.JoinedTies
import Derived.KernelRfl
namespace Go.Proofs.Ytchmiljeidkkpaa
/- THE CELL 'sum', in the pinned program and in every row, IS THE sha256 OF THE DUMP (.gsa) THAT YtchmiljeidkkpaaProg.lean LOADS. Nothing in Lean hashes anything: it is a label: what it is worth is what the hold of that sum in a sandbox is worth. -/
noncomputable def Try.pinned : Pinned := { name := "ytchmiljeidkkpaa", sum := "5e87e4b574cfd10a673600d32ae89e654de92e59eeb6ad67a8be31d7a512367c", checked := Try.checked }
namespace Rows
def none {H : Type} : Left H := { results := [], args := [] }

/-- 'publisherlaw41.SettleRuns': WHATEVER THE INPUT: true; the input reads as it did. -/
def settleRunsSpec : ChangeSpec := { name := "settleRuns", fn := fun _ => fun
  | [d1, d2, d3] => { results := [.lit (.bool true)], args := [d1, d2, d3] }
  | _ => none }
def settleRunsRow : OpenClaim := { program := "ytchmiljeidkkpaa", sum := "5e87e4b574cfd10a673600d32ae89e654de92e59eeb6ad67a8be31d7a512367c", func := "publisher/publisherlaw41.SettleRuns", spec := "settleRuns", unfollowed := true, recurses := true, apart := false }
def SettleRunsSaid : Prop := settleRunsRow.holds Try.pinned (OpenSpec.ofChange settleRunsSpec)

/-- ITS FALSE NEIGHBOUR: 'it returns false'. Refute it at one input. -/
def settleRunsWrong : ChangeSpec := { name := "settleRuns", fn := fun _ => fun
  | [d1, d2, d3] => { results := [.lit (.bool false)], args := [d1, d2, d3] }
  | _ => none }
def SettleRunsWrongFalsely : Prop := settleRunsRow.holds Try.pinned (OpenSpec.ofChange settleRunsWrong)

/-- 'publisherlaw41.SettleFixed': WHATEVER THE INPUT: true; the input reads as it did. -/
def settleFixedSpec : ChangeSpec := { name := "settleFixed", fn := fun _ => fun
  | [d1, d2, d3] => { results := [.lit (.bool true)], args := [d1, d2, d3] }
  | _ => none }
def settleFixedRow : OpenClaim := { program := "ytchmiljeidkkpaa", sum := "5e87e4b574cfd10a673600d32ae89e654de92e59eeb6ad67a8be31d7a512367c", func := "publisher/publisherlaw41.SettleFixed", spec := "settleFixed", unfollowed := true, recurses := true, apart := false }
def SettleFixedSaid : Prop := settleFixedRow.holds Try.pinned (OpenSpec.ofChange settleFixedSpec)

/-- ITS FALSE NEIGHBOUR: 'it returns false'. Refute it at one input. -/
def settleFixedWrong : ChangeSpec := { name := "settleFixed", fn := fun _ => fun
  | [d1, d2, d3] => { results := [.lit (.bool false)], args := [d1, d2, d3] }
  | _ => none }
def SettleFixedWrongFalsely : Prop := settleFixedRow.holds Try.pinned (OpenSpec.ofChange settleFixedWrong)

/-- 'publisherlaw41.SettleCycles': WHATEVER THE INPUT: true; the input reads as it did. -/
def settleCyclesSpec : ChangeSpec := { name := "settleCycles", fn := fun _ => fun
  | [d1, d2, d3] => { results := [.lit (.bool true)], args := [d1, d2, d3] }
  | _ => none }
def settleCyclesRow : OpenClaim := { program := "ytchmiljeidkkpaa", sum := "5e87e4b574cfd10a673600d32ae89e654de92e59eeb6ad67a8be31d7a512367c", func := "publisher/publisherlaw41.SettleCycles", spec := "settleCycles", unfollowed := true, recurses := true, apart := false }
def SettleCyclesSaid : Prop := settleCyclesRow.holds Try.pinned (OpenSpec.ofChange settleCyclesSpec)

/-- ITS FALSE NEIGHBOUR: 'it returns false'. Refute it at one input. -/
def settleCyclesWrong : ChangeSpec := { name := "settleCycles", fn := fun _ => fun
  | [d1, d2, d3] => { results := [.lit (.bool false)], args := [d1, d2, d3] }
  | _ => none }
def SettleCyclesWrongFalsely : Prop := settleCyclesRow.holds Try.pinned (OpenSpec.ofChange settleCyclesWrong)

/-- 'publisherlaw41.SettleMore': WHATEVER THE INPUT: true; the input reads as it did. -/
def settleMoreSpec : ChangeSpec := { name := "settleMore", fn := fun _ => fun
  | [d1, d2, d3, d4] => { results := [.lit (.bool true)], args := [d1, d2, d3, d4] }
  | _ => none }
def settleMoreRow : OpenClaim := { program := "ytchmiljeidkkpaa", sum := "5e87e4b574cfd10a673600d32ae89e654de92e59eeb6ad67a8be31d7a512367c", func := "publisher/publisherlaw41.SettleMore", spec := "settleMore", unfollowed := true, recurses := true, apart := false }
def SettleMoreSaid : Prop := settleMoreRow.holds Try.pinned (OpenSpec.ofChange settleMoreSpec)

/-- ITS FALSE NEIGHBOUR: 'it returns false'. Refute it at one input. -/
def settleMoreWrong : ChangeSpec := { name := "settleMore", fn := fun _ => fun
  | [d1, d2, d3, d4] => { results := [.lit (.bool false)], args := [d1, d2, d3, d4] }
  | _ => none }
def SettleMoreWrongFalsely : Prop := settleMoreRow.holds Try.pinned (OpenSpec.ofChange settleMoreWrong)

/-- 'publisherlaw41.SettlePairs': WHATEVER THE INPUT: true; the input reads as it did. -/
def settlePairsSpec : ChangeSpec := { name := "settlePairs", fn := fun _ => fun
  | [d1, d2] => { results := [.lit (.bool true)], args := [d1, d2] }
  | _ => none }
def settlePairsRow : OpenClaim := { program := "ytchmiljeidkkpaa", sum := "5e87e4b574cfd10a673600d32ae89e654de92e59eeb6ad67a8be31d7a512367c", func := "publisher/publisherlaw41.SettlePairs", spec := "settlePairs", unfollowed := true, recurses := true, apart := false }
def SettlePairsSaid : Prop := settlePairsRow.holds Try.pinned (OpenSpec.ofChange settlePairsSpec)

/-- ITS FALSE NEIGHBOUR: 'it returns false'. Refute it at one input. -/
def settlePairsWrong : ChangeSpec := { name := "settlePairs", fn := fun _ => fun
  | [d1, d2] => { results := [.lit (.bool false)], args := [d1, d2] }
  | _ => none }
def SettlePairsWrongFalsely : Prop := settlePairsRow.holds Try.pinned (OpenSpec.ofChange settlePairsWrong)

/-- 'publisherlaw41.SettleErrors': WHATEVER THE INPUT: true; the input reads as it did. -/
def settleErrorsSpec : ChangeSpec := { name := "settleErrors", fn := fun _ => fun
  | [d1, d2] => { results := [.lit (.bool true)], args := [d1, d2] }
  | _ => none }
def settleErrorsRow : OpenClaim := { program := "ytchmiljeidkkpaa", sum := "5e87e4b574cfd10a673600d32ae89e654de92e59eeb6ad67a8be31d7a512367c", func := "publisher/publisherlaw41.SettleErrors", spec := "settleErrors", unfollowed := true, recurses := true, apart := false }
def SettleErrorsSaid : Prop := settleErrorsRow.holds Try.pinned (OpenSpec.ofChange settleErrorsSpec)

/-- ITS FALSE NEIGHBOUR: 'it returns false'. Refute it at one input. -/
def settleErrorsWrong : ChangeSpec := { name := "settleErrors", fn := fun _ => fun
  | [d1, d2] => { results := [.lit (.bool false)], args := [d1, d2] }
  | _ => none }
def SettleErrorsWrongFalsely : Prop := settleErrorsRow.holds Try.pinned (OpenSpec.ofChange settleErrorsWrong)

/- THE SECOND FORM. 'bulk': how many values and letters a reading holds, each counted each time it is reached (what is shared counts as often as it is met; a slice's spare places count too). A statement '..UptoSaid' is the law's where the arguments, and the package variables that the reading takes, are together of bulk at most 1048576: NARROWER than '..Said'. Prove '..Said' where nothing that the law and all that it calls make is longer than what came in: it says more and counts as full. Else prove '..UptoSaid'. A law counts once. -/
mutual
def uptoBulk {H : Type} : DataW H → Nat
  | .lit (.string bytes) => bytes.length + 1
  | .lit _ => 1
  | .nil => 1
  | .ptr d => uptoBulk d + 1
  | .slice elems spare => uptoBulkAll elems + uptoBulkAll spare + 1
  | .agg parts => uptoBulkAll parts + 1
  | .iface _ d => uptoBulk d + 1
  | .map entries => uptoBulkEntries entries + 1
  | .held _ => 1
def uptoBulkAll {H : Type} : List (DataW H) → Nat
  | [] => 0
  | d :: r => uptoBulk d + uptoBulkAll r
def uptoBulkEntries {H : Type} : List (Lit × DataW H) → Nat
  | [] => 0
  | x :: r => uptoBulkEntry x + uptoBulkEntries r
def uptoBulkEntry {H : Type} : Lit × DataW H → Nat
  | (.string bytes, d) => bytes.length + uptoBulk d + 1
  | (_, d) => uptoBulk d + 1
 end
def uptoSmall : (H : Type) → List (DataW H) → Bool := fun _ ds => decide (uptoBulkAll ds ≤ 1048576)
def OpenSpec.upto (s : _root_.Go.ChangeSpec) : _root_.Go.OpenSpec := { _root_.Go.OpenSpec.ofChange s with cond := some uptoSmall }

/-- 'publisherlaw41.SettleRuns', WHERE WHAT IT READS IS OF BULK AT MOST 1048576: true; the input reads as it did. -/
def settleRunsUptoRow : OpenClaim := { program := "ytchmiljeidkkpaa", sum := "5e87e4b574cfd10a673600d32ae89e654de92e59eeb6ad67a8be31d7a512367c", func := "publisher/publisherlaw41.SettleRuns", spec := "settleRuns", unfollowed := true, recurses := true, apart := false, narrowed := true }
def SettleRunsUptoSaid : Prop := settleRunsUptoRow.holds Try.pinned (OpenSpec.upto settleRunsSpec)

/-- 'publisherlaw41.SettleFixed', WHERE WHAT IT READS IS OF BULK AT MOST 1048576: true; the input reads as it did. -/
def settleFixedUptoRow : OpenClaim := { program := "ytchmiljeidkkpaa", sum := "5e87e4b574cfd10a673600d32ae89e654de92e59eeb6ad67a8be31d7a512367c", func := "publisher/publisherlaw41.SettleFixed", spec := "settleFixed", unfollowed := true, recurses := true, apart := false, narrowed := true }
def SettleFixedUptoSaid : Prop := settleFixedUptoRow.holds Try.pinned (OpenSpec.upto settleFixedSpec)

/-- 'publisherlaw41.SettleCycles', WHERE WHAT IT READS IS OF BULK AT MOST 1048576: true; the input reads as it did. -/
def settleCyclesUptoRow : OpenClaim := { program := "ytchmiljeidkkpaa", sum := "5e87e4b574cfd10a673600d32ae89e654de92e59eeb6ad67a8be31d7a512367c", func := "publisher/publisherlaw41.SettleCycles", spec := "settleCycles", unfollowed := true, recurses := true, apart := false, narrowed := true }
def SettleCyclesUptoSaid : Prop := settleCyclesUptoRow.holds Try.pinned (OpenSpec.upto settleCyclesSpec)

/-- 'publisherlaw41.SettleMore', WHERE WHAT IT READS IS OF BULK AT MOST 1048576: true; the input reads as it did. -/
def settleMoreUptoRow : OpenClaim := { program := "ytchmiljeidkkpaa", sum := "5e87e4b574cfd10a673600d32ae89e654de92e59eeb6ad67a8be31d7a512367c", func := "publisher/publisherlaw41.SettleMore", spec := "settleMore", unfollowed := true, recurses := true, apart := false, narrowed := true }
def SettleMoreUptoSaid : Prop := settleMoreUptoRow.holds Try.pinned (OpenSpec.upto settleMoreSpec)

/-- 'publisherlaw41.SettlePairs', WHERE WHAT IT READS IS OF BULK AT MOST 1048576: true; the input reads as it did. -/
def settlePairsUptoRow : OpenClaim := { program := "ytchmiljeidkkpaa", sum := "5e87e4b574cfd10a673600d32ae89e654de92e59eeb6ad67a8be31d7a512367c", func := "publisher/publisherlaw41.SettlePairs", spec := "settlePairs", unfollowed := true, recurses := true, apart := false, narrowed := true }
def SettlePairsUptoSaid : Prop := settlePairsUptoRow.holds Try.pinned (OpenSpec.upto settlePairsSpec)

/-- 'publisherlaw41.SettleErrors', WHERE WHAT IT READS IS OF BULK AT MOST 1048576: true; the input reads as it did. -/
def settleErrorsUptoRow : OpenClaim := { program := "ytchmiljeidkkpaa", sum := "5e87e4b574cfd10a673600d32ae89e654de92e59eeb6ad67a8be31d7a512367c", func := "publisher/publisherlaw41.SettleErrors", spec := "settleErrors", unfollowed := true, recurses := true, apart := false, narrowed := true }
def SettleErrorsUptoSaid : Prop := settleErrorsUptoRow.holds Try.pinned (OpenSpec.upto settleErrorsSpec)

end Rows
end Go.Proofs.Ytchmiljeidkkpaa

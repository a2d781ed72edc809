/-
  No cell of these rows narrows 'for every input' (looked for: loops, veiled, ifaces, maps, wideKeys, modest, calm, conditions, laid).
  DERIVED. THE GIVEN ROWS OF THIS SEAT. 8 by the template 'for every input the law returns true; each argument reads behind the call as it read before'; 0 by the template 'total and deterministic' (their statements: YtbahcpdhadhplaaTotals.lean).
  GIVEN WITH THE SEED: the statements are not yours to turn. If you find one false, say at which input.
  Laid BY PROGRAM, IN A SANDBOX (cutbox-rows.mjs): the forced cells as the released guide's own fill.sh prints them over the translation e24b61b5ab159dbd… (all of the seat's roots in one cut). By AI agents, Wed Nov 11 2026. No macro, syntax, notation, axiom, sorry.
-/
import Derived.Test.YtbahcpdhadhplaaChecked
import GoSem.Claim
import GoSem.ClaimJoined
import GoSem.ClaimMapViews
import Derived.JoinedTies
import Derived.KernelRfl
namespace Go.Proofs.Ytbahcpdhadhplaa
/- THE CELL 'sum', in the pinned program and in every row, IS THE sha256 OF THE DUMP (.gsa) THAT YtbahcpdhadhplaaProg.lean LOADS. Nothing in Lean hashes anything: it is a label: what it is worth is what the hold of that sum in a sandbox is worth. -/
noncomputable def Try.pinned : Pinned := { name := "ytbahcpdhadhplaa", sum := "e24b61b5ab159dbdf3edafe814e6eb33d89787d982fccc878e7fb35635c3c881", checked := Try.checked }
namespace Rows
def none {H : Type} : Left H := { results := [], args := [] }

/-- 'kinkeeplaw27.RetentionValid': WHATEVER THE INPUT: true; the input reads as it did. -/
def retentionValidSpec : ChangeSpec := { name := "retentionValid", fn := fun _ => fun
  | [d] => { results := [.lit (.bool true)], args := [d] }
  | _ => none }
def retentionValidRow : OpenClaim := { program := "ytbahcpdhadhplaa", sum := "e24b61b5ab159dbdf3edafe814e6eb33d89787d982fccc878e7fb35635c3c881", func := "kinkeep/kinkeeplaw27.RetentionValid", spec := "retentionValid", unfollowed := true, recurses := true, apart := false }
def RetentionValidSaid : Prop := retentionValidRow.holds Try.pinned (OpenSpec.ofChange retentionValidSpec)

/-- ITS FALSE NEIGHBOUR: 'it returns false'. Refute it at one input. -/
def retentionValidWrong : ChangeSpec := { name := "retentionValid", fn := fun _ => fun
  | [d] => { results := [.lit (.bool false)], args := [d] }
  | _ => none }
def RetentionValidWrongFalsely : Prop := retentionValidRow.holds Try.pinned (OpenSpec.ofChange retentionValidWrong)

/-- 'kinkeeplaw27.RetentionReasons': WHATEVER THE INPUT: true; the input reads as it did. -/
def retentionReasonsSpec : ChangeSpec := { name := "retentionReasons", fn := fun _ => fun
  | [d1, d2, d3, d4] => { results := [.lit (.bool true)], args := [d1, d2, d3, d4] }
  | _ => none }
def retentionReasonsRow : OpenClaim := { program := "ytbahcpdhadhplaa", sum := "e24b61b5ab159dbdf3edafe814e6eb33d89787d982fccc878e7fb35635c3c881", func := "kinkeep/kinkeeplaw27.RetentionReasons", spec := "retentionReasons", unfollowed := true, recurses := true, apart := false }
def RetentionReasonsSaid : Prop := retentionReasonsRow.holds Try.pinned (OpenSpec.ofChange retentionReasonsSpec)

/-- ITS FALSE NEIGHBOUR: 'it returns false'. Refute it at one input. -/
def retentionReasonsWrong : ChangeSpec := { name := "retentionReasons", fn := fun _ => fun
  | [d1, d2, d3, d4] => { results := [.lit (.bool false)], args := [d1, d2, d3, d4] }
  | _ => none }
def RetentionReasonsWrongFalsely : Prop := retentionReasonsRow.holds Try.pinned (OpenSpec.ofChange retentionReasonsWrong)

/-- 'kinkeeplaw27.RetentionCover': WHATEVER THE INPUT: true; the input reads as it did. -/
def retentionCoverSpec : ChangeSpec := { name := "retentionCover", fn := fun _ => fun
  | [d1, d2] => { results := [.lit (.bool true)], args := [d1, d2] }
  | _ => none }
def retentionCoverRow : OpenClaim := { program := "ytbahcpdhadhplaa", sum := "e24b61b5ab159dbdf3edafe814e6eb33d89787d982fccc878e7fb35635c3c881", func := "kinkeep/kinkeeplaw27.RetentionCover", spec := "retentionCover", unfollowed := true, recurses := true, apart := false }
def RetentionCoverSaid : Prop := retentionCoverRow.holds Try.pinned (OpenSpec.ofChange retentionCoverSpec)

/-- ITS FALSE NEIGHBOUR: 'it returns false'. Refute it at one input. -/
def retentionCoverWrong : ChangeSpec := { name := "retentionCover", fn := fun _ => fun
  | [d1, d2] => { results := [.lit (.bool false)], args := [d1, d2] }
  | _ => none }
def RetentionCoverWrongFalsely : Prop := retentionCoverRow.holds Try.pinned (OpenSpec.ofChange retentionCoverWrong)

/-- 'kinkeeplaw27.RetentionMore': WHATEVER THE INPUT: true; the input reads as it did. -/
def retentionMoreSpec : ChangeSpec := { name := "retentionMore", fn := fun _ => fun
  | [d1, d2, d3, d4, d5] => { results := [.lit (.bool true)], args := [d1, d2, d3, d4, d5] }
  | _ => none }
def retentionMoreRow : OpenClaim := { program := "ytbahcpdhadhplaa", sum := "e24b61b5ab159dbdf3edafe814e6eb33d89787d982fccc878e7fb35635c3c881", func := "kinkeep/kinkeeplaw27.RetentionMore", spec := "retentionMore", unfollowed := true, recurses := true, apart := false }
def RetentionMoreSaid : Prop := retentionMoreRow.holds Try.pinned (OpenSpec.ofChange retentionMoreSpec)

/-- ITS FALSE NEIGHBOUR: 'it returns false'. Refute it at one input. -/
def retentionMoreWrong : ChangeSpec := { name := "retentionMore", fn := fun _ => fun
  | [d1, d2, d3, d4, d5] => { results := [.lit (.bool false)], args := [d1, d2, d3, d4, d5] }
  | _ => none }
def RetentionMoreWrongFalsely : Prop := retentionMoreRow.holds Try.pinned (OpenSpec.ofChange retentionMoreWrong)

/-- 'kinkeeplaw27.RetentionPeriods': WHATEVER THE INPUT: true; the input reads as it did. -/
def retentionPeriodsSpec : ChangeSpec := { name := "retentionPeriods", fn := fun _ => fun
  | [d1, d2] => { results := [.lit (.bool true)], args := [d1, d2] }
  | _ => none }
def retentionPeriodsRow : OpenClaim := { program := "ytbahcpdhadhplaa", sum := "e24b61b5ab159dbdf3edafe814e6eb33d89787d982fccc878e7fb35635c3c881", func := "kinkeep/kinkeeplaw27.RetentionPeriods", spec := "retentionPeriods", unfollowed := true, recurses := true, apart := false }
def RetentionPeriodsSaid : Prop := retentionPeriodsRow.holds Try.pinned (OpenSpec.ofChange retentionPeriodsSpec)

/-- ITS FALSE NEIGHBOUR: 'it returns false'. Refute it at one input. -/
def retentionPeriodsWrong : ChangeSpec := { name := "retentionPeriods", fn := fun _ => fun
  | [d1, d2] => { results := [.lit (.bool false)], args := [d1, d2] }
  | _ => none }
def RetentionPeriodsWrongFalsely : Prop := retentionPeriodsRow.holds Try.pinned (OpenSpec.ofChange retentionPeriodsWrong)

/-- 'kinkeeplaw27.RetentionKeeps': WHATEVER THE INPUT: true; the input reads as it did. -/
def retentionKeepsSpec : ChangeSpec := { name := "retentionKeeps", fn := fun _ => fun
  | [d1, d2, d3] => { results := [.lit (.bool true)], args := [d1, d2, d3] }
  | _ => none }
def retentionKeepsRow : OpenClaim := { program := "ytbahcpdhadhplaa", sum := "e24b61b5ab159dbdf3edafe814e6eb33d89787d982fccc878e7fb35635c3c881", func := "kinkeep/kinkeeplaw27.RetentionKeeps", spec := "retentionKeeps", unfollowed := true, recurses := true, apart := false }
def RetentionKeepsSaid : Prop := retentionKeepsRow.holds Try.pinned (OpenSpec.ofChange retentionKeepsSpec)

/-- ITS FALSE NEIGHBOUR: 'it returns false'. Refute it at one input. -/
def retentionKeepsWrong : ChangeSpec := { name := "retentionKeeps", fn := fun _ => fun
  | [d1, d2, d3] => { results := [.lit (.bool false)], args := [d1, d2, d3] }
  | _ => none }
def RetentionKeepsWrongFalsely : Prop := retentionKeepsRow.holds Try.pinned (OpenSpec.ofChange retentionKeepsWrong)

/-- 'kinkeeplaw27.RetentionAgain': WHATEVER THE INPUT: true; the input reads as it did. -/
def retentionAgainSpec : ChangeSpec := { name := "retentionAgain", fn := fun _ => fun
  | [d1, d2, d3] => { results := [.lit (.bool true)], args := [d1, d2, d3] }
  | _ => none }
def retentionAgainRow : OpenClaim := { program := "ytbahcpdhadhplaa", sum := "e24b61b5ab159dbdf3edafe814e6eb33d89787d982fccc878e7fb35635c3c881", func := "kinkeep/kinkeeplaw27.RetentionAgain", spec := "retentionAgain", unfollowed := true, recurses := true, apart := false }
def RetentionAgainSaid : Prop := retentionAgainRow.holds Try.pinned (OpenSpec.ofChange retentionAgainSpec)

/-- ITS FALSE NEIGHBOUR: 'it returns false'. Refute it at one input. -/
def retentionAgainWrong : ChangeSpec := { name := "retentionAgain", fn := fun _ => fun
  | [d1, d2, d3] => { results := [.lit (.bool false)], args := [d1, d2, d3] }
  | _ => none }
def RetentionAgainWrongFalsely : Prop := retentionAgainRow.holds Try.pinned (OpenSpec.ofChange retentionAgainWrong)

/-- 'kinkeeplaw27.RetentionDivides': WHATEVER THE INPUT: true; the input reads as it did. -/
def retentionDividesSpec : ChangeSpec := { name := "retentionDivides", fn := fun _ => fun
  | [d1, d2, d3] => { results := [.lit (.bool true)], args := [d1, d2, d3] }
  | _ => none }
def retentionDividesRow : OpenClaim := { program := "ytbahcpdhadhplaa", sum := "e24b61b5ab159dbdf3edafe814e6eb33d89787d982fccc878e7fb35635c3c881", func := "kinkeep/kinkeeplaw27.RetentionDivides", spec := "retentionDivides", unfollowed := true, recurses := true, apart := false }
def RetentionDividesSaid : Prop := retentionDividesRow.holds Try.pinned (OpenSpec.ofChange retentionDividesSpec)

/-- ITS FALSE NEIGHBOUR: 'it returns false'. Refute it at one input. -/
def retentionDividesWrong : ChangeSpec := { name := "retentionDivides", fn := fun _ => fun
  | [d1, d2, d3] => { results := [.lit (.bool false)], args := [d1, d2, d3] }
  | _ => none }
def RetentionDividesWrongFalsely : Prop := retentionDividesRow.holds Try.pinned (OpenSpec.ofChange retentionDividesWrong)

/- THE SECOND FORM. 'bulk': how many values and letters a reading holds, each counted each time it is reached (what is shared counts as often as it is met; a slice's spare places count too). A statement '..UptoSaid' is the law's where the arguments, and the package variables that the reading takes, are together of bulk at most 1048576: NARROWER than '..Said'. Prove '..Said' where nothing that the law and all that it calls make is longer than what came in: it says more and counts as full. Else prove '..UptoSaid'. A law counts once. -/
mutual
def uptoBulk {H : Type} : DataW H → Nat
  | .lit (.string bytes) => bytes.length + 1
  | .lit _ => 1
  | .nil => 1
  | .ptr d => uptoBulk d + 1
  | .slice elems spare => uptoBulkAll elems + uptoBulkAll spare + 1
  | .agg parts => uptoBulkAll parts + 1
  | .iface _ d => uptoBulk d + 1
  | .map entries => uptoBulkEntries entries + 1
  | .held _ => 1
def uptoBulkAll {H : Type} : List (DataW H) → Nat
  | [] => 0
  | d :: r => uptoBulk d + uptoBulkAll r
def uptoBulkEntries {H : Type} : List (Lit × DataW H) → Nat
  | [] => 0
  | x :: r => uptoBulkEntry x + uptoBulkEntries r
def uptoBulkEntry {H : Type} : Lit × DataW H → Nat
  | (.string bytes, d) => bytes.length + uptoBulk d + 1
  | (_, d) => uptoBulk d + 1
 end
def uptoSmall : (H : Type) → List (DataW H) → Bool := fun _ ds => decide (uptoBulkAll ds ≤ 1048576)
def OpenSpec.upto (s : _root_.Go.ChangeSpec) : _root_.Go.OpenSpec := { _root_.Go.OpenSpec.ofChange s with cond := some uptoSmall }

/-- 'kinkeeplaw27.RetentionValid', WHERE WHAT IT READS IS OF BULK AT MOST 1048576: true; the input reads as it did. -/
def retentionValidUptoRow : OpenClaim := { program := "ytbahcpdhadhplaa", sum := "e24b61b5ab159dbdf3edafe814e6eb33d89787d982fccc878e7fb35635c3c881", func := "kinkeep/kinkeeplaw27.RetentionValid", spec := "retentionValid", unfollowed := true, recurses := true, apart := false, narrowed := true }
def RetentionValidUptoSaid : Prop := retentionValidUptoRow.holds Try.pinned (OpenSpec.upto retentionValidSpec)

/-- 'kinkeeplaw27.RetentionReasons', WHERE WHAT IT READS IS OF BULK AT MOST 1048576: true; the input reads as it did. -/
def retentionReasonsUptoRow : OpenClaim := { program := "ytbahcpdhadhplaa", sum := "e24b61b5ab159dbdf3edafe814e6eb33d89787d982fccc878e7fb35635c3c881", func := "kinkeep/kinkeeplaw27.RetentionReasons", spec := "retentionReasons", unfollowed := true, recurses := true, apart := false, narrowed := true }
def RetentionReasonsUptoSaid : Prop := retentionReasonsUptoRow.holds Try.pinned (OpenSpec.upto retentionReasonsSpec)

/-- 'kinkeeplaw27.RetentionCover', WHERE WHAT IT READS IS OF BULK AT MOST 1048576: true; the input reads as it did. -/
def retentionCoverUptoRow : OpenClaim := { program := "ytbahcpdhadhplaa", sum := "e24b61b5ab159dbdf3edafe814e6eb33d89787d982fccc878e7fb35635c3c881", func := "kinkeep/kinkeeplaw27.RetentionCover", spec := "retentionCover", unfollowed := true, recurses := true, apart := false, narrowed := true }
def RetentionCoverUptoSaid : Prop := retentionCoverUptoRow.holds Try.pinned (OpenSpec.upto retentionCoverSpec)

/-- 'kinkeeplaw27.RetentionMore', WHERE WHAT IT READS IS OF BULK AT MOST 1048576: true; the input reads as it did. -/
def retentionMoreUptoRow : OpenClaim := { program := "ytbahcpdhadhplaa", sum := "e24b61b5ab159dbdf3edafe814e6eb33d89787d982fccc878e7fb35635c3c881", func := "kinkeep/kinkeeplaw27.RetentionMore", spec := "retentionMore", unfollowed := true, recurses := true, apart := false, narrowed := true }
def RetentionMoreUptoSaid : Prop := retentionMoreUptoRow.holds Try.pinned (OpenSpec.upto retentionMoreSpec)

/-- 'kinkeeplaw27.RetentionPeriods', WHERE WHAT IT READS IS OF BULK AT MOST 1048576: true; the input reads as it did. -/
def retentionPeriodsUptoRow : OpenClaim := { program := "ytbahcpdhadhplaa", sum := "e24b61b5ab159dbdf3edafe814e6eb33d89787d982fccc878e7fb35635c3c881", func := "kinkeep/kinkeeplaw27.RetentionPeriods", spec := "retentionPeriods", unfollowed := true, recurses := true, apart := false, narrowed := true }
def RetentionPeriodsUptoSaid : Prop := retentionPeriodsUptoRow.holds Try.pinned (OpenSpec.upto retentionPeriodsSpec)

/-- 'kinkeeplaw27.RetentionKeeps', WHERE WHAT IT READS IS OF BULK AT MOST 1048576: true; the input reads as it did. -/
def retentionKeepsUptoRow : OpenClaim := { program := "ytbahcpdhadhplaa", sum := "e24b61b5ab159dbdf3edafe814e6eb33d89787d982fccc878e7fb35635c3c881", func := "kinkeep/kinkeeplaw27.RetentionKeeps", spec := "retentionKeeps", unfollowed := true, recurses := true, apart := false, narrowed := true }
def RetentionKeepsUptoSaid : Prop := retentionKeepsUptoRow.holds Try.pinned (OpenSpec.upto retentionKeepsSpec)

/-- 'kinkeeplaw27.RetentionAgain', WHERE WHAT IT READS IS OF BULK AT MOST 1048576: true; the input reads as it did. -/
def retentionAgainUptoRow : OpenClaim := { program := "ytbahcpdhadhplaa", sum := "e24b61b5ab159dbdf3edafe814e6eb33d89787d982fccc878e7fb35635c3c881", func := "kinkeep/kinkeeplaw27.RetentionAgain", spec := "retentionAgain", unfollowed := true, recurses := true, apart := false, narrowed := true }
def RetentionAgainUptoSaid : Prop := retentionAgainUptoRow.holds Try.pinned (OpenSpec.upto retentionAgainSpec)

/-- 'kinkeeplaw27.RetentionDivides', WHERE WHAT IT READS IS OF BULK AT MOST 1048576: true; the input reads as it did. -/
def retentionDividesUptoRow : OpenClaim := { program := "ytbahcpdhadhplaa", sum := "e24b61b5ab159dbdf3edafe814e6eb33d89787d982fccc878e7fb35635c3c881", func := "kinkeep/kinkeeplaw27.RetentionDivides", spec := "retentionDivides", unfollowed := true, recurses := true, apart := false, narrowed := true }
def RetentionDividesUptoSaid : Prop := retentionDividesUptoRow.holds Try.pinned (OpenSpec.upto retentionDividesSpec)

end Rows
end Go.Proofs.Ytbahcpdhadhplaa

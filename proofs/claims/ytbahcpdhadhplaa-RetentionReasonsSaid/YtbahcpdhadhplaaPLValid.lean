/- The plain law of the statement RetentionValid: its function comes to true. -/
import Derived.Test.YtbahcpdhadhplaaPA
import Derived.Test.YtbahcpdhadhplaaQ2
set_option linter.unusedVariables false
set_option linter.unusedSimpArgs false
namespace Go.Proofs.Ytbahcpdhadhplaa.PA
open Go.RowKit Go.Proofs.Ytbahcpdhadhplaa.Q Go.Proofs.Ytbahcpdhadhplaa.Hand Go.Proofs.Ytbahcpdhadhplaa.PB Go.Proofs.YtbahcpdhadhplaaW.PrintWords Go.Proofs.YtbahcpdhadhplaaW.PrintMore
theorem ite_some (p : Prop) [Decidable p] (x : Bool) : (if p then some x else some false) = some (decide p && x) := by split <;> simp [*]
theorem rvalid_eq (a b c d : Int) : kinkeepref27_Valid.f a b c d = some (validB a b c d) := by
  unfold kinkeepref27_Valid.f
  simp only [ite_some, ge_iff_le]
  congr 1
  simp only [validB, okI, Bool.and_assoc]
theorem law_Valid (a b c d : Int) : Ev (fun k => kinkeeplaw27_RetentionValid.f k a b c d) true := by
  unfold kinkeeplaw27_RetentionValid.f
  refine Ev.bind awake_ev (Ev.pos rfl ?_)
  exact Ev.const (a := validB a b c d) rfl (Ev.const (rvalid_eq a b c d) (Ev.to (Ev.now _) (by simp)))
end Go.Proofs.Ytbahcpdhadhplaa.PA
namespace Go.Proofs.Ytbahcpdhadhplaa.Pure
open Go.RowKit Go.Proofs.Ytbahcpdhadhplaa.Q Go.Proofs.Ytbahcpdhadhplaa.PA Go.Proofs.YtbahcpdhadhplaaW.PrintWords
theorem RetentionValid (a0_0 a0_1 a0_2 a0_3 : Int) (w0 : (Lit.int .i64 a0_0).wf = true) (w1 : (Lit.int .i64 a0_1).wf = true) (w2 : (Lit.int .i64 a0_2).wf = true) (w3 : (Lit.int .i64 a0_3).wf = true) : ∃ k, kinkeeplaw27_RetentionValid.f k a0_0 a0_1 a0_2 a0_3 = some true := (law_Valid a0_0 a0_1 a0_2 a0_3).rounds
end Go.Proofs.Ytbahcpdhadhplaa.Pure

/- The plain law of the statement RetentionAgain: its function comes to true. -/
import Derived.Test.YtbahcpdhadhplaaPA
import Derived.Test.YtbahcpdhadhplaaPHR
import Derived.Test.YtbahcpdhadhplaaPHK
import Derived.Test.YtbahcpdhadhplaaQ11
set_option linter.unusedVariables false
set_option linter.unusedSimpArgs false
namespace Go.Proofs.Ytbahcpdhadhplaa.PA
open Go.RowKit Go.Proofs.Ytbahcpdhadhplaa.Q Go.Proofs.Ytbahcpdhadhplaa.Hand Go.Proofs.Ytbahcpdhadhplaa.PB Go.Proofs.Ytbahcpdhadhplaa.PS Go.Proofs.Ytbahcpdhadhplaa.PX Go.Proofs.YtbahcpdhadhplaaW.PrintWords Go.Proofs.YtbahcpdhadhplaaW.PrintMore
theorem law_Again (a b c d : Int) (l1 l2 : List Int) : Ev (fun k => kinkeeplaw27_RetentionAgain.f k a b c d l1 l2) true := by
  unfold kinkeeplaw27_RetentionAgain.f
  refine Ev.bind awake_ev (Ev.pos rfl (Ev.const (few_eq l1 l2) ?_))
  refine Ev.step (fun k => kinkeeplaw27_RetentionAgain.j0.eq_2 _ _ _ _ _ _ _ _) ?_
  by_cases h : l1.length ≤ 40 ∧ l2.length ≤ 10
  · refine Ev.neg (by simp [h]) ?_
    have hlen := split_len a b c d l1 l2 true
    refine Ev.const (keep_eq a b c d l1 l2 (by omega) (by omega)) ?_
    by_cases hk : chk a b c d l1 l2 = 0
    · refine Ev.pos hk ?_
      refine Ev.const (keep_eq a b c d (splitF a b c d l1 l2 true) l2 (by omega) (by omega)) (Ev.const (drop_eq a b c d (splitF a b c d l1 l2 true) l2 (by omega) (by omega)) ?_)
      refine Ev.pos (again_chk hk) (Ev.pos (again_chk hk) ?_)
      simp only [again_keep hk, again_drop hk]
      exact Ev.bind (same_ev _ (by omega)) (Ev.pos rfl (Ev.to (Ev.now _) (by simp)))
    · exact Ev.neg hk (Ev.to (Ev.now _) (by simp [split_no hk]))
  · exact Ev.pos (by simp; omega) (Ev.bind awake_ev (Ev.now _))
end Go.Proofs.Ytbahcpdhadhplaa.PA
namespace Go.Proofs.Ytbahcpdhadhplaa.Pure
open Go.RowKit Go.Proofs.Ytbahcpdhadhplaa.Q Go.Proofs.Ytbahcpdhadhplaa.PA Go.Proofs.YtbahcpdhadhplaaW.PrintWords
theorem RetentionAgain (a0_0 a0_1 a0_2 a0_3 : Int) (l1 l2 : List Int) (w0 : (Lit.int .i64 a0_0).wf = true) (w1 : (Lit.int .i64 a0_1).wf = true) (w2 : (Lit.int .i64 a0_2).wf = true) (w3 : (Lit.int .i64 a0_3).wf = true)
    (hm1 : l1.length ≤ maxLen) (y1 : l1.length * 8 ≤ 140737488351232) (hw1 : ∀ x ∈ l1, (Lit.int .i64 x).wf = true) (hm2 : l2.length ≤ maxLen) (y2 : l2.length * 8 ≤ 140737488351232) (hw2 : ∀ x ∈ l2, (Lit.int .i64 x).wf = true) :
    ∃ k, kinkeeplaw27_RetentionAgain.f k a0_0 a0_1 a0_2 a0_3 l1 l2 = some true := (law_Again a0_0 a0_1 a0_2 a0_3 l1 l2).rounds
end Go.Proofs.Ytbahcpdhadhplaa.Pure

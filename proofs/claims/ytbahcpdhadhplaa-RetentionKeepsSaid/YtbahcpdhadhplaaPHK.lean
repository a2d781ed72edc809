/- Equal lists are the same. What Keep and Drop come to. -/
import Derived.Test.YtbahcpdhadhplaaPR
import Derived.Test.YtbahcpdhadhplaaPK
import Derived.Test.YtbahcpdhadhplaaQ1
import Derived.Test.YtbahcpdhadhplaaQ10
set_option linter.unusedVariables false
set_option linter.unusedSimpArgs false
namespace Go.Proofs.Ytbahcpdhadhplaa.PA
open Go.RowKit Go.Proofs.Ytbahcpdhadhplaa.Q Go.Proofs.Ytbahcpdhadhplaa.Hand Go.Proofs.Ytbahcpdhadhplaa.PB Go.Proofs.Ytbahcpdhadhplaa.PS Go.Proofs.Ytbahcpdhadhplaa.PX Go.Proofs.YtbahcpdhadhplaaW.PrintWords Go.Proofs.YtbahcpdhadhplaaW.PrintMore
theorem same_l0 (l : List Int) (hl : l.length ≤ 1000000) : ∀ (rest pre : List Int), pre ++ rest = l → Ev (fun k => kinkeeplaw27_same.l0 k l l (l.length : Int) (pre.length : Int)) true
  | [], pre, h => by
    refine Ev.step (fun k => kinkeeplaw27_same.l0.eq_2 _ _ _ _ _) ?_
    have : pre.length = l.length := by rw [← h]; simp
    exact Ev.neg (by omega) (Ev.now _)
  | x :: r, pre, h => by
    have hlen : pre.length + (r.length + 1) = l.length := by rw [← h]; simp
    refine Ev.step (fun k => kinkeeplaw27_same.l0.eq_2 _ _ _ _ _) ?_
    refine Ev.pos (by omega) (Ev.pos (by omega) (Ev.pos (by omega) (Ev.pos (by omega) (Ev.pos rfl ?_))))
    rw [w64 (by omega) (by omega)]
    have ih := same_l0 l hl r (pre ++ [x]) (by simpa using h)
    have e2 : ((pre ++ [x]).length : Int) = (pre.length : Int) + 1 := by simp
    rw [e2] at ih
    exact ih
theorem same_ev (l : List Int) (hl : l.length ≤ 1000000) : Ev (fun k => kinkeeplaw27_same.f k l l) true := by
  unfold kinkeeplaw27_same.f
  exact Ev.pos rfl (same_l0 l hl l [] rfl)
end Go.Proofs.Ytbahcpdhadhplaa.PA

set_option linter.unusedVariables false
set_option linter.unusedSimpArgs false
namespace Go.Proofs.Ytbahcpdhadhplaa.PA
open Go.RowKit Go.Proofs.Ytbahcpdhadhplaa.Q Go.Proofs.Ytbahcpdhadhplaa.Hand Go.Proofs.Ytbahcpdhadhplaa.PB Go.Proofs.Ytbahcpdhadhplaa.PS Go.Proofs.Ytbahcpdhadhplaa.PX Go.Proofs.YtbahcpdhadhplaaW.PrintWords Go.Proofs.YtbahcpdhadhplaaW.PrintMore
theorem keep_eq (a b c d : Int) (l1 l2 : List Int) (h1 : l1.length ≤ 50000) (h2 : l2.length ≤ 50000) : retention_Keep.f a b c d l1 l2 = some (splitF a b c d l1 l2 true, chk a b c d l1 l2) := by
  unfold retention_Keep.f retention_split.f
  rw [if_pos ⟨h1, h2⟩]; rfl
theorem drop_eq (a b c d : Int) (l1 l2 : List Int) (h1 : l1.length ≤ 50000) (h2 : l2.length ≤ 50000) : retention_Drop.f a b c d l1 l2 = some (splitF a b c d l1 l2 false, chk a b c d l1 l2) := by
  unfold retention_Drop.f retention_split.f
  rw [if_pos ⟨h1, h2⟩]; rfl
end Go.Proofs.Ytbahcpdhadhplaa.PA

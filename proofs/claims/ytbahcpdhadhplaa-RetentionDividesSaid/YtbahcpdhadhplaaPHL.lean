/- The law's has. -/
import Derived.Test.YtbahcpdhadhplaaPR
import Derived.Test.YtbahcpdhadhplaaPK
import Derived.Test.YtbahcpdhadhplaaQ7
set_option linter.unusedVariables false
set_option linter.unusedSimpArgs false
namespace Go.Proofs.Ytbahcpdhadhplaa.PA
open Go.RowKit Go.Proofs.Ytbahcpdhadhplaa.Q Go.Proofs.Ytbahcpdhadhplaa.Hand Go.Proofs.Ytbahcpdhadhplaa.PB Go.Proofs.Ytbahcpdhadhplaa.PS Go.Proofs.Ytbahcpdhadhplaa.PX Go.Proofs.YtbahcpdhadhplaaW.PrintWords Go.Proofs.YtbahcpdhadhplaaW.PrintMore
theorem lhas_l0 (t : Int) (l : List Int) (hl : l.length ≤ 1000000) : ∀ (rest pre : List Int), pre ++ rest = l → Ev (fun k => kinkeeplaw27_has.l0 k t l (l.length : Int) (pre.length : Int)) (rest.contains t)
  | [], pre, h => by
    refine Ev.step (fun k => kinkeeplaw27_has.l0.eq_2 _ _ _ _ _) ?_
    have : pre.length = l.length := by rw [← h]; simp
    exact Ev.neg (by omega) (Ev.now _)
  | x :: r, pre, h => by
    have hlen : pre.length + (r.length + 1) = l.length := by rw [← h]; simp
    have hx : rd l (pre.length : Int) = x := by rw [← h]; exact rd_mid pre x r
    refine Ev.step (fun k => kinkeeplaw27_has.l0.eq_2 _ _ _ _ _) ?_
    refine Ev.pos (by omega) (Ev.pos (by omega) (Ev.pos (by omega) ?_))
    rw [hx]
    by_cases e : x = t
    · exact Ev.pos e (Ev.to (Ev.now _) (by simp [e]))
    · refine Ev.neg e ?_
      rw [w64 (by omega) (by omega)]
      have ih := lhas_l0 t l hl r (pre ++ [x]) (by simpa using h)
      have e2 : ((pre ++ [x]).length : Int) = (pre.length : Int) + 1 := by simp
      rw [e2] at ih
      refine Ev.to ih ?_
      have : (t == x) = false := by simpa using fun h => e h.symm
      rw [List.contains_cons, this, Bool.false_or]
theorem lhas_ev (l : List Int) (t : Int) (hl : l.length ≤ 1000000) : Ev (fun k => kinkeeplaw27_has.f k l t) (l.contains t) := lhas_l0 t l hl l [] rfl
end Go.Proofs.Ytbahcpdhadhplaa.PA

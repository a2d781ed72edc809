/- Ascending lists and the greatest number. The reference's has, printed once more; and whether days and holds are few. -/
import Derived.Test.YtbahcpdhadhplaaPR
import Derived.Test.YtbahcpdhadhplaaPK
import Derived.Test.YtbahcpdhadhplaaQ3
set_option linter.unusedVariables false
set_option linter.unusedSimpArgs false
namespace Go.Proofs.Ytbahcpdhadhplaa.PA
open Go.RowKit Go.Proofs.Ytbahcpdhadhplaa.Q Go.Proofs.Ytbahcpdhadhplaa.Hand Go.Proofs.Ytbahcpdhadhplaa.PB Go.Proofs.Ytbahcpdhadhplaa.PS Go.Proofs.Ytbahcpdhadhplaa.PX Go.Proofs.YtbahcpdhadhplaaW.PrintWords Go.Proofs.YtbahcpdhadhplaaW.PrintMore
theorem fold_mx : ∀ (l : List Int) (m : Int), m ≤ l.foldl mx m ∧ (∀ y ∈ l, y ≤ l.foldl mx m) ∧ (l.foldl mx m = m ∨ l.foldl mx m ∈ l)
  | [], m => ⟨Int.le_refl _, fun y hy => by simp at hy, .inl rfl⟩
  | x :: r, m => by
    obtain ⟨h1, h2, h3⟩ := fold_mx r (mx m x)
    have hm : m ≤ mx m x ∧ x ≤ mx m x ∧ (mx m x = m ∨ mx m x = x) := by unfold mx; split <;> omega
    rw [List.foldl_cons]
    refine ⟨by omega, fun y hy => ?_, ?_⟩
    · rcases List.mem_cons.1 hy with rfl | hy
      · omega
      · exact h2 y hy
    · rcases h3 with h3 | h3
      · rcases hm.2.2 with h4 | h4
        · exact .inl (by omega)
        · exact .inr (by rw [h3, h4]; simp)
      · exact .inr (by simp [h3])
theorem rd_lt {l : List Int} (h : l.Pairwise (· < ·)) (i : Nat) (hi : i + 1 < l.length) : rd l (i : Int) < rd l ((i + 1 : Nat) : Int) := by
  have := List.pairwise_iff_getElem.1 h i (i + 1) (by omega) hi (by omega)
  unfold rd
  rw [Int.toNat_natCast, Int.toNat_natCast]
  simpa [List.getD, List.getElem?_eq_getElem, hi, (by omega : i < l.length)] using this
end Go.Proofs.Ytbahcpdhadhplaa.PA

set_option linter.unusedVariables false
set_option linter.unusedSimpArgs false
namespace Go.Proofs.Ytbahcpdhadhplaa.PA
open Go.RowKit Go.Proofs.Ytbahcpdhadhplaa.Q Go.Proofs.Ytbahcpdhadhplaa.Hand Go.Proofs.Ytbahcpdhadhplaa.PB Go.Proofs.Ytbahcpdhadhplaa.PS Go.Proofs.Ytbahcpdhadhplaa.PX Go.Proofs.YtbahcpdhadhplaaW.PrintWords Go.Proofs.YtbahcpdhadhplaaW.PrintMore
theorem rhas_l0 (t : Int) (l : List Int) (hl : l.length ≤ 1000000) : ∀ (rest pre : List Int), pre ++ rest = l → Ev (fun k => kinkeepref27_has.l0 k t l (l.length : Int) (pre.length : Int)) (rest.contains t)
  | [], pre, h => by
    refine Ev.step (fun k => kinkeepref27_has.l0.eq_2 _ _ _ _ _) ?_
    have : pre.length = l.length := by rw [← h]; simp
    exact Ev.neg (by omega) (Ev.now _)
  | x :: r, pre, h => by
    have hlen : pre.length + (r.length + 1) = l.length := by rw [← h]; simp
    have hx : rd l (pre.length : Int) = x := by rw [← h]; exact rd_mid pre x r
    refine Ev.step (fun k => kinkeepref27_has.l0.eq_2 _ _ _ _ _) ?_
    refine Ev.pos (by omega) (Ev.pos (by omega) (Ev.pos (by omega) ?_))
    rw [hx]
    by_cases e : x = t
    · exact Ev.pos e (Ev.to (Ev.now _) (by simp [e]))
    · refine Ev.neg e ?_
      rw [w64 (by omega) (by omega)]
      have ih := rhas_l0 t l hl r (pre ++ [x]) (by simpa using h)
      have e2 : ((pre ++ [x]).length : Int) = (pre.length : Int) + 1 := by simp
      rw [e2] at ih
      refine Ev.to ih ?_
      have : (t == x) = false := by simpa using fun h => e h.symm
      rw [List.contains_cons, this, Bool.false_or]
theorem rhas_ev (l : List Int) (t : Int) (hl : l.length ≤ 1000000) : Ev (fun k => kinkeepref27_has.f k l t) (l.contains t) := rhas_l0 t l hl l [] rfl
theorem few_eq (l1 l2 : List Int) : kinkeeplaw27_few.f l1 l2 = some (decide (l1.length ≤ 40 ∧ l2.length ≤ 10)) := by
  unfold kinkeeplaw27_few.f
  by_cases h : (l1.length : Int) ≤ 40
  · rw [if_pos h]; exact congrArg some (decide_eq_decide.2 (by omega))
  · rw [if_neg h]; exact congrArg some (decide_eq_false (by omega)).symm
end Go.Proofs.Ytbahcpdhadhplaa.PA

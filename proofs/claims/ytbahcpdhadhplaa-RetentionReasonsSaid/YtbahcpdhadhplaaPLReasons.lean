/- The plain law of the statement RetentionReasons: its function comes to true. -/
import Derived.Test.YtbahcpdhadhplaaPLValid
import Derived.Test.YtbahcpdhadhplaaPHR
import Derived.Test.YtbahcpdhadhplaaQ4
set_option linter.unusedVariables false
set_option linter.unusedSimpArgs false
namespace Go.Proofs.Ytbahcpdhadhplaa.PA
open Go.RowKit Go.Proofs.Ytbahcpdhadhplaa.Q Go.Proofs.Ytbahcpdhadhplaa.Hand Go.Proofs.Ytbahcpdhadhplaa.PB Go.Proofs.Ytbahcpdhadhplaa.PS Go.Proofs.Ytbahcpdhadhplaa.PX Go.Proofs.YtbahcpdhadhplaaW.PrintWords Go.Proofs.YtbahcpdhadhplaaW.PrintMore
theorem inRange_l0 (l : List Int) (hl : l.length ≤ 1000000) : ∀ (rest pre : List Int), pre ++ rest = l → Ev (fun k => kinkeepref27_inRange.l0 k l (l.length : Int) (pre.length : Int)) (rest.all dayB)
  | [], pre, h => by
    refine Ev.step (fun k => kinkeepref27_inRange.l0.eq_2 _ _ _ _) ?_
    have : pre.length = l.length := by rw [← h]; simp
    exact Ev.neg (by omega) (Ev.now _)
  | x :: r, pre, h => by
    have hlen : pre.length + (r.length + 1) = l.length := by rw [← h]; simp
    have hx : rd l (pre.length : Int) = x := by rw [← h]; exact rd_mid pre x r
    have e2 : ((pre ++ [x]).length : Int) = (pre.length : Int) + 1 := by simp
    have ih := inRange_l0 l hl r (pre ++ [x]) (by simpa using h)
    rw [e2] at ih
    refine Ev.step (fun k => kinkeepref27_inRange.l0.eq_2 _ _ _ _) ?_
    refine Ev.pos (by omega) (Ev.pos (by omega) (Ev.pos (by omega) ?_))
    rw [hx]
    by_cases h1 : x < 0
    · exact Ev.pos h1 (Ev.to (Ev.now _) (by simp [dayB]; omega))
    · refine Ev.neg h1 ?_
      by_cases h2 : x > 999999
      · exact Ev.pos h2 (Ev.to (Ev.now _) (by simp [dayB]; omega))
      · refine Ev.neg h2 ?_
        rw [w64 (by omega) (by omega)]
        refine Ev.to ih ?_
        rw [List.all_cons, show dayB x = true by simp [dayB]; omega, Bool.true_and]
theorem inRange_ev (l : List Int) (hl : l.length ≤ 1000000) : Ev (fun k => kinkeepref27_inRange.f k l) (l.all dayB) := inRange_l0 l hl l [] rfl
theorem rcheck_ev (a b c d : Int) (l1 l2 : List Int) (h1 : l1.length ≤ 1000000) (h2 : l2.length ≤ 1000000) : Ev (fun k => kinkeepref27_check.f k a b c d l1 l2) (chk a b c d l1 l2) := by
  unfold kinkeepref27_check.f
  refine Ev.const (rvalid_eq a b c d) ?_
  cases hv : validB a b c d
  · exact Ev.neg (by simp) (Ev.to (Ev.now _) (by simp [chk, hv]))
  · refine Ev.pos rfl (Ev.bind (inRange_ev l1 h1) ?_)
    cases ha : l1.all dayB
    · exact Ev.neg (by simp) (Ev.to (Ev.now _) (by simp only [chk, hv, ha]; rfl))
    · refine Ev.pos rfl (Ev.bind (inRange_ev l2 h2) ?_)
      cases hb : l2.all dayB
      · exact Ev.neg (by simp) (Ev.to (Ev.now _) (by simp only [chk, hv, ha, hb]; rfl))
      · exact Ev.pos rfl (Ev.to (Ev.now _) (by simp only [chk, hv, ha, hb]; rfl))
/-- The reference's Reasons says what retention's says. -/
theorem rReasons_ev (a b c d : Int) (l1 l2 : List Int) (x : Int) (h1 : l1.length ≤ 50000) (h2 : l2.length ≤ 50000) : Ev (fun k => kinkeepref27_Reasons.f k a b c d l1 l2 x) (reasR a b c d l1 l2 x) := by
  unfold kinkeepref27_Reasons.f
  refine Ev.bind (rcheck_ev a b c d l1 l2 (by omega) (by omega)) ?_
  by_cases hk : chk a b c d l1 l2 = 0
  · refine Ev.pos hk (Ev.bind (rhas_ev l1 x (by omega)) ?_)
    obtain ⟨hv, hd1, hd2⟩ := chk_ok hk
    cases hin : l1.contains x
    · exact Ev.neg (by simp) (Ev.to (Ev.now _) (by rw [reasR, if_pos hk, if_neg (by rw [hin]; decide)]))
    · refine Ev.pos rfl ?_
      have hxm : x ∈ l1 := by simpa using hin
      have hxd : dayB x = true := List.all_eq_true.1 hd1 x hxm
      have hR : kinkeepref27_Reason.f a b c d l1 l2 x = some (refR a b c d l1 l2 x) := by
        unfold kinkeepref27_Reason.f
        rw [if_pos ⟨⟨h1, h2⟩, hd1, hxd⟩]
      refine Ev.const hR (Ev.to (Ev.now _) ?_)
      rw [reasR, if_pos hk, if_pos hin, reasF_refR hv (setL_lt l1) (fun z => setL_mem z l1) l2 x ((setL_mem x l1).2 hxm)]
  · exact Ev.neg hk (Ev.to (Ev.now _) (by rw [reasR, if_neg hk, chk_no hk]))
theorem law_Reasons (a b c d : Int) (l1 l2 : List Int) (x : Int) : Ev (fun k => kinkeeplaw27_RetentionReasons.f k a b c d l1 l2 x) true := by
  unfold kinkeeplaw27_RetentionReasons.f
  refine Ev.bind awake_ev (Ev.pos rfl (Ev.const (few_eq l1 l2) ?_))
  refine Ev.step (fun k => kinkeeplaw27_RetentionReasons.j0.eq_2 _ _ _ _ _ _ _ _ _) ?_
  by_cases h : l1.length ≤ 40 ∧ l2.length ≤ 10
  · refine Ev.neg (by simp [h]) ?_
    have hR : retention_Reasons.f a b c d l1 l2 x = some (reasR a b c d l1 l2 x) := by
      unfold retention_Reasons.f
      rw [if_pos (by omega)]
    refine Ev.const hR (Ev.bind (rReasons_ev a b c d l1 l2 x (by omega) (by omega)) (Ev.pos rfl (Ev.to (Ev.now _) (by simp))))
  · exact Ev.pos (by simp; omega) (Ev.bind awake_ev (Ev.now _))
end Go.Proofs.Ytbahcpdhadhplaa.PA
namespace Go.Proofs.Ytbahcpdhadhplaa.Pure
open Go.RowKit Go.Proofs.Ytbahcpdhadhplaa.Q Go.Proofs.Ytbahcpdhadhplaa.PA Go.Proofs.YtbahcpdhadhplaaW.PrintWords
theorem RetentionReasons (a0_0 a0_1 a0_2 a0_3 : Int) (l1 l2 : List Int) (a3 : Int) (w0 : (Lit.int .i64 a0_0).wf = true) (w1 : (Lit.int .i64 a0_1).wf = true) (w2 : (Lit.int .i64 a0_2).wf = true) (w3 : (Lit.int .i64 a0_3).wf = true)
    (hm1 : l1.length ≤ maxLen) (y1 : l1.length * 8 ≤ 140737488351232) (hw1 : ∀ x ∈ l1, (Lit.int .i64 x).wf = true) (hm2 : l2.length ≤ maxLen) (y2 : l2.length * 8 ≤ 140737488351232) (hw2 : ∀ x ∈ l2, (Lit.int .i64 x).wf = true) (w4 : (Lit.int .i64 a3).wf = true) :
    ∃ k, kinkeeplaw27_RetentionReasons.f k a0_0 a0_1 a0_2 a0_3 l1 l2 a3 = some true := (law_Reasons a0_0 a0_1 a0_2 a0_3 l1 l2 a3).rounds
end Go.Proofs.Ytbahcpdhadhplaa.Pure

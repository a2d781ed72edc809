/- The plain law of the statement RetentionMore: its function comes to true. -/
import Derived.Test.YtbahcpdhadhplaaPA
import Derived.Test.YtbahcpdhadhplaaPHR
import Derived.Test.YtbahcpdhadhplaaPHL
import Derived.Test.YtbahcpdhadhplaaPHK
import Derived.Test.YtbahcpdhadhplaaQ8
set_option linter.unusedVariables false
set_option linter.unusedSimpArgs false
namespace Go.Proofs.Ytbahcpdhadhplaa.PA
open Go.RowKit Go.Proofs.Ytbahcpdhadhplaa.Q Go.Proofs.Ytbahcpdhadhplaa.Hand Go.Proofs.Ytbahcpdhadhplaa.PB Go.Proofs.Ytbahcpdhadhplaa.PS Go.Proofs.Ytbahcpdhadhplaa.PX Go.Proofs.YtbahcpdhadhplaaW.PrintWords Go.Proofs.YtbahcpdhadhplaaW.PrintMore
theorem more_l0 (k l : List Int) (hk : k.length ≤ 1000000) (hl : l.length ≤ 1000000) (hs : ∀ x ∈ k, x ∈ l) : ∀ (rest pre : List Int), pre ++ rest = k → Ev (fun n => kinkeeplaw27_RetentionMore.l0 n k l (pre.length : Int)) true
  | [], pre, h => by
    refine Ev.step (fun n => kinkeeplaw27_RetentionMore.l0.eq_2 _ _ _ _) ?_
    have : pre.length = k.length := by rw [← h]; simp
    exact Ev.neg (by omega) (Ev.now _)
  | x :: r, pre, h => by
    have hlen : pre.length + (r.length + 1) = k.length := by rw [← h]; simp
    have hx : rd k (pre.length : Int) = x := by rw [← h]; exact rd_mid pre x r
    refine Ev.step (fun n => kinkeeplaw27_RetentionMore.l0.eq_2 _ _ _ _) ?_
    refine Ev.pos (by omega) (Ev.pos (by omega) ?_)
    rw [hx]
    refine Ev.bind (lhas_ev l x hl) (Ev.pos (by simpa using hs x (by rw [← h]; simp)) ?_)
    rw [w64 (by omega) (by omega)]
    have ih := more_l0 k l hk hl hs r (pre ++ [x]) (by simpa using h)
    have e2 : ((pre ++ [x]).length : Int) = (pre.length : Int) + 1 := by simp
    rw [e2] at ih
    exact ih
theorem law_More (a b c d a' b' c' d' : Int) (l1 l2 l3 : List Int) : Ev (fun k => kinkeeplaw27_RetentionMore.f k a b c d a' b' c' d' l1 l2 l3) true := by
  unfold kinkeeplaw27_RetentionMore.f
  refine Ev.bind awake_ev (Ev.pos rfl (Ev.const (few_eq l1 l2) ?_))
  have out : Ev (fun k => kinkeeplaw27_RetentionMore.j0 k l1 l2 l3 true a b c d a' b' c' d') true := by
    refine Ev.step (fun k => kinkeeplaw27_RetentionMore.j0.eq_2 _ _ _ _ _ _ _ _ _ _ _ _ _) ?_
    exact Ev.pos rfl (Ev.bind awake_ev (Ev.now _))
  by_cases h : l1.length ≤ 40 ∧ l2.length ≤ 10
  · refine Ev.pos (by simp [h]) ?_
    by_cases h3 : (l3.length : Int) > 5
    · exact Ev.pos h3 out
    refine Ev.neg h3 ?_
    by_cases ha : a' < a
    · exact Ev.pos ha out
    refine Ev.neg ha ?_
    by_cases hb : b' < b
    · exact Ev.pos hb out
    refine Ev.neg hb ?_
    by_cases hc : c' < c
    · exact Ev.pos hc out
    refine Ev.neg hc ?_
    by_cases hd : d' < d
    · rw [show decide (d' < d) = true by simpa using hd]; exact out
    rw [show decide (d' < d) = false by simpa using hd]
    refine Ev.step (fun k => kinkeeplaw27_RetentionMore.j0.eq_2 _ _ _ _ _ _ _ _ _ _ _ _ _) ?_
    refine Ev.neg (by simp) (Ev.const (keep_eq a b c d l1 l2 (by omega) (by omega)) (Ev.const rfl (Ev.pos (by simp; omega) (Ev.const rfl (Ev.pos (by simp; omega) ?_)))))
    refine Ev.const (keep_eq a' b' c' d' l1 _ (by omega) (by simp; omega)) ?_
    by_cases hk : chk a b c d l1 l2 = 0
    · refine Ev.pos hk ?_
      refine Ev.step (fun k => kinkeeplaw27_RetentionMore.j1.eq_2 _ _ _ _) ?_
      by_cases hk2 : chk a' b' c' d' l1 ([] ++ l2 ++ l3) = 0
      · refine Ev.neg (by simp only [hk2]; decide) ?_
        have hle := split_len a b c d l1 l2 true
        have hle2 := split_len a' b' c' d' l1 ([] ++ l2 ++ l3) true
        refine more_l0 (splitF a b c d l1 l2 true) (splitF a' b' c' d' l1 ([] ++ l2 ++ l3) true) (by omega) (by omega) (fun x hx => ?_) _ [] rfl
        obtain ⟨x1, x2⟩ := (split_mem hk x).1 hx
        refine (split_mem hk2 x).2 ⟨x1, kept_mono ⟨by omega, by omega, by omega, by omega⟩ (fun y hy => hy) (fun y hy => by simp [hy]) x2⟩
      · exact Ev.pos (by simpa using hk2) (Ev.now _)
    · refine Ev.neg hk ?_
      refine Ev.step (fun k => kinkeeplaw27_RetentionMore.j1.eq_2 _ _ _ _) ?_
      exact Ev.pos rfl (Ev.now _)
  · exact Ev.neg (by simp; omega) out
end Go.Proofs.Ytbahcpdhadhplaa.PA
namespace Go.Proofs.Ytbahcpdhadhplaa.Pure
open Go.RowKit Go.Proofs.Ytbahcpdhadhplaa.Q Go.Proofs.Ytbahcpdhadhplaa.PA Go.Proofs.YtbahcpdhadhplaaW.PrintWords
theorem RetentionMore (a0_0 a0_1 a0_2 a0_3 a1_0 a1_1 a1_2 a1_3 : Int) (l2 l3 l4 : List Int) (w0 : (Lit.int .i64 a0_0).wf = true) (w1 : (Lit.int .i64 a0_1).wf = true) (w2 : (Lit.int .i64 a0_2).wf = true) (w3 : (Lit.int .i64 a0_3).wf = true) (w4 : (Lit.int .i64 a1_0).wf = true) (w5 : (Lit.int .i64 a1_1).wf = true) (w6 : (Lit.int .i64 a1_2).wf = true) (w7 : (Lit.int .i64 a1_3).wf = true)
    (hm2 : l2.length ≤ maxLen) (y2 : l2.length * 8 ≤ 140737488351232) (hw2 : ∀ x ∈ l2, (Lit.int .i64 x).wf = true) (hm3 : l3.length ≤ maxLen) (y3 : l3.length * 8 ≤ 140737488351232) (hw3 : ∀ x ∈ l3, (Lit.int .i64 x).wf = true) (hm4 : l4.length ≤ maxLen) (y4 : l4.length * 8 ≤ 140737488351232) (hw4 : ∀ x ∈ l4, (Lit.int .i64 x).wf = true) :
    ∃ k, kinkeeplaw27_RetentionMore.f k a0_0 a0_1 a0_2 a0_3 a1_0 a1_1 a1_2 a1_3 l2 l3 l4 = some true := (law_More a0_0 a0_1 a0_2 a0_3 a1_0 a1_1 a1_2 a1_3 l2 l3 l4).rounds
end Go.Proofs.Ytbahcpdhadhplaa.Pure

/- The plain law of the statement RetentionDivides: its function comes to true. -/
import Derived.Test.YtbahcpdhadhplaaPA
import Derived.Test.YtbahcpdhadhplaaPHR
import Derived.Test.YtbahcpdhadhplaaPHL
import Derived.Test.YtbahcpdhadhplaaPHK
import Derived.Test.YtbahcpdhadhplaaQ12
set_option linter.unusedVariables false
set_option linter.unusedSimpArgs false
namespace Go.Proofs.Ytbahcpdhadhplaa.PA
open Go.RowKit Go.Proofs.Ytbahcpdhadhplaa.Q Go.Proofs.Ytbahcpdhadhplaa.Hand Go.Proofs.Ytbahcpdhadhplaa.PB Go.Proofs.Ytbahcpdhadhplaa.PS Go.Proofs.Ytbahcpdhadhplaa.PX Go.Proofs.YtbahcpdhadhplaaW.PrintWords Go.Proofs.YtbahcpdhadhplaaW.PrintMore
theorem div_l0 (l kp dr : List Int) (hl : l.length ≤ 1000000) (hkp : kp.length ≤ 1000000) (hdr : dr.length ≤ 1000000) (a b c d : Int) (h : ∀ x ∈ l, (kp.contains x == dr.contains x) = false) :
    ∀ (rest pre : List Int) (m : Int), pre ++ rest = l → Ev (fun k => kinkeeplaw27_RetentionDivides.l1 k l kp dr (rest.foldl mx m) 0 a b c d) true → Ev (fun k => kinkeeplaw27_RetentionDivides.l0 k l kp dr m (pre.length : Int) a b c d) true
  | [], pre, m, he, hn => by
    refine Ev.step (fun k => kinkeeplaw27_RetentionDivides.l0.eq_2 _ _ _ _ _ _ _ _ _ _) ?_
    have : pre.length = l.length := by rw [← he]; simp
    exact Ev.neg (by omega) hn
  | x :: r, pre, m, he, hn => by
    have hlen : pre.length + (r.length + 1) = l.length := by rw [← he]; simp
    have hx : rd l (pre.length : Int) = x := by rw [← he]; exact rd_mid pre x r
    refine Ev.step (fun k => kinkeeplaw27_RetentionDivides.l0.eq_2 _ _ _ _ _ _ _ _ _ _) ?_
    refine Ev.pos (by omega) (Ev.pos (by omega) ?_)
    rw [hx]
    refine Ev.bind (lhas_ev kp x hkp) (Ev.bind (lhas_ev dr x hdr) (Ev.neg (by rw [h x (by rw [← he]; simp)]; decide) ?_))
    rw [w64 (by omega) (by omega)]
    have ih := div_l0 l kp dr hl hkp hdr a b c d h r (pre ++ [x]) (mx m x) (by simpa using he) hn
    have e2 : ((pre ++ [x]).length : Int) = (pre.length : Int) + 1 := by simp
    rw [e2] at ih
    exact ih
theorem div_l1 (l kp dr : List Int) (hl : l.length ≤ 1000000) (hkp : kp.length ≤ 1000000) (m a b c d : Int) (hs : ∀ x ∈ kp, x ∈ l) (hp : kp.Pairwise (· < ·)) (hn : Ev (fun k => kinkeeplaw27_RetentionDivides.l2 k l kp dr m 0 a b c d) true) :
    ∀ (rest pre : List Int), pre ++ rest = kp → Ev (fun k => kinkeeplaw27_RetentionDivides.l1 k l kp dr m (pre.length : Int) a b c d) true
  | [], pre, he => by
    refine Ev.step (fun k => kinkeeplaw27_RetentionDivides.l1.eq_2 _ _ _ _ _ _ _ _ _ _) ?_
    have : pre.length = kp.length := by rw [← he]; simp
    exact Ev.neg (by omega) hn
  | x :: r, pre, he => by
    have hlen : pre.length + (r.length + 1) = kp.length := by rw [← he]; simp
    have hx : rd kp (pre.length : Int) = x := by rw [← he]; exact rd_mid pre x r
    refine Ev.step (fun k => kinkeeplaw27_RetentionDivides.l1.eq_2 _ _ _ _ _ _ _ _ _ _) ?_
    refine Ev.pos (by omega) (Ev.pos (by omega) (Ev.bind (lhas_ev l _ hl) (Ev.pos (by rw [hx]; simpa using hs x (by rw [← he]; simp)) ?_)))
    have ih := div_l1 l kp dr hl hkp m a b c d hs hp hn r (pre ++ [x]) (by simpa using he)
    have e2 : ((pre ++ [x]).length : Int) = (pre.length : Int) + 1 := by simp
    rw [e2] at ih
    rw [w64 (x := (pre.length : Int) + 1) (by omega) (by omega)]
    by_cases h0 : pre.length = 0
    · exact Ev.neg (by omega) ih
    · obtain ⟨i, hi⟩ : ∃ i, pre.length = i + 1 := ⟨pre.length - 1, by omega⟩
      have hlt := rd_lt hp i (by omega)
      rw [← hi] at hlt
      rw [w64 (x := (pre.length : Int) - 1) (by omega) (by omega), show (pre.length : Int) - 1 = (i : Int) by omega]
      exact Ev.pos (by omega) (Ev.pos (by omega) (Ev.pos (by omega) (Ev.neg (by omega) ih)))
theorem div_l2 (l kp dr : List Int) (hl : l.length ≤ 1000000) (hkp : kp.length ≤ 1000000) (hdr : dr.length ≤ 1000000) (m a b c d : Int) (hs : ∀ x ∈ dr, x ∈ l) (hp : dr.Pairwise (· < ·)) (hab : validB a b c d = true) (hn : 0 ≤ m → a + b + c + d ≠ 0 → m ∈ kp) :
    ∀ (rest pre : List Int), pre ++ rest = dr → Ev (fun k => kinkeeplaw27_RetentionDivides.l2 k l kp dr m (pre.length : Int) a b c d) true
  | [], pre, he => by
    refine Ev.step (fun k => kinkeeplaw27_RetentionDivides.l2.eq_2 _ _ _ _ _ _ _ _ _ _) ?_
    have : pre.length = dr.length := by rw [← he]; simp
    refine Ev.neg (by omega) ?_
    have v0 := valid_nth hab 0
    have v1 := valid_nth hab 1
    have v2 := valid_nth hab 2
    have v3 := valid_nth hab 3
    simp only [nth4] at v0 v1 v2 v3
    by_cases hm : m < 0
    · exact Ev.pos hm (Ev.now _)
    · refine Ev.neg hm ?_
      rw [w64 (x := a + b) (by omega) (by omega), w64 (x := a + b + c) (by omega) (by omega), w64 (x := a + b + c + d) (by omega) (by omega)]
      by_cases h0 : a + b + c + d = 0
      · exact Ev.pos h0 (Ev.now _)
      · exact Ev.neg h0 (Ev.bind (lhas_ev kp m hkp) (Ev.to (Ev.now _) (by simpa using hn (by omega) h0)))
  | x :: r, pre, he => by
    have hlen : pre.length + (r.length + 1) = dr.length := by rw [← he]; simp
    have hx : rd dr (pre.length : Int) = x := by rw [← he]; exact rd_mid pre x r
    refine Ev.step (fun k => kinkeeplaw27_RetentionDivides.l2.eq_2 _ _ _ _ _ _ _ _ _ _) ?_
    refine Ev.pos (by omega) (Ev.pos (by omega) (Ev.bind (lhas_ev l _ hl) (Ev.pos (by rw [hx]; simpa using hs x (by rw [← he]; simp)) ?_)))
    have ih := div_l2 l kp dr hl hkp hdr m a b c d hs hp hab hn r (pre ++ [x]) (by simpa using he)
    have e2 : ((pre ++ [x]).length : Int) = (pre.length : Int) + 1 := by simp
    rw [e2] at ih
    rw [w64 (x := (pre.length : Int) + 1) (by omega) (by omega)]
    by_cases h0 : pre.length = 0
    · exact Ev.neg (by omega) ih
    · obtain ⟨i, hi⟩ : ∃ i, pre.length = i + 1 := ⟨pre.length - 1, by omega⟩
      have hlt := rd_lt hp i (by omega)
      rw [← hi] at hlt
      rw [w64 (x := (pre.length : Int) - 1) (by omega) (by omega), show (pre.length : Int) - 1 = (i : Int) by omega]
      exact Ev.pos (by omega) (Ev.pos (by omega) (Ev.pos (by omega) (Ev.neg (by omega) ih)))
theorem split_apart {a b c d : Int} {l hs : List Int} (h : chk a b c d l hs = 0) (x : Int) (hx : x ∈ l) : ((splitF a b c d l hs true).contains x == (splitF a b c d l hs false).contains x) = false := by
  have h1 := split_mem h x
  have h2 := split_drop h x
  by_cases hk : keptR a b c d l hs x
  · have e1 : (splitF a b c d l hs true).contains x = true := by simpa using h1.2 ⟨hx, hk⟩
    have e2 : (splitF a b c d l hs false).contains x = false := by
      cases hc : (splitF a b c d l hs false).contains x
      · rfl
      · exact absurd hk (h2.1 (by simpa using hc)).2
    rw [e1, e2]; rfl
  · have e1 : (splitF a b c d l hs false).contains x = true := by simpa using h2.2 ⟨hx, hk⟩
    have e2 : (splitF a b c d l hs true).contains x = false := by
      cases hc : (splitF a b c d l hs true).contains x
      · rfl
      · exact absurd (h1.1 (by simpa using hc)).2 hk
    rw [e1, e2]; rfl
theorem law_Divides (a b c d : Int) (l1 l2 : List Int) : Ev (fun k => kinkeeplaw27_RetentionDivides.f k a b c d l1 l2) true := by
  unfold kinkeeplaw27_RetentionDivides.f
  refine Ev.bind awake_ev (Ev.pos rfl (Ev.const (few_eq l1 l2) ?_))
  refine Ev.step (fun k => kinkeeplaw27_RetentionDivides.j0.eq_2 _ _ _ _ _ _ _ _) ?_
  by_cases h : l1.length ≤ 40 ∧ l2.length ≤ 10
  · refine Ev.neg (by simp [h]) ?_
    have hlk := split_len a b c d l1 l2 true
    have hld := split_len a b c d l1 l2 false
    refine Ev.const (keep_eq a b c d l1 l2 (by omega) (by omega)) (Ev.const (drop_eq a b c d l1 l2 (by omega) (by omega)) (Ev.pos rfl ?_))
    refine Ev.step (fun k => kinkeeplaw27_RetentionDivides.j1.eq_2 _ _ _ _ _ _ _ _ _ _ _) ?_
    by_cases hk : chk a b c d l1 l2 = 0
    · refine Ev.neg (by simp [hk]) ?_
      obtain ⟨f1, f2, f3⟩ := fold_mx l1 (-1)
      refine div_l0 l1 (splitF a b c d l1 l2 true) (splitF a b c d l1 l2 false) (by omega) (by omega) (by omega) a b c d (fun x hx => split_apart hk x hx) l1 [] (-1) rfl ?_
      refine div_l1 l1 (splitF a b c d l1 l2 true) (splitF a b c d l1 l2 false) (by omega) (by omega) _ a b c d (fun x hx => ((split_mem hk x).1 hx).1) (split_lt _ _ _ _ _ _ _) ?_ _ [] rfl
      refine div_l2 l1 (splitF a b c d l1 l2 true) (splitF a b c d l1 l2 false) (by omega) (by omega) (by omega) _ a b c d (fun x hx => ((split_drop hk x).1 hx).1) (split_lt _ _ _ _ _ _ _) (chk_ok hk).1 (fun hm hn => ?_) _ [] rfl
      have hin : l1.foldl mx (-1) ∈ l1 := by
        rcases f3 with e | e
        · omega
        · exact e
      exact (split_mem hk _).2 ⟨hin, great_kept hk hin f2 hn⟩
    · exact Ev.pos (by simpa using hk) (Ev.to (Ev.now _) (by simp))
  · exact Ev.pos (by simp; omega) (Ev.bind awake_ev (Ev.now _))
end Go.Proofs.Ytbahcpdhadhplaa.PA
namespace Go.Proofs.Ytbahcpdhadhplaa.Pure
open Go.RowKit Go.Proofs.Ytbahcpdhadhplaa.Q Go.Proofs.Ytbahcpdhadhplaa.PA Go.Proofs.YtbahcpdhadhplaaW.PrintWords
theorem RetentionDivides (a0_0 a0_1 a0_2 a0_3 : Int) (l1 l2 : List Int) (w0 : (Lit.int .i64 a0_0).wf = true) (w1 : (Lit.int .i64 a0_1).wf = true) (w2 : (Lit.int .i64 a0_2).wf = true) (w3 : (Lit.int .i64 a0_3).wf = true)
    (hm1 : l1.length ≤ maxLen) (y1 : l1.length * 8 ≤ 140737488351232) (hw1 : ∀ x ∈ l1, (Lit.int .i64 x).wf = true) (hm2 : l2.length ≤ maxLen) (y2 : l2.length * 8 ≤ 140737488351232) (hw2 : ∀ x ∈ l2, (Lit.int .i64 x).wf = true) :
    ∃ k, kinkeeplaw27_RetentionDivides.f k a0_0 a0_1 a0_2 a0_3 l1 l2 = some true := (law_Divides a0_0 a0_1 a0_2 a0_3 l1 l2).rounds
end Go.Proofs.Ytbahcpdhadhplaa.Pure

/- The plain law of the statement RetentionCover: its function comes to true. -/
import Derived.Test.YtbahcpdhadhplaaPA
import Derived.Test.YtbahcpdhadhplaaQ6
import Derived.Test.YtbahcpdhadhplaaPR
set_option linter.unusedVariables false
set_option linter.unusedSimpArgs false
namespace Go.Proofs.Ytbahcpdhadhplaa.PA
open Go.RowKit Go.Proofs.Ytbahcpdhadhplaa.Q Go.Proofs.Ytbahcpdhadhplaa.Hand Go.Proofs.Ytbahcpdhadhplaa.PB Go.Proofs.YtbahcpdhadhplaaW.PrintWords Go.Proofs.YtbahcpdhadhplaaW.PrintMore
theorem cover_same : ∀ (k : Nat) (x1 x6 : Int) (x7 : Bool) (l : List Int) (x11 x12 : Int), kinkeepref27_Cover.l0 k x1 x6 x7 l x11 x12 = retention_Cover.l0 k x1 x6 x7 l x11 x12
  | 0, _, _, _, _, _, _ => rfl
  | k + 1, x1, x6, x7, l, x11, x12 => by
    rw [kinkeepref27_Cover.l0.eq_2, retention_Cover.l0.eq_2]
    simp only [cover_same k]
theorem cover_ex (d : Int) (l : List Int) (hl : l.length ≤ 1000000) : ∀ (rest pre : List Int) (b : Int) (ok : Bool), pre ++ rest = l → ∃ r, Ev (fun k => retention_Cover.l0 k d b ok l (l.length : Int) (pre.length : Int)) r
  | [], pre, b, ok, h => by
    have : pre.length = l.length := by rw [← h]; simp
    exact ⟨_, Ev.step (fun k => retention_Cover.l0.eq_2 _ _ _ _ _ _ _) (Ev.neg (by omega) (Ev.now _))⟩
  | x :: r, pre, b, ok, h => by
    have hlen : pre.length + (r.length + 1) = l.length := by rw [← h]; simp
    have hx : rd l (pre.length : Int) = x := by rw [← h]; exact rd_mid pre x r
    have e2 : ((pre ++ [x]).length : Int) = (pre.length : Int) + 1 := by simp
    have ih := fun (b : Int) (ok : Bool) => by
      have := cover_ex d l hl r (pre ++ [x]) b ok (by simpa using h)
      rw [e2] at this
      exact this
    have key : ∃ r', Ev (fun k => if x ≤ d then (if ok = true then (if x > b then (retention_Cover.l0 k d x true l (l.length : Int) ((pre.length : Int) + 1)) else (retention_Cover.l0 k d b ok l (l.length : Int) ((pre.length : Int) + 1))) else (retention_Cover.l0 k d x true l (l.length : Int) ((pre.length : Int) + 1))) else (retention_Cover.l0 k d b ok l (l.length : Int) ((pre.length : Int) + 1))) r' := by
      by_cases h1 : x ≤ d
      · by_cases h2 : ok = true
        · by_cases h3 : x > b
          · obtain ⟨r', hr⟩ := ih x true; exact ⟨r', Ev.pos h1 (Ev.pos h2 (Ev.pos h3 hr))⟩
          · obtain ⟨r', hr⟩ := ih b ok; exact ⟨r', Ev.pos h1 (Ev.pos h2 (Ev.neg h3 hr))⟩
        · obtain ⟨r', hr⟩ := ih x true; exact ⟨r', Ev.pos h1 (Ev.neg h2 hr)⟩
      · obtain ⟨r', hr⟩ := ih b ok; exact ⟨r', Ev.neg h1 hr⟩
    obtain ⟨r', hr⟩ := key
    refine ⟨r', Ev.step (fun k => retention_Cover.l0.eq_2 _ _ _ _ _ _ _) (Ev.pos (by omega) (Ev.pos (by omega) (Ev.pos (by omega) ?_)))⟩
    rw [hx, w64 (by omega) (by omega)]
    exact hr
theorem law_Cover (l : List Int) (d : Int) : Ev (fun k => kinkeeplaw27_RetentionCover.f k l d) true := by
  unfold kinkeeplaw27_RetentionCover.f
  refine Ev.bind awake_ev (Ev.pos rfl ?_)
  refine Ev.step (fun k => kinkeeplaw27_RetentionCover.j0.eq_2 _ _ _ _) ?_
  by_cases hl : l.length ≤ 40
  · refine Ev.neg (by simp; omega) ?_
    obtain ⟨r, hr⟩ := cover_ex d l (by omega) l [] 0 false rfl
    have hr2 : Ev (fun k => kinkeepref27_Cover.f k l d) r := Ev.congr (fun k => cover_same k _ _ _ _ _ _) hr
    refine Ev.bind (show Ev (fun k => retention_Cover.f k l d) r from hr) (Ev.bind hr2 ?_)
    first
      | exact Ev.to (Ev.now _) (by simp)
      | exact Ev.pos rfl (Ev.to (Ev.now _) (by simp))
  · exact Ev.pos (by simp; omega) (Ev.bind awake_ev (Ev.now _))
end Go.Proofs.Ytbahcpdhadhplaa.PA
namespace Go.Proofs.Ytbahcpdhadhplaa.Pure
open Go.RowKit Go.Proofs.Ytbahcpdhadhplaa.Q Go.Proofs.Ytbahcpdhadhplaa.PA Go.Proofs.YtbahcpdhadhplaaW.PrintWords
theorem RetentionCover (l0 : List Int) (a1 : Int) (hm0 : l0.length ≤ maxLen) (y0 : l0.length * 8 ≤ 140737488351232) (hw0 : ∀ x ∈ l0, (Lit.int .i64 x).wf = true) (w1 : (Lit.int .i64 a1).wf = true) : ∃ k, kinkeeplaw27_RetentionCover.f k l0 a1 = some true := (law_Cover l0 a1).rounds
end Go.Proofs.Ytbahcpdhadhplaa.Pure

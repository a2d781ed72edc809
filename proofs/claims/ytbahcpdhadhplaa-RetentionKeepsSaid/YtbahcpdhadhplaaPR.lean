/- What the reference's has and by come to, with rounds enough. -/
import Derived.Test.YtbahcpdhadhplaaHM
import Derived.Test.YtbahcpdhadhplaaM
set_option linter.unusedVariables false
set_option linter.unusedSimpArgs false
namespace Go.Proofs.Ytbahcpdhadhplaa.PB
open Go.RowKit Go.Proofs.Ytbahcpdhadhplaa.M Go.Proofs.Ytbahcpdhadhplaa.Hand Go.Proofs.YtbahcpdhadhplaaW.PrintWords Go.Proofs.YtbahcpdhadhplaaW.PrintMore

theorem rd_mid (pre : List Int) (x : Int) (r : List Int) : rd (pre ++ x :: r) (pre.length : Int) = x := by
  unfold rd
  rw [Int.toNat_natCast, List.getD_eq_getElem?_getD, List.getElem?_append_right (Nat.le_refl _)]
  simp
theorem has_l0 (t : Int) (l : List Int) (hl : l.length ≤ 1000000) : ∀ (rest pre : List Int), pre ++ rest = l → Ev (fun k => kinkeepref27_has.l0 k t l (l.length : Int) (pre.length : Int)) (rest.contains t)
  | [], pre, h => by
    refine Ev.step (fun k => kinkeepref27_has.l0.eq_2 _ _ _ _ _) ?_
    have : pre.length = l.length := by rw [← h]; simp
    exact Ev.neg (by omega) (Ev.now _)
  | x :: r, pre, h => by
    have hlen : pre.length + (r.length + 1) = l.length := by rw [← h]; simp
    have hx : rd l (pre.length : Int) = x := by rw [← h]; exact rd_mid pre x r
    refine Ev.step (fun k => kinkeepref27_has.l0.eq_2 _ _ _ _ _) ?_
    refine Ev.pos (by omega) (Ev.pos (by omega) (Ev.pos (by omega) ?_))
    rw [hx]
    by_cases e : x = t
    · exact Ev.pos e (Ev.to (Ev.now _) (by simp [e]))
    · refine Ev.neg e ?_
      rw [w64 (by omega) (by omega)]
      have ih := has_l0 t l hl r (pre ++ [x]) (by simpa using h)
      have e2 : ((pre ++ [x]).length : Int) = (pre.length : Int) + 1 := by simp
      rw [e2] at ih
      refine Ev.to ih ?_
      have : (t == x) = false := by simpa using fun h => e h.symm
      rw [List.contains_cons, this, Bool.false_or]
theorem has_ev (l : List Int) (t : Int) (hl : l.length ≤ 1000000) : Ev (fun k => kinkeepref27_has.f k l t) (l.contains t) := has_l0 t l hl l [] rfl

theorem rweek_ok {day : Int} (h : 0 ≤ day) (h1 : day ≤ 999999) : kinkeepref21_Week.f day = some ((day + 5) / 7) := (week_same day).symm.trans (week_ok h h1)
theorem period_ev (kind : Nat) (d : Int) (h : 0 ≤ d) (h1 : d ≤ 999999) : Ev (fun k => kinkeepref27_period.f k (kind : Int) d) (numK kind d) := by
  unfold kinkeepref27_period.f
  match kind with
  | 0 => exact Ev.pos rfl (Ev.now _)
  | 1 => exact Ev.neg (by decide) (Ev.pos rfl (Ev.const (rweek_ok h h1) (Ev.now _)))
  | 2 => exact Ev.neg (by decide) (Ev.neg (by decide) (Ev.pos rfl (Ev.bind (rmonth_k d h h1) (Ev.now _))))
  | n + 3 => exact Ev.neg (by omega) (Ev.neg (by omega) (Ev.neg (by omega) (Ev.bind (ryear_k d h h1) (Ev.now _))))

def byGo (N : Int → Int) (n day : Int) : List Int → List Int → Bool
  | later, [] => decide ((later.length : Int) < n)
  | later, x :: r => if N x = N day ∧ x > day then false else if N x > N day then (if later.contains (N x) then byGo N n day later r else byGo N n day (later ++ [N x]) r) else byGo N n day later r
theorem by_l0 (kind : Nat) (n day : Int) (l : List Int) (hl : l.length ≤ 1000000) (hd : ∀ x ∈ l, 0 ≤ x ∧ x ≤ 999999) (hday : 0 ≤ day ∧ day ≤ 999999) : ∀ (rest pre later : List Int), pre ++ rest = l → later.length ≤ pre.length →
    Ev (fun k => kinkeepref27_by.l0 k (kind : Int) n day later l (l.length : Int) (pre.length : Int)) (byGo (numK kind) n day later rest)
  | [], pre, later, h, hla => by
    refine Ev.step (fun k => kinkeepref27_by.l0.eq_2 _ _ _ _ _ _ _ _) ?_
    have : pre.length = l.length := by rw [← h]; simp
    exact Ev.neg (by omega) (Ev.now _)
  | x :: r, pre, later, h, hla => by
    have hlen : pre.length + (r.length + 1) = l.length := by rw [← h]; simp
    have hx : rd l (pre.length : Int) = x := by rw [← h]; exact rd_mid pre x r
    have hxd := hd x (by rw [← h]; simp)
    have e2 : ((pre ++ [x]).length : Int) = (pre.length : Int) + 1 := by simp
    have ih := fun (later' : List Int) (hla' : later'.length ≤ (pre ++ [x]).length) => by
      have := by_l0 kind n day l hl hd hday r (pre ++ [x]) later' (by simpa using h) hla'
      rw [e2] at this
      exact this
    refine Ev.step (fun k => kinkeepref27_by.l0.eq_2 _ _ _ _ _ _ _ _) ?_
    refine Ev.pos (by omega) (Ev.pos (by omega) (Ev.pos (by omega) ?_))
    rw [hx]
    refine Ev.bind (period_ev kind x hxd.1 hxd.2) (Ev.bind (period_ev kind day hday.1 hday.2) ?_)
    have tail : ∀ b : Bool, b = decide (numK kind x = numK kind day ∧ x > day) → Ev (fun k => kinkeepref27_by.j1 k (kind : Int) n day later x l (l.length : Int) (pre.length : Int) b) (byGo (numK kind) n day later (x :: r)) := by
      intro b hb
      refine Ev.step (fun k => kinkeepref27_by.j1.eq_2 _ _ _ _ _ _ _ _ _ _) ?_
      by_cases hc : numK kind x = numK kind day ∧ x > day
      · refine Ev.pos (by rw [hb]; simpa using hc) (Ev.to (Ev.now _) ?_)
        rw [byGo, if_pos hc]
      · refine Ev.neg (by rw [hb]; simpa using hc) ?_
        refine Ev.bind (period_ev kind x hxd.1 hxd.2) (Ev.bind (period_ev kind day hday.1 hday.2) ?_)
        rw [byGo, if_neg hc]
        by_cases hg : numK kind x > numK kind day
        · refine Ev.pos hg ?_
          rw [if_pos hg]
          refine Ev.bind (period_ev kind x hxd.1 hxd.2) (Ev.bind (has_ev later _ (by omega)) ?_)
          rw [w64 (by omega) (by omega)]
          cases hin : later.contains (numK kind x)
          · refine Ev.neg (by simp) (Ev.bind (period_ev kind x hxd.1 hxd.2) (Ev.pos (by omega) ?_))
            exact ih _ (by simp; omega)
          · refine Ev.pos rfl ?_
            exact ih _ (by simp; omega)
        · refine Ev.neg hg ?_
          rw [if_neg hg, w64 (by omega) (by omega)]
          exact ih _ (by simp; omega)
    by_cases he : numK kind x = numK kind day
    · refine Ev.pos he (tail _ ?_)
      simp [he]
    · refine Ev.neg he (tail _ ?_)
      simp [he]
theorem by_ev (kind : Nat) (n day : Int) (l : List Int) (hl : l.length ≤ 1000000) (hd : l.all dayB = true) (hday : 0 ≤ day ∧ day ≤ 999999) :
    Ev (fun k => kinkeepref27_by.f k (kind : Int) n l day) (byGo (numK kind) n day [] l) :=
  by_l0 kind n day l hl (fun x hx => by have := List.all_eq_true.1 hd x hx; simpa [dayB] using this) hday l [] [] rfl (Nat.le_refl _)
end Go.Proofs.Ytbahcpdhadhplaa.PB

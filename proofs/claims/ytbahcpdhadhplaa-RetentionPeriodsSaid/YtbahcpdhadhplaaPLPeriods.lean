/- The plain law of the statement RetentionPeriods: its function comes to true. -/
import Derived.Test.YtbahcpdhadhplaaPA
import Derived.Test.YtbahcpdhadhplaaPHR
import Derived.Test.YtbahcpdhadhplaaPHK
import Derived.Test.YtbahcpdhadhplaaQ9
set_option linter.unusedVariables false
set_option linter.unusedSimpArgs false
namespace Go.Proofs.Ytbahcpdhadhplaa.PA
open Go.RowKit Go.Proofs.Ytbahcpdhadhplaa.M Go.Proofs.Ytbahcpdhadhplaa.Q Go.Proofs.Ytbahcpdhadhplaa.Hand Go.Proofs.Ytbahcpdhadhplaa.PB Go.Proofs.Ytbahcpdhadhplaa.PS Go.Proofs.Ytbahcpdhadhplaa.PX Go.Proofs.YtbahcpdhadhplaaW.PrintWords Go.Proofs.YtbahcpdhadhplaaW.PrintMore
theorem rd_mem {l : List Int} (i : Nat) (hi : i < l.length) : rd l (i : Int) ∈ l := by
  unfold rd
  rw [Int.toNat_natCast]
  simp [List.getD, List.getElem?_eq_getElem, hi]
theorem month_at {l : List Int} (hd : ∀ x ∈ l, 0 ≤ x ∧ x ≤ 999999) (i : Nat) (hi : i < l.length) : Ev (fun k => calendar_Month.f k (rd l (i : Int))) (monthN (rd l (i : Int))) :=
  month_k _ (hd _ (rd_mem i hi)).1 (hd _ (rd_mem i hi)).2
/-- Somewhere among them, or before. -/
def fnd (k : List Int) (y : Int) (b : Bool) : Bool := b || k.any (fun z => decide (monthN z = monthN y) && decide (y ≤ z))
theorem per_l2 (l kp : List Int) (hl : l.length ≤ 1000000) (hkp : kp.length ≤ 1000000) (hdl : ∀ x ∈ l, 0 ≤ x ∧ x ≤ 999999) (hdk : ∀ x ∈ kp, 0 ≤ x ∧ x ≤ 999999) (i : Nat) (hi : i < l.length) (y : Int) (hy : rd l (i : Int) = y)
    (hn : Ev (fun k => kinkeeplaw27_RetentionPeriods.l1 k l kp ((i : Int) + 1)) true) :
    ∀ (rest pre : List Int) (b : Bool), pre ++ rest = kp → fnd rest y b = true → Ev (fun k => kinkeeplaw27_RetentionPeriods.l2 k l kp (i : Int) b (pre.length : Int)) true
  | [], pre, b, he, hf => by
    refine Ev.step (fun k => kinkeeplaw27_RetentionPeriods.l2.eq_2 _ _ _ _ _ _) ?_
    have : pre.length = kp.length := by rw [← he]; simp
    refine Ev.neg (by omega) (Ev.pos (by simpa [fnd] using hf) ?_)
    rw [w64 (by omega) (by omega)]
    exact hn
  | z :: r, pre, b, he, hf => by
    have hlen : pre.length + (r.length + 1) = kp.length := by rw [← he]; simp
    have hx : rd kp (pre.length : Int) = z := by rw [← he]; exact rd_mid pre z r
    have ih := fun (b : Bool) (hf : fnd r y b = true) => by
      have := per_l2 l kp hl hkp hdl hdk i hi y hy hn r (pre ++ [z]) b (by simpa using he) hf
      rw [show ((pre ++ [z]).length : Int) = (pre.length : Int) + 1 by simp] at this
      exact this
    refine Ev.step (fun k => kinkeeplaw27_RetentionPeriods.l2.eq_2 _ _ _ _ _ _) (Ev.pos (by omega) ?_)
    rw [w64 (x := (pre.length : Int) + 1) (by omega) (by omega)]
    cases b
    · refine Ev.neg (by decide) (Ev.pos (by omega) (Ev.bind (month_at hdk pre.length (by omega)) (Ev.pos (by omega) (Ev.pos (by omega) (Ev.bind (month_at hdl i hi) ?_)))))
      rw [hx, hy]
      by_cases hm : monthN z = monthN y
      · refine Ev.pos hm (ih _ ?_)
        simpa [fnd, hm] using hf
      · refine Ev.neg hm (ih _ ?_)
        simpa [fnd, hm] using hf
    · exact Ev.pos rfl (ih true (by simp [fnd]))
theorem per_l1 (l kp : List Int) (hl : l.length ≤ 1000000) (hkp : kp.length ≤ 1000000) (hdl : ∀ x ∈ l, 0 ≤ x ∧ x ≤ 999999) (hdk : ∀ x ∈ kp, 0 ≤ x ∧ x ≤ 999999) (hf : ∀ y ∈ l, 0 < kp.length → fnd kp y (decide (monthN y < monthN (rd kp 0))) = true) :
    ∀ (rest pre : List Int), pre ++ rest = l → Ev (fun k => kinkeeplaw27_RetentionPeriods.l1 k l kp (pre.length : Int)) true
  | [], pre, he => by
    refine Ev.step (fun k => kinkeeplaw27_RetentionPeriods.l1.eq_2 _ _ _ _) ?_
    have : pre.length = l.length := by rw [← he]; simp
    refine Ev.neg (by omega) (Ev.step (fun k => kinkeeplaw27_RetentionPeriods.j3.eq_2 _ _ _ _ _) ?_)
    exact Ev.neg (by decide) (Ev.now _)
  | y :: r, pre, he => by
    have hlen : pre.length + (r.length + 1) = l.length := by rw [← he]; simp
    have hx : rd l (pre.length : Int) = y := by rw [← he]; exact rd_mid pre y r
    have ih := per_l1 l kp hl hkp hdl hdk hf r (pre ++ [y]) (by simpa using he)
    rw [show ((pre ++ [y]).length : Int) = (pre.length : Int) + 1 by simp] at ih
    refine Ev.step (fun k => kinkeeplaw27_RetentionPeriods.l1.eq_2 _ _ _ _) (Ev.pos (by omega) (Ev.step (fun k => kinkeeplaw27_RetentionPeriods.j3.eq_2 _ _ _ _ _) ?_))
    by_cases h0 : 0 < kp.length
    · refine Ev.pos (by simpa using h0) (Ev.pos (by omega) (Ev.pos (by omega) (Ev.bind (month_at hdl pre.length (by omega)) (Ev.pos (by omega) (Ev.bind (month_at hdk 0 h0) ?_)))))
      have := per_l2 l kp hl hkp hdl hdk pre.length (by omega) y hx ih kp [] (decide (monthN y < monthN (rd kp 0))) rfl (hf y (by rw [← he]; simp) h0)
      rw [hx]
      exact this
    · exact Ev.neg (by simpa using h0) (Ev.now _)
theorem per_l0 (l kp : List Int) (hkp : kp.length ≤ 1000000) (hdk : ∀ x ∈ kp, 0 ≤ x ∧ x ≤ 999999) (hp : (kp.map monthN).Pairwise (· < ·)) (hn : Ev (fun k => kinkeeplaw27_RetentionPeriods.l1 k l kp 0) true) :
    ∀ (j i : Nat), 1 ≤ i → j + i = kp.length + 1 → Ev (fun k => kinkeeplaw27_RetentionPeriods.l0 k l kp (i : Int)) true
  | 0, i, h1, hj => by
    refine Ev.step (fun k => kinkeeplaw27_RetentionPeriods.l0.eq_2 _ _ _ _) ?_
    exact Ev.neg (by omega) hn
  | j + 1, i, h1, hj => by
    refine Ev.step (fun k => kinkeeplaw27_RetentionPeriods.l0.eq_2 _ _ _ _) ?_
    by_cases hi : i < kp.length
    · obtain ⟨q, rfl⟩ : ∃ q, i = q + 1 := ⟨i - 1, by omega⟩
      have ih := per_l0 l kp hkp hdk hp hn j (q + 1 + 1) (by omega) (by omega)
      refine Ev.pos (by omega) (Ev.pos (by omega) (Ev.bind (month_at hdk (q + 1) hi) ?_))
      rw [w64 (x := ((q + 1 : Nat) : Int) - 1) (by omega) (by omega), show ((q + 1 : Nat) : Int) - 1 = (q : Int) by omega]
      refine Ev.pos (by omega) (Ev.pos (by omega) (Ev.bind (month_at hdk q (by omega)) (Ev.neg ?_ ?_)))
      · have := rd_lt hp q (by simpa using hi)
        have e : ∀ n : Nat, n < kp.length → rd (kp.map monthN) (n : Int) = monthN (rd kp (n : Int)) := fun n hn => by
          unfold rd
          rw [Int.toNat_natCast]
          simp [List.getD, List.getElem?_eq_getElem, hn]
        rw [e q (by omega), e (q + 1) hi] at this
        omega
      · rw [w64 (by omega) (by omega)]
        exact ih
    · exact Ev.neg (by omega) hn
theorem law_Periods (m : Int) (l1 : List Int) : Ev (fun k => kinkeeplaw27_RetentionPeriods.f k m l1) true := by
  unfold kinkeeplaw27_RetentionPeriods.f
  refine Ev.bind awake_ev (Ev.pos rfl ?_)
  refine Ev.step (fun k => kinkeeplaw27_RetentionPeriods.j0.eq_2 _ _ _ _) ?_
  by_cases h : l1.length ≤ 40
  · refine Ev.neg (by simp; omega) ?_
    have hlk := split_len 0 0 m 0 l1 [] true
    refine Ev.const (keep_eq 0 0 m 0 l1 [] (by omega) (by simp)) ?_
    by_cases hk : chk 0 0 m 0 l1 [] = 0
    · refine Ev.pos hk (Ev.neg (by exact fun h => absurd (months_few hk) (Int.not_le.2 h)) ?_)
      have hdl : ∀ x ∈ l1, 0 ≤ x ∧ x ≤ 999999 := fun x hx => chk_days hk hx
      have hdk : ∀ x ∈ splitF 0 0 m 0 l1 [] true, 0 ≤ x ∧ x ≤ 999999 := fun x hx => chk_days hk ((split_mem hk x).1 hx).1
      refine per_l0 l1 (splitF 0 0 m 0 l1 [] true) (by omega) hdk (months_lt hk) ?_ (splitF 0 0 m 0 l1 [] true).length 1 (Nat.le_refl _) rfl
      refine per_l1 l1 (splitF 0 0 m 0 l1 [] true) (by omega) (by omega) hdl hdk (fun y hy h0 => ?_) l1 [] rfl
      unfold fnd
      by_cases hlt : monthN y < monthN (rd (splitF 0 0 m 0 l1 [] true) 0)
      · simp [hlt]
      · obtain ⟨g, g1, g2, g3⟩ := months_near hk (rd_mem (l := splitF 0 0 m 0 l1 [] true) 0 h0) hy hlt
        rw [Bool.or_eq_true]
        exact .inr (List.any_eq_true.2 ⟨g, g1, by simp [g2, g3]⟩)
    · exact Ev.neg hk (Ev.to (Ev.now _) (by simp [split_no hk]))
  · exact Ev.pos (by simp; omega) (Ev.bind awake_ev (Ev.now _))
end Go.Proofs.Ytbahcpdhadhplaa.PA
namespace Go.Proofs.Ytbahcpdhadhplaa.Pure
open Go.RowKit Go.Proofs.Ytbahcpdhadhplaa.Q Go.Proofs.Ytbahcpdhadhplaa.PA Go.Proofs.YtbahcpdhadhplaaW.PrintWords
theorem RetentionPeriods (a0 : Int) (l1 : List Int) (w0 : (Lit.int .i64 a0).wf = true)
    (hm1 : l1.length ≤ maxLen) (y1 : l1.length * 8 ≤ 140737488351232) (hw1 : ∀ x ∈ l1, (Lit.int .i64 x).wf = true) :
    ∃ k, kinkeeplaw27_RetentionPeriods.f k a0 l1 = some true := (law_Periods a0 l1).rounds
end Go.Proofs.Ytbahcpdhadhplaa.Pure
